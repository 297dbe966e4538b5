/-
  Part 4 of the proof that the law EvalShapeUptoCardSaid of the given program answers true for every input of the given statement; the input reads behind the call as it did. (The texts: SM4 TA4 ShelfE4 UA4 VA4 WA4 XA4 XB4 NA4 ShelfS4 WB4 YA4 ZA4 ZB4 ZC4 AG4 AH4 AI4 PR4 RU4 RV4.)
-/
import Derived.Test.YtfjmoojdchmakaaGreatDoorA3
import Derived.Shelf.Strings.Search3
import Derived.Shelf.Strings.Split
import Derived.Test.YtfjmoojdchmakaaGreatDoorProg
import Derived.Lib.IndexMore
import Derived.Shelf.SlSortCmp.NoneTotal
import Derived.Shelf.SlGeneric
import Derived.Ground.SlsfProg
set_option linter.all false
section
namespace TwW
open Go Go.MapKept Tw Go.RowKit Go.Proofs.Tryz
section
variable {P : Program} {σ σ' : Hp} {R : Ending → Hp → Prop}
def entI (x : Int × Value) (n : Nat) : MapEntry := { key := .int .i64 x.1, val := x.2, born := n }
def MI (σ : Hp) (m : Nat) (l : List (Int × Value)) : Prop := ∃ (bs : List Nat) (clock : Nat), bs.length = l.length ∧ TwI.MapAt σ m (List.zipWith entI l bs) clock
theorem MI.loc {m : Nat} {l : List (Int × Value)} (h : MI σ m l) (hx : σ' m = σ m) : MI σ' m l := let ⟨bs, c, h1, h2⟩ := h; ⟨bs, c, h1, h2.loc hx⟩
theorem MI.known {m : Nat} {l : List (Int × Value)} (h : MI σ m l) : σ m ≠ none := let ⟨bs, c, h1, h2⟩ := h; by rw [h2.1]; simp
theorem MI.fresh {m : Nat} : MI (σ.set m (.map #[] 0)) m [] := ⟨[], 0, rfl, TwI.MapAt.fresh⟩
theorem MI.put {T K V : TypeId} [TwI.MpI P T K V] {m : Nat} {l : List (Int × Value)} {x : Int} {v : Value} {Φ : Unit → Hp → Prop} (h : MI σ m l) (hn : ∀ a ∈ l, a.1 ≠ x)
    (hΦ : ∀ o, MI (σ.set m o) m (l ++ [(x, v)]) → Φ () (σ.set m o)) : Eff P (Instr.mapUpdate T (.map (some m)) (.int .i64 x) v) σ Φ := by
  obtain ⟨bs, clock, hb, hm⟩ := h
  refine TwI.mapUpdate_eff hm (fun hno σ' hσ hm' => ?_) fun l1 e l2 hl he σ' hσ hm' => ?_
  · subst hσ
    refine hΦ _ ⟨bs ++ [clock], clock + 1, by simp [hb], ?_⟩
    rw [List.zipWith_append hb.symm]
    exact hm'
  · have hmem : e ∈ List.zipWith entI l bs := by rw [hl]; simp
    obtain ⟨i, hi⟩ := List.mem_iff_getElem?.1 hmem
    rw [List.getElem?_zipWith] at hi
    cases hli : l[i]? with
    | none => rw [hli] at hi; cases hi
    | some a =>
      cases hbi : bs[i]? with
      | none => rw [hli, hbi] at hi; cases hi
      | some b =>
        rw [hli, hbi] at hi
        simp only [Option.some.injEq] at hi
        subst hi
        have := hn a (List.mem_of_getElem? hli)
        simp only [entI, Value.int.injEq, true_and] at he
        exact absurd he this
theorem MI.look {T K V : TypeId} [TwI.MpI P T K V] {m : Nat} {l : List (Int × Value)} {x : Int} {z : Value} {Φ : Value → Hp → Prop} (h : MI σ m l) (hz : ∀ w, (zeroValue V).run P w = .ok z w)
    (h0 : (∀ a ∈ l, a.1 ≠ x) → Φ z σ) (h1 : ∀ v, (x, v) ∈ l → Φ v σ) : Eff P (Instr.lookup T (.map (some m)) (.int .i64 x) false) σ Φ := by
  obtain ⟨bs, clock, hb, hm⟩ := h
  refine TwI.lookup_eff hm hz (fun hno => h0 fun a ha hax => ?_) fun l1 e l2 hl he => ?_
  · obtain ⟨i, hi⟩ := List.mem_iff_getElem?.1 ha
    have hlt := (List.getElem?_eq_some_iff.1 hi).1
    have hm : entI a (bs[i]'(by omega)) ∈ List.zipWith entI l bs := List.mem_iff_getElem?.2 ⟨i, by rw [List.getElem?_zipWith, hi, List.getElem?_eq_getElem (by omega)]⟩
    exact hno _ hm (by rw [← hax]; rfl)
  · have hmem : e ∈ List.zipWith entI l bs := by rw [hl]; simp
    obtain ⟨i, hi⟩ := List.mem_iff_getElem?.1 hmem
    rw [List.getElem?_zipWith] at hi
    cases hli : l[i]? with
    | none => rw [hli] at hi; cases hi
    | some a =>
      cases hbi : bs[i]? with
      | none => rw [hli, hbi] at hi; cases hi
      | some b =>
        rw [hli, hbi] at hi
        simp only [Option.some.injEq] at hi
        subst hi
        simp only [entI, Value.int.injEq, true_and] at he
        subst he
        exact h1 a.2 (List.mem_of_getElem? hli)
def Stg (τ σ : Hp) (m : Nat) (l : List (Int × Value)) : Prop := Ext τ σ ∧ τ m = none ∧ MI σ m l
theorem Stg.fresh {τ : Hp} {m : Nat} (h : τ m = none) : Stg τ (τ.set m (.map #[] 0)) m [] := ⟨.set h, h, MI.fresh⟩
theorem Stg.alloc {τ : Hp} {m b : Nat} {l : List (Int × Value)} {o : Obj} (h : Stg τ σ m l) (hb : σ b = none) : Stg (τ.set b o) (σ.set b o) m l := by
  have hne : m ≠ b := fun e => h.2.2.known (by rw [e]; exact hb)
  refine ⟨fun k u hk => ?_, by rw [Hp.set_ne hne]; exact h.2.1, h.2.2.loc (Hp.set_ne hne)⟩
  by_cases hkb : k = b
  · subst hkb; rw [Hp.set_same] at hk ⊢; exact hk
  · rw [Hp.set_ne hkb] at hk ⊢; exact h.1 _ _ hk
theorem Stg.put {τ : Hp} {T K V : TypeId} [TwI.MpI P T K V] {m : Nat} {l : List (Int × Value)} {x : Int} {v : Value} {Φ : Unit → Hp → Prop} (h : Stg τ σ m l) (hn : ∀ a ∈ l, a.1 ≠ x)
    (hΦ : ∀ σ', Stg τ σ' m (l ++ [(x, v)]) → Φ () σ') : Eff P (Instr.mapUpdate T (.map (some m)) (.int .i64 x) v) σ Φ :=
  h.2.2.put hn fun o ho => hΦ _ ⟨fun k u hk => by rw [Hp.set_ne (fun e => by rw [e, h.2.1] at hk; cases hk)]; exact h.1 _ _ hk, h.2.1, ho⟩
section
variable {α : Type}
theorem lookM_none {l : List (ByteArray × α)} {k : ByteArray} (h : ∀ a ∈ l, a.1 ≠ k) : lookM l k = none := by
  induction l with
  | nil => rfl
  | cons a l ih => rw [lookM, if_neg (h a (by simp))]; exact ih fun b hb => h b (List.mem_cons_of_mem _ hb)
theorem lookM_mid {l m : List (ByteArray × α)} {k : ByteArray} {y : α} (h : ∀ a ∈ l, a.1 ≠ k) : lookM (l ++ (k, y) :: m) k = some y := by
  induction l with
  | nil => simp [lookM]
  | cons a l ih => rw [List.cons_append, lookM, if_neg (h a (by simp))]; exact ih fun b hb => h b (List.mem_cons_of_mem _ hb)
theorem setM_none {l : List (ByteArray × α)} {k : ByteArray} {y : α} (h : ∀ a ∈ l, a.1 ≠ k) : setM l k y = l ++ [(k, y)] := by
  induction l with
  | nil => rfl
  | cons a l ih => rw [setM, if_neg (h a (by simp)), ih fun b hb => h b (List.mem_cons_of_mem _ hb)]; rfl
theorem setM_mid {l m : List (ByteArray × α)} {k : ByteArray} {y z : α} (h : ∀ a ∈ l, a.1 ≠ k) : setM (l ++ (k, z) :: m) k y = l ++ (k, y) :: m := by
  induction l with
  | nil => simp [setM]
  | cons a l ih => rw [List.cons_append, setM, if_neg (h a (by simp)), ih fun b hb => h b (List.mem_cons_of_mem _ hb)]; rfl
def MS (E : Value → α → Prop) (σ : Hp) (m : Nat) (L : List (ByteArray × α)) : Prop :=
  ∃ (l : List MapEntry) (clock : Nat), MapAt σ m l clock ∧ l.length = L.length ∧ ∀ (i : Nat) (e : MapEntry) (x : ByteArray × α), l[i]? = some e → L[i]? = some x → e.key = .string x.1 ∧ E e.val x.2
theorem MS.mono {E : Value → α → Prop} {m : Nat} {L : List (ByteArray × α)} (h : MS E σ m L) (hx : Ext σ σ') : MS E σ' m L := let ⟨l, c, h1, h2⟩ := h; ⟨l, c, h1.mono hx, h2⟩
theorem MS.loc {E : Value → α → Prop} {m : Nat} {L : List (ByteArray × α)} (h : MS E σ m L) (hx : σ' m = σ m) : MS E σ' m L := let ⟨l, c, h1, h2⟩ := h; ⟨l, c, h1.loc hx, h2⟩
theorem MS.imp {E E' : Value → α → Prop} {m : Nat} {L : List (ByteArray × α)} (h : MS E σ m L) (hE : ∀ v x, E v x → E' v x) : MS E' σ m L := let ⟨l, c, h1, h2, h3⟩ := h; ⟨l, c, h1, h2, fun i e x he hx => ⟨(h3 i e x he hx).1, hE _ _ (h3 i e x he hx).2⟩⟩
theorem MS.known {E : Value → α → Prop} {m : Nat} {L : List (ByteArray × α)} (h : MS E σ m L) : σ m ≠ none := let ⟨l, c, h1, h2⟩ := h; by rw [h1.1]; simp
theorem MS.fresh {E : Value → α → Prop} {m : Nat} : MS E (σ.set m (.map #[] 0)) m [] := ⟨[], 0, MapAt.fresh, rfl, fun i e x he => by simp at he⟩
theorem MS.len {E : Value → α → Prop} {T K V ty : TypeId} [MpT P T K V] {m : Nat} {L : List (ByteArray × α)} (h : MS E σ m L) : YF P (Builtin.len_ #[T] ty #[.map (some m)]) σ (.int .i64 L.length) := by
  obtain ⟨l, c, h1, h2, h3⟩ := h
  rw [← h2]; exact len_yf h1
theorem ms_split {E : Value → α → Prop} {l l1 l2 : List MapEntry} {e : MapEntry} {L : List (ByteArray × α)} {s : ByteArray} (hn : (l.map (·.key)).Nodup) (h2 : l.length = L.length) (h3 : ∀ (i : Nat) (e : MapEntry) (x : ByteArray × α), l[i]? = some e → L[i]? = some x → e.key = .string x.1 ∧ E e.val x.2) (hl : l = l1 ++ e :: l2) (he : e.key = .string s) :
    ∃ L1 x L2, L = L1 ++ (s, x) :: L2 ∧ L1.length = l1.length ∧ (∀ a ∈ L1, a.1 ≠ s) ∧ E e.val x := by
  subst hl
  have hlt : l1.length < L.length := by rw [← h2]; simp
  have hsplit : L = L.take l1.length ++ L[l1.length] :: L.drop (l1.length + 1) := by rw [List.getElem_cons_drop, List.take_append_drop]
  have hx := h3 l1.length e L[l1.length] (by simp) (List.getElem?_eq_getElem _)
  rw [he] at hx
  have hk : L[l1.length].1 = s := by simpa using hx.1.symm
  refine ⟨L.take l1.length, L[l1.length].2, L.drop (l1.length + 1), ?_, by rw [List.length_take]; omega, fun a ha has => ?_, hx.2⟩
  · rw [← hk]; exact hsplit
  · obtain ⟨i, hi⟩ := List.mem_iff_getElem?.1 ha
    rw [List.getElem?_take] at hi
    split at hi
    · rename_i hil
      have hle : (l1 ++ e :: l2)[i]? = some (l1[i]'hil) := by rw [List.getElem?_append_left hil, List.getElem?_eq_getElem hil]
      have h4 := (h3 i _ a hle hi).1
      rw [List.map_append, List.map_cons, List.nodup_append] at hn
      exact hn.2.2 _ (List.mem_map.2 ⟨l1[i]'hil, List.getElem_mem hil, rfl⟩) _ (by simp; exact .inl rfl) (by rw [h4, he, has])
    · cases hi
theorem MS.miss {E : Value → α → Prop} {l : List MapEntry} {L : List (ByteArray × α)} {s : ByteArray} (h2 : l.length = L.length) (h3 : ∀ (i : Nat) (e : MapEntry) (x : ByteArray × α), l[i]? = some e → L[i]? = some x → e.key = .string x.1 ∧ E e.val x.2) (hno : ∀ e ∈ l, e.key ≠ .string s) : ∀ a ∈ L, a.1 ≠ s := fun a ha has => by
  obtain ⟨i, hi⟩ := List.mem_iff_getElem?.1 ha
  have hlt := (List.getElem?_eq_some_iff.1 hi).1
  have := (h3 i (l[i]'(by omega)) a (List.getElem?_eq_getElem _) hi).1
  exact hno _ (List.getElem_mem _) (by rw [this, has])
theorem MS.look {E : Value → α → Prop} {T K V : TypeId} [MpT P T K V] {m : Nat} {L : List (ByteArray × α)} {s : ByteArray} {z : Value} {Φ : Value → Hp → Prop} (h : MS E σ m L) (hz : ∀ w, (zeroValue V).run P w = .ok z w)
    (h0 : lookM L s = none → Φ z σ) (h1 : ∀ v x, lookM L s = some x → E v x → Φ v σ) : Eff P (Instr.lookup T (.map (some m)) (.string s) false) σ Φ := by
  obtain ⟨l, c, hm, h2, h3⟩ := h
  refine lookup_eff hm hz (fun hno => h0 (lookM_none (MS.miss h2 h3 hno))) fun l1 e l2 hl he => ?_
  obtain ⟨L1, x, L2, rfl, _, hno, hE⟩ := ms_split hm.nodup h2 h3 hl he
  exact h1 e.val x (lookM_mid hno) hE
theorem MS.look2 {E : Value → α → Prop} {T K V : TypeId} [t : MpT P T K V] {m : Nat} {L : List (ByteArray × α)} {s : ByteArray} {z : Value} {Φ : Value → Hp → Prop} (h : MS E σ m L) (hz : ∀ w, (zeroValue V).run P w = .ok z w)
    (h0 : lookM L s = none → Φ (.tuple #[z, .bool false]) σ) (h1 : ∀ v x, lookM L s = some x → E v x → Φ (.tuple #[v, .bool true]) σ) : Eff P (Instr.lookup T (.map (some m)) (.string s) true) σ Φ := by
  obtain ⟨l, c, hm, h2, h3⟩ := h
  rcases find_cases (s := s) hm.2.2 with ⟨hf, hno⟩ | ⟨l1, e, l2, hl, he, hf⟩
  · refine Eff.pu (fun w hs => ?_) (h0 (lookM_none (MS.miss h2 h3 hno)))
    have := hs _ _ hm.1
    simp [Instr.lookup, run_underlying t.und, run_getObj_map this, run_checkKey t.key (k := .string s) trivial, run_findKey t.key hf, hz, Result.andThen]
  · obtain ⟨L1, x, L2, rfl, _, hno, hE⟩ := ms_split hm.nodup h2 h3 hl he
    refine Eff.pu (fun w hs => ?_) (h1 e.val x (lookM_mid hno) hE)
    have := hs _ _ hm.1
    simp [Instr.lookup, run_underlying t.und, run_getObj_map this, run_checkKey t.key (k := .string s) trivial, run_findKey t.key hf, Result.andThen]
theorem MS.put {E : Value → α → Prop} {T K V : TypeId} [MpT P T K V] {m : Nat} {L : List (ByteArray × α)} {s : ByteArray} {v : Value} {x : α} {Φ : Unit → Hp → Prop} (h : MS E σ m L) (hv : E v x)
    (hΦ : ∀ o, MS E (σ.set m o) m (setM L s x) → Φ () (σ.set m o)) : Eff P (Instr.mapUpdate T (.map (some m)) (.string s) v) σ Φ := by
  obtain ⟨l, c, hm, h2, h3⟩ := h
  refine mapUpdate_eff hm (fun hno σ' hσ hm' => ?_) fun l1 e l2 hl he σ' hσ hm' => ?_
  · subst hσ
    refine hΦ _ ⟨_, _, hm', ?_, fun i e y hi hy => ?_⟩
    · rw [setM_none (MS.miss h2 h3 hno)]; simp [h2]
    · rw [setM_none (MS.miss h2 h3 hno)] at hy
      rw [List.getElem?_append] at hi hy
      split at hi
      · rename_i hlt
        rw [if_pos (by omega)] at hy
        exact h3 i e y hi hy
      · rename_i hlt
        rw [if_neg (by omega)] at hy
        rw [← h2] at hy
        cases hj : i - l.length with
        | zero =>
          rw [hj] at hi hy
          simp only [List.getElem?_cons_zero, Option.some.injEq] at hi hy
          subst hi; subst hy
          exact ⟨rfl, hv⟩
        | succ j => rw [hj] at hi; simp at hi
  · obtain ⟨L1, y, L2, rfl, hlen, hno, hE⟩ := ms_split hm.nodup h2 h3 hl he
    subst hσ
    subst hl
    refine hΦ _ ⟨_, _, hm', ?_, fun i e' z hi hz => ?_⟩
    · rw [setM_mid hno]; simp at h2 ⊢; omega
    · rw [setM_mid hno] at hz
      by_cases hil : i = l1.length
      · subst hil
        rw [← hlen] at hz
        simp at hi hz
        subst hi; subst hz
        exact ⟨rfl, hv⟩
      · have e1 : (l1 ++ Tw.ent s v e.born :: l2)[i]? = (l1 ++ e :: l2)[i]? := by
          rcases Nat.lt_or_ge i l1.length with h | h
          · rw [List.getElem?_append_left h, List.getElem?_append_left h]
          · obtain ⟨k, rfl⟩ : ∃ k, i = l1.length + (k + 1) := ⟨i - l1.length - 1, by omega⟩
            simp [List.getElem?_append_right]
        have e2 : (L1 ++ (s, x) :: L2)[i]? = (L1 ++ (s, y) :: L2)[i]? := by
          rcases Nat.lt_or_ge i L1.length with h | h
          · rw [List.getElem?_append_left h, List.getElem?_append_left h]
          · obtain ⟨k, rfl⟩ : ∃ k, i = L1.length + (k + 1) := ⟨i - L1.length - 1, by omega⟩
            simp [List.getElem?_append_right]
        exact h3 i e' z (by rw [← e1]; exact hi) (by rw [← e2]; exact hz)
end
end
end TwW
end
section
namespace TwW
open Go Tw Go.RowKit Go.Proofs.Tryz
def tyN (n : Nd) (l : List Int) : Int × Int :=
  if n.kind = 1 then (1, 0) else if n.kind = 2 then (2, 0) else if n.kind = 3 then (3, 0) else if n.kind = 4 then callT n (l[0]?.getD 0) else if n.kind = 5 then aggT' (l[0]?.getD 0)
  else if n.kind = 6 then binT n (l[0]?.getD 0) (l[1]?.getD 0) else negT (l[0]?.getD 0)
def tyStep (n : Nd) (st : List Int) : Int × List Int :=
  if formO n = false ∨ (st.length : Int) < n.parts then (190, st) else if mtsOk lnOk n.mt ≠ 0 then (193, st) else
    ((tyN n (st.drop (st.length - n.parts.toNat))).2, st.take (st.length - n.parts.toNat) ++ [(tyN n (st.drop (st.length - n.parts.toNat))).1])
theorem kindO_of {n : Nd} (h : formO n = true) : kindO n = true := by
  unfold formO at h
  simp only [Bool.and_eq_true] at h
  exact h.2
theorem plainB_of {n : Nd} (h : formO n = true) : plainB n (bareNd n) = true := by
  unfold formO at h
  simp only [Bool.and_eq_true] at h
  exact h.1.1.1
theorem Own.set_ne {s b : Nat} {o : Obj} {σ : Hp} {p : Option Addr} {n c : Nat} {cs : List Value} (ho : Own s σ p n c cs) (h : ∀ a, p = some a → a.block ≠ b) : Own s (σ.set b o) p n c cs :=
  ⟨ho.1, ho.2.1, ho.2.2.imp id fun ⟨b', o', arr, T, hp, hb, r⟩ => ⟨b', o', arr, T, hp, by rw [Hp.set_ne (h _ hp)]; exact hb, r⟩⟩
theorem zero123 : ∀ w, (zeroValue 94).run prog w = .ok .nilFunc w := fun w => by
  have h : prog.info? 94 = some t94 := by kernel_rfl
  simp [zeroValue, typeInfo, h]
  rfl
structure WkAt (σ0 σ : Hp) (wb : Nat) (p : Option Addr) (n c : Nat) (st : List Int) : Prop where
  cell : σ wb = some (.cells #[.slice p n c] 70 (0, 0))
  own : OwnI .i64 σ p n c st
  off : ∀ a, p = some a → a.block ≠ wb ∧ σ0 a.block = none
  new : σ0 wb = none
  ext : Ext σ0 σ
section
variable {σ σ' σ0 : Hp} {R : Ending → Hp → Prop}
theorem WkAt.mono {wb : Nat} {p : Option Addr} {n c : Nat} {st : List Int} (h : WkAt σ0 σ wb p n c st) (hx : Ext σ σ') : WkAt σ0 σ' wb p n c st := ⟨hx _ _ h.cell, h.own.mono hx, h.off, h.new, h.ext.trans hx⟩
theorem leaf_spec {k : Int} (h : ∀ b, σ b = none → R (.returned (.func (.func 57) #[] #[.pointer (aD b 0)])) (σ.set b (.cells #[.int .i64 k] 3 (0, 0)))) : Spec prog 33 #[.int .i64 k] σ R := types_leaf.start h
theorem leaf1_spec {n : Nd} {p q r : Option Addr} {k c m d s t b : Nat} {v : Int} (hb : σ b = some (.cells #[.int .i64 v] 3 (0, 0))) (h : R (.returned (tyV (v, 0))) σ) : Spec prog 57 #[ndV n p k c q m d, .slice r s t, .pointer (aD b 0)] σ R :=
  types_leaf_1.start fun _ => ⟨v, ld_of hb rfl, h⟩
theorem size68 : ∀ w, (Go.sizeOf 68).run prog w = .ok 1 w := fun w => by kernel_rfl
theorem node_spec {wb : Nat} {p q r : Option Addr} {k c m d j e : Nat} {st : List Int} {n : Nd} (hW : WkAt σ0 σ wb r j e st) (hm : RdS 3 EMt σ0 p k n.mt) (hr : RdC 1 σ0 q m (n.names.map .string)) (hb : n.text.size ≤ 4611686018427387904) (hj : j ≤ 1000000000000)
    (h : ∀ r' j' e' σ', (tyStep n st).1 = 0 → WkAt σ0 σ' wb r' j' e' (tyStep n st).2 → R (.returned (.int .i64 0)) σ') (h' : ∀ σ', (tyStep n st).1 ≠ 0 → Ext σ0 σ' → R (.returned (.int .i64 (tyStep n st).1)) σ') :
    Spec prog 21 #[.pointer (some ⟨wb, 0, none⟩), ndV n p k c q m d] σ R := by
  have hk : n.mt.length = k := hm.1
  have hsl : st.length = j := by have := hW.own.1; simpa using this
  refine types_walk_node.start fun _ => form_spec hk (hr.mono hW.ext) hb fun σ1 hx1 => ⟨_, rfl, fun hf => ?_, fun ht => ?_⟩
  · have e1 : tyStep n st = (190, st) := by unfold tyStep; rw [if_pos (.inl hf)]
    rw [e1] at h'
    exact h' σ1 (by dsimp only; decide) (hW.ext.trans hx1)
  have hW1 := hW.mono hx1
  refine ⟨wb, 0, rfl, r, j, e, ld_of hW1.cell rfl, fun hlt => ?_, fun hge => mCheck_spec (hm.mono EMt.mono hW1.ext) ⟨_, rfl, fun hne => ?_, fun h0 => ?_⟩⟩
  · have e1 : tyStep n st = (190, st) := by unfold tyStep; rw [if_pos (.inr (by omega))]
    rw [e1] at h'
    exact h' σ1 (by dsimp only; decide) hW1.ext
  · have e1 : tyStep n st = (193, st) := by unfold tyStep; rw [if_neg (by rw [ht]; simp; omega), if_pos hne]
    rw [e1] at h'
    exact h' σ1 (by dsimp only; decide) hW1.ext
  have h0' := Decidable.not_not.1 h0
  have eS : tyStep n st = ((tyN n (st.drop (st.length - n.parts.toNat))).2, st.take (st.length - n.parts.toNat) ++ [(tyN n (st.drop (st.length - n.parts.toNat))).1]) := by
    unfold tyStep; rw [if_neg (by rw [ht]; simp; omega), if_neg h0]
  rw [eS] at h h'
  dsimp only at h h'
  have hkO := kindO_of ht
  have hparts : 0 ≤ n.parts := by
    unfold kindO at hkO
    have hp := plainB_of ht
    by_cases h1 : n.kind = 1
    · unfold plainB bareNd at hp; simp [h1] at hp; omega
    by_cases h2 : n.kind = 2
    · unfold plainB bareNd at hp; simp [h2] at hp; omega
    by_cases h3 : n.kind = 3
    · unfold plainB bareNd at hp; simp [h3] at hp; omega
    rw [if_neg h1, if_neg h2, if_neg h3] at hkO
    split at hkO
    · simp at hkO; omega
    · split at hkO
      · simp at hkO; omega
      · split at hkO
        · simp at hkO; omega
        · simp at hkO; omega
  obtain ⟨t, hpt⟩ : ∃ t : Nat, n.parts = t := ⟨n.parts.toNat, by omega⟩
  have htj : t ≤ j := by omega
  have htn : n.parts.toNat = t := by omega
  rw [htn, hsl] at h h'
  refine makeMap_eff fun mb hmb => ⟨mb, rfl, ?_⟩
  have s0 := Stg.fresh hmb
  refine leaf_spec fun b1 hb1 => ⟨_, _, _, rfl, ?_⟩
  have s1 := s0.alloc (o := .cells #[.int .i64 1] 3 (0, 0)) hb1
  refine s1.put (by simp) fun σ2 s2 => leaf_spec fun b2 hb2 => ⟨_, _, _, rfl, ?_⟩
  have s3 := s2.alloc (o := .cells #[.int .i64 2] 3 (0, 0)) hb2
  refine s3.put (by simp) fun σ4 s4 => leaf_spec fun b3 hb3 => ⟨_, _, _, rfl, ?_⟩
  have s5 := s4.alloc (o := .cells #[.int .i64 3] 3 (0, 0)) hb3
  refine s5.put (by simp) fun σ6 s6 => s6.put (by simp) fun σ7 s7 => s7.put (by simp) fun σ8 s8 => s8.put (by simp) fun σ9 s9 => s9.put (by simp) fun σA sA => ?_
  clear s0 s1 s3 s5 s6 s7 s8 s9
  have n1 : σ1 b1 = none := (Hp.none_of_set hb1).2
  have n2 : (σ1.set b1 (.cells #[.int .i64 1] 3 (0, 0))) b2 = none := ext_none s2.1 hb2
  have n3 : ((σ1.set b1 (.cells #[.int .i64 1] 3 (0, 0))).set b2 (.cells #[.int .i64 2] 3 (0, 0))) b3 = none := ext_none s4.1 hb3
  have x1 : Ext σ1 σA := (Ext.set n1).trans ((Ext.set n2).trans ((Ext.set n3).trans sA.1))
  have c3 := sA.1 b3 _ (Hp.set_same _ _ _)
  have c2 := sA.1 b2 _ ((Ext.set n3) _ _ (Hp.set_same _ _ _))
  have c1 := sA.1 b1 _ ((Ext.set n3) _ _ ((Ext.set n2) _ _ (Hp.set_same _ _ _)))
  have hWA := hW1.mono x1
  have hlA := sA.2.2
  clear s2 s4 sA n1 n2 n3 hb1 hb2 hb3
  simp only [List.nil_append, List.cons_append] at hlA
  have e1 : Int.toNat ((j : Int) - n.parts) = j - t := by omega
  refine ⟨r, j, e, ld_of hWA.cell rfl, by unfold I64; omega, r, j, e, ld_of hWA.cell rfl, by omega, ?_⟩
  have hce : j ≤ e := Own.cap hWA.own
  have hsub : RdI .i64 σA (slP r (j - t) e 1) (j - (j - t)) (st.drop (j - t)) := by
    have := RdS.sub (i := j - t) (m := j - (j - t)) (OwnI.rd hWA.own) (by decide) (by omega) hce
    rwa [List.take_of_length_le (by rw [List.length_drop]; omega)] at this
  have hsub : RdI .i64 σA (slP r (Int.toNat ((j : Int) - n.parts)) e 1) (j - Int.toNat ((j : Int) - n.parts)) (st.drop (j - t)) := by rw [e1]; exact hsub
  have fin : ∀ x : Int × Int, x = tyN n (st.drop (j - t)) → Cont R (fun z y_15 => ∃ x59a x59b, z = (.tuple #[.int .i64 x59a, .int .i64 x59b]) ∧ LS y_15 wb 0 fun p66 n66 c66 => ((0 : Int) ≤ ((j : Int) - n.parts) ∧ ((j : Int) - n.parts) ≤ (c66 : Int)) ∧ Al y_15 fun b71 => Eff prog (Builtin.append_ #[68, 68] 68 #[(.slice p66 (Int.toNat ((j : Int) - n.parts)) c66), (.slice (aD b71 0) 1 1)]) (Hp.set y_15 b71 (.cells #[.int .i64 x59a] 73 (0, 0))) (CS fun p72 n72 c72 y_16 => Eff prog (Instr.storeAt 68 (.pointer (aD wb 0)) (.slice p72 n72 c72)) y_16 (fun _ y_17 => R (.returned (.int .i64 x59b)) y_17))) (.returned (tyV x)) σA := fun x hx => by
    rw [← hx] at h h'
    refine ⟨x.1, x.2, rfl, r, j, e, ld_of hWA.cell rfl, by omega, fun b71 hb71 => ?_⟩
    rw [e1]
    have hown := (Own.take (m := j - t) hWA.own (by omega)).mono (Ext.set (o := .cells #[.int .i64 x.1] 73 (0, 0)) hb71)
    refine app_eff hown (lit_rd (f := .int .i64) (x := x.1) (Hp.set_same _ _ _)) OneC.map_int (by omega) fun p' c' σB hoB hxB => ⟨_, _, _, rfl, ?_⟩
    have hwb : ∀ a, r = some a → wb ≠ a.block := fun a ha => Ne.symm (hWA.off a ha).1
    have hnb : wb ≠ b71 := fun e => by rw [← e, hWA.cell] at hb71; cases hb71
    obtain ⟨g1, g2⟩ := del_some.1 (hxB wb _ (del_some.2 ⟨hwb, (Ext.set hb71) _ _ hWA.cell⟩))
    have hE0 : Ext σ0 (σB.del p') := fun k u hk => hxB k u (del_some.2 ⟨fun a ha hka => (by rw [hka, (hWA.off a ha).2] at hk; cases hk), (Ext.set hb71) _ _ (hWA.ext _ _ hk)⟩)
    refine Eff.store size68 g2 rfl (by simp) (by simp [Value.cells, Value.oneCell']) ?_
    have hnew : WkAt σ0 (σB.set wb (.cells (wrt #[.slice r j e] 0 (Value.slice p' (j - t + 1) c').cells.toList) 70 (0, 0))) wb p' (j - t + 1) c' (st.take (j - t) ++ [x.1]) := by
      refine ⟨by rw [Hp.set_same]; simp [wrt, Value.cells], ?_, fun a ha => ⟨fun e => g1 a ha e.symm, ?_⟩, hWA.new, fun k u hk => ?_⟩
      · have := Own.set_ne (b := wb) (o := .cells (wrt #[.slice r j e] 0 (Value.slice p' (j - t + 1) c').cells.toList) 70 (0, 0)) hoB (fun a ha e => g1 a ha e.symm)
        unfold OwnI
        rw [List.map_append, List.map_take]
        simpa using this
      · cases hh : σ0 a.block with
        | none => rfl
        | some u => exact absurd rfl ((del_some.1 (hE0 _ _ hh)).1 a ha)
      · rw [Hp.set_ne (fun e => by rw [e, hWA.new] at hk; cases hk)]
        exact (del_some.1 (hE0 _ _ hk)).2
    by_cases hz : x.2 = 0
    · rw [hz]; exact h _ _ _ _ hz hnew
    · exact h' _ hz hnew.ext
  have part : ∀ i, i < t → ∃ v, (st.drop (j - t))[i]? = some v := fun i hi => ⟨_, List.getElem?_eq_getElem (by rw [List.length_drop]; omega)⟩
  refine hlA.look zero123 (fun hno => ?_) fun v hv => ⟨v, rfl, Kp.of_ext (.refl _), ?_⟩
  · exfalso
    unfold kindO at hkO
    have g := fun i => hno i
    simp only [List.mem_cons, List.not_mem_nil, or_false, forall_eq_or_imp, forall_eq] at hno
    obtain ⟨a1, a2, a3, a4, a5, a6, a7⟩ := hno
    rw [if_neg (Ne.symm a1), if_neg (Ne.symm a2), if_neg (Ne.symm a3), if_neg (Ne.symm a4), if_neg (Ne.symm a5), if_neg (Ne.symm a6)] at hkO
    exact a7 (of_decide_eq_true hkO).1.symm
  simp only [List.mem_cons, List.not_mem_nil, or_false, Prod.mk.injEq] at hv
  rcases hv with ⟨hn, rfl⟩ | ⟨hn, rfl⟩ | ⟨hn, rfl⟩ | ⟨hn, rfl⟩ | ⟨hn, rfl⟩ | ⟨hn, rfl⟩ | ⟨hn, rfl⟩
  · exact ⟨57, _, _, rfl, types_leaf_1.en, leaf1_spec c1 (fin _ (by unfold tyN; rw [if_pos hn]))⟩
  · exact ⟨57, _, _, rfl, types_leaf_1.en, leaf1_spec c2 (fin _ (by unfold tyN; rw [if_neg (by omega), if_pos hn]))⟩
  · exact ⟨57, _, _, rfl, types_leaf_1.en, leaf1_spec c3 (fin _ (by unfold tyN; rw [if_neg (by omega), if_neg (by omega), if_pos hn]))⟩
  · have ht1 : t = 1 := by unfold kindO at hkO; simp [hn] at hkO; omega
    obtain ⟨v, hv⟩ := part 0 (by omega)
    exact ⟨34, _, _, rfl, types_walk_call.en, wcall_spec hsub hv (fin _ (by unfold tyN; rw [if_neg (by omega), if_neg (by omega), if_neg (by omega), if_pos hn, hv]; rfl))⟩
  · have ht1 : t = 1 := by unfold kindO at hkO; simp [hn] at hkO; omega
    obtain ⟨v, hv⟩ := part 0 (by omega)
    exact ⟨35, _, _, rfl, types_walk_agg.en, wagg_spec hsub hv (fin _ (by unfold tyN; rw [if_neg (by omega), if_neg (by omega), if_neg (by omega), if_neg (by omega), if_pos hn, hv]; rfl))⟩
  · have ht1 : t = 2 := by unfold kindO at hkO; simp [hn] at hkO; omega
    obtain ⟨v, hv⟩ := part 0 (by omega)
    obtain ⟨u, hu⟩ := part 1 (by omega)
    exact ⟨36, _, _, rfl, types_walk_bin.en, wbin_spec hsub hv hu (fin _ (by unfold tyN; rw [if_neg (by omega), if_neg (by omega), if_neg (by omega), if_neg (by omega), if_neg (by omega), if_pos hn, hv, hu]; rfl))⟩
  · have ht1 : t = 1 := by unfold kindO at hkO; simp [hn] at hkO; omega
    obtain ⟨v, hv⟩ := part 0 (by omega)
    exact ⟨37, _, _, rfl, types_walk_neg.en, wneg_spec hsub hv (fin _ (by unfold tyN; rw [if_neg (by omega), if_neg (by omega), if_neg (by omega), if_neg (by omega), if_neg (by omega), if_neg (by omega), hv]; rfl))⟩
def tyRun : List Nd → List Int → Option (List Int)
  | [], st => some st
  | n :: t, st => if (tyStep n st).1 = 0 then tyRun t (tyStep n st).2 else none
def tyEnd (t : List Nd) : Option (List Int) → Option Int
  | some [k] => if t.length ≤ 4096 then some k else none
  | _ => none
def tyOf (t : List Nd) : Option Int := tyEnd t (tyRun t [])
theorem ENd.at {p : Option Addr} {n i : Nat} {t : List Nd} {x : Nd} (hr : RdS 10 ENd σ p n t) (hx : t[i]? = some x) : ∃ b o p1 k c q m d, p = some ⟨b, o, none⟩ ∧ LdL σ b (o + i * 10) [.int .i64 x.kind, .int .i64 x.op, .string x.text, .slice p1 k c, .int .i64 x.width, .int .i64 x.back, .int .i64 x.grp, .slice q m d, .bool x.bool, .int .i64 x.parts] ∧ RdS 3 EMt σ p1 k x.mt ∧ RdC 1 σ q m (x.names.map .string) := by
  obtain ⟨b, o, vs, hp, ⟨p1, k, c, q, m, d, rfl, h1, h2⟩, hl⟩ := RdS.idx hr hx
  exact ⟨b, o, p1, k, c, q, m, d, hp, hl, h1, h2⟩
theorem step_len {n : Nd} {st : List Int} : (tyStep n st).2.length ≤ st.length + 1 := by
  unfold tyStep
  split
  · exact Nat.le_succ _
  · split
    · exact Nat.le_succ _
    · simp only [List.length_append, List.length_take, List.length_singleton]; omega
theorem check_spec {p : Option Addr} {n c : Nat} {t : List Nd} (hr : RdS 10 ENd σ p n t) (hn : n ≤ 1000000000) (hb : ∀ x ∈ t, x.text.size ≤ 4611686018427387904)
    (h : ∀ k σ', tyOf t = some k → Ext σ σ' → R (.returned (.tuple #[.int .i64 k, .int .i64 0, .int .i64 0])) σ') (h' : ∀ k j e σ', tyOf t = none → e ≠ 0 → Ext σ σ' → R (.returned (.tuple #[.int .i64 k, .int .i64 j, .int .i64 e])) σ') :
    Spec prog 8 #[.slice p n c] σ R := by
  have hl : t.length = n := hr.1
  refine types_Check.start fun wb hwb => ?_
  suffices H : ∀ g k : Nat, ∀ r j e st σ', n - k = g → k ≤ n → j ≤ k → WkAt σ σ' wb r j e st → tyRun t [] = tyRun (t.drop k) st → types_Check.pt10 R p n c (aD wb 0) p n c n k σ' from
    H n 0 none 0 0 [] _ rfl (Nat.zero_le _) (Nat.le_refl _) ⟨Hp.set_same _ _ _, OwnI.nil, fun a ha => (by cases ha), hwb, .set hwb⟩ rfl
  intro g
  induction g with
  | zero =>
    intro k r j e st σ' hg hk hj hW he
    rw [List.drop_eq_nil_of_le (by omega)] at he
    have hst : st.length = j := by have := hW.own.1; simpa using this
    have ht : tyOf t = tyEnd t (some st) := by unfold tyOf; rw [he]; rfl
    refine types_Check.pt10_of ⟨fun hlt => by omega, fun _ => ⟨wb, 0, rfl, r, j, e, ld_of hW.cell rfl, fun h1 => h' _ _ _ σ' ?_ (by decide) hW.ext, fun h1 => ⟨fun hbig => h' _ _ _ σ' ?_ (by decide) hW.ext, fun hsm => ?_⟩⟩⟩
    · rw [ht]
      match st, hst with
      | [], _ => rfl
      | [_], hst => simp at hst; omega
      | _ :: _ :: _, _ => rfl
    · rw [ht]
      match st, hst with
      | [], _ => rfl
      | [_], hst => exact if_neg (by omega)
      | _ :: _ :: _, _ => rfl
    · have hj1 : j = 1 := by omega
      subst hj1
      match st, hst with
      | [x], _ =>
        obtain ⟨b, o, rfl, hld⟩ := RdI.at (OwnI.rd hW.own) (i := 0) (x := x) rfl
        exact ⟨_, 1, e, ld_of hW.cell rfl, b, o, rfl, by omega, x, by simpa using hld, h x σ' (by rw [ht]; exact if_pos (by omega)) hW.ext⟩
  | succ g ih =>
    intro k r j e st σ' hg hk hj hW he
    have hk' : k < n := by omega
    obtain ⟨x, hx⟩ := hr.ex hk'
    obtain ⟨b, o, p1, k1, c1, q1, m1, d1, rfl, hld, h1, h2⟩ := ENd.at hr hx
    rw [drop_at' hx, tyRun] at he
    refine types_Check.pt10_of ⟨fun _ => ⟨b, o, rfl, by omega, _, _, _, _, _, _, _, _, _, _, _, _, _, _, by simpa using hld.mono hW.ext, fun _ => ?_⟩, fun hh => by omega⟩
    refine node_spec hW h1 h2 (hb x (List.mem_of_getElem? hx)) (by omega) (fun r' j' e' σ2 h0 hW2 => ⟨0, rfl, fun hh => absurd rfl hh, fun _ => ⟨i64_succ hk' hr.big, ih (k + 1) r' j' e' _ σ2 (by omega) (by omega) ?_ hW2 ?_⟩⟩) fun σ2 h0 hx2 => ⟨_, rfl, fun _ => h' _ _ _ σ2 ?_ h0 hx2, fun hh => absurd h0 hh⟩
    · have h3 := step_len (n := x) (st := st)
      have h4 : (tyStep x st).2.length = j' := by have := hW2.own.1; simpa using this
      have h5 : st.length = j := by have := hW.own.1; simpa using this
      omega
    · rw [he, if_pos h0]
    · unfold tyOf; rw [he, if_neg h0]; rfl
end
end TwW
end
section
namespace Go.Proofs
open Go.Shelf
def Tryz.lays143_ren : Go.Shelf.Ren := ⟨fun | 143 => 193 | 219 => 219 | 217 => 242 | 225 => 243 | 224 => 244 | 267 => 245 | 266 => 254 | 314 => 255 | n => n, fun | 9 => 9 | 3 => 3 | 4 => 4 | 5 => 5 | 46 => 40 | 146 => 308 | 51 => 127 | n => n, fun | 1 => 1 | n => n⟩
theorem Tryz.lays143 : Go.Proofs.Lays.n143 Tryz.prog Tryz.lays143_ren := {
  mixed := by kernel_rfl
  f143 := Tryz.func193.trans (congrArg some (by kernel_rfl))
  f217 := Tryz.func242.trans (congrArg some (by kernel_rfl))
  f219 := Tryz.func219.trans (congrArg some (by kernel_rfl))
  f224 := Tryz.func244.trans (congrArg some (by kernel_rfl))
  f225 := Tryz.func243.trans (congrArg some (by kernel_rfl))
  f266 := Tryz.func254.trans (congrArg some (by kernel_rfl))
  f267 := Tryz.func245.trans (congrArg some (by kernel_rfl))
  f314 := Tryz.func255.trans (congrArg some (by kernel_rfl))
  t3 := Tryz.underlying3
  a3 := Tryz.isAgg3
  z3 := Tryz.sizeOf3
  v3 := Tryz.zeroValue3
  t4 := Tryz.underlying4
  a4 := Tryz.isAgg4
  z4 := Tryz.sizeOf4
  v4 := Tryz.zeroValue4
  t5 := Tryz.underlying5
  a5 := Tryz.isAgg5
  z5 := Tryz.sizeOf5
  v5 := Tryz.zeroValue5
  t9 := Tryz.underlying9
  a9 := Tryz.isAgg9
  z9 := Tryz.sizeOf9
  v9 := Tryz.zeroValue9
  t46 := Tryz.underlying40
  a46 := Tryz.isAgg40
  z46 := Tryz.sizeOf40
  v46 := Tryz.zeroValue40
  t51 := Tryz.underlying127
  a51 := Tryz.isAgg127
  z51 := Tryz.sizeOf127
  v51 := Tryz.zeroValue127
  t146 := Tryz.underlying308
  a146 := Tryz.isAgg308
  z146 := Tryz.sizeOf308
  v146 := Tryz.zeroValue308
  g1 := by kernel_rfl }
open Go.RowKit Go.Lib in
theorem Tryz.strings_Index (s sub : ByteArray) (m : Int) (w : World) (hs : s.size < 4294967281) (hm : w.cell? ⟨1, 0, none⟩ = some (.int .i64 m)) :
    Calls Tryz.prog 193 #[.string s, .string sub] w fun e w' => e = .returned (.int .i64 (Lib.index s.data.toList sub.data.toList)) ∧ w' = w := Any.strings_Index Tryz.lays143 s sub m w hs hm
def Tryz.lays146_ren : Go.Shelf.Ren := ⟨fun | 146 => 156 | 221 => 172 | 268 => 191 | 138 => 192 | 143 => 193 | 195 => 216 | 197 => 217 | 218 => 218 | 219 => 219 | 260 => 241 | 217 => 242 | 225 => 243 | 224 => 244 | 267 => 245 | 266 => 254 | 314 => 255 | n => n, fun | 9 => 9 | 31 => 50 | 3 => 3 | 4 => 4 | 0 => 0 | 105 => 270 | 21 => 21 | 5 => 5 | 46 => 40 | 119 => 304 | 139 => 307 | 138 => 306 | 146 => 308 | 51 => 127 | n => n, fun | 1 => 1 | 3 => 11 | 4 => 12 | n => n⟩
theorem Tryz.lays146 : Go.Proofs.Lays.n146 Tryz.prog Tryz.lays146_ren := {
  mixed := by kernel_rfl
  f138 := Tryz.func192.trans (congrArg some (by kernel_rfl))
  f143 := Tryz.func193.trans (congrArg some (by kernel_rfl))
  f146 := Tryz.func156.trans (congrArg some (by kernel_rfl))
  f195 := Tryz.func216.trans (congrArg some (by kernel_rfl))
  f197 := Tryz.func217.trans (congrArg some (by kernel_rfl))
  f217 := Tryz.func242.trans (congrArg some (by kernel_rfl))
  f218 := Tryz.func218.trans (congrArg some (by kernel_rfl))
  f219 := Tryz.func219.trans (congrArg some (by kernel_rfl))
  f221 := Tryz.func172.trans (congrArg some (by kernel_rfl))
  f224 := Tryz.func244.trans (congrArg some (by kernel_rfl))
  f225 := Tryz.func243.trans (congrArg some (by kernel_rfl))
  f260 := Tryz.func241.trans (congrArg some (by kernel_rfl))
  f266 := Tryz.func254.trans (congrArg some (by kernel_rfl))
  f267 := Tryz.func245.trans (congrArg some (by kernel_rfl))
  f268 := Tryz.func191.trans (congrArg some (by kernel_rfl))
  f314 := Tryz.func255.trans (congrArg some (by kernel_rfl))
  t0 := Tryz.underlying0
  a0 := Tryz.isAgg0
  z0 := Tryz.sizeOf0
  v0 := Tryz.zeroValue0
  t3 := Tryz.underlying3
  a3 := Tryz.isAgg3
  z3 := Tryz.sizeOf3
  v3 := Tryz.zeroValue3
  t4 := Tryz.underlying4
  a4 := Tryz.isAgg4
  z4 := Tryz.sizeOf4
  v4 := Tryz.zeroValue4
  t5 := Tryz.underlying5
  a5 := Tryz.isAgg5
  z5 := Tryz.sizeOf5
  v5 := Tryz.zeroValue5
  t9 := Tryz.underlying9
  a9 := Tryz.isAgg9
  z9 := Tryz.sizeOf9
  v9 := Tryz.zeroValue9
  t21 := Tryz.underlying21
  a21 := Tryz.isAgg21
  z21 := Tryz.sizeOf21
  v21 := Tryz.zeroValue21
  t31 := Tryz.underlying50
  a31 := Tryz.isAgg50
  z31 := Tryz.sizeOf50
  v31 := Tryz.zeroValue50
  t46 := Tryz.underlying40
  a46 := Tryz.isAgg40
  z46 := Tryz.sizeOf40
  v46 := Tryz.zeroValue40
  t51 := Tryz.underlying127
  a51 := Tryz.isAgg127
  z51 := Tryz.sizeOf127
  v51 := Tryz.zeroValue127
  t105 := Tryz.underlying270
  a105 := Tryz.isAgg270
  z105 := Tryz.sizeOf270
  v105 := Tryz.zeroValue270
  t119 := Tryz.underlying304
  a119 := Tryz.isAgg304
  z119 := Tryz.sizeOf304
  t138 := Tryz.underlying306
  a138 := Tryz.isAgg306
  z138 := Tryz.sizeOf306
  v138 := Tryz.zeroValue306
  t139 := Tryz.underlying307
  a139 := Tryz.isAgg307
  z139 := Tryz.sizeOf307
  v139 := Tryz.zeroValue307
  t146 := Tryz.underlying308
  a146 := Tryz.isAgg308
  z146 := Tryz.sizeOf308
  v146 := Tryz.zeroValue308
  g1 := by kernel_rfl
  g3 := by kernel_rfl
  g4 := by kernel_rfl }
open Go.RowKit Go.Lib in
theorem Tryz.strings_Split (s sep : ByteArray) (m : Int) (w : World) (hs : s.size < 4294967281) (hm : w.cell? ⟨1, 0, none⟩ = some (.int .i64 m)) (h1 : 1 ≤ sep.size) :
    Calls Tryz.prog 156 #[.string s, .string sep] w fun e w' =>
      e = .returned (.slice (some ⟨w.heap.size, 0, none⟩) (Lib.countB s sep + 1) (Lib.countB s sep + 1)) ∧ w' = w.alloc (.cells ((Lib.splitB sep 0 (Lib.countB s sep) s).map Value.string).toArray 9) := Any.strings_Split Tryz.lays146 (by kernel_rfl) s sep m w hs hm h1
end Go.Proofs
end
section
namespace TwW
open Go Tw Go.RowKit Go.Proofs.Tryz
section
variable {P : Program} {f : FuncId} {args : Array Value} {σ σ' : Hp} {R : Ending → Hp → Prop}
theorem Spec.below {v : Value} (h : ∀ w, Sat σ w → Calls P f args w fun e w' => e = .returned v ∧ Below w.heap.size w w') (hR : R (.returned v) σ) : Spec P f args σ R := fun w F hs hF =>
  (h w hs).mono fun e w' ⟨he, hb⟩ => ⟨σ, he ▸ hR, fun b o ho => by
    have h1 := hs b o ho
    rw [hb.block b (Array.getElem?_eq_some_iff.1 h1).1]; exact h1, fun b hFb => ⟨(hF b hFb).2, hb.block b (hF b hFb).1⟩, ⟨hb.os, hb.tape, fun h => h.elim⟩, hb.output, hb.size⟩
theorem Spec.same {v : Value} (h : ∀ w, Sat σ w → Calls P f args w fun e w' => e = .returned v ∧ w' = w) (hR : R (.returned v) σ) : Spec P f args σ R :=
  Spec.below (fun w hs => (h w hs).mono fun e w' ⟨he, hw⟩ => ⟨he, hw ▸ Below.refl _ _⟩) hR
theorem Spec.newobj {o : Obj} {v : Nat → Value} (h : ∀ w, Sat σ w → Calls P f args w fun e w' => e = .returned (v w.heap.size) ∧ w' = w.alloc o) (hR : ∀ b, σ b = none → R (.returned (v b)) (σ.set b o)) : Spec P f args σ R := fun w F hs hF =>
  (h w hs).mono fun e w' ⟨he, hw⟩ => ⟨σ.set w.heap.size o, he ▸ hR _ (hp_fresh hs), by subst hw; exact Fin.alloc hs hF _ rfl (.same rfl rfl rfl) rfl⟩
theorem cell_of {w : World} {b o : Nat} {v : Value} (hs : Sat σ w) (h : σ.ld ⟨b, o, none⟩ = some v) : w.cell? ⟨b, o, none⟩ = some v := by
  have := rdc_cells (ys := [v]) hs ⟨h, trivial⟩ 0 v rfl
  simpa [add_off] using this
end
def pow10 : List Nat := [4607182418800017408, 4621819117588971520, 4636737291354636288, 4652007308841189376, 4666723172467343360, 4681608360884174848, 4696837146684686336, 4711630319722168320, 4726483295884279808, 4741671816366391296, 4756540486875873280, 4771362005757984768, 4786511204640096256, 4801453603149578240, 4816244402031689728, 4831355200913801216]
structure Gl (σ : Hp) : Prop where
  len : ∃ m : Int, σ.ld ⟨1, 0, none⟩ = some (.int .i64 m)
  opt : σ.ld ⟨5, 0, none⟩ = some (.bool true)
  bits : σ.ld ⟨6, 0, none⟩ = some (.int .u64 52)
  pow : ∃ b o n c, σ.ld ⟨9, 0, none⟩ = some (.slice (some ⟨b, o, none⟩) n c) ∧ 16 ≤ n ∧ ∀ i v, pow10[i]? = some v → σ.ld ⟨b, o + i * 1, none⟩ = some (.float .f64 v)
theorem Gl.mono {σ σ' : Hp} (h : Gl σ) (hx : Ext σ σ') : Gl σ' := ⟨h.len.imp fun _ => hx.ld, hx.ld h.opt, hx.ld h.bits, let ⟨b, o, n, c, h1, h2, h3⟩ := h.pow; ⟨b, o, n, c, hx.ld h1, h2, fun i v hv => hx.ld (h3 i v hv)⟩⟩
section
variable {σ σ' : Hp} {R : Ending → Hp → Prop}
theorem index_spec {s t : ByteArray} (hg : Gl σ) (hs : s.size < 4294967281) (h : R (.returned (.int .i64 (Lib.index s.data.toList t.data.toList))) σ) : Spec prog 193 #[.string s, .string t] σ R := by
  obtain ⟨m, hm⟩ := hg.len
  exact Spec.same (fun w hw => Go.Proofs.Tryz.strings_Index s t m w hs (cell_of hw hm)) h
theorem split_spec {s : ByteArray} {c : UInt8} (hg : Gl σ) (hs : s.size < 4294967281) (h : ∀ b T, σ b = none → R (.returned (.slice (aD b 0) (cutB c s).length (cutB c s).length)) (σ.set b (.cells ((cutB c s).map Value.string).toArray T (0, 0)))) : Spec prog 156 #[.string s, .string ⟨#[c]⟩] σ R := by
  obtain ⟨m, hm⟩ := hg.len
  have hl : (cutB c s).length = Lib.countB s ⟨#[c]⟩ + 1 := Lib.splitB_all ⟨#[c]⟩ (Nat.le_refl 1) 0 _ s rfl
  have h' := fun b => h b 9
  rw [hl] at h'
  exact Spec.newobj (v := fun b => .slice (aD b 0) _ _) (fun w hw => Go.Proofs.Tryz.strings_Split s ⟨#[c]⟩ m w hs (cell_of hw hm) (Nat.le_refl 1)) h'
theorem strMid {s : ByteArray} {l h : Nat} (hl : l ≤ h) (hh : h ≤ s.size) : YF prog (Instr.sliceAt 9 (.string s) (some (.int .i64 (l : Int))) (some (.int .i64 (h : Int))) none) σ (.string (s.extract l h)) := fun w _ => by
  rw [run_sliceAt_string (h := underlying9)]
  have h1 : (h : Int) ≤ s.size := by omega
  have h2 : (l : Int) ≤ h := by omega
  simp [Instr.slice, run_underlying underlying9, Instr.sliceBounds, run_sliceBound, h1, h2, Result.andThen]
theorem prefix_spec {s t : ByteArray} (h : R (.returned (.bool (decide (t.size ≤ s.size ∧ s.extract 0 t.size = t)))) σ) : Spec prog 214 #[.string s, .string t] σ R := by
  refine strings_HasPrefix.start (internal_stringslite_HasPrefix.start ⟨fun hle => ⟨_, strTo (by omega), _, rfl, ?_⟩, fun hgt => ⟨_, rfl, ?_⟩⟩)
  · rw [eqS, show decide (s.extract 0 t.size = t) = decide (t.size ≤ s.size ∧ s.extract 0 t.size = t) from decide_eq_decide.2 ⟨fun h => ⟨by omega, h⟩, fun h => h.2⟩]; exact h
  · rw [show false = decide (t.size ≤ s.size ∧ s.extract 0 t.size = t) from (decide_eq_false fun hh => hgt (by omega)).symm]; exact h
theorem suffix_spec {s t : ByteArray} (hs : s.size ≤ 4611686018427387904) (h : R (.returned (.bool (decide (t.size ≤ s.size ∧ s.extract (s.size - t.size) s.size = t)))) σ) : Spec prog 215 #[.string s, .string t] σ R := by
  refine strings_HasSuffix.start (internal_stringslite_HasSuffix.start ⟨fun hle => ⟨by unfold I64; omega, s.extract (s.size - t.size) s.size, ?_, _, rfl, ?_⟩, fun hgt => ⟨_, rfl, ?_⟩⟩)
  · rw [show ((s.size : Nat) : Int) - ((t.size : Nat) : Int) = ((s.size - t.size : Nat) : Int) by omega]; exact strFrom (by omega)
  · rw [eqS, show decide (s.extract (s.size - t.size) s.size = t) = decide (t.size ≤ s.size ∧ s.extract (s.size - t.size) s.size = t) from decide_eq_decide.2 ⟨fun h => ⟨by omega, h⟩, fun h => h.2⟩]; exact h
  · rw [show false = decide (t.size ≤ s.size ∧ s.extract (s.size - t.size) s.size = t) from (decide_eq_false fun hh => hgt (by omega)).symm]; exact h
def ETx (_ : Hp) (vs : List Value) (x : ByteArray) : Prop := vs = [.string x]
theorem ETx.mono : Mono ETx := fun _ _ _ _ _ h => h
abbrev RdT := RdS 1 ETx
theorem RdT.at {p : Option Addr} {n i : Nat} {ls : List ByteArray} {x : ByteArray} (hr : RdT σ p n ls) (hx : ls[i]? = some x) : ∃ b o, p = some ⟨b, o, none⟩ ∧ σ.ld ⟨b, o + i * 1, none⟩ = some (.string x) := by
  obtain ⟨b, o, vs, hp, rfl, hl⟩ := RdS.idx hr hx
  exact ⟨b, o, hp, hl.1⟩
theorem RdT.of_lit {b : Nat} {T : TypeId} {L : List ByteArray} (h : σ b = some (.cells (L.map Value.string).toArray T (0, 0))) (hb : L.length ≤ 4611686018427387904) : RdT σ (aD b 0) L.length L := by
  refine ⟨rfl, L.map .string, ⟨by simp, hb, .inr ⟨b, 0, rfl, LdL.of fun j v hj => ?_⟩⟩, by simp, fun i x hx => ?_⟩
  · rw [Nat.zero_add]; exact ld_of h (by simpa using hj)
  · have h1 : (L.map Value.string)[i]? = some (.string x) := by rw [List.getElem?_map, hx]; rfl
    rw [Nat.mul_one, drop_at' h1]; rfl
theorem is_spec {p : Option Addr} {n c : Nat} {l : List ByteArray} {s : ByteArray} (hg : Gl σ) (hr : RdT σ p n l) (h0 : 0 < n) (hc : n ≤ c) (hs : s.size < 4294967281) (hl : ∀ x ∈ l, x.size ≤ 4294967296) (h : R (.returned (.bool (isK l s))) σ) :
    Spec prog 190 #[.agg #[.slice p n c], .string s] σ R := by
  have hn : l.length = n := hr.1
  have hbig := hr.big
  obtain ⟨a, ha⟩ := hr.ex h0
  obtain ⟨z, hz⟩ := hr.ex (k := n - 1) (by omega)
  obtain ⟨b, o, rfl, hla⟩ := RdT.at hr ha
  obtain ⟨_, _, he, hlz⟩ := RdT.at hr hz
  cases he
  have ea : l.head?.getD ⟨#[]⟩ = a := by rw [List.head?_eq_getElem?, ha]; rfl
  have ez : l.getLast?.getD ⟨#[]⟩ = z := by rw [List.getLast?_eq_getElem?, hn, hz]; rfl
  have e1 : Int.toNat ((n : Int) - 1) = n - 1 := by omega
  have hsa := hl a (List.mem_of_getElem? ha)
  have hsz := hl z (List.mem_of_getElem? hz)
  have eK : isK l s = if n = 1 then decide (s = a) else if s.size < a.size + z.size ∨ s.extract 0 a.size ≠ a ∨ s.extract (s.size - z.size) s.size ≠ z then false else midK l.tail.dropLast (s.extract a.size (s.size - z.size)) := by
    unfold isK; rw [ea, ez, hn]
  rw [eK] at h
  refine match_piece_is.start fun _ => ⟨b, o, rfl, by omega, a, by simpa using hla, by unfold I64; omega, by omega, z, by rw [e1]; exact hlz, fun h1 => ?_, fun h1 => ?_⟩
  · rw [if_pos (by omega)] at h; rw [eqS]; exact h
  rw [if_neg (by omega)] at h
  refine ⟨by unfold I64; omega, fun hlt => ?_, fun hge => prefix_spec ⟨_, rfl, fun hp => ?_, fun hp => suffix_spec (by omega) ⟨_, rfl, fun hq => ?_, fun hq => ?_⟩⟩⟩
  · rw [if_pos (.inl (by omega))] at h; exact h
  · have := of_decide_eq_false hp
    rw [if_pos (.inr (.inl fun e => this ⟨by omega, e⟩))] at h; exact h
  · have := of_decide_eq_false hq
    rw [if_pos (.inr (.inr fun e => this ⟨by omega, e⟩))] at h; exact h
  have hp' := of_decide_eq_true hp
  have hq' := of_decide_eq_true hq
  rw [if_neg (by rintro (h3 | h3 | h3)
                 · omega
                 · exact h3 hp'.2
                 · exact h3 hq'.2)] at h
  have hmid : RdT σ (slP (aD b o) 1 c 1) (n - 2) (l.tail.dropLast) := by
    have := RdS.sub (i := 1) (m := n - 2) hr (by decide) (by omega) hc
    rwa [List.drop_one, show n - 2 = l.tail.length - 1 by rw [List.length_tail]; omega, ← List.dropLast_eq_take, List.length_tail, show l.length - 1 - 1 = n - 2 by omega] at this
  refine ⟨by unfold I64; omega, s.extract a.size (s.size - z.size), ?_, by unfold I64; omega, by omega, ?_⟩
  · rw [show ((s.size : Nat) : Int) - ((z.size : Nat) : Int) = ((s.size - z.size : Nat) : Int) by omega]; exact strMid (by omega) (by omega)
  rw [e1, show n - 1 - 1 = n - 2 by omega]
  generalize hu : s.extract a.size (s.size - z.size) = u at *
  have hus : u.size < 4294967281 := by rw [← hu, ByteArray.size_extract]; omega
  generalize slP (aD b o) 1 c 1 = q at *
  generalize l.tail.dropLast = ms at *
  clear hu hla hlz ha hz ea ez eK
  suffices H : ∀ g k : Nat, ∀ (q' : Option Addr) (v : ByteArray), (0 < n - 2 → q' = q) → n - 2 - k = g → k ≤ n - 2 → v.size < 4294967281 → midK ms u = midK (ms.drop k) v → match_piece_is.pt28 R v q' (n - 2) (c - 1) ((n - 2 : Nat) : Int) k σ from H (n - 2) 0 q u (fun _ => rfl) rfl (Nat.zero_le _) hus rfl
  have hml : ms.length = n - 2 := hmid.1
  intro g
  induction g with
  | zero =>
    intro k q' v hq hgk hk hv he
    rw [List.drop_eq_nil_of_le (by omega)] at he
    rw [he] at h
    exact match_piece_is.pt28_of ⟨fun hlt => by omega, fun _ => h⟩
  | succ g ih =>
    intro k q' v hq hgk hk hv he
    have hk' : k < n - 2 := by omega
    obtain ⟨t, ht⟩ := hmid.ex hk'
    obtain ⟨b2, o2, hq2, hlt⟩ := RdT.at hmid ht
    rw [hq (by omega), hq2]
    rw [drop_at' ht, midK] at he
    refine match_piece_is.pt28_of ⟨fun _ => ⟨b2, o2, rfl, by omega, t, by simpa using hlt, index_spec hg hv ⟨_, rfl, fun hneg => ?_, fun hpos => ?_⟩⟩, fun hh => by omega⟩
    · rw [if_pos hneg] at he; rw [he] at h; exact h
    · rw [if_neg hpos] at he
      have hroom := Lib.index_room v.data.toList t.data.toList (by omega)
      have hv1 : v.data.toList.length = v.size := Array.length_toList (xs := v.data)
      have ht1 : t.data.toList.length = t.size := Array.length_toList (xs := t.data)
      generalize hi : Lib.index v.data.toList t.data.toList = i at *
      refine ⟨by unfold I64; omega, v.extract (i.toNat + t.size) v.size, ?_, i64_succ hk' hmid.big, ih (k + 1) _ _ (fun _ => hq2.symm) (by omega) (by omega) (by rw [ByteArray.size_extract]; omega) he⟩
      rw [show i + ((t.size : Nat) : Int) = ((i.toNat + t.size : Nat) : Int) by omega]; exact strFrom (by omega)
def EPc (σ : Hp) (vs : List Value) (l : List ByteArray) : Prop := ∃ p n c, vs = [.slice p n c] ∧ RdT σ p n l ∧ 0 < n ∧ n ≤ c
theorem EPc.mono : Mono EPc := fun _ _ _ _ hx ⟨p, n, c, hv, h1, h2⟩ => ⟨p, n, c, hv, h1.mono ETx.mono hx, h2⟩
theorem like_spec {p : Option Addr} {n c : Nat} {L : List (List ByteArray)} {s : ByteArray} (hg : Gl σ) (hr : RdS 1 EPc σ p n L) (hs : s.size < 4294967281) (hl : ∀ l ∈ L, ∀ x ∈ l, x.size ≤ 4294967296) (h : R (.returned (.bool (L.any fun l => isK l s))) σ) :
    Spec prog 171 #[.agg #[.slice p n c], .string s] σ R := by
  have hn : L.length = n := hr.1
  refine match_pattern_like.start fun _ => ?_
  suffices H : ∀ g k : Nat, n - k = g → k ≤ n → (L.any fun l => isK l s) = ((L.drop k).any fun l => isK l s) → match_pattern_like.pt8 R s p n c n k σ from H n 0 rfl (Nat.zero_le _) rfl
  intro g
  induction g with
  | zero =>
    intro k hg' hk he
    rw [List.drop_eq_nil_of_le (by omega)] at he
    rw [he] at h
    exact match_pattern_like.pt8_of ⟨fun hlt => by omega, fun _ => h⟩
  | succ g ih =>
    intro k hg' hk he
    have hk' : k < n := by omega
    obtain ⟨l, hx⟩ := hr.ex hk'
    obtain ⟨b, o, vs, rfl, ⟨p1, n1, c1, rfl, h1, h2, h3⟩, hld⟩ := RdS.idx hr hx
    rw [drop_at' hx, List.any_cons] at he
    refine match_pattern_like.pt8_of ⟨fun _ => ⟨b, o, rfl, by omega, p1, n1, c1, by simpa using hld, fun _ => is_spec hg h1 h2 h3 hs (hl l (List.mem_of_getElem? hx)) ⟨_, rfl, fun ht => ?_, fun hf => ⟨i64_succ hk' hr.big, ih (k + 1) (by omega) (by omega) ?_⟩⟩⟩, fun hh => by omega⟩
    · rw [ht] at he; rw [he] at h; exact h
    · rw [hf] at he; exact he
theorem cutB_size {c : UInt8} {s : ByteArray} : ∀ x ∈ cutB c s, x.size ≤ s.size := by
  unfold cutB
  generalize Lib.countB s ⟨#[c]⟩ = k
  induction k generalizing s with
  | zero => intro x hx; rw [Lib.splitB_zero, List.mem_singleton] at hx; rw [hx]; exact Nat.le_refl _
  | succ k ih =>
    intro x hx
    unfold Lib.splitB at hx
    split at hx
    · rw [List.mem_singleton] at hx; rw [hx]; exact Nat.le_refl _
    · rcases List.mem_cons.1 hx with rfl | hx
      · rw [ByteArray.size_extract]; omega
      · have := ih x hx
        rw [ByteArray.size_extract] at this; omega
theorem cutB_len {c : UInt8} {s : ByteArray} : (cutB c s).length ≤ s.size + 1 ∧ 0 < (cutB c s).length := by
  have h1 := Lib.splitB_all ⟨#[c]⟩ (Nat.le_refl 1) 0 _ s rfl
  have h2 := Lib.countB_le ⟨#[c]⟩ (Nat.le_refl 1) s.size s (Nat.le_refl _)
  unfold cutB
  omega
theorem compile_spec {s : ByteArray} (hg : Gl σ) (hs : s.size ≤ 1000000) (h : ∀ p n c σ', RdS 1 EPc σ' p n ((cutB 124 s).map (cutB 42)) → Ext σ σ' → R (.returned (.agg #[.slice p n c])) σ') : Spec prog 118 #[.string s] σ R := by
  refine match_compile.start fun _ _ => split_spec hg (by omega) fun b T hb => ⟨_, _, _, rfl, ?_⟩
  have hx1 : Ext σ (σ.set b (.cells ((cutB 124 s).map Value.string).toArray T (0, 0))) := .set hb
  obtain ⟨hlen, _⟩ := cutB_len (c := 124) (s := s)
  have hr : RdT (σ.set b (.cells ((cutB 124 s).map Value.string).toArray T (0, 0))) (aD b 0) (cutB 124 s).length (cutB 124 s) := RdT.of_lit (Hp.set_same _ _ _) (by omega)
  generalize hσ1 : σ.set b (.cells ((cutB 124 s).map Value.string).toArray T (0, 0)) = σ1 at *
  have hsz := cutB_size (c := 124) (s := s)
  generalize cutB 124 s = L at *
  suffices H : ∀ g k : Nat, ∀ p3 n3 c3 σ', L.length - k = g → k ≤ L.length → OwnL 1 EPc (σ1.new σ') p3 n3 c3 ((L.take k).map (cutB 42)) → Ext σ1 σ' → match_compile.pt10 R none 0 0 p3 n3 c3 (aD b 0) L.length L.length L.length k σ' from H L.length 0 none 0 0 σ1 rfl (Nat.zero_le _) OwnL.nil (.refl _)
  intro g
  induction g with
  | zero =>
    intro k p3 n3 c3 σ' hg' hk ho hx
    rw [List.take_of_length_le (by omega)] at ho
    exact match_compile.pt10_of ⟨fun hlt => by omega, fun _ => h p3 n3 c3 σ' ((ho.rd EPc.mono).mono EPc.mono (Ext.of_new _ _)) (hx1.trans hx)⟩
  | succ g ih =>
    intro k p3 n3 c3 σ' hg' hk ho hx
    have hk' : k < L.length := by omega
    obtain ⟨x, hxk⟩ := hr.ex hk'
    obtain ⟨b2, o2, he, hlx⟩ := RdT.at hr hxk
    cases he
    have hxs := hsz x (List.mem_of_getElem? hxk)
    have hn3 : n3 = k := by have := ho.1; rw [List.length_map, List.length_take] at this; omega
    refine match_compile.pt10_of ⟨fun _ => ⟨b, 0, rfl, by omega, x, by simpa using hx.ld hlx, split_spec (hg.mono (hx1.trans hx)) (by omega) fun b4 T4 hb4 => ⟨_, _, _, rfl, fun b18 hb18 => ?_⟩⟩, fun hh => by omega⟩
    obtain ⟨hlen4, hpos4⟩ := cutB_len (c := 42) (s := x)
    have hx4 : Ext σ' (σ'.set b4 (.cells ((cutB 42 x).map Value.string).toArray T4 (0, 0))) := .set hb4
    have hp3 : ∀ a, p3 = some a → σ' a.block ≠ none := fun a ha => by
      have := ho.block a ha
      cases hh : (σ1.new σ') a.block with
      | none => exact absurd hh this
      | some oo => rw [(new_some.1 hh).2]; simp
    have hb4' : (σ1.new (σ'.set b4 (.cells ((cutB 42 x).map Value.string).toArray T4 (0, 0))) |>.del p3) b4 = some (.cells ((cutB 42 x).map Value.string).toArray T4 (0, 0)) := del_some.2 ⟨fun a ha e => hp3 a ha (by rw [← e]; exact hb4), new_some.2 ⟨ext_none hx hb4, Hp.set_same _ _ _⟩⟩
    refine OwnL.app1 EPc.mono (vs := [.slice (aD b4 0) (cutB 42 x).length (cutB 42 x).length]) (x := cutB 42 x) (hx.trans hx4) (ho.mono EPc.mono (Ext.new_mono hx4)) rfl (fun u hu => by rw [List.mem_singleton] at hu; subst hu; rfl) ⟨_, _, _, rfl, RdT.of_lit hb4' (by omega), hpos4, Nat.le_refl _⟩ (by omega) (fun p' c' σ2 ho2 hx2 => ⟨_, _, _, rfl, i64_succ hk' hr.big, ih (k + 1) _ _ _ _ (by omega) (by omega) ?_ hx2⟩) hb18
    rw [take_succ' hxk, List.map_append]; exact ho2
theorem says_spec {p q : Option Addr} {n c m d : Nat} {ms : List Mt} {ls : List Lb} (hg : Gl σ) (hr : RdS 3 EMt σ p n ms) (hq : RdL σ q m ls) (hm : ∀ x ∈ ms, x.val.size ≤ 1000000) (hls : ∀ x ∈ ls, x.2.size ≤ 1000000) (hk : ∀ x ∈ ms, 1 ≤ x.kind ∧ x.kind ≤ 4) (h : ∀ σ', Ext σ σ' → R (.returned (.bool (saysF ms ls))) σ') :
    Spec prog 84 #[.slice p n c, .slice q m d] σ R := by
  have hl : ms.length = n := hr.1
  refine match_Says.start (match_kinds.start fun kb hkb => ⟨_, _, _, rfl, ?_⟩)
  have hx1 := Ext.set (o := .cells #[.nilFunc, (.func (.func 152) #[] #[]), (.func (.func 153) #[] #[]), (.func (.func 154) #[] #[]), (.func (.func 155) #[] #[])] 170 (0, 0)) hkb
  have hc := Hp.set_same σ kb (.cells #[.nilFunc, (.func (.func 152) #[] #[]), (.func (.func 153) #[] #[]), (.func (.func 154) #[] #[]), (.func (.func 155) #[] #[])] 170 (0, 0))
  generalize hσ1 : σ.set kb (.cells #[.nilFunc, (.func (.func 152) #[] #[]), (.func (.func 153) #[] #[]), (.func (.func 154) #[] #[]), (.func (.func 155) #[] #[])] 170 (0, 0)) = σ1 at *
  have hgs : ∀ k : ByteArray, (getL ls k).size ≤ 1000000 := fun k => by
    clear hq h
    induction ls with
    | nil => unfold getL; decide
    | cons a l ih =>
      unfold getL
      split
      · exact hls a (by simp)
      · exact ih fun x hx => hls x (List.mem_cons_of_mem _ hx)
  suffices H : ∀ g k : Nat, ∀ σ', n - k = g → k ≤ n → Ext σ1 σ' → saysF ms ls = saysF (ms.drop k) ls → match_Says.pt10 R q m d (aD kb 0) 5 5 p n c n k σ' from H n 0 σ1 rfl (Nat.zero_le _) (.refl _) rfl
  intro g
  induction g with
  | zero =>
    intro k σ' hg' hk' hx he
    have := h σ' (hx1.trans hx)
    rw [he, List.drop_eq_nil_of_le (by omega)] at this
    exact match_Says.pt10_of ⟨fun hlt => by omega, fun _ => this⟩
  | succ g ih =>
    intro k σ' hg' hkn hx he
    have hk' : k < n := by omega
    obtain ⟨x, hxk⟩ := hr.ex hk'
    obtain ⟨b, o, rfl, hld⟩ := EMt.at hr hxk
    have hxm := List.mem_of_getElem? hxk
    have hk4 := hk x hxm
    have he' : saysF ms ls = (says1 x ls && saysF (ms.drop (k + 1)) ls) := by rw [he, drop_at' hxk]; rfl
    have step : ∀ (t : Bool) (σ2 : Hp), t = says1 x ls → Ext σ1 σ2 → Cont R (CB fun t35 y_4 => Bn t35 (R (.returned (.bool false)) y_4) (I64 ((k : Int) + 1) ∧ match_Says.pt10 R q m d (aD kb 0) 5 5 (aD b o) n c n ((k : Int) + 1) y_4)) (.returned (.bool t)) σ2 := fun t σ2 ht hx2 => by
      refine ⟨t, rfl, fun hf => ?_, fun htt => ⟨i64_succ hk' hr.big, ih (k + 1) σ2 (by omega) (by omega) hx2 ?_⟩⟩
      · have := h σ2 (hx1.trans hx2)
        rw [he', ← ht, hf] at this; exact this
      · rw [he', ← ht, htt]; rfl
    refine match_Says.pt10_of ⟨fun _ => ⟨b, o, rfl, by omega, x.kind, x.name, x.val, by simpa using (hld.mono (hx1.trans hx)), fun _ => kind_spec ⟨_, rfl, fun hf => ?_, fun ht => ⟨kb, 0, rfl, by omega, ?_⟩⟩⟩, fun hh => by omega⟩
    · exact absurd hk4 (of_decide_eq_false hf)
    have hall : ∀ σ2 p1 n1 c1, RdS 1 EPc σ2 p1 n1 ((cutB 124 x.val).map (cutB 42)) → Ext σ1 σ2 → ∀ R2 : Ending → Hp → Prop, R2 (.returned (.bool (likeK x.val (getL ls x.name)))) σ2 → Spec prog 171 #[.agg #[.slice p1 n1 c1], .string (getL ls x.name)] σ2 R2 := fun σ2 p1 n1 c1 hrp hx2 R2 hR2 => by
      refine like_spec (hg.mono (hx1.trans hx2)) hrp (by have := hgs x.name; omega) (fun l hl y hy => ?_) ?_
      · obtain ⟨z, hz, rfl⟩ := List.mem_map.1 hl
        have h1 := cutB_size y hy
        have h2 := cutB_size z hz
        have h3 := hm x hxm
        omega
      · rw [List.any_map]; exact hR2
    have row : ∀ (i : Nat) (f : FuncId) (t : Bool), x.kind = i → (#[.nilFunc, (.func (.func 152) #[] #[]), (.func (.func 153) #[] #[]), (.func (.func 154) #[] #[]), (.func (.func 155) #[] #[])] : Array Value)[i]? = some (.func (.func f) #[] #[]) → Enters prog f → t = says1 x ls →
        (∀ p1 n1 c1 σ2 (R2 : Ending → Hp → Prop), RdS 1 EPc σ2 p1 n1 ((cutB 124 x.val).map (cutB 42)) → Ext σ1 σ2 → R2 (.returned (.bool t)) σ2 → Spec prog f #[.agg #[.slice p1 n1 c1, .string x.val], .string (getL ls x.name)] σ2 R2) →
        ∃ v24, Hp.ld σ' ⟨kb, (0 + Int.toNat x.kind * 1), none⟩ = some v24 ∧ Spec prog 118 #[.string x.val] σ' (Cont R (fun z y_2 => ∃ p27a n27a c27a, z = (.agg #[.slice p27a n27a c27a]) ∧ Kp [kb] σ' y_2 ∧ Spec prog 119 #[.slice q m d, .string x.name] y_2 (Cont R (CT fun s34 y_3 => Kp [kb] y_2 y_3 ∧ ∃ (f35 : Nat) (fst35 cap35 : Array Value), v24 = .func (.func f35) fst35 cap35 ∧ Enters prog f35 ∧ Spec prog f35 (fst35 ++ #[.agg #[.slice p27a n27a c27a, .string x.val], .string s34] ++ cap35) y_3 (Cont R (CB fun t35 y_4 => Bn t35 (R (.returned (.bool false)) y_4) (I64 ((k : Int) + 1) ∧ match_Says.pt10 R q m d (aD kb 0) 5 5 (aD b o) n c n ((k : Int) + 1) y_4)))))) ) := fun i f t hi hv hen ht hf => by
      refine ⟨.func (.func f) #[] #[], ?_, ?_⟩
      rotate_left
      · refine compile_spec (hg.mono (hx1.trans hx)) (hm x hxm) fun p1 n1 c1 σ2 hrp hx2 => ⟨p1, n1, c1, rfl, Kp.of_ext hx2, labelGet_spec (hq.mono ELb.mono (hx1.trans (hx.trans hx2))) ⟨_, rfl, Kp.of_ext (.refl _), f, #[], #[], rfl, hen, hf p1 n1 c1 σ2 _ hrp (hx.trans hx2) (step t σ2 ht (hx.trans hx2))⟩⟩
      rw [hi]
      exact ld_of (hx _ _ hc) (by simpa using hv)
    have hcase : x.kind = 1 ∨ x.kind = 2 ∨ x.kind = 3 ∨ x.kind = 4 := by omega
    rcases hcase with h1 | h1 | h1 | h1
    · exact row 1 152 (decide (getL ls x.name = x.val)) h1 rfl match_asker_eq.en (by unfold says1; rw [if_pos h1]) fun p1 n1 c1 σ2 R2 _ _ hR2 => match_asker_eq.start fun _ => by rw [eqS]; exact hR2
    · exact row 2 153 (!decide (getL ls x.name = x.val)) h1 rfl match_asker_ne.en (by unfold says1; rw [if_neg (by omega), if_pos h1]; simp) fun p1 n1 c1 σ2 R2 _ _ hR2 => match_asker_ne.start fun _ => by rw [eqS]; exact hR2
    · exact row 3 154 (likeK x.val (getL ls x.name)) h1 rfl match_asker_yes.en (by unfold says1; rw [if_neg (by omega), if_neg (by omega), if_pos h1]) fun p1 n1 c1 σ2 R2 hrp hx2 hR2 => match_asker_yes.start fun _ => hall σ2 p1 n1 c1 hrp hx2 _ ⟨_, rfl, hR2⟩
    · exact row 4 155 (!likeK x.val (getL ls x.name)) h1 rfl match_asker_not.en (by unfold says1; rw [if_neg (by omega), if_neg (by omega), if_neg (by omega), if_pos h1]) fun p1 n1 c1 σ2 R2 hrp hx2 hR2 => match_asker_not.start fun _ => hall σ2 p1 n1 c1 hrp hx2 _ ⟨_, rfl, hR2⟩
end
end TwW
end
section
namespace TwW
open Go Tw Go.RowKit Go.Proofs.Tryz
structure Rs where
  m : Nat
  dot : Bool
  nd : Nat
  dp : Int
def stepR (st : Rs) (u : UInt8) : Rs := if u = 46 then { st with dot := true, dp := st.nd } else if u = 48 ∧ st.nd = 0 then { st with dp := st.dp - 1 } else { st with m := st.m * 10 + (u.toNat - 48), nd := st.nd + 1 }
def readR (s : ByteArray) : Rs := s.data.toList.foldl stepR ⟨0, false, 0, 0⟩
def expR (r : Rs) : Int := if r.m = 0 then 0 else (if r.dot then r.dp else r.nd) - r.nd
def numI (s : ByteArray) : Int :=
  let r := readR s
  if r.m = 0 then (toF 0 : Nat) else if expR r = 0 then (toF (FloatKind.f64.nearest r.m) : Nat) else (arN 4 (FloatKind.f64.nearest r.m) (pow10.getD (-expR r).toNat 0) : Nat)
section
variable {σ σ' : Hp} {R : Ending → Hp → Prop}
theorem wDigits_spec {s : ByteArray} (hb : s.size ≤ 4611686018427387904) (h : R (.returned (.int .i64 (digN s))) σ) : Spec prog 148 #[.string s] σ R := by
  have hlen : s.data.toList.length = s.size := Array.length_toList (xs := s.data)
  refine wave_digits.start ?_
  suffices H : ∀ g k : Nat, s.size - k = g → k ≤ s.size → (∀ j u, j < k → s.data.toList[j]? = some u → digB u = true) → wave_digits.pt9 R s k σ from H s.size 0 rfl (Nat.zero_le _) (fun j u hj => by omega)
  intro g
  induction g with
  | zero =>
    intro k hg hk h1
    have e : digN s = k := takeW_len (by omega) h1 (fun u hu => by have := (List.getElem?_eq_some_iff.1 hu).1; omega)
    rw [e] at h
    exact wave_digits.pt9_of ⟨fun hlt => by omega, fun _ => h⟩
  | succ g ih =>
    intro k hg hk h1
    obtain ⟨u, hu, hu'⟩ := byte_at (show k < s.size by omega)
    have stop : digB u = false → R (.returned (.int .i64 k)) σ := fun hd => by
      have e : digN s = k := takeW_len (by omega) h1 (fun v hv => by rw [hu'] at hv; cases hv; exact hd)
      rw [e] at h; exact h
    refine wave_digits.pt9_of ⟨fun _ => ⟨u, by omega, by simpa using hu, fun h48 => ⟨u, by omega, by simpa using hu, fun h57 => ?_, fun h57 => stop ?_⟩, fun h48 => stop ?_⟩, fun hh => by omega⟩
    · refine ⟨i64_succ (by omega : k < s.size) hb, ih (k + 1) (by omega) (by omega) fun j v hj hv => ?_⟩
      by_cases hjk : j = k
      · rw [hjk, hu'] at hv; cases hv
        exact decide_eq_true (by omega)
      · exact h1 j v (by omega) hv
    · exact decide_eq_false (by omega)
    · exact decide_eq_false (by omega)
theorem wNumber_spec {s : ByteArray} (hb : s.size ≤ 4611686018427387904) (ht : numO s = true) (h : R (.returned (.bool true)) σ) : Spec prog 111 #[.string s] σ R := by
  have hle := digN_le s
  have h0 : digN s ≠ 0 := fun e => by unfold numO at ht; rw [if_pos e] at ht; cases ht
  have h1 : ¬ (1 < digN s ∧ s.data[0]? = some 48) := fun e => by unfold numO at ht; rw [if_neg h0, if_pos e] at ht; cases ht
  obtain ⟨u0, hu0, _⟩ := byte_at (show 0 < s.size by omega)
  have b48 := byte48 (u := u0) (k := 48) (by decide)
  have tail : Br ((digN s : Int) = ((ByteArray.size s : Nat) : Int)) (R (.returned (.bool (decide ((digN s : Int) ≤ 15)))) σ) (I64 ((digN s : Int) + 1) ∧ ∃ s27, YF prog (Instr.sliceAt 9 (.string s) (some (.int .i64 ((digN s : Int) + 1))) none none) σ (.string s27) ∧ Spec prog 148 #[.string s27] σ (Cont R (CI .i64 fun x28 y_2 => ∃ u31 : UInt8, 0 ≤ (digN s : Int) ∧ (ByteArray.data s)[Int.toNat (digN s : Int)]? = some u31 ∧ Br ((((UInt8.toNat u31 : Nat) : Int) : Int) = 46) (Br (0 < x28) (I64 ((digN s : Int) + 1) ∧ I64 (((digN s : Int) + 1) + x28) ∧ Br (((((digN s : Int) + 1) + x28) : Int) = ((ByteArray.size s : Nat) : Int)) (I64 ((digN s : Int) + x28) ∧ R (.returned (.bool (decide ((((digN s : Int) + x28) : Int) ≤ 15)))) y_2) (R (.returned (.bool false)) y_2)) (R (.returned (.bool false)) y_2)) (R (.returned (.bool false)) y_2)))) := by
    unfold numO at ht
    rw [if_neg h0, if_neg h1] at ht
    refine ⟨fun he => ?_, fun he => ⟨by unfold I64; omega, s.extract (digN s + 1) s.size, strFrom (l := digN s + 1) (by omega), ?_⟩⟩
    · rw [if_pos (by omega)] at ht
      rw [decide_eq_true (by have := of_decide_eq_true ht; omega)]; exact h
    · rw [if_neg (by omega)] at ht
      have ht := of_decide_eq_true ht
      have hsz2 : (s.extract (digN s + 1) s.size).size = s.size - (digN s + 1) := by rw [ByteArray.size_extract]; omega
      have hm := digN_le (s.extract (digN s + 1) s.size)
      refine wDigits_spec (by omega) ?_
      obtain ⟨u, hu, _⟩ := byte_at (show digN s < s.size by omega)
      rw [hu] at ht
      have b46 := byte48 (u := u) (k := 46) (by decide)
      generalize digN (s.extract (digN s + 1) s.size) = m at *
      refine ⟨_, rfl, u, by omega, by simpa using hu, fun h46 => ⟨fun h0m => ⟨by unfold I64; omega, by unfold I64; omega, fun hs => ⟨by unfold I64; omega, ?_⟩, fun hs => absurd (by omega) hs⟩, fun h0m => absurd (by omega) h0m⟩, fun h46 => absurd (b46.2 (by have := ht.1; simpa using this)) h46⟩
      rw [decide_eq_true (by omega)]; exact h
  refine wave_number.start (wDigits_spec hb ⟨_, rfl, fun hh => absurd hh (by omega), fun _ => ⟨fun h1n => ⟨u0, by omega, by simpa using hu0, fun h48 => ?_, fun _ => tail⟩, fun _ => tail⟩⟩)
  exact absurd ⟨by omega, by rw [hu0, b48.1 h48]; rfl⟩ h1
theorem mem_tw {α : Type} {p : α → Bool} : ∀ {l : List α} {u : α}, u ∈ l.takeWhile p → p u = true
  | [], u, h => by cases h
  | a :: l, u, h => by
    unfold List.takeWhile at h
    split at h
    · rename_i ha
      rcases List.mem_cons.1 h with rfl | h
      · exact ha
      · exact mem_tw h
    · cases h
theorem num_bytes {s : ByteArray} (h : numO s = true) : 0 < s.size ∧ s.size ≤ 16 ∧ (∃ u, s.data.toList[0]? = some u ∧ digB u = true) ∧ (∀ u ∈ s.data.toList, digB u = true ∨ u = 46) ∧ (s.data.toList.filter digB).length ≤ 15 ∧ (∀ j k : Nat, s.data.toList[j]? = some 46 → s.data.toList[k]? = some 46 → j = k) := by
  have hlen : s.data.toList.length = s.size := Array.length_toList (xs := s.data)
  have hle := digN_le s
  have h0 : digN s ≠ 0 := fun e => by unfold numO at h; rw [if_pos e] at h; cases h
  have h1 : ¬ (1 < digN s ∧ s.data[0]? = some 48) := fun e => by unfold numO at h; rw [if_neg h0, if_pos e] at h; cases h
  unfold numO at h
  rw [if_neg h0, if_neg h1] at h
  have hT : s.data.toList.takeWhile digB = s.data.toList.take (digN s) := by
    unfold digN
    exact (List.prefix_iff_eq_take.1 (List.takeWhile_prefix _))
  have hfirst : ∀ u ∈ s.data.toList.take (digN s), digB u = true := fun u hu => by rw [← hT] at hu; exact mem_tw hu
  have d46 : digB 46 = false := by decide
  have ex0 : ∃ u, s.data.toList[0]? = some u ∧ digB u = true := by
    obtain ⟨u, _, hu'⟩ := byte_at (show 0 < s.size by omega)
    refine ⟨u, hu', hfirst u (List.mem_of_getElem? (i := 0) ?_)⟩
    rw [List.getElem?_take, if_pos (by omega)]; exact hu'
  by_cases he : digN s = s.size
  · rw [if_pos he] at h
    have h15 := of_decide_eq_true h
    have hall : ∀ u ∈ s.data.toList, digB u = true := fun u hu => hfirst u (by rw [List.take_of_length_le (by omega)]; exact hu)
    refine ⟨by omega, by omega, ex0, fun u hu => .inl (hall u hu), by have := List.length_filter_le digB s.data.toList; omega, fun j k hj _ => ?_⟩
    have := hall 46 (List.mem_of_getElem? hj)
    rw [d46] at this; cases this
  · rw [if_neg he] at h
    have hh := of_decide_eq_true h
    generalize hm : digN (s.extract (digN s + 1) s.size) = m at hh
    have hm2 : m ≤ 15 := by omega
    have hsplit : s.data.toList = s.data.toList.take (digN s) ++ 46 :: s.data.toList.drop (digN s + 1) := by
      obtain ⟨u, hu, hu'⟩ := byte_at (show digN s < s.size by omega)
      have e46 : u = 46 := by have := hh.1; rw [hu] at this; simpa using this
      rw [← e46, ← drop_at' hu', List.take_append_drop]
    have hext : (s.extract (digN s + 1) s.size).data.toList = s.data.toList.drop (digN s + 1) := by
      rw [ByteArray.data_extract, Array.toList_extract, List.extract_eq_take_drop]
      rw [List.take_of_length_le (by rw [List.length_drop]; omega)]
    have hrest : ∀ u ∈ s.data.toList.drop (digN s + 1), digB u = true := fun u hu => by
      rw [← hext] at hu
      have hp := List.takeWhile_prefix (p := digB) (l := (s.extract (digN s + 1) s.size).data.toList)
      have hl : ((s.extract (digN s + 1) s.size).data.toList.takeWhile digB).length = (s.extract (digN s + 1) s.size).data.toList.length := by
        rw [show ((s.extract (digN s + 1) s.size).data.toList.takeWhile digB).length = digN (s.extract (digN s + 1) s.size) from rfl, hm, hext, List.length_drop]; omega
      have := hp.eq_of_length hl
      rw [← this] at hu
      exact mem_tw hu
    refine ⟨by omega, by omega, ex0, fun u hu => ?_, ?_, fun j k hj hk => ?_⟩
    · rw [hsplit] at hu
      rcases List.mem_append.1 hu with hu | hu
      · exact .inl (hfirst u hu)
      · rcases List.mem_cons.1 hu with rfl | hu
        · exact .inr rfl
        · exact .inl (hrest u hu)
    · rw [hsplit, List.filter_append, List.filter_cons, d46]
      have a1 := List.length_filter_le digB (s.data.toList.take (digN s))
      have a2 := List.length_filter_le digB (s.data.toList.drop (digN s + 1))
      rw [List.length_take] at a1
      rw [List.length_drop] at a2
      simp only [List.length_append]
      simp
      omega
    · have only : ∀ i : Nat, s.data.toList[i]? = some 46 → i = digN s := fun i hi => by
        rw [hsplit] at hi
        have htl : (s.data.toList.take (digN s)).length = digN s := by rw [List.length_take]; omega
        rcases Nat.lt_trichotomy i (digN s) with hlt | hlt | hlt
        · rw [List.getElem?_append_left (by omega)] at hi
          have := hfirst 46 (List.mem_of_getElem? hi)
          rw [d46] at this; cases this
        · exact hlt
        · rw [List.getElem?_append_right (by omega), htl] at hi
          obtain ⟨d, hd⟩ : ∃ d, i - digN s = d + 1 := ⟨i - digN s - 1, by omega⟩
          rw [hd, List.getElem?_cons_succ] at hi
          have := hrest 46 (List.mem_of_getElem? hi)
          rw [d46] at this; cases this
      rw [only j hj, only k hk]
def cntD (s : ByteArray) (k : Nat) : Nat := ((s.data.toList.take k).filter digB).length
structure ROk (s : ByteArray) (k : Nat) (r : Rs) : Prop where
  is : r = (s.data.toList.take k).foldl stepR ⟨0, false, 0, 0⟩
  nd : r.nd ≤ cntD s k
  m : r.m < 10 ^ r.nd
  lo : (r.nd : Int) - r.dp ≤ cntD s k
  hi : r.dp ≤ r.nd
  sw : r.dot = true → ∃ j, j < k ∧ s.data.toList[j]? = some 46
theorem dig_toNat {u : UInt8} (h : digB u = true) : 48 ≤ u.toNat ∧ u.toNat ≤ 57 := of_decide_eq_true h
theorem ROk.zero {s : ByteArray} : ROk s 0 ⟨0, false, 0, 0⟩ := ⟨rfl, Nat.zero_le _, by decide, by simp, by simp, fun h => by cases h⟩
theorem cntD_succ {s : ByteArray} {k : Nat} {u : UInt8} (hu : s.data.toList[k]? = some u) : cntD s (k + 1) = cntD s k + if digB u then 1 else 0 := by
  unfold cntD
  rw [take_succ' hu, List.filter_append, List.length_append]
  congr 1
  by_cases h : digB u = true <;> simp [h]
theorem ROk.step {s : ByteArray} {k : Nat} {r : Rs} {u : UInt8} (h : ROk s k r) (hu : s.data.toList[k]? = some u) (hd : digB u = true ∨ u = 46) : ROk s (k + 1) (stepR r u) := by
  have hc := cntD_succ hu
  have his : stepR r u = (s.data.toList.take (k + 1)).foldl stepR ⟨0, false, 0, 0⟩ := by rw [take_succ' hu, List.foldl_append, ← h.is]; rfl
  have h1 := h.nd
  have h2 := h.m
  have h3 := h.lo
  have h4 := h.hi
  by_cases h46 : u = 46
  · subst h46
    have e : stepR r 46 = { r with dot := true, dp := r.nd } := by unfold stepR; rw [if_pos rfl]
    rw [show digB 46 = false from by decide] at hc
    simp only [Bool.false_eq_true, if_false, Nat.add_zero] at hc
    rw [e] at his ⊢
    exact ⟨his, by rw [hc]; exact h1, h2, by dsimp only; omega, Int.le_refl _, fun _ => ⟨k, by omega, hu⟩⟩
  have hdg := hd.resolve_right h46
  have hn := dig_toNat hdg
  rw [hdg] at hc
  simp only [if_true] at hc
  by_cases h48 : u = 48 ∧ r.nd = 0
  · have e : stepR r u = { r with dp := r.dp - 1 } := by unfold stepR; rw [if_neg h46, if_pos h48]
    rw [e] at his ⊢
    exact ⟨his, by dsimp only; omega, h2, by dsimp only; omega, by dsimp only; omega, fun hh => let ⟨j, h5, h6⟩ := h.sw hh; ⟨j, by omega, h6⟩⟩
  · have e : stepR r u = { r with m := r.m * 10 + (u.toNat - 48), nd := r.nd + 1 } := by unfold stepR; rw [if_neg h46, if_neg h48]
    rw [e] at his ⊢
    exact ⟨his, by dsimp only; omega, by dsimp only; rw [Nat.pow_succ]; omega, by dsimp only; omega, by dsimp only; omega, fun hh => let ⟨j, h5, h6⟩ := h.sw hh; ⟨j, by omega, h6⟩⟩
theorem wrapV {x : Int} (h0 : 0 ≤ x) (h1 : x < 18446744073709551616) : IntKind.u64.wrap x = x := by simp [IntKind.wrap, IntKind.bits, IntKind.signed]; omega
theorem wrap8 {x : Int} (h0 : 0 ≤ x) (h1 : x < 256) : IntKind.u8.wrap x = x := by simp [IntKind.wrap, IntKind.bits, IntKind.signed]; omega
theorem pow_le15 {n : Nat} (h : n ≤ 15) : 10 ^ n ≤ 1000000000000000 := Nat.le_trans (Nat.pow_le_pow_right (by decide) h) (by decide)
theorem read_spec {s : ByteArray} (ht : numO s = true) (h : R (.returned (.tuple #[.int .u64 ((readR s).m : Nat), .int .i64 (expR (readR s)), .bool false, .bool false, .bool false, .int .i64 (s.size : Nat), .bool true])) σ) : Spec prog 201 #[.string s] σ R := by
  obtain ⟨hs0, hs16, ⟨u0, hu0, hd0⟩, hby, hcnt, huni⟩ := num_bytes ht
  have hlen : s.data.toList.length = s.size := Array.length_toList (xs := s.data)
  have hn0 := dig_toNat hd0
  have hg0 : s.data[0]? = some u0 := by rw [← Array.getElem?_toList]; exact hu0
  have hcle : ∀ k, cntD s k ≤ 15 := fun k => Nat.le_trans (List.Sublist.length_le ((List.take_sublist _ _).filter _)) hcnt
  have start63 : internal_strconv_readFloat.pt63 R s 0 0 false false false 0 false false 10 19 101 false false 0 0 0 σ := by
    suffices H : ∀ g k : Nat, ∀ r : Rs, s.size - k = g → k ≤ s.size → ROk s k r → internal_strconv_readFloat.pt63 R s (r.m : Nat) 0 false false false (k : Nat) false false 10 19 101 r.dot (decide (0 < k)) (r.nd : Nat) (r.nd : Nat) r.dp σ from H s.size 0 ⟨0, false, 0, 0⟩ rfl (Nat.zero_le _) .zero
    intro g
    induction g with
    | zero =>
      intro k r hg hk hr
      have hkn : k = s.size := by omega
      have er : r = readR s := by rw [hr.is, List.take_of_length_le (by omega)]; rfl
      have hc := hcle k
      have h1 := hr.nd
      have h3 := hr.lo
      have h4 := hr.hi
      refine internal_strconv_readFloat.pt63_of ⟨fun hlt => by omega, fun _ => ?_⟩
      rw [show decide (0 < k) = true from decide_eq_true (by omega)]
      have fin : ∀ x17 : Int, (r.m ≠ 0 → x17 - r.nd = expR r) → -100 ≤ x17 → x17 ≤ 100 → internal_strconv_readFloat.pt158 R s (r.m : Nat) 0 false false false (k : Nat) false false 10 101 (r.nd : Nat) x17 σ := fun x17 hx hlo hhi => by
        refine internal_strconv_readFloat.pt158_of ⟨fun hh => absurd hh (by decide), fun _ => internal_strconv_readFloat.pt166_of ⟨fun hlt => by omega, fun _ => ⟨fun hh => absurd hh (by decide), fun _ => internal_strconv_readFloat.pt234_of ⟨fun hm => ⟨by unfold I64; omega, internal_strconv_readFloat.pt240_of ⟨fun hh => (by cases hh), fun _ => ?_⟩⟩, fun hm => internal_strconv_readFloat.pt240_of ⟨fun hh => (by cases hh), fun _ => ?_⟩⟩⟩⟩⟩
        · rw [hx (by omega), hkn, er]; exact h
        · have hm0 : r.m = 0 := by omega
          have : expR (readR s) = 0 := by rw [← er]; unfold expR; rw [if_pos hm0]
          rw [this, ← hkn, ← er] at h; exact h
      refine internal_strconv_readFloat.pt146_of ⟨fun hh => (by cases hh), fun _ => ⟨fun hf => fin _ (fun hm => ?_) (by omega) (by omega), fun hf => fin _ (fun hm => ?_) (by omega) (by omega)⟩⟩
      · unfold expR; rw [if_neg hm, hf]; rfl
      · unfold expR; rw [if_neg hm, hf]; rfl
    | succ g ih =>
      intro k r hg hk hr
      obtain ⟨u, hu, hu'⟩ := byte_at (show k < s.size by omega)
      have hcl := hby u (List.mem_of_getElem? hu')
      have hst := hr.step hu' hcl
      have hnext := fun h64 => internal_strconv_readFloat.pt143_of (R := R) (σ := σ) (s0 := s) (x2 := ((stepR r u).m : Nat)) (x3 := 0) (t4 := false) (t5 := false) (t6 := false) (x7 := (k : Nat)) (t8 := false) (t9 := false) (x10 := 10) (x11 := 19) (x12 := 101) (t13 := (stepR r u).dot) (t14 := true) (x15 := ((stepR r u).nd : Nat)) (x16 := ((stepR r u).nd : Nat)) (x17 := (stepR r u).dp) ⟨h64, by
        have := ih (k + 1) (stepR r u) (by omega) (by omega) hst
        rw [show decide (0 < k + 1) = true from decide_eq_true (by omega)] at this
        exact_mod_cast this⟩
      have hnext := hnext (by unfold I64; omega)
      have hc := hcle k
      have h1 := hr.nd
      have h3 := hr.lo
      have h4 := hr.hi
      refine internal_strconv_readFloat.pt63_of ⟨fun _ => ⟨u, by omega, by simpa using hu, fun h95 => ?_, fun h95 => ⟨fun h46 => ⟨fun hdot => ?_, fun hdot => ?_⟩, fun h46 => ?_⟩⟩, fun hh => by omega⟩
      · exfalso
        rcases hcl with hd | rfl
        · have := dig_toNat hd; omega
        · exact absurd h95 (by decide)
      · exfalso
        obtain ⟨j, hj, hj'⟩ := hr.sw hdot
        have e : u = 46 := (byte48 (k := 46) (by decide)).1 h46
        rw [e] at hu'
        have := huni j k hj' hu'
        omega
      · have e : u = 46 := (byte48 (k := 46) (by decide)).1 h46
        have hk0 : 0 < k := by
          rcases Nat.eq_zero_or_pos k with h0 | h0
          · subst h0
            rw [hu0] at hu'; cases hu'
            rw [e] at hd0; exact absurd hd0 (by decide)
          · exact h0
        rw [show decide (0 < k) = true from decide_eq_true hk0]
        rw [show stepR r u = { r with dot := true, dp := r.nd } by unfold stepR; rw [if_pos e]] at hnext
        exact hnext
      have hd := hcl.resolve_right fun e => h46 ((byte48 (k := 46) (by decide)).2 e)
      have hn := dig_toNat hd
      have hne46 : u ≠ 46 := fun e => h46 ((byte48 (k := 46) (by decide)).2 e)
      have b48 := byte48 (u := u) (k := 48) (by decide)
      refine ⟨fun _ => ⟨fun _ => ?_, fun hh => by omega⟩, fun hh => by omega⟩
      have hm15 := Nat.lt_of_lt_of_le hr.m (pow_le15 (show r.nd ≤ 15 by omega))
      have digit : ¬ (u = 48 ∧ r.nd = 0) → I64 ((r.nd : Int) + 1) ∧ Br ((r.nd : Int) < 19) (Df (IntKind.u64.wrap ((r.m : Int) * 10)) fun x99 => Df (IntKind.u8.wrap (((UInt8.toNat u : Nat) : Int) - 48)) fun x102 => Df (IntKind.u64.wrap x102) fun x103 => Df (IntKind.u64.wrap (x99 + x103)) fun x104 => I64 ((r.nd : Int) + 1) ∧ internal_strconv_readFloat.pt143 R s x104 0 false false false (k : Nat) false false 10 19 101 r.dot true ((r.nd : Int) + 1) ((r.nd : Int) + 1) r.dp σ) (Br ((((UInt8.toNat u : Nat) : Int) : Int) ≠ 48) (internal_strconv_readFloat.pt143 R s (r.m : Nat) 0 false true false (k : Nat) false false 10 19 101 r.dot true ((r.nd : Int) + 1) (r.nd : Nat) r.dp σ) (internal_strconv_readFloat.pt143 R s (r.m : Nat) 0 false false false (k : Nat) false false 10 19 101 r.dot true ((r.nd : Int) + 1) (r.nd : Nat) r.dp σ)) := fun hno => by
        refine ⟨by unfold I64; omega, fun _ => fun x99 e99 x102 e102 x103 e103 x104 e104 => ⟨by unfold I64; omega, ?_⟩, fun hh => absurd (by omega) hh⟩
        rw [wrapV (by omega) (by omega)] at e99
        rw [wrap8 (by omega) (by omega)] at e102
        rw [wrapV (by omega) (by omega)] at e103
        rw [wrapV (by omega) (by omega)] at e104
        rw [show stepR r u = { r with m := r.m * 10 + (u.toNat - 48), nd := r.nd + 1 } by unfold stepR; rw [if_neg hne46, if_neg hno]] at hnext
        have : x104 = ((r.m * 10 + (u.toNat - 48) : Nat) : Int) := by omega
        rw [this]
        exact_mod_cast hnext
      refine ⟨fun h48 => ⟨fun hz => ⟨by unfold I64; omega, ?_⟩, fun hz => digit fun hh => hz (by omega)⟩, fun h48 => digit fun hh => h48 (b48.2 hh.1)⟩
      rw [show stepR r u = { r with dp := r.dp - 1 } by unfold stepR; rw [if_neg hne46, if_pos ⟨b48.1 h48, by omega⟩]] at hnext
      exact hnext
  have go27 : internal_strconv_readFloat.pt27 R s 0 0 false false false 0 false false σ := by
    refine internal_strconv_readFloat.pt27_of ⟨by unfold I64; omega, fun hlt => ⟨u0, by omega, by simpa using hg0, fun h48 => ⟨by unfold I64; omega, ?_⟩, fun _ => internal_strconv_readFloat.pt47_of start63⟩, fun _ => internal_strconv_readFloat.pt47_of start63⟩
    obtain ⟨u1, hu1, hu1'⟩ := byte_at (show 1 < s.size by omega)
    refine ⟨u1, by decide, by simpa using hu1, internal_strconv_lower.start fun x4 e4 => ⟨_, rfl, fun h120 => ?_, fun _ => internal_strconv_readFloat.pt47_of start63⟩⟩
    exfalso
    have low : ∀ i : Fin 12, Go.bits .or .u8 (((46 + i.1 : Nat)) : Int) 32 ≠ 120 := by decide
    have hr1 : 46 ≤ u1.toNat ∧ u1.toNat < 58 := by
      rcases hby u1 (List.mem_of_getElem? hu1') with hd | rfl
      · have := dig_toNat hd; omega
      · decide
    have := low ⟨u1.toNat - 46, by omega⟩
    rw [show 46 + (u1.toNat - 46) = u1.toNat by omega] at this
    exact this (by rw [← e4]; exact h120)
  refine internal_strconv_readFloat.start ⟨fun hh => by omega, fun _ => ⟨u0, by decide, by simpa using hg0, fun hh => by omega, fun _ => ⟨fun hh => by omega, fun _ => go27⟩⟩⟩
theorem special_spec {s : ByteArray} (ht : numO s = true) (h : R (.returned (.tuple #[.float .f64 0, .int .i64 0, .bool false])) σ) : Spec prog 200 #[.string s] σ R := by
  obtain ⟨hs0, hs16, ⟨u0, hu0, hd0⟩, hby, hcnt, huni⟩ := num_bytes ht
  have hn0 := dig_toNat hd0
  have hg0 : s.data[0]? = some u0 := by rw [← Array.getElem?_toList]; exact hu0
  refine internal_strconv_special.start ⟨fun hh => by omega, fun _ => ⟨u0, by decide, by simpa using hg0, fun hh => by omega, fun _ => internal_strconv_special.pt32_of ⟨fun hh => ?_, fun _ => ⟨fun hh => by omega, fun _ => internal_strconv_special.pt42_of ⟨fun hh => ?_, fun _ => ⟨fun hh => by omega, fun _ => internal_strconv_special.pt51_of ⟨fun hh => ?_, fun _ => internal_strconv_special.pt91_of h⟩⟩⟩⟩⟩⟩⟩
  · have := of_decide_eq_true hh; omega
  · have := of_decide_eq_true hh; omega
  · have := of_decide_eq_true hh; omega
theorem fof2_yn {x : Int} : YN prog 210 #[.int .u64 x] σ (.float .f64 x.toNat) := fun w _ => by
  rw [run_callFunc_extern Go.Proofs.Tryz.func210 (by kernel_rfl) (by kernel_rfl) (by kernel_rfl) (e := Extern.MathFloatBits.float64frombits) (by kernel_rfl)]
  rfl
theorem expR_le {s : ByteArray} (ht : numO s = true) : -15 ≤ expR (readR s) ∧ expR (readR s) ≤ 0 ∧ (readR s).m < 1000000000000000 := by
  obtain ⟨hs0, hs16, _, hby, hcnt, _⟩ := num_bytes ht
  have hlen : s.data.toList.length = s.size := Array.length_toList (xs := s.data)
  have H : ∀ k, k ≤ s.size → ROk s k ((s.data.toList.take k).foldl stepR ⟨0, false, 0, 0⟩) := fun k => by
    induction k with
    | zero => intro _; exact .zero
    | succ k ih =>
      intro hk
      obtain ⟨u, hu, hu'⟩ := byte_at (show k < s.size by omega)
      have := (ih (by omega)).step hu' (hby u (List.mem_of_getElem? hu'))
      rwa [take_succ' hu', List.foldl_append]
  have hr := H s.size (Nat.le_refl _)
  rw [List.take_of_length_le (by omega)] at hr
  have hc : cntD s s.size ≤ 15 := Nat.le_trans (List.Sublist.length_le ((List.take_sublist _ _).filter _)) hcnt
  have h1 := hr.nd
  have h3 := hr.lo
  have h4 := hr.hi
  have hm := Nat.lt_of_lt_of_le hr.m (pow_le15 (show _ ≤ 15 by omega))
  change (readR s).m < _ at hm
  change (readR s).nd ≤ _ at h1
  change ((readR s).nd : Int) - (readR s).dp ≤ _ at h3
  change (readR s).dp ≤ (readR s).nd at h4
  unfold expR
  split
  · exact ⟨by decide, by decide, hm⟩
  · split <;> omega
theorem exact_spec {m : Nat} {e : Int} (hg : Gl σ) (hm : m < 1000000000000000) (h1 : -15 ≤ e) (h2 : e ≤ 0) (h : ∀ x : Nat, (toF x : Nat) = (if e = 0 then toF (FloatKind.f64.nearest m) else arN 4 (FloatKind.f64.nearest m) (pow10.getD (-e).toNat 0)) → R (.returned (.tuple #[.float .f64 x, .bool true])) σ) :
    Spec prog 211 #[.int .u64 (m : Nat), .int .i64 e, .bool false] σ R := by
  refine internal_strconv_atof64exact.start ⟨52, hg.bits, by decide, fun x11 e11 => ⟨fun hh => ?_, fun _ => ?_⟩⟩
  · exfalso
    apply hh
    rw [e11]
    exact Int.ediv_eq_zero_of_lt (by omega) (by show (m : Int) < 4503599627370496; omega)
  refine eff_same (v := .float .f64 (FloatKind.f64.nearest m)) (fun w => by kernel_rfl) ⟨_, rfl, fun hh => (by cases hh), fun _ => internal_strconv_atof64exact.pt19_of ⟨fun h0 => h _ (by rw [if_pos h0]), fun h0 => ⟨fun hh => by omega, fun _ => ⟨fun _ => ⟨fun _ => ?_, fun hh => absurd (by omega) hh⟩, fun hh => absurd (by omega) hh⟩⟩⟩⟩
  obtain ⟨b, o, n, c, hp, hn, hl⟩ := hg.pow
  refine ⟨_, n, c, hp, fun x60 e60 => ?_⟩
  have e60' : x60 = -e := by rw [e60]; simp [IntKind.wrap, IntKind.bits, IntKind.signed]; omega
  have hlt : (-e).toNat < pow10.length := by show _ < 16; omega
  refine ⟨b, o, rfl, by omega, pow10.getD (-e).toNat 0, ?_, quo_eff fun y hy => ⟨_, rfl, h y (by rw [if_neg h0]; exact hy)⟩⟩
  rw [e60']
  exact hl _ _ (by rw [List.getD_eq_getElem?_getD, List.getElem?_eq_getElem hlt]; rfl)
theorem atof_spec {s : ByteArray} (hg : Gl σ) (ht : numO s = true) (h : ∀ x : Nat, ((toF x : Nat) : Int) = numI s → R (.returned (.tuple #[.float .f64 x, .int .i64 (s.size : Nat), .nilIface])) σ) : Spec prog 186 #[.string s] σ R := by
  obtain ⟨h1, h2, hm⟩ := expR_le ht
  refine internal_strconv_atof64.start (special_spec ht ⟨_, _, _, rfl, fun hh => (by cases hh), fun _ => read_spec ht ⟨_, _, _, _, _, _, _, rfl, fun hh => (by cases hh), fun _ => ⟨fun hh => (by cases hh), fun _ => ⟨true, hg.opt, fun _ => internal_strconv_bool2_uint64.start ⟨fun hh => (by cases hh), fun _ => ⟨_, rfl, by decide, fun x67 e67 => ?_⟩⟩, fun hh => (by cases hh)⟩⟩⟩⟩)
  have e67' : x67 = 0 := by rw [e67]; rfl
  subst e67'
  refine ⟨fun h0 => fun x71 e71 => .y fof2_yn ⟨_, rfl, h _ ?_⟩, fun h0 => ⟨fun hh => by omega, fun _ => ⟨fun hh => by omega, fun _ => ⟨fun _ => exact_spec hg hm h1 h2 fun x hx => ⟨_, _, rfl, fun _ => h x ?_, fun hh => (by cases hh)⟩, fun hh => (by cases hh)⟩⟩⟩⟩
  · have : x71 = 0 := by rw [e71]; decide
    rw [this]
    unfold numI
    rw [if_pos (by omega)]; rfl
  · unfold numI
    dsimp only
    rw [if_neg (by omega), hx]
    split <;> rfl
theorem number_spec {s : ByteArray} (hg : Gl σ) (ht : numO s = true) (h : R (.returned (.tuple #[.int .u64 (numI s), .bool true])) σ) : Spec prog 82 #[.string s] σ R := by
  obtain ⟨_, hs16, _⟩ := num_bytes ht
  refine wave_Number.start (wNumber_spec (by omega) ht ⟨_, rfl, fun hh => (by cases hh), fun _ => strconv_ParseFloat.start (internal_strconv_ParseFloat.start (internal_strconv_parseFloatPrefix.start ⟨fun hh => absurd hh (by decide), fun _ => atof_spec hg ht fun x hx => ⟨_, _, _, rfl, _, _, _, rfl, fun hh => absurd rfl hh, fun _ => ⟨_, _, rfl, false, fun w _ => by kernel_rfl, fun hh => (by cases hh), fun _ => ⟨_, _, rfl, to_spec ⟨_, rfl, by rw [hx]; exact h⟩⟩⟩⟩⟩))⟩)
end
end TwW
end
section
namespace TwW
open Go Tw Go.RowKit Go.Proofs.Tryz
def OutL {α : Type} (s : Nat) (E : Hp → List Value → α → Prop) (σ0 σ : Hp) (p : Option Addr) (n c : Nat) (xs : List α) : Prop := OwnL s E σ p n c xs ∧ Ext σ0 (σ.del p)
section
variable {α : Type} {s bs : Nat} {E : Hp → List Value → α → Prop} {σ0 σ σ' : Hp} {p : Option Addr} {n c : Nat} {xs : List α}
theorem OutL.nil (hx : Ext σ0 σ) : OutL s E σ0 σ none 0 0 [] := ⟨OwnL.nil, hx⟩
theorem OutL.mono (hE : Mono E) (h : OutL s E σ0 σ p n c xs) (hx : Ext σ σ') : OutL s E σ0 σ' p n c xs := ⟨h.1.mono hE hx, h.2.trans (hx.del p)⟩
theorem OutL.up (h : OutL s E σ0 σ p n c xs) : Ext σ0 σ := h.2.trans (Ext.of_del _ _)
theorem OutL.rd (hE : Mono E) (h : OutL s E σ0 σ p n c xs) : RdS s E σ p n xs := h.1.rd hE
theorem OutL.new (h : OutL s E σ0 σ p n c xs) (hx : Ext σ σ') : Ext (σ.new σ') (σ'.del p) := Ext.new_del (fun a ha => h.1.block a ha)
theorem OutL.app1 {P : Program} {T Et ty : TypeId} {vs : List Value} {x : α} {Φ : Value → Hp → Prop} (hE : Mono E) [SlT P T Et s bs] (h : OutL s E σ0 σ p n c xs) (hl : vs.length = s) (h1 : OneC vs) (hx : E (σ.del p) vs x) (hb : (n + 1) * bs ≤ 140737488355328)
    (hΦ : ∀ p' c' σ', OutL s E σ0 σ' p' (n + 1) c' (xs ++ [x]) → Ext (σ.del p) (σ'.del p') → Φ (.slice p' (n + 1) c') σ') {b : Nat} (hn : σ b = none) :
    Eff P (Builtin.append_ #[T, T] ty #[.slice p n c, .slice (some ⟨b, 0, none⟩) 1 1]) (σ.set b (.cells vs.toArray Et (0, 0))) Φ := by
  obtain ⟨⟨hlen, cs, ho, hc⟩, hx0⟩ := h
  refine app_eff (ho.mono (.set hn)) ⟨by rw [hl, Nat.one_mul], by omega, .inr ⟨b, 0, rfl, LdL.of fun j v hj => ?_⟩⟩ h1 hb fun p' c' σ' ho' hx' => ?_
  · simp [Hp.ld, Hp.set_same, hj]
  · have e : Ext (σ.del p) (σ'.del p') := ((Ext.set hn).del p).trans hx'
    exact hΦ p' c' σ' ⟨⟨by simp [hlen], _, ho', (hc.snoc hl hx).mono hE e⟩, hx0.trans e⟩ e
end
theorem EEl.one (σ : Hp) (vs : List Value) (x : El) (h : EEl σ vs x) : OneC vs := by
  obtain ⟨p, n, c, rfl, _⟩ := h
  intro u hu
  simp only [List.mem_cons, List.not_mem_nil, or_false] at hu
  rcases hu with rfl | rfl <;> rfl
theorem EEl.at {σ : Hp} {p : Option Addr} {n i : Nat} {l : List El} {x : El} (hr : RdS 2 EEl σ p n l) (hx : l[i]? = some x) : ∃ b o q m d, p = some ⟨b, o, none⟩ ∧ LdL σ b (o + i * 2) [.slice q m d, .int .u64 x.v] ∧ RdL σ q m x.ls := by
  obtain ⟨b, o, vs, hp, ⟨q, m, d, rfl, h⟩, hl⟩ := RdS.idx hr hx
  exact ⟨b, o, q, m, d, hp, hl, h⟩
section
variable {σ σ' σ0 : Hp} {R : Ending → Hp → Prop}
theorem conv_eff {p : Option Addr} {n c : Nat} {xs : List Int} {Φ : Value → Hp → Prop} (hr : RdI .u8 σ p n xs) (h : Φ (.string (strOfNums xs)) σ) : Eff prog (convert 107 9 (.slice p n c)) σ Φ := by
  refine Eff.pu (fun w hs => ?_) h
  have h1 := underlying107
  have h2 := underlying9
  by_cases hn : n = 0
  · subst hn
    have hx : xs = [] := List.eq_nil_of_length_eq_zero hr.1
    subst hx
    rw [run_convert_bytes_string w 107 9 _ p 0 c h1 underlying5 h2]
    cases p <;> simp [Conv.bytesToString, loadCells] <;> rfl
  · obtain ⟨x0, hx0⟩ := hr.ex (k := 0) (by omega)
    obtain ⟨b, o, rfl, _⟩ := hr.at hx0
    refine run_convert_bytes_arg w 107 _ h1 underlying5 b o n c xs hr.1 (fun i hi => ?_) 9 h2
    obtain ⟨x, hx⟩ := hr.ex hi
    obtain ⟨b', o', he, hl⟩ := hr.at hx
    cases he
    have := cell_of hs hl
    simpa [add_off, hx] using this
theorem eKey_spec {p : Option Addr} {n c : Nat} {ls : List Lb} (hr : RdL σ p n ls) (hs : SmallL ls) (h : ∀ σ', Ext σ σ' → R (.returned (.string (keyL ls))) σ') : Spec prog 28 #[.slice p n c] σ R :=
  eval_key.start (encodeL_spec hr hs fun p' n' c' σ' ho hx => ⟨_, _, _, rfl, conv_eff (OwnI.rd (Own.mono (Ext.of_new _ _) ho)) ⟨_, rfl, h σ' hx⟩⟩)
theorem eBare_spec {p : Option Addr} {n c : Nat} {ls : List Lb} (hr : RdL σ p n ls) (hn : n ≤ 1000000) (h : ∀ p' n' c' σ', RdL (σ.new σ') p' n' (bareF ls) → Ext σ σ' → R (.returned (.slice p' n' c')) σ') : Spec prog 88 #[.slice p n c] σ R := by
  refine eval_bare.start fun b hb => ?_
  have hx := Ext.set (o := .cells #[(.string (ByteArray.mk #[95, 95, 110, 97, 109, 101, 95, 95]))] 9 (0, 0)) hb
  refine without_spec (ns := [kName]) (hr.mono ELb.mono hx) hn (lit_rd (Hp.set_same _ _ _)) fun p' n' c' σ' ho hx' => ⟨_, _, _, rfl, h p' n' c' σ' ((ho.rd ELb.mono).mono ELb.mono (Ext.new_trans hx)) (hx.trans hx')⟩
theorem keep_spec {p q : Option Addr} {n c m d : Nat} {ls : List Lb} {ns : List ByteArray} (hr : RdL σ p n ls) (hn : n ≤ 1000000) (hs : RdC 1 σ q m (ns.map .string))
    (h : ∀ p' n' c' σ', RdL (σ.new σ') p' n' (keepF ns ls) → Ext σ σ' → R (.returned (.slice p' n' c')) σ') : Spec prog 91 #[.slice p n c, .slice q m d] σ R := by
  refine label_Keep.start fun b3 hb3 => ?_
  have hx3 : Ext σ (σ.set b3 (.cells #[.slice q m d] 50 (0, 0))) := .set hb3
  refine filter_spec (f := 137) (g := fun x => memS x.1 ns) label_Keep_1.en (hr.mono ELb.mono hx3) hn (fun σ' x R' hx hR' => ?_) fun p' n' c' σ' ho hx => ⟨_, _, _, rfl, h p' n' c' σ' ?_ (hx3.trans hx)⟩
  · refine label_Keep_1.start fun _ => ⟨q, m, d, ld_of (hx _ _ (Hp.set_same _ _ _)) rfl, containsS_spec (hs.mono (hx3.trans hx)) ⟨_, rfl, hR'⟩⟩
  · exact (ho.rd ELb.mono).mono ELb.mono (Ext.new_trans hx3)
theorem drop_spec {p q : Option Addr} {n c m d : Nat} {ls : List Lb} {ns : List ByteArray} (hr : RdL σ p n ls) (hn : n ≤ 1000000) (hs : RdC 1 σ q m (ns.map .string))
    (h : ∀ p' n' c' σ', RdL (σ.new σ') p' n' (bareF (dropF ns ls)) → Ext σ σ' → R (.returned (.slice p' n' c')) σ') {R' : Ending → Hp → Prop} (hR : ∀ p' n' c' σ', R (.returned (.slice p' n' c')) σ' → R' (.returned (.slice p' n' c')) σ') :
    Spec prog 92 #[.slice p n c, .slice q m d] σ (Cont R' (CS fun p15 n15 c15 y => Spec prog 88 #[.slice p15 n15 c15] y (Cont R' (CS fun p16 n16 c16 y_2 => R' (.returned (.slice p16 n16 c16)) y_2)))) := by
  refine without_spec hr hn hs fun p' n' c' σ1 ho hx => ⟨_, _, _, rfl, ?_⟩
  have hl : n' ≤ n := by
    have h1 := ho.1
    have h2 := List.length_filter_le (fun x : Lb => !memS x.1 ns) ls
    have h3 : ls.length = n := hr.1
    omega
  refine eBare_spec ((ho.rd ELb.mono).mono ELb.mono (Ext.of_new _ _)) (by omega) fun p2 n2 c2 σ2 hr2 hx2 => ⟨_, _, _, rfl, hR _ _ _ _ (h p2 n2 c2 σ2 (hr2.mono ELb.mono (Ext.new_trans hx)) (hx.trans hx2))⟩
theorem by_spec {n : Nd} {p q r : Option Addr} {k c m d j e : Nat} {ls : List Lb} (hr : RdL σ r j ls) (hj : j ≤ 1000000) (hs : RdC 1 σ q m (n.names.map .string))
    (h : ∀ p' n' c' σ', RdL (σ.new σ') p' n' (byF n ls) → Ext σ σ' → R (.returned (.slice p' n' c')) σ') : Spec prog 146 #[ndV n p k c q m d, .slice r j e] σ R := by
  refine eval_by.start fun _ => ⟨fun h3 => keep_spec hr hj hs fun p' n' c' σ' hr' hx => ⟨_, _, _, rfl, h p' n' c' σ' ?_ hx⟩, fun h3 => drop_spec hr hj hs (fun p' n' c' σ' hr' hx => h p' n' c' σ' ?_ hx) fun _ _ _ _ hh => hh⟩
  · unfold byF; rw [if_pos h3]; exact hr'
  · unfold byF; rw [if_neg h3]; exact hr'
theorem SmallL.filter {ls : List Lb} (g : Lb → Bool) (h : SmallL ls) : SmallL (ls.filter g) := ⟨Nat.le_trans (List.length_filter_le _ _) h.1, fun x hx => h.2 x (List.mem_filter.1 hx).1⟩
theorem SmallL.bare {ls : List Lb} (h : SmallL ls) : SmallL (bareF ls) := h.filter _
theorem SmallL.byF {n : Nd} {ls : List Lb} (h : SmallL ls) : SmallL (TwW.byF n ls) := by
  unfold TwW.byF keepF bareF dropF
  split
  · exact h.filter _
  · exact (h.filter _).filter _
structure RetV (R : Ending → Hp → Prop) (σ : Hp) (X : Option Vv) : Prop where
  ok : ∀ x σ' p n c q m d, X = some x → Ext σ σ' → RdS 2 EEl σ' p n x.vec → RdS 2 ERg σ' q m x.rng → n ≤ c → m ≤ d → R (.returned (.tuple #[.agg #[.int .i64 x.kind, .int .u64 x.v, .slice p n c, .slice q m d], .int .i64 0])) σ'
  no : X = none → ∀ σ', Ext σ σ' → R (.returned (.tuple #[.agg #[.int .i64 0, .int .u64 0, .slice none 0 0, .slice none 0 0], .int .i64 223])) σ'
theorem RetV.weak {X : Option Vv} (h : RetV R σ X) (hx : Ext σ σ') : RetV R σ' X := ⟨fun x σ2 p n c q m d h0 h1 h2 h3 => h.ok x σ2 p n c q m d h0 (hx.trans h1) h2 h3, fun h0 σ2 h1 => h.no h0 σ2 (hx.trans h1)⟩
theorem RetV.thru {X : Option Vv} (h : RetV R σ X) : RetV (Cont R (fun z y => ∃ x53aa x53ab p53ac n53ac c53ac p53ad n53ad c53ad x53b, z = (.tuple #[.agg #[.int .i64 x53aa, .int .u64 x53ab, .slice p53ac n53ac c53ac, .slice p53ad n53ad c53ad], .int .i64 x53b]) ∧ R (.returned (.tuple #[.agg #[.int .i64 x53aa, .int .u64 x53ab, .slice p53ac n53ac c53ac, .slice p53ad n53ad c53ad], .int .i64 x53b])) y)) σ X :=
  ⟨fun x σ' p n c q m d h0 h1 h2 h3 h4 h5 => ⟨_, _, _, _, _, _, _, _, _, rfl, h.ok x σ' p n c q m d h0 h1 h2 h3 h4 h5⟩, fun h0 σ' h1 => ⟨_, _, _, _, _, _, _, _, _, rfl, h.no h0 σ' h1⟩⟩
theorem vec1_spec [Cnt] {p q : Option Addr} {n c m d : Nat} {v u : Int} {ls ms : List Lb} (hr : RdL σ p n ls) (hs : RdL σ q m ms) (h : ∀ σ', Ext σ σ' → R (.returned (.int .i64 (cmpLs ls ms))) σ') : Spec prog 135 #[.agg #[.slice p n c, .int .u64 v], .agg #[.slice q m d, .int .u64 u]] σ R :=
  eval_vector_1.start fun _ _ => cmpL_spec hr hs fun σ' hx => ⟨_, rfl, h σ' hx⟩
end
end TwW
end
section
namespace TwW
open Go Tw Go.RowKit Go.Proofs.Tryz
def overI (op : Int) (vs : List Int) (w : Int) : Option Int :=
  if op = 4 then some (sumI vs) else if op = 5 then some (ari 4 (sumI vs) (wholeI vs.length)) else if op = 6 then some (bestI 7 vs) else if op = 7 then some (bestI 9 vs) else if op = 8 then some (wholeI vs.length)
  else if op = 9 then some (nrm (vs.getLast?.getD 0)) else if op = 10 then some (strongI vs) else if vs.length < 2 then none
  else if op = 3 then some (ari 2 (vs.getLast?.getD 0) (vs.head?.getD 0)) else if op = 2 then some (growI vs) else some (ari 4 (growI vs) w)
def foldI (op : Int) (vs : List Int) : Int := if op = 1 then sumI vs else if op = 2 then bestI 7 vs else if op = 3 then bestI 9 vs else if op = 4 then ari 4 (sumI vs) (wholeI vs.length) else wholeI vs.length
def singI (op a b : Int) : Int × Bool := if 1 ≤ op ∧ op ≤ 4 then (ari op a b, true) else (if cmpI op a b then wholeI 1 else wholeI 0, cmpI op a b)
def FF : Fl := { num := numI, abs := absI, floor := floorI, whole := wholeI, turn := turnI, over := overI, fold := foldI, sing := singI, says := saysF, cmpL := cmpLs }
structure AskAt (σ : Hp) (ab : Nat) (ss : List Sr) (t : Int) : Prop where
  ser : ∃ p n c, σ.ld ⟨ab, 0, none⟩ = some (.slice p n c) ∧ RdS 2 ESr σ p n ss
  at_ : σ.ld ⟨ab, 1, none⟩ = some (.int .i64 t)
theorem AskAt.mono {σ σ' : Hp} {ab : Nat} {ss : List Sr} {t : Int} (h : AskAt σ ab ss t) (hx : Ext σ σ') : AskAt σ' ab ss t := ⟨let ⟨p, n, c, h1, h2⟩ := h.ser; ⟨p, n, c, hx.ld h1, h2.mono ESr.mono hx⟩, hx.ld h.at_⟩
structure SsOk (ss : List Sr) : Prop where
  ris : ∀ s ∈ ss, risP s.ps
  sm : ∀ s ∈ ss, SmallL s.ls
  len : ss.length ≤ 10000000
structure NdOk (n : Nd) : Prop where
  mki : ∀ x ∈ n.mt, 1 ≤ x.kind ∧ x.kind ≤ 4
  mv : ∀ x ∈ n.mt, x.val.size ≤ 1000000
  back : 0 ≤ n.back ∧ n.back < 2147483648
  width : 0 ≤ n.width ∧ n.width < 2147483648
section
variable {σ σ' σ0 : Hp} {R : Ending → Hp → Prop}
theorem asker_number_spec {n : Nd} {a p q l : Option Addr} {k c m d j e : Nat} (hg : Gl σ) (ht : numO n.text = true) (h : RetV R σ (some ⟨1, numI n.text, [], []⟩)) : Spec prog 60 #[.pointer a, ndV n p k c q m d, .slice l j e] σ R :=
  eval_asker_number.start fun _ _ => number_spec hg ht ⟨_, _, rfl, h.ok _ σ none 0 0 none 0 0 rfl (.refl _) RdS.nil RdS.nil (Nat.le_refl _) (Nat.le_refl _)⟩
theorem single_spec {n : Nd} {p q : Option Addr} {k c m d : Nat} {a b : Int} (h : R (.returned (.tuple #[.int .u64 (singI n.op a b).1, .bool (singI n.op a b).2])) σ) : Spec prog 98 #[ndV n p k c q m d, .int .u64 a, .int .u64 b] σ R := by
  refine eval_single.start fun _ => arith_spec ?_
  unfold singI at h
  by_cases h1 : 1 ≤ n.op ∧ n.op ≤ 4
  · rw [if_pos h1] at h ⊢
    exact ⟨_, _, rfl, fun _ => h, fun hh => (by cases hh)⟩
  · rw [if_neg h1] at h ⊢
    exact ⟨_, _, rfl, fun hh => (by cases hh), fun _ => compare_spec ⟨_, _, rfl, truth_spec ⟨_, rfl, h⟩⟩⟩
theorem fmap_succ {α β : Type} {f : α → Option β} {xs : List α} {k : Nat} {x : α} (hx : xs[k]? = some x) : (xs.take (k + 1)).filterMap f = (xs.take k).filterMap f ++ (f x).toList := by
  rw [take_succ' hx, List.filterMap_append]
  cases h : f x <;> simp [List.filterMap_cons, h]
theorem choice_spec {n : Nd} {p q l : Option Addr} {k c m d j e ab : Nat} {ss : List Sr} {t : Int} (hA : AskAt σ ab ss t) (hg : Gl σ) (hm : RdS 3 EMt σ p k n.mt) (hS : SsOk ss) (hN : NdOk n) (ht : -4611686018427387904 ≤ t ∧ t ≤ 4611686018427387904)
    (h : RetV R σ (some ⟨2, 0, choiceF FF n ss t, []⟩)) : Spec prog 61 #[.pointer (some ⟨ab, 0, none⟩), ndV n p k c q m d, .slice l j e] σ R := by
  obtain ⟨pss, nss, css, hld, hr⟩ := hA.ser
  have hl : ss.length = nss := hr.1
  have hlen := hS.len
  have hb := hN.back
  let f : Sr → Option El := fun s => match (ptsF s.ps (t - n.back - 300) (t - n.back)).getLast? with
    | none => none
    | some p => if p.2 = stale ∨ FF.says n.mt s.ls = false then none else some ⟨s.ls, p.2⟩
  have hf : choiceF FF n ss t = ss.filterMap f := rfl
  rw [hf] at h
  refine eval_asker_choice.start fun _ _ _ => ⟨ab, 0, rfl, pss, nss, css, hld, ?_⟩
  suffices H : ∀ g i : Nat, ∀ p8 n8 c8 σ', nss - i = g → i ≤ nss → OutL 2 EEl σ σ' p8 n8 c8 ((ss.take i).filterMap f) → eval_asker_choice.pt10 R (aD ab 0) n.kind n.op n.text p k c n.width n.back n.grp q m d n.bool n.parts 0 0 none 0 0 none 0 0 2 0 p8 n8 c8 none 0 0 pss nss css nss i σ' from H nss 0 none 0 0 σ rfl (Nat.zero_le _) (OutL.nil (.refl _))
  intro g
  induction g with
  | zero =>
    intro i p8 n8 c8 σ' hgi hi ho
    rw [List.take_of_length_le (by omega)] at ho
    exact eval_asker_choice.pt10_of ⟨fun hlt => by omega, fun _ => h.ok _ σ' p8 n8 c8 none 0 0 rfl ho.up (ho.rd EEl.mono) RdS.nil (by obtain ⟨cs, hoo, _⟩ := ho.1.2; exact Own.cap hoo) (Nat.le_refl _)⟩
  | succ g ih =>
    intro i p8 n8 c8 σ' hgi hi ho
    have hi' : i < nss := by omega
    obtain ⟨s, hs⟩ := hr.ex hi'
    obtain ⟨b, o, p1, n1, c1, q1, m1, d1, rfl, hls, h1, h2, h3⟩ := ESr.at hr hs
    have hsm := hS.sm s (List.mem_of_getElem? hs)
    have hris := hS.ris s (List.mem_of_getElem? hs)
    have hx := ho.up
    have hn8 : n8 ≤ i := by
      have := ho.1.1
      have h9 := List.length_filterMap_le f (ss.take i)
      rw [List.length_take] at h9
      omega
    have next : ∀ p9 n9 c9 σ2, OutL 2 EEl σ σ2 p9 n9 c9 ((ss.take i).filterMap f ++ (f s).toList) → eval_asker_choice.pt28 R (aD ab 0) n.kind n.op n.text p k c n.width n.back n.grp q m d n.bool n.parts 0 0 none 0 0 none 0 0 2 0 p9 n9 c9 none 0 0 (aD b o) nss css nss i σ2 := fun p9 n9 c9 σ2 ho2 =>
      eval_asker_choice.pt28_of ⟨i64_succ hi' hr.big, ih (i + 1) _ _ _ _ (by omega) (by omega) (by rw [fmap_succ hs]; exact ho2)⟩
    refine eval_asker_choice.pt10_of ⟨fun _ => ⟨b, o, rfl, by omega, p1, n1, c1, q1, m1, d1, by simpa using hls.mono hx, fun _ => ⟨ab, 0, rfl, t, hx.ld hA.at_, by unfold I64; omega, by unfold I64; omega, t, hx.ld hA.at_, by unfold I64; omega, points_spec (h2.mono EPt.mono hx) h3 hris fun q2 m2 d2 hr2 hmd => ⟨q2, m2, d2, rfl, fun h0 => ?_, fun h0 => ?_⟩⟩⟩, fun hh => by omega⟩
    · refine next _ _ _ _ ?_
      have e : f s = none := by
        show (match (ptsF s.ps (t - n.back - 300) (t - n.back)).getLast? with | none => none | some p => _) = none
        have hl2 : (ptsF s.ps (t - n.back - 300) (t - n.back)).length = m2 := hr2.1
        rw [List.length_eq_zero_iff.1 (show (ptsF s.ps (t - n.back - 300) (t - n.back)).length = 0 by omega)]; rfl
      rw [e]; simpa using ho
    have hl2 : (ptsF s.ps (t - n.back - 300) (t - n.back)).length = m2 := hr2.1
    obtain ⟨y, hy⟩ := hr2.ex (k := m2 - 1) (by omega)
    obtain ⟨b2, o2, rfl, hly⟩ := EPt.at hr2 hy
    have e1 : Int.toNat ((m2 : Int) - 1) = m2 - 1 := by omega
    have hbig := hr2.big
    have elast : (ptsF s.ps (t - n.back - 300) (t - n.back)).getLast? = some y := by rw [List.getLast?_eq_getElem?, hl2, hy]
    have ef : f s = if y.2 = stale ∨ saysF n.mt s.ls = false then none else some ⟨s.ls, y.2⟩ := by
      show (match (ptsF s.ps (t - n.back - 300) (t - n.back)).getLast? with | none => none | some p => _) = _
      rw [elast]; rfl
    refine ⟨by unfold I64; omega, b2, o2, rfl, by omega, y.2, by rw [e1]; exact hly.2.1, fun hst => ?_, fun hst => says_spec ((hg.mono hx)) (hm.mono EMt.mono hx) (h1.mono ELb.mono hx) hN.mv (fun x hx => by have := (hsm.2 x hx).2; omega) hN.mki fun σ2 hx2 => ⟨_, rfl, fun hf => ?_, fun htr => ?_⟩⟩
    · refine next _ _ _ _ ?_
      rw [ef, if_pos (.inl hst)]; simpa using ho
    · refine next _ _ _ _ ?_
      rw [ef, if_pos (.inr hf)]
      simpa using ho.mono EEl.mono hx2
    · refine ⟨by unfold I64; omega, by omega, y.2, by rw [e1]; exact hx2.ld hly.2.1, fun b73 hb73 => ?_⟩
      have ho2 := ho.mono EEl.mono hx2
      have he : EEl (σ2.del p8) [.slice p1 n1 c1, .int .u64 y.2] ⟨s.ls, y.2⟩ := ⟨p1, n1, c1, rfl, h1.mono ELb.mono ho2.2⟩
      refine OutL.app1 EEl.mono ho2 rfl (EEl.one _ _ _ he) he (by omega) (fun p' c' σ3 ho3 _ => ⟨_, _, _, rfl, next _ _ _ _ ?_⟩) hb73
      rw [ef, if_neg (by rintro (h5 | h5)
                         · exact hst h5
                         · rw [htr] at h5; cases h5)]
      exact ho3
theorem Own.del_ne {s : Nat} {p q : Option Addr} {n c : Nat} {cs : List Value} (ho : Own s σ q n c cs) (h : ∀ a, q = some a → ∀ a', p = some a' → a.block ≠ a'.block) : Own s (σ.del p) q n c cs :=
  ⟨ho.1, ho.2.1, ho.2.2.imp id fun ⟨b', o', arr, T, hp, hb, r⟩ => ⟨b', o', arr, T, hp, del_some.2 ⟨fun a' ha' => h _ hp a' ha', hb⟩, r⟩⟩
theorem OutL.sep {α : Type} {s : Nat} {E : Hp → List Value → α → Prop} {p q : Option Addr} {n c m d : Nat} {xs : List α} {ys : List Int} (h : OutL s E σ0 σ p n c xs) (g : OutL 1 (EInt .u64) σ σ' q m d ys) : RdI .u64 (σ'.del p) q m ys ∧ m ≤ d := by
  obtain ⟨⟨_, cs, ho, hc⟩, hx⟩ := g
  have hp := h.1.block
  refine ⟨?_, Own.cap ho⟩
  have hcs := Ch_int.1 hc
  subst hcs
  refine RdI.of_rdc (Own.rd (Own.del_ne ho fun a ha a' ha' e => ?_))
  cases hh : σ a'.block with
  | none => exact hp a' ha' hh
  | some u => exact (del_some.1 (hx _ _ hh)).1 a ha e.symm
theorem ERg.one (σ : Hp) (vs : List Value) (x : Rg) (h : ERg σ vs x) : OneC vs := by
  obtain ⟨p, n, c, q, m, d, rfl, _⟩ := h
  intro u hu
  simp only [List.mem_cons, List.not_mem_nil, or_false] at hu
  rcases hu with rfl | rfl <;> rfl
theorem reach_spec {n : Nd} {p q l : Option Addr} {k c m d j e ab : Nat} {ss : List Sr} {t : Int} (hA : AskAt σ ab ss t) (hg : Gl σ) (hm : RdS 3 EMt σ p k n.mt) (hS : SsOk ss) (hN : NdOk n) (ht : -4611686018427387904 ≤ t ∧ t ≤ 4611686018427387904) (hpl : ∀ s ∈ ss, s.ps.length ≤ 1000000000)
    (h : RetV R σ (some ⟨3, wholeI n.width, [], reachF FF n ss t⟩)) : Spec prog 62 #[.pointer (some ⟨ab, 0, none⟩), ndV n p k c q m d, .slice l j e] σ R := by
  obtain ⟨pss, nss, css, hld, hr⟩ := hA.ser
  have hl : ss.length = nss := hr.1
  have hlen := hS.len
  have hb := hN.back
  have hw := hN.width
  let fv : Sr → List Int := fun s => ((ptsF s.ps (t - n.back - n.width) (t - n.back)).filter fun p => decide (p.2 ≠ stale)).map Prod.snd
  let f : Sr → Option Rg := fun s => bif !(fv s).isEmpty && FF.says n.mt s.ls then some ⟨s.ls, fv s⟩ else none
  have hf : reachF FF n ss t = ss.filterMap f := rfl
  rw [hf] at h
  refine eval_asker_reach.start fun _ _ => whole_spec ⟨_, rfl, fun _ => ⟨ab, 0, rfl, pss, nss, css, hld, ?_⟩⟩
  suffices H : ∀ g i : Nat, ∀ p8 n8 c8 σ', nss - i = g → i ≤ nss → OutL 2 ERg σ σ' p8 n8 c8 ((ss.take i).filterMap f) → eval_asker_reach.pt10 R (aD ab 0) n.kind n.op n.text p k c n.width n.back n.grp q m d n.bool n.parts 0 0 none 0 0 none 0 0 3 (wholeI n.width) none 0 0 p8 n8 c8 pss nss css nss i σ' from H nss 0 none 0 0 σ rfl (Nat.zero_le _) (OutL.nil (.refl _))
  intro g
  induction g with
  | zero =>
    intro i p8 n8 c8 σ' hgi hi ho
    rw [List.take_of_length_le (by omega)] at ho
    exact eval_asker_reach.pt10_of ⟨fun hlt => by omega, fun _ => h.ok _ σ' none 0 0 p8 n8 c8 rfl ho.up RdS.nil (ho.rd ERg.mono) (Nat.le_refl _) (by obtain ⟨cs, hoo, _⟩ := ho.1.2; exact Own.cap hoo)⟩
  | succ g ih =>
    intro i p8 n8 c8 σ' hgi hi ho
    have hi' : i < nss := by omega
    obtain ⟨s, hs⟩ := hr.ex hi'
    obtain ⟨b, o, p1, n1, c1, q1, m1, d1, rfl, hls, h1, h2, h3⟩ := ESr.at hr hs
    have hsm := hS.sm s (List.mem_of_getElem? hs)
    have hris := hS.ris s (List.mem_of_getElem? hs)
    have hpl1 := hpl s (List.mem_of_getElem? hs)
    have hx := ho.up
    have hn8 : n8 ≤ i := by
      have := ho.1.1
      have h9 := List.length_filterMap_le f (ss.take i)
      rw [List.length_take] at h9
      omega
    have next : ∀ p9 n9 c9 σ2, OutL 2 ERg σ σ2 p9 n9 c9 ((ss.take i).filterMap f ++ (f s).toList) → eval_asker_reach.pt47 R (aD ab 0) n.kind n.op n.text p k c n.width n.back n.grp q m d n.bool n.parts 0 0 none 0 0 none 0 0 3 (wholeI n.width) none 0 0 p9 n9 c9 (aD b o) nss css nss i σ2 := fun p9 n9 c9 σ2 ho2 =>
      eval_asker_reach.pt47_of ⟨i64_succ hi' hr.big, ih (i + 1) _ _ _ _ (by omega) (by omega) (by rw [fmap_succ hs]; exact ho2)⟩
    refine eval_asker_reach.pt10_of ⟨fun _ => ⟨b, o, rfl, by omega, p1, n1, c1, q1, m1, d1, by simpa using hls.mono hx, fun _ => ⟨ab, 0, rfl, t, hx.ld hA.at_, by unfold I64; omega, by unfold I64; omega, t, hx.ld hA.at_, by unfold I64; omega, points_spec (h2.mono EPt.mono hx) h3 hris fun q2 m2 d2 hr2 hmd => ⟨q2, m2, d2, rfl, ?_⟩⟩⟩, fun hh => by omega⟩
    have hl2 : (ptsF s.ps (t - n.back - n.width) (t - n.back)).length = m2 := hr2.1
    have hm2 : m2 ≤ 1000000000 := by
      have := List.length_filter_le (fun p : Int × Int => decide (t - n.back - n.width < p.1) && decide (p.1 ≤ t - n.back)) s.ps
      rw [← hl2]; unfold ptsF; omega
    have hfv : fv s = ((ptsF s.ps (t - n.back - n.width) (t - n.back)).filter fun p => decide (p.2 ≠ stale)).map Prod.snd := rfl
    generalize ptsF s.ps (t - n.back - n.width) (t - n.back) = ps at *
    let gv : Pt → Option Int := fun p => if p.2 ≠ stale then some p.2 else none
    have hgv : ∀ l : List Pt, ((l.filter fun p => decide (p.2 ≠ stale)).map Prod.snd) = l.filterMap gv := fun l => by
      induction l with
      | nil => rfl
      | cons a l ih =>
        by_cases ha : a.2 ≠ stale
        · rw [List.filter_cons_of_pos (by simpa using ha), List.map_cons, ih, List.filterMap_cons_some (by show (if a.2 ≠ stale then some a.2 else none) = some a.2; rw [if_pos ha])]
        · rw [List.filter_cons_of_neg (by simpa using ha), ih, List.filterMap_cons_none (by show (if a.2 ≠ stale then some a.2 else none) = none; rw [if_neg ha])]
    rw [hgv] at hfv
    suffices H2 : ∀ g2 i2 : Nat, ∀ q2' p11 n11 c11 σ2, (0 < m2 → q2' = q2) → m2 - i2 = g2 → i2 ≤ m2 → OutL 1 (EInt .u64) σ' σ2 p11 n11 c11 ((ps.take i2).filterMap gv) → eval_asker_reach.pt27 R (aD ab 0) n.kind n.op n.text p k c n.width n.back n.grp q m d n.bool n.parts 0 0 none 0 0 none 0 0 3 (wholeI n.width) none 0 0 p8 n8 c8 p1 n1 c1 q1 m1 d1 p11 n11 c11 (aD b o) nss css nss i q2' m2 d2 m2 i2 σ2 from H2 m2 0 q2 none 0 0 σ' (fun _ => rfl) rfl (Nat.zero_le _) (OutL.nil (.refl _))
    intro g2
    induction g2 with
    | zero =>
      intro i2 q2' p11 n11 c11 σ2 hq hg2 hi2 ho2
      rw [List.take_of_length_le (by omega), ← hfv] at ho2
      have hlv : (fv s).length = n11 := ho2.1.1
      have hoo := ho.mono ERg.mono ho2.up
      refine eval_asker_reach.pt27_of ⟨fun hlt => by omega, fun _ => ⟨fun hpos => says_spec (hg.mono (hx.trans ho2.up)) (hm.mono EMt.mono (hx.trans ho2.up)) (h1.mono ELb.mono (hx.trans ho2.up)) hN.mv (fun x hx => by have := (hsm.2 x hx).2; omega) hN.mki fun σ3 hx3 => ⟨_, rfl, fun htr => ?_, fun hfa => ?_⟩, fun hpos => ?_⟩⟩
      · intro b77 hb77
        obtain ⟨hv1, hv2⟩ := ho.sep (ho2.mono (EInt.mono _) hx3)
        have ho3 := hoo.mono ERg.mono hx3
        have he : ERg (σ3.del p8) [.slice p1 n1 c1, .slice p11 n11 c11] ⟨s.ls, fv s⟩ := ⟨p1, n1, c1, p11, n11, c11, rfl, h1.mono ELb.mono ho3.2, hv1, hv2⟩
        refine OutL.app1 ERg.mono ho3 rfl (ERg.one _ _ _ he) he (by omega) (fun p' c' σ4 ho4 _ => ⟨_, _, _, rfl, next _ _ _ _ ?_⟩) hb77
        have ef : f s = some ⟨s.ls, fv s⟩ := by
          show (bif !(fv s).isEmpty && saysF n.mt s.ls then some _ else none) = _
          rw [htr]
          cases hfe : fv s with
          | nil => rw [hfe] at hlv; simp at hlv; omega
          | cons a l => rfl
        rw [ef]; exact ho4
      · refine next _ _ _ _ ?_
        have ef : f s = none := by
          show (bif !(fv s).isEmpty && saysF n.mt s.ls then some _ else none) = _
          rw [hfa, Bool.and_false]; rfl
        rw [ef]; simpa using hoo.mono ERg.mono hx3
      · refine next _ _ _ _ ?_
        have ef : f s = none := by
          show (bif !(fv s).isEmpty && saysF n.mt s.ls then some _ else none) = _
          rw [List.length_eq_zero_iff.1 (show (fv s).length = 0 by omega)]; rfl
        rw [ef]; simpa using hoo
    | succ g2 ih2 =>
      intro i2 q2' p11 n11 c11 σ2 hq hg2 hi2 ho2
      have hi2' : i2 < m2 := by omega
      obtain ⟨y, hy⟩ := hr2.ex hi2'
      obtain ⟨b2, o2, he2, hly⟩ := EPt.at hr2 hy
      have hn11 : n11 ≤ i2 := by
        have := ho2.1.1
        have h9 := List.length_filterMap_le gv (ps.take i2)
        rw [List.length_take] at h9
        omega
      rw [hq (by omega), he2]
      have nx : ∀ p9 n9 c9 σ3, OutL 1 (EInt .u64) σ' σ3 p9 n9 c9 ((ps.take i2).filterMap gv ++ (gv y).toList) → eval_asker_reach.pt41 R (aD ab 0) n.kind n.op n.text p k c n.width n.back n.grp q m d n.bool n.parts 0 0 none 0 0 none 0 0 3 (wholeI n.width) none 0 0 p8 n8 c8 p1 n1 c1 q1 m1 d1 p9 n9 c9 (aD b o) nss css nss i (aD b2 o2) m2 d2 m2 i2 σ3 := fun p9 n9 c9 σ3 ho3 =>
        eval_asker_reach.pt41_of ⟨i64_succ hi2' hr2.big, ih2 (i2 + 1) _ _ _ _ _ (fun _ => he2.symm) (by omega) (by omega) (by rw [fmap_succ hy]; exact ho3)⟩
      refine eval_asker_reach.pt27_of ⟨fun _ => ⟨b2, o2, rfl, by omega, y.1, y.2, by simpa using hly.mono ho2.up, fun _ => ⟨fun hne => fun b58 hb58 => ?_, fun heq => nx _ _ _ _ ?_⟩⟩, fun hh => by omega⟩
      · refine OutL.app1 (EInt.mono _) ho2 (vs := [.int .u64 y.2]) (x := y.2) rfl (fun u hu => by rw [List.mem_singleton] at hu; subst hu; rfl) rfl (by omega) (fun p' c' σ4 ho4 _ => ⟨_, _, _, rfl, nx _ _ _ _ ?_⟩) hb58
        rw [show gv y = some y.2 from if_pos hne]; exact ho4
      · rw [show gv y = none from if_neg (by simpa using heq)]; simpa using ho2
end
end TwW
end
section
namespace TwW
open Go Tw Go.RowKit Go.Proofs.Tryz
def fnT : List (Nat × Nat) := [(162, 132), (162, 130), (162, 128), (160, 93), (160, 96), (160, 94), (160, 95), (160, 97), (160, 124), (160, 126)]
def FnRow (σ : Hp) (fb : Nat) : Prop := ∀ i g f, fnT[i]? = some (g, f) → ∃ b T, σ.ld ⟨fb, i + 1, none⟩ = some (.func (.func g) #[] #[.pointer (aD b 0)]) ∧ σ b = some (.cells #[.func (.func f) #[] #[]] T (0, 0))
theorem FnRow.mono {σ σ' : Hp} {fb : Nat} (h : FnRow σ fb) (hx : Ext σ σ') : FnRow σ' fb := fun i g f hi => let ⟨b, T, h1, h2⟩ := h i g f hi; ⟨b, T, hx.ld h1, hx _ _ h2⟩
section
variable {σ σ' σ0 : Hp} {R : Ending → Hp → Prop}
theorem functions_spec (h : ∀ fb σ', FnRow (σ.new σ') fb → Ext σ σ' → R (.returned (.slice (aD fb 0) 11 11)) σ') : Spec prog 89 #[] σ R := by
  refine eval_functions.start ?_
  refine eval_always.start fun b1 h1 => ⟨_, _, _, rfl, ?_⟩
  refine eval_always.start fun b2 h2 => ⟨_, _, _, rfl, ?_⟩
  refine eval_always.start fun b3 h3 => ⟨_, _, _, rfl, ?_⟩
  refine eval_always.start fun b4 h4 => ⟨_, _, _, rfl, ?_⟩
  refine eval_always.start fun b5 h5 => ⟨_, _, _, rfl, ?_⟩
  refine eval_always.start fun b6 h6 => ⟨_, _, _, rfl, ?_⟩
  refine eval_always.start fun b7 h7 => ⟨_, _, _, rfl, ?_⟩
  refine eval_two.start fun b8 h8 => ⟨_, _, _, rfl, ?_⟩
  refine eval_two.start fun b9 h9 => ⟨_, _, _, rfl, ?_⟩
  refine eval_two.start fun b10 h10 => ⟨_, _, _, rfl, ?_⟩
  intro fb hfb
  have x10 := Ext.set (o := .cells #[.nilFunc, .func (.func 162) #[] #[.pointer (aD b10 0)], .func (.func 162) #[] #[.pointer (aD b9 0)], .func (.func 162) #[] #[.pointer (aD b8 0)], .func (.func 160) #[] #[.pointer (aD b1 0)], .func (.func 160) #[] #[.pointer (aD b2 0)], .func (.func 160) #[] #[.pointer (aD b3 0)], .func (.func 160) #[] #[.pointer (aD b4 0)], .func (.func 160) #[] #[.pointer (aD b5 0)], .func (.func 160) #[] #[.pointer (aD b6 0)], .func (.func 160) #[] #[.pointer (aD b7 0)]] 143 (0, 0)) hfb
  have c10 := x10 _ _ (Hp.set_same _ b10 _)
  have x9 := (Ext.set h10).trans x10
  have c9 := x9 _ _ (Hp.set_same _ b9 _)
  have x8 := (Ext.set h9).trans x9
  have c8 := x8 _ _ (Hp.set_same _ b8 _)
  have x7 := (Ext.set h8).trans x8
  have c7 := x7 _ _ (Hp.set_same _ b7 _)
  have x6 := (Ext.set h7).trans x7
  have c6 := x6 _ _ (Hp.set_same _ b6 _)
  have x5 := (Ext.set h6).trans x6
  have c5 := x5 _ _ (Hp.set_same _ b5 _)
  have x4 := (Ext.set h5).trans x5
  have c4 := x4 _ _ (Hp.set_same _ b4 _)
  have x3 := (Ext.set h4).trans x4
  have c3 := x3 _ _ (Hp.set_same _ b3 _)
  have x2 := (Ext.set h3).trans x3
  have c2 := x2 _ _ (Hp.set_same _ b2 _)
  have x1 := (Ext.set h2).trans x2
  have c1 := x1 _ _ (Hp.set_same _ b1 _)
  have x0 := (Ext.set h1).trans x1
  have n1 : σ b1 = none := h1
  have z1 := Ext.set (o := .cells #[.func (.func 93) #[] #[]] 149 (0, 0)) h1
  have n2 : σ b2 = none := ext_none z1 h2
  have z2 := z1.trans (Ext.set (o := .cells #[.func (.func 96) #[] #[]] 149 (0, 0)) h2)
  have n3 : σ b3 = none := ext_none z2 h3
  have z3 := z2.trans (Ext.set (o := .cells #[.func (.func 94) #[] #[]] 149 (0, 0)) h3)
  have n4 : σ b4 = none := ext_none z3 h4
  have z4 := z3.trans (Ext.set (o := .cells #[.func (.func 95) #[] #[]] 149 (0, 0)) h4)
  have n5 : σ b5 = none := ext_none z4 h5
  have z5 := z4.trans (Ext.set (o := .cells #[.func (.func 97) #[] #[]] 149 (0, 0)) h5)
  have n6 : σ b6 = none := ext_none z5 h6
  have z6 := z5.trans (Ext.set (o := .cells #[.func (.func 124) #[] #[]] 149 (0, 0)) h6)
  have n7 : σ b7 = none := ext_none z6 h7
  have z7 := z6.trans (Ext.set (o := .cells #[.func (.func 126) #[] #[]] 149 (0, 0)) h7)
  have n8 : σ b8 = none := ext_none z7 h8
  have z8 := z7.trans (Ext.set (o := .cells #[.func (.func 128) #[] #[]] 183 (0, 0)) h8)
  have n9 : σ b9 = none := ext_none z8 h9
  have z9 := z8.trans (Ext.set (o := .cells #[.func (.func 130) #[] #[]] 183 (0, 0)) h9)
  have n10 : σ b10 = none := ext_none z9 h10
  have z10 := z9.trans (Ext.set (o := .cells #[.func (.func 132) #[] #[]] 183 (0, 0)) h10)
  have nf : σ fb = none := ext_none z10 hfb
  refine h fb _ (fun i g f hi => ?_) x0
  clear x0 x1 x2 x3 x4 x5 x6 x7 x8 x9 x10 z1 z2 z3 z4 z5 z6 z7 z8 z9 z10
  match i, hi with
  | 0, hi => cases hi; exact ⟨b10, _, ld_of (new_some.2 ⟨nf, Hp.set_same _ _ _⟩) rfl, new_some.2 ⟨n10, c10⟩⟩
  | 1, hi => cases hi; exact ⟨b9, _, ld_of (new_some.2 ⟨nf, Hp.set_same _ _ _⟩) rfl, new_some.2 ⟨n9, c9⟩⟩
  | 2, hi => cases hi; exact ⟨b8, _, ld_of (new_some.2 ⟨nf, Hp.set_same _ _ _⟩) rfl, new_some.2 ⟨n8, c8⟩⟩
  | 3, hi => cases hi; exact ⟨b1, _, ld_of (new_some.2 ⟨nf, Hp.set_same _ _ _⟩) rfl, new_some.2 ⟨n1, c1⟩⟩
  | 4, hi => cases hi; exact ⟨b2, _, ld_of (new_some.2 ⟨nf, Hp.set_same _ _ _⟩) rfl, new_some.2 ⟨n2, c2⟩⟩
  | 5, hi => cases hi; exact ⟨b3, _, ld_of (new_some.2 ⟨nf, Hp.set_same _ _ _⟩) rfl, new_some.2 ⟨n3, c3⟩⟩
  | 6, hi => cases hi; exact ⟨b4, _, ld_of (new_some.2 ⟨nf, Hp.set_same _ _ _⟩) rfl, new_some.2 ⟨n4, c4⟩⟩
  | 7, hi => cases hi; exact ⟨b5, _, ld_of (new_some.2 ⟨nf, Hp.set_same _ _ _⟩) rfl, new_some.2 ⟨n5, c5⟩⟩
  | 8, hi => cases hi; exact ⟨b6, _, ld_of (new_some.2 ⟨nf, Hp.set_same _ _ _⟩) rfl, new_some.2 ⟨n6, c6⟩⟩
  | 9, hi => cases hi; exact ⟨b7, _, ld_of (new_some.2 ⟨nf, Hp.set_same _ _ _⟩) rfl, new_some.2 ⟨n7, c7⟩⟩
theorem fn1_spec {p : Option Addr} {m c : Nat} {vs : List Int} (hr : RdI .u64 σ p m vs) (h0 : 0 < m) (h : R (.returned (.int .u64 (nrm (vs.getLast?.getD 0)))) σ) : Spec prog 124 #[.slice p m c] σ R := by
  have hl : vs.length = m := hr.1
  have hbig := hr.big
  obtain ⟨z, hz⟩ := hr.ex (k := m - 1) (by omega)
  obtain ⟨b, o, rfl, hlz⟩ := RdI.at hr hz
  rw [List.getLast?_eq_getElem?, hl, hz] at h
  exact eval_functions_1.start ⟨by unfold I64; omega, b, o, rfl, by omega, z, by rw [show Int.toNat ((m : Int) - 1) = m - 1 by omega]; exact hlz, normal_spec ⟨_, rfl, h⟩⟩
theorem fn2_spec {p q : Option Addr} {m c j e : Nat} {vs : List Int} (hr : RdI .u64 σ p m vs) (h0 : 0 < m) (h : R (.returned (.int .u64 (ari 2 (vs.getLast?.getD 0) (vs.head?.getD 0)))) σ) : Spec prog 128 #[.slice p m c, .slice q j e] σ R := by
  have hl : vs.length = m := hr.1
  have hbig := hr.big
  obtain ⟨z, hz⟩ := hr.ex (k := m - 1) (by omega)
  obtain ⟨y, hy⟩ := hr.ex (k := 0) (by omega)
  obtain ⟨b, o, rfl, hlz⟩ := RdI.at hr hz
  obtain ⟨_, _, he, hly⟩ := RdI.at hr hy
  cases he
  rw [List.getLast?_eq_getElem?, hl, hz, List.head?_eq_getElem?, hy] at h
  exact eval_functions_2.start ⟨by unfold I64; omega, b, o, rfl, by omega, z, by rw [show Int.toNat ((m : Int) - 1) = m - 1 by omega]; exact hlz, by omega, y, by simpa using hly, sub_spec ⟨_, rfl, h⟩⟩
theorem over_spec {n : Nd} {p q r : Option Addr} {k c m d lb lo j e fb u v : Nat} {vs : List Int} {w : Int} (ho : 1 ≤ n.op ∧ n.op ≤ 10) (hF : FnRow σ fb) (hr : RdI .u64 σ r u vs) (h0 : 0 < u) (hc : u ≤ v) (hj : 0 < j) (hw : σ.ld ⟨lb, lo + 1, none⟩ = some (.int .u64 w))
    (h : ∀ x ok σ', (overI n.op vs w = some x ∧ ok = true ∨ overI n.op vs w = none ∧ ok = false) → Ext σ σ' → R (.returned (.tuple #[.int .u64 x, .bool ok])) σ') :
    ∃ v58, Hp.ld σ ⟨fb, (0 + Int.toNat n.op * 1), none⟩ = some v58 ∧ ∃ (f63 : Nat) (fst63 cap63 : Array Value), v58 = .func (.func f63) fst63 cap63 ∧ Enters prog f63 ∧ Spec prog f63 (fst63 ++ #[.slice r u v, ndV n p k c q m d, .slice (some ⟨lb, lo, none⟩) j e] ++ cap63) σ R := by
  have hl : vs.length = u := hr.1
  have always : ∀ (i f : Nat) (x : Int), n.op = i + 1 → fnT[i]? = some (160, f) → overI n.op vs w = some x → Enters prog f → (∀ R' : Ending → Hp → Prop, (∀ σ', Ext σ σ' → R' (.returned (.int .u64 x)) σ') → Spec prog f #[.slice r u v] σ R') →
      ∃ v58, Hp.ld σ ⟨fb, (0 + Int.toNat n.op * 1), none⟩ = some v58 ∧ ∃ (f63 : Nat) (fst63 cap63 : Array Value), v58 = .func (.func f63) fst63 cap63 ∧ Enters prog f63 ∧ Spec prog f63 (fst63 ++ #[.slice r u v, ndV n p k c q m d, .slice (some ⟨lb, lo, none⟩) j e] ++ cap63) σ R := fun i f x hi hf hx hen hs => by
    obtain ⟨b, T, h1, h2⟩ := hF i _ _ hf
    refine ⟨_, by rw [show 0 + Int.toNat n.op * 1 = i + 1 by omega]; exact h1, 160, #[], #[.pointer (aD b 0)], rfl, eval_always_1.en, eval_always_1.start fun _ => ⟨_, ld_of h2 rfl, f, #[], #[], rfl, hen, hs _ fun σ' hx' => ⟨_, rfl, h x true σ' (.inl ⟨hx, rfl⟩) hx'⟩⟩⟩
  have two : ∀ (i f : Nat) (x : Int), n.op = i + 1 → fnT[i]? = some (162, f) → (overI n.op vs w = if vs.length < 2 then none else some x) → Enters prog f → (2 ≤ u → ∀ R' : Ending → Hp → Prop, R' (.returned (.int .u64 x)) σ → Spec prog f #[.slice r u v, .slice (some ⟨lb, lo, none⟩) j e] σ R') →
      ∃ v58, Hp.ld σ ⟨fb, (0 + Int.toNat n.op * 1), none⟩ = some v58 ∧ ∃ (f63 : Nat) (fst63 cap63 : Array Value), v58 = .func (.func f63) fst63 cap63 ∧ Enters prog f63 ∧ Spec prog f63 (fst63 ++ #[.slice r u v, ndV n p k c q m d, .slice (some ⟨lb, lo, none⟩) j e] ++ cap63) σ R := fun i f x hi hf hx hen hs => by
    obtain ⟨b, T, h1, h2⟩ := hF i _ _ hf
    refine ⟨_, by rw [show 0 + Int.toNat n.op * 1 = i + 1 by omega]; exact h1, 162, #[], #[.pointer (aD b 0)], rfl, eval_two_1.en, eval_two_1.start fun _ => ⟨fun hlt => h 0 false σ (.inr ⟨by rw [hx, if_pos (by omega)], rfl⟩) (.refl _), fun hge => ⟨_, ld_of h2 rfl, f, #[], #[], rfl, hen, hs (by omega) _ ⟨_, rfl, h x true σ (.inl ⟨by rw [hx, if_neg (by omega)], rfl⟩) (.refl _)⟩⟩⟩⟩
  have hcase : n.op = 1 ∨ n.op = 2 ∨ n.op = 3 ∨ n.op = 4 ∨ n.op = 5 ∨ n.op = 6 ∨ n.op = 7 ∨ n.op = 8 ∨ n.op = 9 ∨ n.op = 10 := by omega
  rcases hcase with e1 | e1 | e1 | e1 | e1 | e1 | e1 | e1 | e1 | e1
  · exact two 0 _ (ari 4 (growI vs) w) e1 rfl (by rw [e1]; rfl) eval_functions_4.en fun h2 R' hR' => eval_functions_4.start ⟨lb, lo, rfl, by omega, w, hw, grown_spec hr h0 ⟨_, rfl, Kp.of_ext (.refl _), div_spec ⟨_, rfl, hR'⟩⟩⟩
  · exact two 1 _ (growI vs) e1 rfl (by rw [e1]; rfl) eval_functions_3.en fun h2 R' hR' => eval_functions_3.start (grown_spec hr h0 ⟨_, rfl, hR'⟩)
  · exact two 2 _ (ari 2 (vs.getLast?.getD 0) (vs.head?.getD 0)) e1 rfl (by rw [e1]; rfl) eval_functions_2.en fun h2 R' hR' => fn2_spec hr h0 hR'
  · exact always 3 _ (sumI vs) e1 rfl (by rw [e1]; rfl) eval_sum.en fun R' hR' => sum_spec hr h0 hc (hR' σ (.refl _))
  · exact always 4 _ (ari 4 (sumI vs) (wholeI vs.length)) e1 rfl (by rw [e1]; rfl) eval_average.en fun R' hR' => average_spec hr h0 hc (by rw [← hl]; exact hR' σ (.refl _))
  · exact always 5 _ (bestI 7 vs) e1 rfl (by rw [e1]; rfl) eval_least.en fun R' hR' => least_spec hr h0 hc (hR' σ (.refl _))
  · exact always 6 _ (bestI 9 vs) e1 rfl (by rw [e1]; rfl) eval_greatest.en fun R' hR' => greatest_spec hr h0 hc (hR' σ (.refl _))
  · exact always 7 _ (wholeI vs.length) e1 rfl (by rw [e1]; rfl) eval_count.en fun R' hR' => count_spec (by rw [← hl]; exact hR' σ (.refl _))
  · exact always 8 _ (nrm (vs.getLast?.getD 0)) e1 rfl (by rw [e1]; rfl) eval_functions_1.en fun R' hR' => fn1_spec hr h0 (hR' σ (.refl _))
  · exact always 9 _ (strongI vs) e1 rfl (by rw [e1]; rfl) eval_strength.en fun R' hR' => strength_spec hr h0 hc hR'
end
end TwW
end
section
namespace TwW
open Go Tw Go.RowKit Go.Proofs.Tryz
theorem Spec.grownX {P : Program} {f : FuncId} {args : Array Value} {R : Ending → Prop} {σ0 : Hp} (h : @Spec ⟨True⟩ P f args σ0 (fun e σ' => R e ∧ Ext σ0 σ')) {w : World} (hs : Sat σ0 w) :
    Calls P f args w (fun e w' => R e ∧ ∃ q os, w' = { w with heap := w.heap ++ os, drawn := w.drawn + q }) := by
  refine (h w (fun b => b < w.heap.size ∧ σ0 b = none) hs (fun b hb => hb)).mono ?_
  rintro e w' ⟨σ, ⟨hr, hx⟩, hf⟩
  refine ⟨hr, ?_⟩
  obtain ⟨h1, h2, h30⟩ := @Fin.os ⟨True⟩ _ _ _ _ hf
  have hfp := @Fin.prot ⟨True⟩ _ _ _ _ hf
  have hfs := @Fin.sat ⟨True⟩ _ _ _ _ hf
  have hfg := @Fin.grow ⟨True⟩ _ _ _ _ hf
  have hfo := @Fin.out ⟨True⟩ _ _ _ _ hf
  obtain ⟨q, h3⟩ := h30 trivial
  refine ⟨q, w'.heap.extract w.heap.size w'.heap.size, ?_⟩
  have hh : w'.heap = w.heap ++ w'.heap.extract w.heap.size w'.heap.size := by
    apply Array.ext_getElem?
    intro i
    rw [Array.getElem?_append]
    split
    · rename_i hi
      cases hσ : σ0 i with
      | none => exact (hfp i ⟨hi, hσ⟩).2
      | some o => exact (hfs i o (hx i o hσ)).trans (hs i o hσ).symm
    · rename_i hi
      rw [Array.getElem?_extract]
      have := hfg
      split
      · congr 1; omega
      · rename_i h2
        exact Array.getElem?_eq_none (by omega)
  cases w with
  | mk heap tape drawn os output =>
    cases w' with
    | mk heap' tape' drawn' os' output' =>
      have h4 := hfo
      simp only at h1 h2 h3 h4 hh ⊢
      subst h1 h2 h3 h4
      rw [← hh]
theorem flat_get {α : Type} {enc : α → List Value} {k : Nat} (hk : ∀ x, (enc x).length = k) (h0 : 0 < k) : ∀ (xs : List α) (j : Nat), (xs.flatMap enc)[j]? = (xs[j / k]?).bind fun x => (enc x)[j % k]?
  | [], j => by simp
  | x :: xs, j => by
    rw [List.flatMap_cons, List.getElem?_append, hk]
    by_cases hj : j < k
    · rw [if_pos hj, Nat.div_eq_of_lt hj, Nat.mod_eq_of_lt hj]; simp
    · rw [if_neg hj, flat_get hk h0 xs, show j / k = (j - k) / k + 1 by rw [← Nat.add_div_right _ h0]; congr 1; omega, show (j - k) % k = j % k by rw [Nat.mod_eq_sub_mod (by omega : j ≥ k)]]
      simp
theorem flat_lenE {α : Type} {enc : α → List Value} {k : Nat} (hk : ∀ x, (enc x).length = k) : ∀ (xs : List α), (xs.flatMap enc).length = xs.length * k
  | [] => by simp
  | x :: xs => by rw [List.flatMap_cons, List.length_append, flat_lenE hk xs, hk, List.length_cons, Nat.add_mul]; omega
theorem flatK_get {α : Type} [Inhabited α] {enc : α → List Value} (hk : ∀ x, (enc x).length = 2) (d : List α) (j : Nat) (hj : j < d.length * 2) : (d.flatMap enc)[j]? = some (Sort.flatK enc 2 d.toArray)[j]! := by
  rw [flat_get (k := 2) hk (by decide), Sort.get_flatK _ _ _ _ (by simpa using hj)]
  have hlt : j / 2 < d.length := by omega
  rw [List.getElem?_eq_getElem hlt]
  have h2 : j % 2 < (enc d[j / 2]).length := by rw [hk]; exact Nat.mod_lt _ (by decide)
  simp only [Option.bind_some]
  rw [List.getElem?_eq_getElem h2]
  have e1 : d.toArray[j / 2]! = d[j / 2] := by simp [hlt]
  rw [e1, getElem!_pos (enc d[j / 2]) (j % 2) h2]
theorem putCells_get (F arr : Array Value) (o j : Nat) : (Sort.putCells id o F arr)[j]? = if o ≤ j ∧ j < o + F.size then (arr[j]?).map fun _ => F[j - o]! else arr[j]? := by
  simp only [Sort.putCells, Array.getElem?_mapIdx, id]
  by_cases h : o ≤ j ∧ j < o + F.size
  · rw [if_pos h]; simp [h]
  · rw [if_neg h]
    cases arr[j]? with
    | none => rfl
    | some v => simp only [Option.map_some]; rw [if_neg h]
section
variable {σ : Hp} {R : Ending → Hp → Prop}
theorem sortAny {ρ : Go.Shelf.Ren} (L : Go.Proofs.SlLaysF0.n6 prog ρ) (aE : ∀ w, (isAgg (ρ.t 24)).run prog w = .ok true w) (zE : ∀ w, (Go.sizeOf (ρ.t 24)).run prog w = .ok 2 w) {α : Type} [Inhabited α] {enc : α → List Value} (hk : ∀ x, (enc x).length = 2) (h1 : ∀ x, ∀ v ∈ enc x, v.oneCell' = true) {cf : α → α → Int} (hO : Sort.SWO (Proofs.ltOf cf)) {g : Nat}
    (eg : ∀ args w, (callFunc g args).run prog w = .ok (.enter g args) w) {b o m d : Nat} {ds : List α} (ho : Own 2 σ (some ⟨b, o, none⟩) m d (ds.flatMap enc)) (hm : ds.length = m) (hm0 : m ≠ 0) (hsz : m < 4611686018427387904)
    (hcmp : ∀ w, Sat (σ.del (some ⟨b, o, none⟩)) w → ∀ x y, Calls prog g #[.agg (enc x).toArray, .agg (enc y).toArray] w fun e w' => e = .returned (.int .i64 (cf x y)) ∧ ∃ n os, w' = Sort.grow (w.drewN n) os)
    (h : ∀ (σ' : Hp) (ds' : List α), ds'.Perm ds → ds'.Pairwise (fun x y => Proofs.ltOf cf y x = false) → Own 2 σ' (some ⟨b, o, none⟩) m d (ds'.flatMap enc) → Ext (σ.del (some ⟨b, o, none⟩)) (σ'.del (some ⟨b, o, none⟩)) → R (.returned (.tuple #[])) σ') :
    Spec prog (ρ.f 6) #[.slice (some ⟨b, o, none⟩) m d, .func (.func g) #[] #[]] σ R := by
  intro w F hs hF
  obtain ⟨arr, T, hb, hw, hmd, harr, hcs⟩ : ∃ arr T, σ b = some (.cells arr T (0, 0)) ∧ w.heap[b]? = some (.cells arr T (0, 0)) ∧ m ≤ d ∧ o + d * 2 ≤ arr.size ∧ (arr.toList.drop o).take (m * 2) = ds.flatMap enc := by
    rcases ho.2.2 with ⟨h1, h2, _⟩ | ⟨b', o', arr, T, hp, hb, hmd, hsz, hcs⟩
    · exact absurd h2 hm0
    · cases hp
      exact ⟨arr, T, hb, hs _ _ hb, hmd, hsz, hcs⟩
  have hget : ∀ j, j < m * 2 → arr[o + j]? = some (Sort.flatK enc 2 ds.toArray)[j]! := fun j hj => by
    rw [← flatK_get hk ds j (by omega), ← hcs, List.getElem?_take, if_pos hj, List.getElem?_drop, Array.getElem?_toList]
  have hH : Sort.HoldsK enc 2 w b o ds.toArray := fun j hj => by
    have hj' : j < m * 2 := by simpa [hm] using hj
    refine ⟨?_, by simp [World.frozen?, hw]⟩
    simp only [World.cell?, hw, id]
    simpa using hget j hj'
  have hblk : b < w.heap.size := (Array.getElem?_eq_some_iff.1 hw).1
  have hheap : ∀ (n : Nat) (dk : Array α) (os : Array Obj) k, (Proofs.sortWorldK enc 2 w b o n dk os).heap[k]? = if k < w.heap.size then (if b = k then (w.heap[k]?).map (Sort.onCells (Sort.putCells id o (Sort.flatK enc 2 dk))) else w.heap[k]?) else os[k - w.heap.size]? := fun n dk os k => by
    simp only [Proofs.sortWorldK, Sort.grow, Sort.putRowK, Sort.putRow, Sort.mapBlock, Sort.ahead, Array.getElem?_append, Array.size_modify, Array.getElem?_modify]
  have hcm : Proofs.CmpLays prog g #[] enc 2 cf b o ds.toArray.size w := fun n os dk _ x y => hcmp _ (fun k u hk => by
    obtain ⟨hkb, hku⟩ := del_some.1 hk
    have hkb' : b ≠ k := fun e => hkb _ rfl e.symm
    have := hs k u hku
    rw [hheap, if_pos (Array.getElem?_eq_some_iff.1 this).1, if_neg hkb']; exact this) x y
  have hcon := Proofs.AnyQ.slices_SortFunc L 2 aE zE enc hk h1 cf hO g #[] b o d ds.toArray w eg hcm hH hblk (by simpa [hm] using hsz)
  rw [show ds.toArray.size = m by simpa using hm] at hcon
  refine hcon.mono ?_
  rintro e w' ⟨rfl, d', n, os, hperm, hsort, rfl⟩
  obtain ⟨hp1, _, hp3⟩ := hperm
  have hd' : d'.size = m := by rw [hp1]; simpa using hm
  have hP : d'.toList.Perm ds := by
    rw [show m = d'.size from hd'.symm] at hp3
    rw [Array.extract_size] at hp3
    rw [show d'.size = ds.toArray.size from hp1, Array.extract_size] at hp3
    exact hp3
  have hl' : d'.toList.length = m := by simpa using hd'
  have hF2 : (Sort.flatK enc 2 d').size = m * 2 := by simp [hd']
  have hpw : d'.toList.Pairwise (fun x y => Proofs.ltOf cf y x = false) := List.pairwise_iff_getElem.2 fun i j hi hj hij => by
    have hj' : j < d'.size := by simpa using hj
    have hi' : i < d'.size := by simpa using hi
    have := hsort i j (Nat.zero_le _) hij (by omega)
    rw [getElem!_pos d' j hj', getElem!_pos d' i hi'] at this
    simpa using this
  have hcl : ((Sort.putCells id o (Sort.flatK enc 2 d') arr).toList.drop o).take (m * 2) = d'.toList.flatMap enc := by
    refine List.ext_getElem? fun j => ?_
    rw [List.getElem?_take]
    by_cases hj : j < m * 2
    · have := flatK_get hk d'.toList j (by omega)
      rw [if_pos hj, List.getElem?_drop, Array.getElem?_toList, putCells_get, if_pos (by omega), this, hget j hj]
      simp
    · rw [if_neg hj, List.getElem?_eq_none (by rw [flat_lenE (k := 2) hk, hl']; omega)]
  refine ⟨σ.set b (.cells (Sort.putCells id o (Sort.flatK enc 2 d') arr) T (0, 0)), h _ d'.toList hP hpw ⟨by rw [flat_lenE (k := 2) hk, hl'], by have := ho.2.1; omega, .inr ⟨b, o, _, T, rfl, Hp.set_same _ _ _, hmd, by simpa [Sort.putCells] using harr, hcl⟩⟩ (by rw [Hp.del_set_same]; exact Ext.refl _), ?_⟩
  · refine ⟨fun k u hk => ?_, fun k hk => ?_, ⟨rfl, rfl, fun _ => ⟨n, rfl⟩⟩, rfl, by simp [Proofs.sortWorldK, Sort.grow, Sort.putRowK, Sort.putRow, Sort.mapBlock, Sort.ahead]⟩
    · rw [hheap]
      by_cases hkb : k = b
      · subst hkb
        rw [Hp.set_same] at hk; cases hk
        rw [if_pos hblk, if_pos rfl, hw]; rfl
      · rw [Hp.set_ne hkb] at hk
        have := hs k u hk
        rw [if_pos (Array.getElem?_eq_some_iff.1 this).1, if_neg (Ne.symm hkb)]; exact this
    · have hkb : k ≠ b := fun e => by have := (hF k hk).2; rw [e, hb] at this; cases this
      refine ⟨by rw [Hp.set_ne hkb]; exact (hF k hk).2, ?_⟩
      rw [hheap, if_pos (hF k hk).1, if_neg (Ne.symm hkb)]
end
end TwW
end
section
namespace Go.Proofs
open Go.Shelf
def Tryz.sortEl_ren : Go.Shelf.Ren := ⟨fun | 6 => 134 | 15 => 48 | 14 => 163 | 28 => 77 | 29 => 78 | 20 => 177 | 21 => 178 | 22 => 179 | 23 => 180 | 24 => 181 | 25 => 182 | 26 => 183 | 27 => 184 | 46 => 197 | 47 => 106 | 48 => 107 | 49 => 198 | 50 => 199 | 57 => 222 | n => n, fun | 22 => 44 | 24 => 48 | 25 => 185 | 3 => 3 | 39 => 40 | 0 => 0 | 53 => 127 | 55 => 37 | 4 => 4 | 46 => 121 | 45 => 120 | 50 => 88 | 5 => 5 | 9 => 9 | 66 => 155 | 70 => 159 | 76 => 199 | 77 => 200 | n => n, fun | n => n⟩
theorem Tryz.sortEl : Go.Proofs.SlLaysF0.n6 Tryz.prog Tryz.sortEl_ren := {
  mixed := by kernel_rfl
  f6 := ⟨Tryz.f134.name, by decide, Tryz.func134.trans (congrArg some (by kernel_rfl))⟩
  f14 := ⟨Tryz.f163.name, by decide, Tryz.func163.trans (congrArg some (by kernel_rfl))⟩
  f15 := Tryz.func48.trans (congrArg some (by kernel_rfl))
  f20 := ⟨Tryz.f177.name, by decide, Tryz.func177.trans (congrArg some (by kernel_rfl))⟩
  f21 := ⟨Tryz.f178.name, by decide, Tryz.func178.trans (congrArg some (by kernel_rfl))⟩
  f22 := ⟨Tryz.f179.name, by decide, Tryz.func179.trans (congrArg some (by kernel_rfl))⟩
  f23 := ⟨Tryz.f180.name, by decide, Tryz.func180.trans (congrArg some (by kernel_rfl))⟩
  f24 := ⟨Tryz.f181.name, by decide, Tryz.func181.trans (congrArg some (by kernel_rfl))⟩
  f25 := ⟨Tryz.f182.name, by decide, Tryz.func182.trans (congrArg some (by kernel_rfl))⟩
  f26 := ⟨Tryz.f183.name, by decide, Tryz.func183.trans (congrArg some (by kernel_rfl))⟩
  f27 := ⟨Tryz.f184.name, by decide, Tryz.func184.trans (congrArg some (by kernel_rfl))⟩
  f28 := Tryz.func77.trans (congrArg some (by kernel_rfl))
  f29 := Tryz.func78.trans (congrArg some (by kernel_rfl))
  f46 := ⟨Tryz.f197.name, by decide, Tryz.func197.trans (congrArg some (by kernel_rfl))⟩
  f47 := Tryz.func106.trans (congrArg some (by kernel_rfl))
  f48 := Tryz.func107.trans (congrArg some (by kernel_rfl))
  f49 := ⟨Tryz.f198.name, by decide, Tryz.func198.trans (congrArg some (by kernel_rfl))⟩
  f50 := ⟨Tryz.f199.name, by decide, Tryz.func199.trans (congrArg some (by kernel_rfl))⟩
  f57 := ⟨Tryz.f222.name, by decide, Tryz.func222.trans (congrArg some (by kernel_rfl))⟩
  t0 := Tryz.underlying0
  a0 := Tryz.isAgg0
  z0 := Tryz.sizeOf0
  v0 := Tryz.zeroValue0
  t3 := Tryz.underlying3
  a3 := Tryz.isAgg3
  z3 := Tryz.sizeOf3
  v3 := Tryz.zeroValue3
  t4 := Tryz.underlying4
  a4 := Tryz.isAgg4
  z4 := Tryz.sizeOf4
  v4 := Tryz.zeroValue4
  t5 := Tryz.underlying5
  a5 := Tryz.isAgg5
  z5 := Tryz.sizeOf5
  v5 := Tryz.zeroValue5
  t9 := Tryz.underlying9
  a9 := Tryz.isAgg9
  z9 := Tryz.sizeOf9
  v9 := Tryz.zeroValue9
  t22 := Tryz.underlying44
  a22 := Tryz.isAgg44
  z22 := Tryz.sizeOf44
  v22 := Tryz.zeroValue44
  t25 := Tryz.underlying185
  a25 := Tryz.isAgg185
  z25 := Tryz.sizeOf185
  v25 := Tryz.zeroValue185
  t39 := Tryz.underlying40
  a39 := Tryz.isAgg40
  z39 := Tryz.sizeOf40
  v39 := Tryz.zeroValue40
  t45 := Tryz.underlying120
  a45 := Tryz.isAgg120
  z45 := Tryz.sizeOf120
  v45 := Tryz.zeroValue120
  t46 := Tryz.underlying121
  a46 := Tryz.isAgg121
  z46 := Tryz.sizeOf121
  v46 := Tryz.zeroValue121
  t50 := Tryz.underlying88
  a50 := Tryz.isAgg88
  z50 := Tryz.sizeOf88
  v50 := Tryz.zeroValue88
  t53 := Tryz.underlying127
  a53 := Tryz.isAgg127
  z53 := Tryz.sizeOf127
  v53 := Tryz.zeroValue127
  t55 := Tryz.underlying37
  a55 := Tryz.isAgg37
  z55 := Tryz.sizeOf37
  v55 := Tryz.zeroValue37
  t66 := Tryz.underlying155
  a66 := Tryz.isAgg155
  z66 := Tryz.sizeOf155
  v66 := Tryz.zeroValue155
  t70 := Tryz.underlying159
  a70 := Tryz.isAgg159
  z70 := Tryz.sizeOf159
  v70 := Tryz.zeroValue159
  t76 := Tryz.underlying199
  a76 := Tryz.isAgg199
  z76 := Tryz.sizeOf199
  v76 := Tryz.zeroValue199
  t77 := Tryz.underlying200
  a77 := Tryz.isAgg200
  z77 := Tryz.sizeOf200
  v77 := Tryz.zeroValue200 }
def Tryz.sortSr_ren : Go.Shelf.Ren := ⟨fun | 6 => 29 | 15 => 48 | 14 => 47 | 28 => 77 | 29 => 78 | 20 => 69 | 21 => 70 | 22 => 71 | 23 => 72 | 24 => 73 | 25 => 74 | 26 => 75 | 27 => 76 | 46 => 105 | 47 => 106 | 48 => 107 | 49 => 108 | 50 => 109 | 57 => 147 | n => n, fun | 22 => 23 | 24 => 36 | 25 => 91 | 3 => 3 | 39 => 40 | 0 => 0 | 53 => 127 | 55 => 37 | 4 => 4 | 46 => 121 | 45 => 120 | 50 => 88 | 5 => 5 | 9 => 9 | 66 => 155 | 70 => 159 | 76 => 199 | 77 => 200 | n => n, fun | n => n⟩
theorem Tryz.sortSr : Go.Proofs.SlLaysF0.n6 Tryz.prog Tryz.sortSr_ren := {
  mixed := by kernel_rfl
  f6 := ⟨Tryz.f29.name, by decide, Tryz.func29.trans (congrArg some (by kernel_rfl))⟩
  f14 := ⟨Tryz.f47.name, by decide, Tryz.func47.trans (congrArg some (by kernel_rfl))⟩
  f15 := Tryz.func48.trans (congrArg some (by kernel_rfl))
  f20 := ⟨Tryz.f69.name, by decide, Tryz.func69.trans (congrArg some (by kernel_rfl))⟩
  f21 := ⟨Tryz.f70.name, by decide, Tryz.func70.trans (congrArg some (by kernel_rfl))⟩
  f22 := ⟨Tryz.f71.name, by decide, Tryz.func71.trans (congrArg some (by kernel_rfl))⟩
  f23 := ⟨Tryz.f72.name, by decide, Tryz.func72.trans (congrArg some (by kernel_rfl))⟩
  f24 := ⟨Tryz.f73.name, by decide, Tryz.func73.trans (congrArg some (by kernel_rfl))⟩
  f25 := ⟨Tryz.f74.name, by decide, Tryz.func74.trans (congrArg some (by kernel_rfl))⟩
  f26 := ⟨Tryz.f75.name, by decide, Tryz.func75.trans (congrArg some (by kernel_rfl))⟩
  f27 := ⟨Tryz.f76.name, by decide, Tryz.func76.trans (congrArg some (by kernel_rfl))⟩
  f28 := Tryz.func77.trans (congrArg some (by kernel_rfl))
  f29 := Tryz.func78.trans (congrArg some (by kernel_rfl))
  f46 := ⟨Tryz.f105.name, by decide, Tryz.func105.trans (congrArg some (by kernel_rfl))⟩
  f47 := Tryz.func106.trans (congrArg some (by kernel_rfl))
  f48 := Tryz.func107.trans (congrArg some (by kernel_rfl))
  f49 := ⟨Tryz.f108.name, by decide, Tryz.func108.trans (congrArg some (by kernel_rfl))⟩
  f50 := ⟨Tryz.f109.name, by decide, Tryz.func109.trans (congrArg some (by kernel_rfl))⟩
  f57 := ⟨Tryz.f147.name, by decide, Tryz.func147.trans (congrArg some (by kernel_rfl))⟩
  t0 := Tryz.underlying0
  a0 := Tryz.isAgg0
  z0 := Tryz.sizeOf0
  v0 := Tryz.zeroValue0
  t3 := Tryz.underlying3
  a3 := Tryz.isAgg3
  z3 := Tryz.sizeOf3
  v3 := Tryz.zeroValue3
  t4 := Tryz.underlying4
  a4 := Tryz.isAgg4
  z4 := Tryz.sizeOf4
  v4 := Tryz.zeroValue4
  t5 := Tryz.underlying5
  a5 := Tryz.isAgg5
  z5 := Tryz.sizeOf5
  v5 := Tryz.zeroValue5
  t9 := Tryz.underlying9
  a9 := Tryz.isAgg9
  z9 := Tryz.sizeOf9
  v9 := Tryz.zeroValue9
  t22 := Tryz.underlying23
  a22 := Tryz.isAgg23
  z22 := Tryz.sizeOf23
  v22 := Tryz.zeroValue23
  t25 := Tryz.underlying91
  a25 := Tryz.isAgg91
  z25 := Tryz.sizeOf91
  v25 := Tryz.zeroValue91
  t39 := Tryz.underlying40
  a39 := Tryz.isAgg40
  z39 := Tryz.sizeOf40
  v39 := Tryz.zeroValue40
  t45 := Tryz.underlying120
  a45 := Tryz.isAgg120
  z45 := Tryz.sizeOf120
  v45 := Tryz.zeroValue120
  t46 := Tryz.underlying121
  a46 := Tryz.isAgg121
  z46 := Tryz.sizeOf121
  v46 := Tryz.zeroValue121
  t50 := Tryz.underlying88
  a50 := Tryz.isAgg88
  z50 := Tryz.sizeOf88
  v50 := Tryz.zeroValue88
  t53 := Tryz.underlying127
  a53 := Tryz.isAgg127
  z53 := Tryz.sizeOf127
  v53 := Tryz.zeroValue127
  t55 := Tryz.underlying37
  a55 := Tryz.isAgg37
  z55 := Tryz.sizeOf37
  v55 := Tryz.zeroValue37
  t66 := Tryz.underlying155
  a66 := Tryz.isAgg155
  z66 := Tryz.sizeOf155
  v66 := Tryz.zeroValue155
  t70 := Tryz.underlying159
  a70 := Tryz.isAgg159
  z70 := Tryz.sizeOf159
  v70 := Tryz.zeroValue159
  t76 := Tryz.underlying199
  a76 := Tryz.isAgg199
  z76 := Tryz.sizeOf199
  v76 := Tryz.zeroValue199
  t77 := Tryz.underlying200
  a77 := Tryz.isAgg200
  z77 := Tryz.sizeOf200
  v77 := Tryz.zeroValue200 }
end Go.Proofs
end
section
namespace TwW
open Go Tw Go.RowKit Go.Proofs.Tryz
section
variable {σ σ' σ0 : Hp} {R : Ending → Hp → Prop}
theorem swoL {α : Type} {f : α → List Lb} : Sort.SWO (Proofs.ltOf fun x y => cmpLs (f x) (f y)) where
  irrefl x := by
    have h1 : cmpLs (f x) (f x) = 0 := (cmpLs_ok.eq _ _).2 rfl
    exact decide_eq_false (by show ¬ cmpLs (f x) (f x) < 0; omega)
  trans x y z h1 h2 := by
    unfold Proofs.ltOf at *
    exact decide_eq_true (cmpLs_ok.trans _ _ _ (of_decide_eq_true h1) (of_decide_eq_true h2))
  ntrans x y z h1 h2 := by
    unfold Proofs.ltOf at *
    have h1 := of_decide_eq_false h1
    have h2 := of_decide_eq_false h2
    dsimp only at h1 h2
    refine decide_eq_false fun h3 => ?_
    dsimp only at h3
    rcases Int.lt_trichotomy (cmpLs (f x) (f y)) 0 with h | h | h
    · exact h1 h
    · rw [(cmpLs_ok.eq _ _).1 h] at h3; exact h2 h3
    · have h4 := (cmpLs_ok.anti _ _).2 h
      exact h2 (cmpLs_ok.trans _ _ _ h4 h3)
theorem flat_fin {cs : List Value} {m : Nat} (h : cs.length = m * 2) : (List.finRange m).flatMap (fun i => (cs.drop (i.1 * 2)).take 2) = cs := by
  have hk : ∀ i : Fin m, ((cs.drop (i.1 * 2)).take 2).length = 2 := fun i => by
    have := i.2
    rw [List.length_take, List.length_drop]; omega
  refine List.ext_getElem? fun j => ?_
  rw [flat_get hk (by decide)]
  by_cases hj : j < m * 2
  · have hlt : j / 2 < m := by omega
    rw [List.getElem?_eq_getElem (by rw [List.length_finRange]; exact hlt)]
    simp only [List.getElem_finRange, Option.bind_some, Fin.val_cast]
    rw [List.getElem?_take, if_pos (Nat.mod_lt _ (by decide)), List.getElem?_drop]
    congr 1
    omega
  · rw [List.getElem?_eq_none (by rw [List.length_finRange]; omega), List.getElem?_eq_none (by omega)]; rfl
theorem flat_at {α : Type} {enc : α → List Value} (hk : ∀ x, (enc x).length = 2) : ∀ (xs : List α) (i : Nat) (x : α), xs[i]? = some x → ((xs.flatMap enc).drop (i * 2)).take 2 = enc x
  | [], i, x, h => by simp at h
  | a :: xs, 0, x, h => by
    simp only [List.getElem?_cons_zero, Option.some.injEq] at h
    subst h
    rw [List.flatMap_cons, Nat.zero_mul, List.drop_zero, ← hk a, List.take_left]
  | a :: xs, i + 1, x, h => by
    rw [List.flatMap_cons, show (i + 1) * 2 = (enc a).length + i * 2 by rw [hk]; omega, List.drop_append]
    simp only [Nat.add_sub_cancel_left, List.drop_eq_nil_of_le (Nat.le_add_right _ _), List.nil_append]
    exact flat_at hk xs i x (by simpa using h)
theorem map_fin {α : Type} (l : List α) {n : Nat} (hn : l.length = n) : (List.finRange n).map (fun i => l[i.1]'(by rw [hn]; exact i.2)) = l := by
  subst hn
  refine List.ext_getElem (by simp) fun i h1 h2 => ?_
  simp
theorem rises_all {l : List El} (h : ∀ i a b, l[i]? = some a → l[i + 1]? = some b → cmpLs a.ls b.ls < 0) : l.Pairwise fun a b => cmpLs a.ls b.ls < 0 := by
  rw [List.pairwise_iff_getElem]
  intro i j hi hj hij
  induction j with
  | zero => omega
  | succ j ih =>
    have hs := h j l[j] l[j + 1] (List.getElem?_eq_getElem _) (List.getElem?_eq_getElem _)
    by_cases he : i = j
    · subst he; exact hs
    · exact cmpLs_ok.trans _ _ _ (ih (by omega) (by omega)) hs
theorem vecF_nil : vecF FF [] = some [] := by unfold vecF; rw [if_pos List.Pairwise.nil]; rfl
theorem vector_spec {p : Option Addr} {n c : Nat} {l : List El} (ho : OutL 2 EEl σ0 σ p n c l) (hn : n ≤ 1000000000000) (h : RetV R σ0 ((vecF FF l).map fun l => ⟨2, 0, l, []⟩)) : Spec prog 90 #[.slice p n c] σ R := by
  have hx0 := ho.up
  obtain ⟨⟨hl, cs, hoo, hc⟩, hx⟩ := ho
  refine eval_vector.start fun _ => ?_
  by_cases h0 : n = 0
  · subst h0
    have hl0 : l = [] := List.length_eq_zero_iff.1 hl
    subst hl0
    rw [vecF_nil] at h
    refine Spec.same (v := .tuple #[]) (fun w _ => Go.Proofs.AnyF.slices_SortFunc_none Go.Proofs.Tryz.sortEl p c _ w) ⟨rfl, eval_vector.pt11_of ⟨fun hlt => by omega, fun _ => ?_⟩⟩
    exact h.ok _ σ p 0 c none 0 0 rfl hx0 RdS.nil RdS.nil (Nat.zero_le _) (Nat.le_refl _)
  obtain ⟨b, o, rfl⟩ : ∃ b o, p = some ⟨b, o, none⟩ := by
    rcases hoo.2.2 with ⟨_, h2, _⟩ | ⟨b, o, _, _, hp, _⟩
    · exact absurd h2 h0
    · exact ⟨b, o, hp⟩
  have hcl : cs.length = n * 2 := hoo.1
  let enc : Fin n → List Value := fun i => (cs.drop (i.1 * 2)).take 2
  let at_ : Fin n → El := fun i => l[i.1]'(by rw [hl]; exact i.2)
  have hE : ∀ i : Fin n, EEl (σ.del (some ⟨b, o, none⟩)) (enc i) (at_ i) := fun i => hc.2 i.1 (at_ i) (List.getElem?_eq_getElem _)
  have hk : ∀ i, (enc i).length = 2 := fun i => by
    have := i.2
    show ((cs.drop (i.1 * 2)).take 2).length = 2
    rw [List.length_take, List.length_drop]; omega
  have hflat : (List.finRange n).flatMap enc = cs := flat_fin hcl
  haveI : Inhabited (Fin n) := ⟨⟨0, by omega⟩⟩
  refine sortAny (ρ := Go.Proofs.Tryz.sortEl_ren) Go.Proofs.Tryz.sortEl (fun w => by kernel_rfl) (fun w => by kernel_rfl) (α := Fin n) (enc := enc) hk (fun i => EEl.one _ _ _ (hE i)) (cf := fun i j => cmpLs (at_ i).ls (at_ j).ls) swoL (g := 135) (fun args w => call135 args w) (b := b) (o := o) (ds := List.finRange n) (by rw [hflat]; exact hoo) List.length_finRange h0 (by omega) (fun w hw i j => ?_) fun σ1 ds hp hpw hown hext => ⟨rfl, ?_⟩
  · obtain ⟨q1, m1, d1, hv1, hr1⟩ := hE i
    obtain ⟨q2, m2, d2, hv2, hr2⟩ := hE j
    rw [hv1, hv2]
    exact Spec.grownX (R := fun e => e = .returned (.int .i64 (cmpLs (at_ i).ls (at_ j).ls))) (@vec1_spec _ _ ⟨True⟩ _ _ _ _ _ _ _ _ _ _ hr1 hr2 fun σ' hx' => ⟨rfl, hx'⟩) hw
  let l2 : List El := ds.map at_
  have hp2 : l2.Perm l := by
    have := hp.map at_
    rwa [map_fin l hl] at this
  have hl2 : l2.length = n := hp2.length_eq.trans hl
  have hdl : ds.length = n := by have h9 : (ds.map at_).length = n := hl2; rwa [List.length_map] at h9
  have hO : OutL 2 EEl σ0 σ1 (some ⟨b, o, none⟩) n c l2 := by
    refine ⟨⟨hl2, _, hown, ?_, fun i x hi => ?_⟩, hx.trans hext⟩
    · rw [hown.1, hl2]
    · have hi' : (ds.map at_)[i]? = some x := hi
      rw [List.getElem?_map] at hi'
      cases hd : ds[i]? with
      | none => rw [hd] at hi'; cases hi'
      | some k =>
        rw [hd] at hi'
        simp only [Option.map_some, Option.some.injEq] at hi'
        rw [flat_at hk ds i k hd, ← hi']
        exact EEl.mono _ _ _ _ hext (hE k)
  have hle : ∀ i a b', l2[i]? = some a → l2[i + 1]? = some b' → ¬ cmpLs b'.ls a.ls < 0 := fun i a b' ha hb => by
    have hq : l2.Pairwise (fun a b' => ¬ cmpLs b'.ls a.ls < 0) := by
      refine List.pairwise_map.2 (hpw.imp fun {x y} hxy => ?_)
      exact of_decide_eq_false hxy
    obtain ⟨h1, rfl⟩ := List.getElem?_eq_some_iff.1 ha
    obtain ⟨h2, rfl⟩ := List.getElem?_eq_some_iff.1 hb
    exact List.pairwise_iff_getElem.1 hq i (i + 1) h1 h2 (by omega)
  clear_value l2
  clear hown hpw hp hflat hE hk hdl
  suffices H : ∀ g k : Nat, ∀ σ', n - k = g → 1 ≤ k → k ≤ n → OutL 2 EEl σ0 σ' (some ⟨b, o, none⟩) n c l2 → (∀ i a b', i + 1 < k → l2[i]? = some a → l2[i + 1]? = some b' → cmpLs a.ls b'.ls < 0) → eval_vector.pt11 R (some ⟨b, o, none⟩) n c 0 0 none 0 0 none 0 0 k σ' from H (n - 1) 1 σ1 rfl (Nat.le_refl _) (by omega) hO (fun i a b' hi => by omega)
  intro g
  induction g with
  | zero =>
    intro k σ' hg h1 hkn hO' hlt
    have hr : vecF FF l = some l2 := sorted_is rfl hp2 (rises_all fun i a b' ha hb => hlt i a b' (by have := (List.getElem?_eq_some_iff.1 hb).1; omega) ha hb)
    rw [hr] at h
    exact eval_vector.pt11_of ⟨fun hlt => by omega, fun _ => h.ok _ σ' _ n c none 0 0 rfl hO'.up (hO'.rd EEl.mono) RdS.nil (by obtain ⟨cs', hoo', _⟩ := hO'.1.2; exact Own.cap hoo') (Nat.le_refl _)⟩
  | succ g ih =>
    intro k σ' hg h1 hkn hO' hlt
    have hr := hO'.rd EEl.mono
    obtain ⟨y, hy⟩ := hr.ex (k := k) (by omega)
    obtain ⟨x, hx'⟩ := hr.ex (k := k - 1) (by omega)
    obtain ⟨_, _, q1, m1, d1, he1, hl1, hr1⟩ := EEl.at hr hx'
    cases he1
    obtain ⟨_, _, q2, m2, d2, he2, hl2', hr2⟩ := EEl.at hr hy
    cases he2
    have e1 : Int.toNat ((k : Int) - 1) = k - 1 := by omega
    refine eval_vector.pt11_of ⟨fun _ => ⟨by unfold I64; omega, b, o, rfl, by omega, q1, m1, d1, by rw [e1]; exact hl1.1, by omega, q2, m2, d2, by simpa using hl2'.1, cmpL_spec hr1 hr2 fun σ2 hx2 => ⟨_, rfl, fun hz => ?_, fun hnz => ⟨by unfold I64; omega, ?_⟩⟩⟩, fun hh => by omega⟩
    · refine h.no ?_ σ2 (hO'.up.trans hx2)
      have : vecF FF l = none := sorted_no rfl hp2 fun hpw => by
        obtain ⟨h3, rfl⟩ := List.getElem?_eq_some_iff.1 hx'
        obtain ⟨h4, rfl⟩ := List.getElem?_eq_some_iff.1 hy
        exact List.pairwise_iff_getElem.1 hpw (k - 1) k h3 h4 (by omega) hz
      rw [this]; rfl
    · have := ih (k + 1) σ2 (by omega) (by omega) (by omega) (hO'.mono EEl.mono hx2) fun i a b' hi ha hb => by
        by_cases hik : i + 1 = k
        · rw [hik, hy] at hb; cases hb
          rw [show i = k - 1 by omega, hx'] at ha; cases ha
          have h5 := hle (k - 1) _ _ hx' (by rw [show k - 1 + 1 = k by omega]; exact hy)
          have h6 := (cmpLs_ok.anti x.ls y.ls)
          have h7 := (cmpLs_ok.anti y.ls x.ls)
          omega
        · exact hlt i a b' (by omega) ha hb
      exact_mod_cast this
end
end TwW
end
section
namespace TwW
open Go Tw Go.RowKit Go.Proofs.Tryz
structure VvOk (x : Vv) : Prop where
  el : ∀ e ∈ x.vec, SmallL e.ls ∧ 0 ≤ e.v
  rg : ∀ r ∈ x.rng, SmallL r.ls ∧ 0 < r.vs.length
  len : x.vec.length + x.rng.length ≤ 100000000000
theorem SmallL.rd {σ : Hp} {p : Option Addr} {n : Nat} {ls : List Lb} (h : SmallL ls) (hr : RdL σ p n ls) : n ≤ 1000000 := by
  have h1 := h.1
  have h2 : ls.length = n := hr.1
  omega
theorem zero147 : ∀ w, (zeroValue 138).run prog w = .ok .nilFunc w := fun w => by
  have h : prog.info? 138 = some t138 := by kernel_rfl
  simp [zeroValue, typeInfo, h]
  rfl
section
variable {σ σ' σ0 : Hp} {R : Ending → Hp → Prop}
theorem EVv.at {p2 : Option Addr} {n2 i : Nat} {l : List Vv} {x : Vv} (hr : RdS 4 EVv σ p2 n2 l) (hx : l[i]? = some x) : ∃ b o p n c q m d, p2 = some ⟨b, o, none⟩ ∧ σ.ld ⟨b, o + i * 4, none⟩ = some (.int .i64 x.kind) ∧ σ.ld ⟨b, o + i * 4 + 1, none⟩ = some (.int .u64 x.v) ∧ σ.ld ⟨b, o + i * 4 + 2, none⟩ = some (.slice p n c) ∧ σ.ld ⟨b, o + i * 4 + 3, none⟩ = some (.slice q m d) ∧ RdS 2 EEl σ p n x.vec ∧ RdS 2 ERg σ q m x.rng := by
  obtain ⟨b, o, vs, hp, ⟨p, n, c, q, m, d, rfl, h1, h2⟩, hl⟩ := RdS.idx hr hx
  exact ⟨b, o, p, n, c, q, m, d, hp, hl.1, hl.2.1, hl.2.2.1, hl.2.2.2.1, h1, h2⟩
theorem ERg.at {p : Option Addr} {n i : Nat} {l : List Rg} {x : Rg} (hr : RdS 2 ERg σ p n l) (hx : l[i]? = some x) : ∃ b o q m d q2 m2 d2, p = some ⟨b, o, none⟩ ∧ LdL σ b (o + i * 2) [.slice q m d, .slice q2 m2 d2] ∧ RdL σ q m x.ls ∧ RdI .u64 σ q2 m2 x.vs ∧ m2 ≤ d2 := by
  obtain ⟨b, o, vs, hp, ⟨q, m, d, q2, m2, d2, rfl, h1, h2, h3⟩, hl⟩ := RdS.idx hr hx
  exact ⟨b, o, q, m, d, q2, m2, d2, hp, hl, h1, h2, h3⟩
theorem OutL.el {p : Option Addr} {n c : Nat} {xs : List El} {q : Option Addr} {m d : Nat} {ls : List Lb} {v : Int} {ty : TypeId} {Φ : Value → Hp → Prop} (ho : OutL 2 EEl σ0 σ p n c xs) (hr : RdL (σ.del p) q m ls) (hn : n ≤ 1000000000000)
    (hΦ : ∀ p' c' σ', OutL 2 EEl σ0 σ' p' (n + 1) c' (xs ++ [⟨ls, v⟩]) → Ext (σ.del p) (σ'.del p') → Φ (.slice p' (n + 1) c') σ') {b : Nat} (hb : σ b = none) :
    Eff prog (Builtin.append_ #[44, 44] ty #[.slice p n c, .slice (some ⟨b, 0, none⟩) 1 1]) (σ.set b (.cells #[.slice q m d, .int .u64 v] 48 (0, 0))) Φ := by
  have he : EEl (σ.del p) [.slice q m d, .int .u64 v] ⟨ls, v⟩ := ⟨q, m, d, rfl, hr⟩
  exact OutL.app1 EEl.mono ho rfl (EEl.one _ _ _ he) he (by omega) hΦ hb
theorem neg_spec {n : Nd} {p q a l : Option Addr} {k c m d j e : Nat} {L : List Vv} {x : Vv} (hr : RdS 4 EVv σ l j L) (hx : L[0]? = some x) (hV : VvOk x) (h : RetV R σ (negF FF x)) : Spec prog 66 #[.pointer a, ndV n p k c q m d, .slice l j e] σ R := by
  have hj : 0 < j := by have h1 : L.length = j := hr.1; have := (List.getElem?_eq_some_iff.1 hx).1; omega
  obtain ⟨b, o, pv, nv, cv, qv, mv, dv, rfl, h1, h2, h3, h4, h5, h6⟩ := EVv.at hr hx
  simp only [Nat.zero_mul, Nat.add_zero] at h1 h2 h3 h4
  refine eval_asker_neg.start fun _ _ => ⟨b, o, rfl, by omega, x.kind, h1, fun hk => ⟨by omega, x.v, h2, turned_spec ⟨_, rfl, ?_⟩⟩, fun hk => ⟨by omega, pv, nv, cv, h3, ?_⟩⟩
  · unfold negF at h; rw [if_pos hk] at h
    exact h.ok _ σ none 0 0 none 0 0 rfl (.refl _) RdS.nil RdS.nil (Nat.le_refl _) (Nat.le_refl _)
  unfold negF at h
  rw [if_neg hk] at h
  have hl : x.vec.length = nv := h5.1
  have hlen := hV.len
  suffices H : ∀ g i : Nat, ∀ p8 n8 c8 σ', nv - i = g → i ≤ nv → OutL 2 EEl σ σ' p8 n8 c8 ((x.vec.take i).map fun x => ⟨bareF x.ls, FF.turn x.v⟩) → eval_asker_neg.pt18 R 0 0 none 0 0 none 0 0 p8 n8 c8 pv nv cv nv i σ' from H nv 0 none 0 0 σ rfl (Nat.zero_le _) (OutL.nil (.refl _))
  intro g
  induction g with
  | zero =>
    intro i p8 n8 c8 σ' hg hi ho
    rw [List.take_of_length_le (by omega)] at ho
    have hn8 := ho.1.1
    rw [List.length_map] at hn8
    exact eval_asker_neg.pt18_of ⟨fun hlt => by omega, fun _ => vector_spec ho (by omega) h.thru⟩
  | succ g ih =>
    intro i p8 n8 c8 σ' hg hi ho
    have hi' : i < nv := by omega
    obtain ⟨y, hy⟩ := h5.ex hi'
    obtain ⟨b1, o1, q1, m1, d1, rfl, hl1, hr1⟩ := EEl.at h5 hy
    have hs1 := hV.el y (List.mem_of_getElem? hy)
    have hn8 := ho.1.1
    rw [List.length_map, List.length_take] at hn8
    refine eval_asker_neg.pt18_of ⟨fun _ => ⟨b1, o1, rfl, by omega, q1, m1, d1, y.v, by simpa using hl1.mono ho.up, fun _ => eBare_spec (hr1.mono ELb.mono ho.up) (hs1.1.rd hr1) fun p' n' c' σ2 hr2 hx2 => ⟨_, _, _, rfl, turned_spec ⟨_, rfl, fun b39 hb39 => ?_⟩⟩⟩, fun hh => by omega⟩
    refine OutL.el (ho.mono EEl.mono hx2) (hr2.mono ELb.mono (ho.new hx2)) (by omega) (fun p9 c9 σ3 ho3 _ => ⟨_, _, _, rfl, i64_succ hi' h5.big, ih (i + 1) _ _ _ _ (by omega) (by omega) ?_⟩) hb39
    rw [take_succ' hy, List.map_append]; exact ho3
theorem call_spec {n : Nd} {p q a l : Option Addr} {k c m d j e : Nat} {L : List Vv} {x : Vv} (hr : RdS 4 EVv σ l j L) (hx : L[0]? = some x) (hV : VvOk x) (hv : x.vec ≠ [] → n.op = 11 ∨ n.op = 12) (hw : x.rng ≠ [] → 1 ≤ n.op ∧ n.op ≤ 10)
    (h : RetV R σ ((vecF FF (callF FF n x)).map fun l => ⟨2, 0, l, []⟩)) : Spec prog 63 #[.pointer a, ndV n p k c q m d, .slice l j e] σ R := by
  have hj : 0 < j := by have h1 : L.length = j := hr.1; have := (List.getElem?_eq_some_iff.1 hx).1; omega
  obtain ⟨b, o, pv, nv, cv, qv, mv, dv, rfl, h1, h2, h3, h4, h5, h6⟩ := EVv.at hr hx
  simp only [Nat.zero_mul, Nat.add_zero] at h1 h2 h3 h4
  have hl : x.vec.length = nv := h5.1
  have hlr : x.rng.length = mv := h6.1
  have hlen := hV.len
  refine eval_asker_call.start fun _ _ => makeMap_eff fun mb hmb => ⟨mb, rfl, ?_⟩
  have s0 := Stg.fresh hmb
  refine s0.put (by simp) fun σ1 s1 => s1.put (by simp) fun σ2 s2 => ?_
  have hx2 := s2.1
  have hml := s2.2.2
  have cont : ∀ v21, (n.op = 11 → v21 = .func (.func 86) #[] #[]) → (n.op = 12 → v21 = .func (.func 87) #[] #[]) → ∃ v, v = v21 ∧ Pq (some ⟨b, o, none⟩) fun b23 o23 => In 0 (j : Int) ∧ LS σ2 b23 (o23 + 2) fun p25 n25 c25 => eval_asker_call.pt12 R (aD b23 o23) j e n.kind n.op n.text p k c n.width n.back n.grp q m d n.bool n.parts 0 0 none 0 0 none 0 0 none 0 0 v p25 n25 c25 (n25 : Int) 0 σ2 := fun v21 ha hf => by
    refine ⟨v21, rfl, b, o, rfl, by omega, pv, nv, cv, hx2.ld h3, ?_⟩
    let g1 : El → El := fun x => ⟨bareF x.ls, if n.op = 11 then FF.abs x.v else FF.floor x.v⟩
    let g2 : Rg → Option El := fun s => (FF.over n.op s.vs x.v).map fun v => ⟨bareF s.ls, v⟩
    have hc : callF FF n x = x.vec.map g1 ++ x.rng.filterMap g2 := rfl
    rw [hc] at h
    have second : ∀ g i : Nat, ∀ fb p8 n8 c8 σ', mv - i = g → i ≤ mv → FnRow (σ'.del p8) fb → OutL 2 EEl σ σ' p8 n8 c8 (x.vec.map g1 ++ (x.rng.take i).filterMap g2) → eval_asker_call.pt31 R (aD b o) j e n.kind n.op n.text p k c n.width n.back n.grp q m d n.bool n.parts 0 0 none 0 0 none 0 0 p8 n8 c8 (aD fb 0) 11 11 qv mv dv mv i σ' := by
      intro g
      induction g with
      | zero =>
        intro i fb p8 n8 c8 σ' hg hi hF ho
        rw [List.take_of_length_le (by omega)] at ho
        have hn8 := ho.1.1
        rw [List.length_append, List.length_map] at hn8
        have h9 := List.length_filterMap_le g2 x.rng
        exact eval_asker_call.pt31_of ⟨fun hlt => by omega, fun _ => vector_spec ho (by omega) h.thru⟩
      | succ g ih =>
        intro i fb p8 n8 c8 σ' hg hi hF ho
        have hi' : i < mv := by omega
        obtain ⟨y, hy⟩ := h6.ex hi'
        obtain ⟨b1, o1, q1, m1, d1, q2, m2, d2, rfl, hl1, hr1, hr2, hmd⟩ := ERg.at h6 hy
        have hs1 := hV.rg y (List.mem_of_getElem? hy)
        have hop := hw fun e => by rw [e] at hlr; simp at hlr; omega
        have hlv : y.vs.length = m2 := hr2.1
        have hn8 := ho.1.1
        rw [List.length_append, List.length_map] at hn8
        have h9 := List.length_filterMap_le g2 (x.rng.take i)
        rw [List.length_take] at h9
        have next : ∀ p9 n9 c9 σ3, FnRow (σ3.del p9) fb → OutL 2 EEl σ σ3 p9 n9 c9 (x.vec.map g1 ++ (x.rng.take i).filterMap g2 ++ (g2 y).toList) → eval_asker_call.pt47 R (aD b o) j e n.kind n.op n.text p k c n.width n.back n.grp q m d n.bool n.parts 0 0 none 0 0 none 0 0 p9 n9 c9 (aD fb 0) 11 11 (aD b1 o1) mv dv mv i σ3 := fun p9 n9 c9 σ3 hF3 ho3 =>
          eval_asker_call.pt47_of ⟨i64_succ hi' h6.big, ih (i + 1) _ _ _ _ _ (by omega) (by omega) hF3 (by rw [fmap_succ hy, ← List.append_assoc]; exact ho3)⟩
        refine eval_asker_call.pt31_of ⟨fun _ => ⟨b1, o1, rfl, by omega, q1, m1, d1, q2, m2, d2, by simpa using hl1.mono ho.up, fun _ => ⟨fb, 0, rfl, by omega, over_spec (w := x.v) hop (hF.mono (Ext.of_del _ _)) (hr2.mono ho.up) (by omega) hmd hj (ho.up.ld h2) fun z ok σ3 hz hx3 => ⟨z, ok, rfl, fun hok => ?_, fun hok => next _ _ _ _ (hF.mono (hx3.del _)) ?_⟩⟩⟩, fun hh => by omega⟩
        · have hz' : FF.over n.op y.vs x.v = some z := by
            rcases hz with ⟨h7, _⟩ | ⟨_, h8⟩
            · exact h7
            · rw [hok] at h8; cases h8
          refine eBare_spec (hr1.mono ELb.mono (ho.up.trans hx3)) (hs1.1.rd hr1) fun p' n' c' σ4 hr4 hx4 => ⟨_, _, _, rfl, fun b73 hb73 => ?_⟩
          have ho3 := ho.mono EEl.mono hx3
          refine OutL.el (ho3.mono EEl.mono hx4) (hr4.mono ELb.mono (ho3.new hx4)) (by omega) (fun p9 c9 σ5 ho5 hx5 => ⟨_, _, _, rfl, next _ _ _ _ (hF.mono (((hx3.trans hx4).del _).trans hx5)) ?_⟩) hb73
          rw [show g2 y = some ⟨bareF y.ls, z⟩ by show (FF.over n.op y.vs x.v).map _ = _; rw [hz']; rfl]; exact ho5
        · have hz' : FF.over n.op y.vs x.v = none := by
            rcases hz with ⟨_, h8⟩ | ⟨h7, _⟩
            · rw [hok] at h8; cases h8
            · exact h7
          rw [show g2 y = none by show (FF.over n.op y.vs x.v).map _ = _; rw [hz']; rfl]
          simpa using ho.mono EEl.mono hx3
    suffices H : ∀ g i : Nat, ∀ p8 n8 c8 σ', nv - i = g → i ≤ nv → OutL 2 EEl σ σ' p8 n8 c8 ((x.vec.take i).map g1) → eval_asker_call.pt12 R (aD b o) j e n.kind n.op n.text p k c n.width n.back n.grp q m d n.bool n.parts 0 0 none 0 0 none 0 0 p8 n8 c8 v21 pv nv cv nv i σ' from H nv 0 none 0 0 σ2 rfl (Nat.zero_le _) (OutL.nil hx2)
    intro g
    induction g with
    | zero =>
      intro i p8 n8 c8 σ' hg hi ho
      rw [List.take_of_length_le (by omega)] at ho
      refine eval_asker_call.pt12_of ⟨fun hlt => by omega, fun _ => functions_spec fun fb σ3 hF hx3 => ⟨_, _, _, rfl, b, o, rfl, by omega, qv, mv, dv, (ho.up.trans hx3).ld h4, second mv 0 fb p8 n8 c8 σ3 rfl (Nat.zero_le _) (hF.mono (ho.new hx3)) (by simpa using ho.mono EEl.mono hx3)⟩⟩
    | succ g ih =>
      intro i p8 n8 c8 σ' hg hi ho
      have hi' : i < nv := by omega
      obtain ⟨y, hy⟩ := h5.ex hi'
      obtain ⟨b1, o1, q1, m1, d1, rfl, hl1, hr1⟩ := EEl.at h5 hy
      have hs1 := hV.el y (List.mem_of_getElem? hy)
      have hn8 := ho.1.1
      rw [List.length_map, List.length_take] at hn8
      have hop := hv fun e => by rw [e] at hl; simp at hl; omega
      refine eval_asker_call.pt12_of ⟨fun _ => ⟨b1, o1, rfl, by omega, q1, m1, d1, y.v, by simpa using hl1.mono ho.up, fun _ => eBare_spec (hr1.mono ELb.mono ho.up) (hs1.1.rd hr1) fun p' n' c' σ3 hr3 hx3 => ⟨_, _, _, rfl, ?_⟩⟩, fun hh => by omega⟩
      have app : ∀ z, (g1 y).v = z → Cont R (CI .u64 fun x38 y_2 => Al y_2 fun b40 => Eff prog (Builtin.append_ #[44, 44] 44 #[.slice p8 n8 c8, (.slice (aD b40 0) 1 1)]) (Hp.set y_2 b40 (.cells #[.slice p' n' c', .int .u64 x38] 48 (0, 0))) (CS fun p41 n41 c41 y_3 => I64 ((i : Int) + 1) ∧ eval_asker_call.pt12 R (aD b o) j e n.kind n.op n.text p k c n.width n.back n.grp q m d n.bool n.parts 0 0 none 0 0 none 0 0 p41 n41 c41 v21 (aD b1 o1) nv cv nv ((i : Int) + 1) y_3)) (.returned (.int .u64 z)) σ3 := fun z hz => by
        refine ⟨z, rfl, fun b40 hb40 => OutL.el (ho.mono EEl.mono hx3) (hr3.mono ELb.mono (ho.new hx3)) (by omega) (fun p9 c9 σ5 ho5 hx5 => ⟨_, _, _, rfl, i64_succ hi' h5.big, ih (i + 1) _ _ _ _ (by omega) (by omega) ?_⟩) hb40⟩
        rw [take_succ' hy, List.map_append]
        have : g1 y = ⟨bareF y.ls, z⟩ := by rw [← hz]
        simpa [this] using ho5
      rcases hop with hop | hop
      · exact ⟨86, #[], #[], ha hop, wave_Abs.en, abs_spec hs1.2 (app _ (by show (if n.op = 11 then absI y.v else _) = _; rw [if_pos hop]))⟩
      · exact ⟨87, #[], #[], hf hop, wave_Floor.en, floor_spec (app _ (by show (if n.op = 11 then absI y.v else floorI y.v) = _; rw [if_neg (by omega)]))⟩
  refine hml.look zero147 (fun hno => cont _ (fun h9 => ?_) fun h9 => ?_) fun v hv => ?_
  · exact absurd h9.symm (hno (11, .func (.func 86) #[] #[]) (by simp))
  · exact absurd h9.symm (hno (12, .func (.func 87) #[] #[]) (by simp))
  · simp only [List.nil_append, List.cons_append, List.mem_cons, List.not_mem_nil, or_false, Prod.mk.injEq] at hv
    rcases hv with ⟨h9, rfl⟩ | ⟨h9, rfl⟩
    · exact cont _ (fun _ => rfl) fun h8 => by omega
    · exact cont _ (fun h8 => by omega) fun _ => rfl
end
end TwW
end
section
namespace TwW
open Go Tw Go.RowKit Go.Proofs.Tryz
theorem zero62 : ∀ w, (zeroValue 48).run prog w = .ok (.agg #[.slice none 0 0, .int .u64 0]) w := fun w => by
  have h : prog.info? 48 = some t48 := by kernel_rfl
  simp [zeroValue, typeInfo, h]
  rfl
def E0 (σ0 : Hp) (v : Value) (x : El) : Prop := ∃ p n c, v = .agg #[.slice p n c, .int .u64 x.v] ∧ RdL σ0 p n x.ls
theorem filt_succ {α : Type} {f : α → Bool} {xs : List α} {k : Nat} {x : α} (hx : xs[k]? = some x) : (xs.take (k + 1)).filter f = (xs.take k).filter f ++ if f x then [x] else [] := by
  rw [take_succ' hx, List.filter_append]
  by_cases h : f x = true <;> simp [h]
section
variable {σ σ' σ0 : Hp} {R : Ending → Hp → Prop}
theorem Ext.put {m : Nat} {o : Obj} (hx : Ext σ0 σ) (hm : σ0 m = none) : Ext σ0 (σ.set m o) := fun k u hk => by rw [Hp.set_ne (fun e => by rw [e, hm] at hk; cases hk)]; exact hx _ _ hk
theorem keyed_spec {n : Nd} {p q pv : Option Addr} {k c m d nv cv : Nat} {vec : List El} (hs : RdC 1 σ q m (n.names.map .string)) (hr : RdS 2 EEl σ pv nv vec) (hsm : ∀ e ∈ vec, SmallL e.ls)
    (h : ∀ mb σ', MS (E0 σ) σ' mb (keyM n vec) → Ext σ σ' → R (.returned (.tuple #[.map (some mb), .bool (oneF n vec)])) σ') : Spec prog 145 #[ndV n p k c q m d, .slice pv nv cv] σ R := by
  have hl : vec.length = nv := hr.1
  refine eval_keyed.start fun _ => makeMap_eff fun mb hmb => ⟨mb, rfl, ?_⟩
  let st : List (ByteArray × El) → El → List (ByteArray × El) := fun m x => setM m (keyL (byF n x.ls)) x
  have hk : keyM n vec = vec.foldl st [] := rfl
  suffices H : ∀ g i : Nat, ∀ σ', nv - i = g → i ≤ nv → MS (E0 σ) σ' mb ((vec.take i).foldl st []) → Ext σ σ' → eval_keyed.pt10 R pv nv cv n.kind n.op n.text p k c n.width n.back n.grp q m d n.bool n.parts (some mb) pv nv cv nv i σ' from H nv 0 _ rfl (Nat.zero_le _) MS.fresh (.set hmb)
  intro g
  induction g with
  | zero =>
    intro i σ' hg hi hM hx
    rw [List.take_of_length_le (by omega)] at hM
    refine eval_keyed.pt10_of ⟨fun hlt => by omega, fun _ => ⟨_, hM.len, ?_⟩⟩
    have := h mb σ' hM hx
    unfold oneF at this
    rw [hk, hl] at this
    rw [show decide ((((vec.foldl st []).length : Nat) : Int) = (nv : Int)) = decide ((vec.foldl st []).length = nv) from decide_eq_decide.2 (by omega)]
    exact this
  | succ g ih =>
    intro i σ' hg hi hM hx
    have hi' : i < nv := by omega
    obtain ⟨y, hy⟩ := hr.ex hi'
    obtain ⟨b1, o1, q1, m1, d1, rfl, hl1, hr1⟩ := EEl.at hr hy
    have hs1 := hsm y (List.mem_of_getElem? hy)
    refine eval_keyed.pt10_of ⟨fun _ => ⟨b1, o1, rfl, by omega, q1, m1, d1, y.v, by simpa using hl1.mono hx, fun _ => by_spec (hr1.mono ELb.mono hx) (hs1.rd hr1) (hs.mono hx) fun p' n' c' σ2 hr2 hx2 => ⟨_, _, _, rfl, eKey_spec (hr2.mono ELb.mono (Ext.of_new _ _)) hs1.byF fun σ3 hx3 => ⟨_, rfl, ?_⟩⟩⟩, fun hh => by omega⟩
    refine (hM.mono (hx2.trans hx3)).put (x := y) ⟨q1, m1, d1, rfl, hr1⟩ fun o hM' => ⟨i64_succ hi' hr.big, ih (i + 1) _ (by omega) (by omega) ?_ (Ext.put (hx.trans (hx2.trans hx3)) hmb)⟩
    rw [take_succ' hy, List.foldl_append]; exact hM'
theorem sets_spec {n : Nd} {p q a px py : Option Addr} {k c m d nx cx ny cy : Nat} {x y : List El} (hs : RdC 1 σ q m (n.names.map .string)) (hrx : RdS 2 EEl σ px nx x) (hry : RdS 2 EEl σ py ny y) (hsx : ∀ e ∈ x, SmallL e.ls) (hsy : ∀ e ∈ y, SmallL e.ls) (hlen : x.length + y.length ≤ 1000000000000)
    (h : RetV R σ ((vecF FF (setsF n x y)).map fun l => ⟨2, 0, l, []⟩)) : Spec prog 102 #[.pointer a, ndV n p k c q m d, .slice px nx cx, .slice py ny cy] σ R := by
  have hlx : x.length = nx := hrx.1
  have hly : y.length = ny := hry.1
  refine eval_asker_sets.start fun _ _ => keyed_spec hs hrx hsx fun mx σ1 hM1 hx1 => ⟨_, _, rfl, keyed_spec (hs.mono hx1) (hry.mono EEl.mono hx1) hsy fun my σ2 hM2 hx2 => ⟨_, _, rfl, ?_⟩⟩
  have hX := hx1.trans hx2
  have hMx := hM1.mono hx2
  replace h := h.weak hX
  let f1 : El → Bool := fun e => decide (n.op = 12) || ((lastE n y (byF n e.ls)).isSome == decide (n.op = 11))
  let f2 : El → Bool := fun e => (lastE n x (byF n e.ls)).isNone && decide (n.op = 12)
  have hf : setsF n x y = x.filter f1 ++ y.filter f2 := rfl
  rw [hf] at h
  have second : ∀ g i : Nat, ∀ p8 n8 c8 σ', ny - i = g → i ≤ ny → OutL 2 EEl σ2 σ' p8 n8 c8 (x.filter f1 ++ (y.take i).filter f2) → eval_asker_sets.pt37 R n.kind n.op n.text p k c n.width n.back n.grp q m d n.bool n.parts 0 0 none 0 0 none 0 0 (some mx) p8 n8 c8 py ny cy ny i σ' := by
    intro g
    induction g with
    | zero =>
      intro i p8 n8 c8 σ' hg hi ho
      rw [List.take_of_length_le (by omega)] at ho
      have hn8 := ho.1.1
      rw [List.length_append] at hn8
      have h9 := List.length_filter_le f1 x
      have h10 := List.length_filter_le f2 y
      exact eval_asker_sets.pt37_of ⟨fun hlt => by omega, fun _ => vector_spec ho (by omega) h.thru⟩
    | succ g ih =>
      intro i p8 n8 c8 σ' hg hi ho
      have hi' : i < ny := by omega
      obtain ⟨z, hz⟩ := hry.ex hi'
      obtain ⟨b1, o1, q1, m1, d1, rfl, hl1, hr1⟩ := EEl.at hry hz
      have hs1 := hsy z (List.mem_of_getElem? hz)
      have hn8 := ho.1.1
      rw [List.length_append] at hn8
      have h9 := List.length_filter_le f1 x
      have h10 := List.length_filter_le f2 (y.take i)
      rw [List.length_take] at h10
      have next : ∀ p9 n9 c9 σ3, OutL 2 EEl σ2 σ3 p9 n9 c9 (x.filter f1 ++ (y.take i).filter f2 ++ if f2 z then [z] else []) → eval_asker_sets.pt53 R n.kind n.op n.text p k c n.width n.back n.grp q m d n.bool n.parts 0 0 none 0 0 none 0 0 (some mx) p9 n9 c9 (aD b1 o1) ny cy ny i σ3 := fun p9 n9 c9 σ3 ho3 =>
        eval_asker_sets.pt53_of ⟨i64_succ hi' hry.big, ih (i + 1) _ _ _ _ (by omega) (by omega) (by rw [filt_succ hz, ← List.append_assoc]; exact ho3)⟩
      have hxx := hX.trans ho.up
      refine eval_asker_sets.pt37_of ⟨fun _ => ⟨b1, o1, rfl, by omega, q1, m1, d1, z.v, by simpa using hl1.mono hxx, fun _ => by_spec (hr1.mono ELb.mono hxx) (hs1.rd hr1) (hs.mono hxx) fun p' n' c' σ3 hr3 hx3 => ⟨_, _, _, rfl, eKey_spec (hr3.mono ELb.mono (Ext.of_new _ _)) hs1.byF fun σ4 hx4 => ⟨_, rfl, ?_⟩⟩⟩, fun hh => by omega⟩
      have ho4 := ho.mono EEl.mono (hx3.trans hx4)
      refine MS.look2 (hMx.mono (ho.up.trans (hx3.trans hx4))) zero62 (fun hnone => ⟨_, _, _, _, _, rfl, fun _ => ⟨fun _ => ⟨fun h12 => fun b91 hb91 => ?_, fun h12 => next _ _ _ _ ?_⟩, fun hh => (by cases hh)⟩⟩) fun v e he hE => ?_
      · refine OutL.el ho4 (hr1.mono ELb.mono (hX.trans ho4.2)) (by omega) (fun p9 c9 σ5 ho5 _ => ⟨_, _, _, rfl, next _ _ _ _ ?_⟩) hb91
        have : f2 z = true := by
          show ((lookM (keyM n x) (keyL (byF n z.ls))).isNone && decide (n.op = 12)) = true
          rw [hnone, decide_eq_true h12]; rfl
        rw [this]; exact ho5
      · have : f2 z = false := by
          show ((lookM (keyM n x) (keyL (byF n z.ls))).isNone && decide (n.op = 12)) = false
          rw [decide_eq_false h12, Bool.and_false]
        rw [this]; simpa using ho4
      · obtain ⟨p5, n5, c5, rfl, _⟩ := hE
        refine ⟨_, _, _, _, _, rfl, fun _ => ⟨fun hh => (by cases hh), fun _ => next _ _ _ _ ?_⟩⟩
        have : f2 z = false := by
          show ((lookM (keyM n x) (keyL (byF n z.ls))).isNone && decide (n.op = 12)) = false
          rw [he]; rfl
        rw [this]; simpa using ho4
  suffices H : ∀ g i : Nat, ∀ p8 n8 c8 σ', nx - i = g → i ≤ nx → OutL 2 EEl σ2 σ' p8 n8 c8 ((x.take i).filter f1) → eval_asker_sets.pt14 R py ny cy n.kind n.op n.text p k c n.width n.back n.grp q m d n.bool n.parts 0 0 none 0 0 none 0 0 (some mx) (some my) p8 n8 c8 px nx cx nx i σ' from H nx 0 none 0 0 σ2 rfl (Nat.zero_le _) (OutL.nil (.refl _))
  intro g
  induction g with
  | zero =>
    intro i p8 n8 c8 σ' hg hi ho
    rw [List.take_of_length_le (by omega)] at ho
    exact eval_asker_sets.pt14_of ⟨fun hlt => by omega, fun _ => second ny 0 p8 n8 c8 σ' rfl (Nat.zero_le _) (by simpa using ho)⟩
  | succ g ih =>
    intro i p8 n8 c8 σ' hg hi ho
    have hi' : i < nx := by omega
    obtain ⟨z, hz⟩ := hrx.ex hi'
    obtain ⟨b1, o1, q1, m1, d1, rfl, hl1, hr1⟩ := EEl.at hrx hz
    have hs1 := hsx z (List.mem_of_getElem? hz)
    have hn8 := ho.1.1
    have h9 := List.length_filter_le f1 (x.take i)
    rw [List.length_take] at h9
    have next : ∀ p9 n9 c9 σ3, OutL 2 EEl σ2 σ3 p9 n9 c9 ((x.take i).filter f1 ++ if f1 z then [z] else []) → eval_asker_sets.pt30 R py ny cy n.kind n.op n.text p k c n.width n.back n.grp q m d n.bool n.parts 0 0 none 0 0 none 0 0 (some mx) (some my) p9 n9 c9 (aD b1 o1) nx cx nx i σ3 := fun p9 n9 c9 σ3 ho3 =>
      eval_asker_sets.pt30_of ⟨i64_succ hi' hrx.big, ih (i + 1) _ _ _ _ (by omega) (by omega) (by rw [filt_succ hz]; exact ho3)⟩
    have hxx := hX.trans ho.up
    refine eval_asker_sets.pt14_of ⟨fun _ => ⟨b1, o1, rfl, by omega, q1, m1, d1, z.v, by simpa using hl1.mono hxx, fun _ => by_spec (hr1.mono ELb.mono hxx) (hs1.rd hr1) (hs.mono hxx) fun p' n' c' σ3 hr3 hx3 => ⟨_, _, _, rfl, eKey_spec (hr3.mono ELb.mono (Ext.of_new _ _)) hs1.byF fun σ4 hx4 => ⟨_, rfl, ?_⟩⟩⟩, fun hh => by omega⟩
    have ho4 := ho.mono EEl.mono (hx3.trans hx4)
    have app : f1 z = true → ∀ b63, σ4 b63 = none → Eff prog (Builtin.append_ #[44, 44] 44 #[.slice p8 n8 c8, (.slice (aD b63 0) 1 1)]) (Hp.set σ4 b63 (.cells #[.slice q1 m1 d1, .int .u64 z.v] 48 (0, 0))) (CS fun p64 n64 c64 y_4 => eval_asker_sets.pt30 R py ny cy n.kind n.op n.text p k c n.width n.back n.grp q m d n.bool n.parts 0 0 none 0 0 none 0 0 (some mx) (some my) p64 n64 c64 (aD b1 o1) nx cx nx i y_4) := fun ht b63 hb63 => by
      refine OutL.el ho4 (hr1.mono ELb.mono (hX.trans ho4.2)) (by omega) (fun p9 c9 σ5 ho5 _ => ⟨_, _, _, rfl, next _ _ _ _ ?_⟩) hb63
      rw [ht]; exact ho5
    have skip : f1 z = false → eval_asker_sets.pt30 R py ny cy n.kind n.op n.text p k c n.width n.back n.grp q m d n.bool n.parts 0 0 none 0 0 none 0 0 (some mx) (some my) p8 n8 c8 (aD b1 o1) nx cx nx i σ4 := fun ht => next _ _ _ _ (by rw [ht]; simpa using ho4)
    have e1 : f1 z = (decide (n.op = 12) || ((lookM (keyM n y) (keyL (byF n z.ls))).isSome == decide (n.op = 11))) := rfl
    refine MS.look2 ((hM2.imp fun v x hE => hE).mono (ho.up.trans (hx3.trans hx4))) zero62 (fun hnone => ⟨_, _, _, _, _, rfl, fun _ => ⟨fun h12 => app ?_, fun h12 => ⟨fun hh => (by cases hh), fun _ => ⟨fun h11 => skip ?_, fun h11 => app ?_⟩⟩⟩⟩) fun v e he hE => ?_
    · rw [e1, decide_eq_true h12]; rfl
    · rw [e1, decide_eq_false h12, hnone, decide_eq_true h11]; rfl
    · rw [e1, decide_eq_false h12, hnone, decide_eq_false h11]; rfl
    · obtain ⟨p5, n5, c5, rfl, _⟩ := hE
      refine ⟨_, _, _, _, _, rfl, fun _ => ⟨fun h12 => app ?_, fun h12 => ⟨fun _ => ⟨fun h11 => app ?_, fun h11 => skip ?_⟩, fun hh => (by cases hh)⟩⟩⟩
      · rw [e1, decide_eq_true h12]; rfl
      · rw [e1, decide_eq_false h12, he, decide_eq_true h11]; rfl
      · rw [e1, decide_eq_false h12, he, decide_eq_false h11]; rfl
end
end TwW
end
section
namespace TwW
open Go Tw Go.RowKit Go.Proofs.Tryz
section
variable {σ σ' σ0 : Hp} {R : Ending → Hp → Prop}
theorem mixed_spec {n : Nd} {p q a px : Option Addr} {k c m d nx cx f : Nat} {cap : Array Value} {x : List El} {g : Int → Int × Bool} (hrx : RdS 2 EEl σ px nx x) (hsx : ∀ e ∈ x, SmallL e.ls) (hlen : x.length ≤ 1000000000000) (hen : Enters prog f)
    (hC : ∀ (σ2 : Hp) (v : Int) (R' : Ending → Hp → Prop), Ext σ σ2 → R' (.returned (.tuple #[.int .u64 (g v).1, .bool (g v).2])) σ2 → Spec prog f (#[] ++ #[.int .u64 v] ++ cap) σ2 R')
    (h : RetV R σ ((vecF FF (mixF n x g)).map fun l => ⟨2, 0, l, []⟩)) : Spec prog 99 #[.pointer a, ndV n p k c q m d, .slice px nx cx, .func (.func f) #[] cap] σ R := by
  have hlx : x.length = nx := hrx.1
  let f1 : El → Option El := fun x => if cmpsF n.op = false ∨ n.bool = true then some ⟨bareF x.ls, (g x.v).1⟩ else if (g x.v).2 then some x else none
  have hf : mixF n x g = x.filterMap f1 := rfl
  rw [hf] at h
  refine eval_asker_mixed.start fun _ _ => ?_
  suffices H : ∀ gg i : Nat, ∀ p8 n8 c8 σ', nx - i = gg → i ≤ nx → OutL 2 EEl σ σ' p8 n8 c8 ((x.take i).filterMap f1) → eval_asker_mixed.pt10 R (.func (.func f) #[] cap) n.kind n.op n.text p k c n.width n.back n.grp q m d n.bool n.parts 0 0 none 0 0 none 0 0 p8 n8 c8 px nx cx nx i σ' from H nx 0 none 0 0 σ rfl (Nat.zero_le _) (OutL.nil (.refl _))
  intro gg
  induction gg with
  | zero =>
    intro i p8 n8 c8 σ' hg hi ho
    rw [List.take_of_length_le (by omega)] at ho
    have hn8 := ho.1.1
    have h9 := List.length_filterMap_le f1 x
    exact eval_asker_mixed.pt10_of ⟨fun hlt => by omega, fun _ => vector_spec ho (by omega) h.thru⟩
  | succ gg ih =>
    intro i p8 n8 c8 σ' hg hi ho
    have hi' : i < nx := by omega
    obtain ⟨z, hz⟩ := hrx.ex hi'
    obtain ⟨b1, o1, q1, m1, d1, rfl, hl1, hr1⟩ := EEl.at hrx hz
    have hs1 := hsx z (List.mem_of_getElem? hz)
    have hn8 := ho.1.1
    have h9 := List.length_filterMap_le f1 (x.take i)
    rw [List.length_take] at h9
    have next : ∀ tb p9 n9 c9 σ3, tb = n.bool → OutL 2 EEl σ σ3 p9 n9 c9 ((x.take i).filterMap f1 ++ (f1 z).toList) → eval_asker_mixed.pt31 R (.func (.func f) #[] cap) n.kind n.op n.text p k c n.width n.back n.grp q m d tb n.parts 0 0 none 0 0 none 0 0 p9 n9 c9 (aD b1 o1) nx cx nx i σ3 := fun tb p9 n9 c9 σ3 htb ho3 => by
      subst htb
      exact eval_asker_mixed.pt31_of ⟨i64_succ hi' hrx.big, ih (i + 1) _ _ _ _ (by omega) (by omega) (by rw [fmap_succ hz]; exact ho3)⟩
    have e1 : f1 z = if cmpsF n.op = false ∨ n.bool = true then some ⟨bareF z.ls, (g z.v).1⟩ else if (g z.v).2 then some z else none := rfl
    refine eval_asker_mixed.pt10_of ⟨fun _ => ⟨b1, o1, rfl, by omega, q1, m1, d1, z.v, by simpa using hl1.mono ho.up, fun _ => ⟨f, #[], cap, rfl, hen, hC σ' z.v _ ho.up ⟨_, _, rfl, compares_spec ⟨_, rfl, ?_⟩⟩⟩⟩, fun hh => by omega⟩
    have bare : (cmpsF n.op = false ∨ n.bool = true) → ∀ tb, tb = n.bool → Spec prog 88 #[.slice q1 m1 d1] σ' (Cont R (CS fun p40 n40 c40 y_3 => Al y_3 fun b43 => Eff prog (Builtin.append_ #[44, 44] 44 #[.slice p8 n8 c8, (.slice (aD b43 0) 1 1)]) (Hp.set y_3 b43 (.cells #[.slice p40 n40 c40, .int .u64 (g z.v).1] 48 (0, 0))) (CS fun p44 n44 c44 y_4 => eval_asker_mixed.pt31 R (.func (.func f) #[] cap) n.kind n.op n.text p k c n.width n.back n.grp q m d tb n.parts 0 0 none 0 0 none 0 0 p44 n44 c44 (aD b1 o1) nx cx nx i y_4))) := fun hc tb htb =>
      eBare_spec (hr1.mono ELb.mono ho.up) (hs1.rd hr1) fun p' n' c' σ3 hr3 hx3 => ⟨_, _, _, rfl, fun b43 hb43 => OutL.el (ho.mono EEl.mono hx3) (hr3.mono ELb.mono (ho.new hx3)) (by omega) (fun p9 c9 σ5 ho5 _ => ⟨_, _, _, rfl, next _ _ _ _ _ htb (by rw [e1, if_pos hc]; exact ho5)⟩) hb43⟩
    refine ⟨fun hcf => bare (.inl hcf) _ rfl, fun hct => ⟨fun hb => bare (.inr hb) _ hb.symm, fun hb => ⟨fun hg2 => fun b49 hb49 => ?_, fun hg2 => next _ _ _ _ _ hb.symm ?_⟩⟩⟩
    · refine OutL.el ho (hr1.mono ELb.mono ho.2) (by omega) (fun p9 c9 σ5 ho5 _ => ⟨_, _, _, rfl, next _ _ _ _ _ hb.symm ?_⟩) hb49
      rw [e1, if_neg (by rw [hct, hb]; simp), if_pos hg2]; exact ho5
    · rw [e1, if_neg (by rw [hct, hb]; simp), if_neg (by rw [hg2]; simp)]; simpa using ho
theorem vectors_spec {n : Nd} {p q a px py : Option Addr} {k c m d nx cx ny cy : Nat} {x y : List El} (hs : RdC 1 σ q m (n.names.map .string)) (hrx : RdS 2 EEl σ px nx x) (hry : RdS 2 EEl σ py ny y) (hsx : ∀ e ∈ x, SmallL e.ls) (hsy : ∀ e ∈ y, SmallL e.ls) (hlen : x.length + y.length ≤ 1000000000000)
    (h : RetV R σ (((vecsF FF n x y).bind (vecF FF)).map fun l => ⟨2, 0, l, []⟩)) : Spec prog 103 #[.pointer a, ndV n p k c q m d, .slice px nx cx, .slice py ny cy] σ R := by
  have hlx : x.length = nx := hrx.1
  have hly : y.length = ny := hry.1
  let f1 : El → Option El := fun e => match lastE n y (byF n e.ls) with
    | none => none
    | some o => if cmpsF n.op = false ∨ n.bool = true then some ⟨byF n e.ls, (FF.sing n.op e.v o.v).1⟩ else if (FF.sing n.op e.v o.v).2 then some e else none
  have hf : vecsF FF n x y = if oneF n x && oneF n y then some (x.filterMap f1) else none := rfl
  rw [hf] at h
  refine eval_asker_vectors.start fun _ _ => keyed_spec hs hrx hsx fun mx σ1 hM1 hx1 => ⟨_, _, rfl, keyed_spec (hs.mono hx1) (hry.mono EEl.mono hx1) hsy fun my σ2 hM2 hx2 => ⟨_, _, rfl, fun h1 => ?_, fun h1 => ⟨fun h2 => ?_, fun h2 => ?_⟩⟩⟩
  · rw [h1] at h; exact h.no rfl _ (hx1.trans hx2)
  · rw [h2, Bool.and_false] at h; exact h.no rfl _ (hx1.trans hx2)
  rw [h1, h2] at h
  have hX := hx1.trans hx2
  replace h : RetV R σ2 ((vecF FF (x.filterMap f1)).map fun l => ⟨2, 0, l, []⟩) := h.weak hX
  suffices H : ∀ gg i : Nat, ∀ p8 n8 c8 σ', nx - i = gg → i ≤ nx → OutL 2 EEl σ2 σ' p8 n8 c8 ((x.take i).filterMap f1) → eval_asker_vectors.pt22 R n.kind n.op n.text p k c n.width n.back n.grp q m d n.bool n.parts 0 0 none 0 0 none 0 0 (some my) p8 n8 c8 px nx cx nx i σ' from H nx 0 none 0 0 σ2 rfl (Nat.zero_le _) (OutL.nil (.refl _))
  intro gg
  induction gg with
  | zero =>
    intro i p8 n8 c8 σ' hg hi ho
    rw [List.take_of_length_le (by omega)] at ho
    have hn8 := ho.1.1
    have h9 := List.length_filterMap_le f1 x
    exact eval_asker_vectors.pt22_of ⟨fun hlt => by omega, fun _ => vector_spec ho (by omega) h.thru⟩
  | succ gg ih =>
    intro i p8 n8 c8 σ' hg hi ho
    have hi' : i < nx := by omega
    obtain ⟨z, hz⟩ := hrx.ex hi'
    obtain ⟨b1, o1, q1, m1, d1, rfl, hl1, hr1⟩ := EEl.at hrx hz
    have hs1 := hsx z (List.mem_of_getElem? hz)
    have hn8 := ho.1.1
    have h9 := List.length_filterMap_le f1 (x.take i)
    rw [List.length_take] at h9
    have next : ∀ tb p9 n9 c9 σ3, tb = n.bool → OutL 2 EEl σ2 σ3 p9 n9 c9 ((x.take i).filterMap f1 ++ (f1 z).toList) → eval_asker_vectors.pt53 R n.kind n.op n.text p k c n.width n.back n.grp q m d tb n.parts 0 0 none 0 0 none 0 0 (some my) p9 n9 c9 (aD b1 o1) nx cx nx i σ3 := fun tb p9 n9 c9 σ3 htb ho3 => by
      subst htb
      exact eval_asker_vectors.pt53_of ⟨i64_succ hi' hrx.big, ih (i + 1) _ _ _ _ (by omega) (by omega) (by rw [fmap_succ hz]; exact ho3)⟩
    have hxx := hX.trans ho.up
    refine eval_asker_vectors.pt22_of ⟨fun _ => ⟨b1, o1, rfl, by omega, q1, m1, d1, z.v, by simpa using hl1.mono hxx, fun _ => by_spec (hr1.mono ELb.mono hxx) (hs1.rd hr1) (hs.mono hxx) fun p' n' c' σ3 hr3 hx3 => ⟨_, _, _, rfl, eKey_spec (hr3.mono ELb.mono (Ext.of_new _ _)) hs1.byF fun σ4 hx4 => ⟨_, rfl, ?_⟩⟩⟩, fun hh => by omega⟩
    have ho4 := ho.mono EEl.mono (hx3.trans hx4)
    have hrk : RdL (σ4.del p8) p' n' (byF n z.ls) := hr3.mono ELb.mono ((Ext.new_mono hx4).trans (ho.new (hx3.trans hx4)))
    have e1 : f1 z = match lookM (keyM n y) (keyL (byF n z.ls)) with
      | none => none
      | some o => if cmpsF n.op = false ∨ n.bool = true then some ⟨byF n z.ls, (singI n.op z.v o.v).1⟩ else if (singI n.op z.v o.v).2 then some z else none := rfl
    refine MS.look2 (hM2.mono (ho.up.trans (hx3.trans hx4))) zero62 (fun hnone => ⟨_, _, _, _, _, rfl, fun _ => ⟨fun _ => next _ _ _ _ _ rfl ?_, fun hh => (by cases hh)⟩⟩) fun v e he hE => ?_
    · rw [e1, hnone]; simpa using ho4
    obtain ⟨p5, n5, c5, rfl, _⟩ := hE
    rw [he] at e1
    dsimp only at e1
    refine ⟨_, _, _, _, _, rfl, fun _ => ⟨fun hh => (by cases hh), fun _ => single_spec ⟨_, _, rfl, compares_spec ⟨_, rfl, ?_⟩⟩⟩⟩
    have bare : (cmpsF n.op = false ∨ n.bool = true) → ∀ tb, tb = n.bool → Al σ4 fun b82 => Eff prog (Builtin.append_ #[44, 44] 44 #[.slice p8 n8 c8, (.slice (aD b82 0) 1 1)]) (Hp.set σ4 b82 (.cells #[.slice p' n' c', .int .u64 (singI n.op z.v e.v).1] 48 (0, 0))) (CS fun p83 n83 c83 y_6 => eval_asker_vectors.pt53 R n.kind n.op n.text p k c n.width n.back n.grp q m d tb n.parts 0 0 none 0 0 none 0 0 (some my) p83 n83 c83 (aD b1 o1) nx cx nx i y_6) := fun hc tb htb =>
      fun b43 hb43 => OutL.el ho4 hrk (by omega) (fun p9 c9 σ5 ho5 _ => ⟨_, _, _, rfl, next _ _ _ _ _ htb (by rw [e1, if_pos hc]; exact ho5)⟩) hb43
    refine ⟨fun hcf => bare (.inl hcf) _ rfl, fun hct => ⟨fun hb => bare (.inr hb) _ hb.symm, fun hb => ⟨fun hg2 => fun b49 hb49 => ?_, fun hg2 => next _ _ _ _ _ hb.symm ?_⟩⟩⟩
    · refine OutL.el ho4 (hr1.mono ELb.mono (hX.trans ho4.2)) (by omega) (fun p9 c9 σ5 ho5 _ => ⟨_, _, _, rfl, next _ _ _ _ _ hb.symm ?_⟩) hb49
      rw [e1, if_neg (by rw [hct, hb]; simp), if_pos hg2]; exact ho5
    · rw [e1, if_neg (by rw [hct, hb]; simp), if_neg (by rw [hg2]; simp)]; simpa using ho4
end
end TwW
end
section
namespace TwW
open Go Tw Go.RowKit Go.Proofs.Tryz
theorem size79 : ∀ w, (Go.sizeOf 79).run prog w = .ok 4 w := fun w => by kernel_rfl
abbrev vvC (x : Vv) (p : Option Addr) (n c : Nat) (q : Option Addr) (m d : Nat) : Array Value := #[.int .i64 x.kind, .int .u64 x.v, .slice p n c, .slice q m d]
abbrev ndC (n : Nd) (p : Option Addr) (k c : Nat) (q : Option Addr) (m d : Nat) : Array Value := #[.int .i64 n.kind, .int .i64 n.op, .string n.text, .slice p k c, .int .i64 n.width, .int .i64 n.back, .int .i64 n.grp, .slice q m d, .bool n.bool, .int .i64 n.parts]
section
variable {σ σ' σ0 : Hp} {R : Ending → Hp → Prop}
theorem store4 {b : Nat} {c : Array Value} {v0 v1 v2 v3 : Value} {Φ : Unit → Hp → Prop} (hc : c.size = 4) (hb : σ b = some (.cells c 79 (0, 0))) (h1 : ∀ u ∈ [v0, v1, v2, v3], u.oneCell' = true) (hv : (Value.agg #[v0, v1, v2, v3]).cells = #[v0, v1, v2, v3])
    (h : Φ () (σ.set b (.cells #[v0, v1, v2, v3] 79 (0, 0)))) : Eff prog (Instr.storeAt 79 (.pointer (some ⟨b, 0, none⟩)) (.agg #[v0, v1, v2, v3])) σ Φ := by
  refine Eff.store size79 hb (by rw [hv]; rfl) (by omega) (by rw [hv]; simpa using h1) ?_
  rw [hv, wrt_full (by rw [hc]; rfl)]
  exact h
theorem LdL.of_cells {b : Nat} {c : List Value} {T : TypeId} (h : σ b = some (.cells c.toArray T (0, 0))) : LdL σ b 0 c := LdL.of fun j v hj => by
  rw [Nat.zero_add]; exact ld_of h (by simpa using hj)
theorem bin_spec {n : Nd} {p q a l : Option Addr} {k c m d j e : Nat} {L : List Vv} {x y : Vv} (hs : RdC 1 σ q m (n.names.map .string)) (hr : RdS 4 EVv σ l j L) (hx : L[0]? = some x) (hy : L[1]? = some y) (hVx : VvOk x) (hVy : VvOk y) (h : RetV R σ (binF FF n x y)) :
    Spec prog 65 #[.pointer a, ndV n p k c q m d, .slice l j e] σ R := by
  have hj : 1 < j := by have h1 : L.length = j := hr.1; have := (List.getElem?_eq_some_iff.1 hy).1; omega
  obtain ⟨b, o, px, nx, cx, qx, mx, dx, rfl, h1, h2, h3, h4, h5, h6⟩ := EVv.at hr hx
  obtain ⟨_, _, py, ny, cy, qy, my, dy, he, g1, g2, g3, g4, g5, g6⟩ := EVv.at hr hy
  cases he
  simp only [Nat.zero_mul, Nat.add_zero, Nat.one_mul] at h1 h2 h3 h4 g1 g2 g3 g4
  have hlx := hVx.len
  have hly := hVy.len
  have hsx := fun z hz => (hVx.el z hz).1
  have hsy := fun z hz => (hVy.el z hz).1
  refine eval_asker_bin.start fun b4 hb4 _ => ?_
  have x4 := Ext.set (o := .cells (ndC n p k c q m d) 52 (0, 0)) hb4
  have c4 := Hp.set_same σ b4 (.cells (ndC n p k c q m d) 52 (0, 0))
  generalize hσ4 : σ.set b4 (.cells (ndC n p k c q m d) 52 (0, 0)) = σ4 at *
  refine ⟨b, o, rfl, by omega, x.kind, x.v, px, nx, cx, qx, mx, dx, ⟨x4.ld h1, x4.ld h2, x4.ld h3, x4.ld h4, trivial⟩, by omega, y.kind, y.v, py, ny, cy, qy, my, dy, ⟨x4.ld g1, x4.ld g2, x4.ld g3, x4.ld g4, trivial⟩, fun b8 hb8 b9 hb9 => ?_, fun b9 hb9 b8 hb8 => ?_⟩
  focus
    have n8 : b8 ≠ b9 := fun e => by rw [e, Hp.set_same] at hb9; cases hb9
    have n9 := (Hp.none_of_set hb9).2
    have nb : ∀ k o, σ4 k = some o → k ≠ b8 ∧ k ≠ b9 := fun k o hk => ⟨fun e => (by rw [e, hb8] at hk; cases hk), fun e => (by rw [e, n9] at hk; cases hk)⟩
    refine store4 rfl (by rw [Hp.set_ne n8]; exact Hp.set_same _ _ _) (by simp [Value.oneCell']) rfl ?_
    refine ⟨fun kb hkb u hu => ?_, store4 rfl (by rw [Hp.set_ne (Ne.symm n8)]; exact Hp.set_same _ _ _) (by simp [Value.oneCell']) rfl ?_⟩
    · rw [List.mem_singleton] at hkb
      subst hkb
      have hbk : ∃ u, σ4 kb = some u := by
        have := x4.ld h1
        unfold Hp.ld at this
        cases hq : σ4 kb with
        | none => rw [hq] at this; cases this
        | some u => exact ⟨u, rfl⟩
      obtain ⟨u', hu'⟩ := hbk
      rw [Hp.set_ne (nb _ _ hu').1]; exact hu
    have F8 : ((((σ4.set b8 (.cells #[.int .i64 0, .int .u64 0, .slice none 0 0, .slice none 0 0] 79 (0, 0))).set b9 (.cells #[.int .i64 0, .int .u64 0, .slice none 0 0, .slice none 0 0] 79 (0, 0))).set b8 (.cells (vvC x px nx cx qx mx dx) 79 (0, 0))).set b9 (.cells (vvC y py ny cy qy my dy) 79 (0, 0))) b8 = some (.cells (vvC x px nx cx qx mx dx) 79 (0, 0)) := by rw [Hp.set_ne n8, Hp.set_same]
    have F9 := Hp.set_same (((σ4.set b8 (.cells #[.int .i64 0, .int .u64 0, .slice none 0 0, .slice none 0 0] 79 (0, 0))).set b9 (.cells #[.int .i64 0, .int .u64 0, .slice none 0 0, .slice none 0 0] 79 (0, 0))).set b8 (.cells (vvC x px nx cx qx mx dx) 79 (0, 0))) b9 (.cells (vvC y py ny cy qy my dy) 79 (0, 0))
    have X2 : Ext σ4 ((((σ4.set b8 (.cells #[.int .i64 0, .int .u64 0, .slice none 0 0, .slice none 0 0] 79 (0, 0))).set b9 (.cells #[.int .i64 0, .int .u64 0, .slice none 0 0, .slice none 0 0] 79 (0, 0))).set b8 (.cells (vvC x px nx cx qx mx dx) 79 (0, 0))).set b9 (.cells (vvC y py ny cy qy my dy) 79 (0, 0))) := fun k o hk => by
      obtain ⟨a1, a2⟩ := nb k o hk
      rw [Hp.set_ne a2, Hp.set_ne a1, Hp.set_ne a2, Hp.set_ne a1]; exact hk
    generalize ((((σ4.set b8 (.cells #[.int .i64 0, .int .u64 0, .slice none 0 0, .slice none 0 0] 79 (0, 0))).set b9 (.cells #[.int .i64 0, .int .u64 0, .slice none 0 0, .slice none 0 0] 79 (0, 0))).set b8 (.cells (vvC x px nx cx qx mx dx) 79 (0, 0))).set b9 (.cells (vvC y py ny cy qy my dy) 79 (0, 0))) = y2 at *
  rotate_left
  focus
    have n8 : b9 ≠ b8 := fun e => by rw [e, Hp.set_same] at hb8; cases hb8
    have n9 := (Hp.none_of_set hb8).2
    have nb : ∀ k o, σ4 k = some o → k ≠ b8 ∧ k ≠ b9 := fun k o hk => ⟨fun e => (by rw [e, n9] at hk; cases hk), fun e => (by rw [e, hb9] at hk; cases hk)⟩
    refine store4 rfl (Hp.set_same _ _ _) (by simp [Value.oneCell']) rfl ?_
    refine ⟨fun kb hkb u hu => ?_, store4 rfl (by rw [Hp.set_ne n8, Hp.set_ne n8]; exact Hp.set_same _ _ _) (by simp [Value.oneCell']) rfl ?_⟩
    · rw [List.mem_singleton] at hkb
      subst hkb
      have hbk : ∃ u, σ4 kb = some u := by
        have := x4.ld h1
        unfold Hp.ld at this
        cases hq : σ4 kb with
        | none => rw [hq] at this; cases this
        | some u => exact ⟨u, rfl⟩
      obtain ⟨u', hu'⟩ := hbk
      rw [Hp.set_ne (nb _ _ hu').1]; exact hu
    have F8 : ((((σ4.set b9 (.cells #[.int .i64 0, .int .u64 0, .slice none 0 0, .slice none 0 0] 79 (0, 0))).set b8 (.cells #[.int .i64 0, .int .u64 0, .slice none 0 0, .slice none 0 0] 79 (0, 0))).set b8 (.cells (vvC x px nx cx qx mx dx) 79 (0, 0))).set b9 (.cells (vvC y py ny cy qy my dy) 79 (0, 0))) b8 = some (.cells (vvC x px nx cx qx mx dx) 79 (0, 0)) := by rw [Hp.set_ne (Ne.symm n8), Hp.set_same]
    have F9 := Hp.set_same (((σ4.set b9 (.cells #[.int .i64 0, .int .u64 0, .slice none 0 0, .slice none 0 0] 79 (0, 0))).set b8 (.cells #[.int .i64 0, .int .u64 0, .slice none 0 0, .slice none 0 0] 79 (0, 0))).set b8 (.cells (vvC x px nx cx qx mx dx) 79 (0, 0))) b9 (.cells (vvC y py ny cy qy my dy) 79 (0, 0))
    have X2 : Ext σ4 ((((σ4.set b9 (.cells #[.int .i64 0, .int .u64 0, .slice none 0 0, .slice none 0 0] 79 (0, 0))).set b8 (.cells #[.int .i64 0, .int .u64 0, .slice none 0 0, .slice none 0 0] 79 (0, 0))).set b8 (.cells (vvC x px nx cx qx mx dx) 79 (0, 0))).set b9 (.cells (vvC y py ny cy qy my dy) 79 (0, 0))) := fun k o hk => by
      obtain ⟨a1, a2⟩ := nb k o hk
      rw [Hp.set_ne a2, Hp.set_ne a1, Hp.set_ne a1, Hp.set_ne a2]; exact hk
    generalize ((((σ4.set b9 (.cells #[.int .i64 0, .int .u64 0, .slice none 0 0, .slice none 0 0] 79 (0, 0))).set b8 (.cells #[.int .i64 0, .int .u64 0, .slice none 0 0, .slice none 0 0] 79 (0, 0))).set b8 (.cells (vvC x px nx cx qx mx dx) 79 (0, 0))).set b9 (.cells (vvC y py ny cy qy my dy) 79 (0, 0))) = y2 at *
  all_goals
    have F4 := X2 _ _ c4
    have X := x4.trans X2
    have F4' := LdL.of_cells (c := [.int .i64 n.kind, .int .i64 n.op, .string n.text, .slice p k c, .int .i64 n.width, .int .i64 n.back, .int .i64 n.grp, .slice q m d, .bool n.bool, .int .i64 n.parts]) F4
    have hn := h.weak X
    unfold binF at hn
    refine ⟨x.kind, ld_of F8 rfl, fun hk1 => ⟨y.kind, ld_of F9 rfl, fun hk2 => ?_, fun hk2 => ?_⟩, fun hk1 => ?_⟩
    · rw [if_pos ⟨hk1, hk2⟩] at hn
      exact ⟨_, _, _, _, _, _, _, _, _, _, _, _, _, _, F4', x.v, ld_of F8 rfl, y.v, ld_of F9 rfl, single_spec ⟨_, _, rfl, hn.ok _ y2 none 0 0 none 0 0 rfl (.refl _) RdS.nil RdS.nil (Nat.le_refl _) (Nat.le_refl _)⟩⟩
    · rw [if_neg (fun hh => hk2 hh.2), if_pos hk1] at hn
      refine ⟨x.kind, ld_of F8 rfl, fun _ => ⟨_, _, _, _, _, _, _, _, _, _, _, _, _, _, F4', py, ny, cy, ld_of F9 rfl, mixed_spec (g := fun v => singI n.op x.v v) (g5.mono EEl.mono X) hsy (by omega) eval_asker_bin_1.en (fun σ2 v R' hx2 hR' => ?_) hn.thru⟩, fun hh => absurd hk1 hh⟩
      exact eval_asker_bin_1.start ⟨_, _, _, _, _, _, _, _, _, _, _, _, _, _, F4'.mono hx2, x.v, ld_of (hx2 _ _ F8) rfl, single_spec ⟨_, _, rfl, hR'⟩⟩
    · rw [if_neg (fun hh => hk1 hh.1), if_neg hk1] at hn
      refine ⟨x.kind, ld_of F8 rfl, fun hh => absurd hh hk1, fun _ => ⟨y.kind, ld_of F9 rfl, fun hk2 => ?_, fun hk2 => ⟨n.op, ld_of F4 rfl, setsOp_spec ⟨_, rfl, fun hst => ?_, fun hst => ?_⟩⟩⟩⟩
      · rw [if_pos hk2] at hn
        refine ⟨_, _, _, _, _, _, _, _, _, _, _, _, _, _, F4', px, nx, cx, ld_of F8 rfl, mixed_spec (g := fun v => singI n.op v y.v) (h5.mono EEl.mono X) hsx (by omega) eval_asker_bin_2.en (fun σ2 v R' hx2 hR' => ?_) hn.thru⟩
        exact eval_asker_bin_2.start ⟨_, _, _, _, _, _, _, _, _, _, _, _, _, _, F4'.mono hx2, y.v, ld_of (hx2 _ _ F9) rfl, single_spec ⟨_, _, rfl, hR'⟩⟩
      · rw [if_neg hk2, if_pos (of_decide_eq_true hst)] at hn
        exact ⟨_, _, _, _, _, _, _, _, _, _, _, _, _, _, F4', px, nx, cx, ld_of F8 rfl, py, ny, cy, ld_of F9 rfl, sets_spec (hs.mono X) (h5.mono EEl.mono X) (g5.mono EEl.mono X) hsx hsy (by omega) hn.thru⟩
      · rw [if_neg hk2, if_neg (of_decide_eq_false hst)] at hn
        exact ⟨_, _, _, _, _, _, _, _, _, _, _, _, _, _, F4', px, nx, cx, ld_of F8 rfl, py, ny, cy, ld_of F9 rfl, vectors_spec (hs.mono X) (h5.mono EEl.mono X) (g5.mono EEl.mono X) hsx hsy (by omega) hn.thru⟩
end
end TwW
end
section
namespace TwW
open Go Tw Go.RowKit Go.Proofs.Tryz
structure GR where
  b : Nat
  lp : Option Addr
  ln : Nat
  lc : Nat
  vp : Option Addr
  vn : Nat
  vc : Nat
def GR.cl (r : GR) : List Nat := r.b :: blk r.vp
def GR.cell (r : GR) : Obj := .cells #[.slice r.lp r.ln r.lc, .slice r.vp r.vn r.vc] 137 (0, 0)
def keysG : List Rg → List GR → List (ByteArray × Nat)
  | g :: gs, r :: rs => (keyL g.ls, r.b) :: keysG gs rs
  | _, _ => []
structure GS (τ σ : Hp) (m : Nat) (op : Option Addr) (on oc : Nat) (rs : List GR) (gs : List Rg) : Prop where
  len : rs.length = gs.length
  map : MS (fun v b => v = .pointer (aD b 0)) σ m (keysG gs rs)
  ord : Own 1 σ op on oc (rs.map fun r => .pointer (aD r.b 0))
  box : ∀ (i : Nat) (r : GR) (g : Rg), rs[i]? = some r → gs[i]? = some g → σ r.b = some r.cell ∧ RdL τ r.lp r.ln g.ls ∧ OwnI .u64 σ r.vp r.vn r.vc g.vs
  om : ∀ a, op = some a → a.block ≠ m ∧ τ a.block = none
  dm : ∀ (i : Nat) (r : GR), rs[i]? = some r → ∀ k ∈ r.cl, k ≠ m ∧ (∀ a, op = some a → k ≠ a.block) ∧ τ k = none
  vb : ∀ (i : Nat) (r : GR), rs[i]? = some r → ∀ a, r.vp = some a → a.block ≠ r.b
  dr : ∀ (i j : Nat) (r r' : GR), i ≠ j → rs[i]? = some r → rs[j]? = some r' → ∀ k ∈ r.cl, k ∉ r'.cl
  tm : τ m = none
  ext : Ext τ σ
theorem size135 : ∀ w, (Go.sizeOf 135).run prog w = .ok 1 w := fun w => by kernel_rfl
theorem blk_mem {p : Option Addr} {k : Nat} : k ∈ blk p ↔ ∃ a, p = some a ∧ k = a.block := by
  cases p with
  | none => simp [blk]
  | some a => simp [blk]
theorem cl_mem {r : GR} {k : Nat} : k ∈ r.cl ↔ k = r.b ∨ ∃ a, r.vp = some a ∧ k = a.block := by
  unfold GR.cl
  rw [List.mem_cons, blk_mem]
theorem Own.of_eq {s : Nat} {σ σ' : Hp} {p : Option Addr} {n c : Nat} {cs : List Value} (ho : Own s σ p n c cs) (h : ∀ a, p = some a → σ' a.block = σ a.block) : Own s σ' p n c cs :=
  ⟨ho.1, ho.2.1, ho.2.2.imp id fun ⟨b', o', arr, T, hp, hb, r⟩ => ⟨b', o', arr, T, hp, by rw [h _ hp]; exact hb, r⟩⟩
theorem keysG_set : ∀ {gs : List Rg} {rs : List GR} {i : Nat} {g g' : Rg} {r r' : GR}, gs[i]? = some g → rs[i]? = some r → g'.ls = g.ls → r'.b = r.b → keysG (gs.set i g') (rs.set i r') = keysG gs rs
  | [], _, i, _, _, _, _, hg, _, _, _ => by simp at hg
  | _ :: _, [], i, _, _, _, _, _, hr, _, _ => by simp at hr
  | a :: gs, b :: rs, 0, g, g', r, r', hg, hr, h1, h2 => by
    simp only [List.getElem?_cons_zero, Option.some.injEq] at hg hr
    subst hg; subst hr
    simp only [List.set_cons_zero, keysG, h1, h2]
  | a :: gs, b :: rs, i + 1, g, g', r, r', hg, hr, h1, h2 => by
    simp only [List.set_cons_succ, keysG]
    rw [keysG_set (by simpa using hg) (by simpa using hr) h1 h2]
theorem keysG_app : ∀ {gs : List Rg} {rs : List GR} {g : Rg} {r : GR}, rs.length = gs.length → keysG (gs ++ [g]) (rs ++ [r]) = keysG gs rs ++ [(keyL g.ls, r.b)]
  | [], [], g, r, _ => rfl
  | [], _ :: _, g, r, h => by simp at h
  | _ :: _, [], g, r, h => by simp at h
  | a :: gs, b :: rs, g, r, h => by
    simp only [List.cons_append, keysG]
    rw [keysG_app (by simpa using h)]
theorem keysG_look : ∀ {gs : List Rg} {rs : List GR} {ls : List Lb} {v : Int} {b : Nat}, rs.length = gs.length → lookM (keysG gs rs) (keyL ls) = some b → ∃ (i : Nat) (g : Rg) (r : GR), gs[i]? = some g ∧ rs[i]? = some r ∧ r.b = b ∧ addG ls v gs = gs.set i ⟨g.ls, g.vs ++ [v]⟩
  | [], _, ls, v, b, _, h => by simp [keysG, lookM] at h
  | _ :: _, [], ls, v, b, hl, h => by simp at hl
  | g :: gs, r :: rs, ls, v, b, hl, h => by
    unfold keysG lookM at h
    by_cases hk : keyL g.ls = keyL ls
    · rw [if_pos hk] at h
      exact ⟨0, g, r, rfl, rfl, by simpa using h, by unfold addG; rw [if_pos hk]; rfl⟩
    · rw [if_neg hk] at h
      obtain ⟨i, g', r', h1, h2, h3, h4⟩ := keysG_look (v := v) (by simpa using hl) h
      exact ⟨i + 1, g', r', by simpa using h1, by simpa using h2, h3, by unfold addG; rw [if_neg hk, h4]; rfl⟩
theorem keysG_none : ∀ {gs : List Rg} {rs : List GR} {ls : List Lb} {v : Int}, rs.length = gs.length → lookM (keysG gs rs) (keyL ls) = none → addG ls v gs = gs ++ [⟨ls, [v]⟩] ∧ ∀ a ∈ keysG gs rs, a.1 ≠ keyL ls
  | [], _, ls, v, _, h => ⟨rfl, fun a ha => by simp [keysG] at ha⟩
  | _ :: _, [], ls, v, hl, h => by simp at hl
  | g :: gs, r :: rs, ls, v, hl, h => by
    unfold keysG lookM at h
    by_cases hk : keyL g.ls = keyL ls
    · rw [if_pos hk] at h; cases h
    · rw [if_neg hk] at h
      obtain ⟨h1, h2⟩ := keysG_none (v := v) (by simpa using hl) h
      refine ⟨by unfold addG; rw [if_neg hk, h1]; rfl, fun a ha => ?_⟩
      unfold keysG at ha
      rcases List.mem_cons.1 ha with rfl | ha
      · exact hk
      · exact h2 a ha
section
variable {τ σ σ' σ0 : Hp} {R : Ending → Hp → Prop} {m on oc : Nat} {op : Option Addr} {rs : List GR} {gs : List Rg}
theorem GS.known (h : GS τ σ m op on oc rs gs) {i : Nat} {r : GR} (hr : rs[i]? = some r) : ∀ k ∈ r.cl, ∃ u, σ k = some u := fun k hk => by
  have hlt := (List.getElem?_eq_some_iff.1 hr).1
  obtain ⟨g, hg⟩ : ∃ g, gs[i]? = some g := ⟨_, List.getElem?_eq_getElem (by rw [← h.len]; exact hlt)⟩
  obtain ⟨h1, _, h3⟩ := h.box i r g hr hg
  rcases cl_mem.1 hk with rfl | ⟨a, ha, rfl⟩
  · exact ⟨_, h1⟩
  · have := Own.block h3 a ha
    cases hh : σ a.block with
    | none => exact absurd hh this
    | some u => exact ⟨u, rfl⟩
theorem GS.grow (h : GS τ σ m op on oc rs gs) (hx : Ext σ σ') : ∃ τ', GS τ' σ' m op on oc rs gs ∧ Ext τ τ' ∧ Ext (σ.new σ') τ' := by
  have ht : Ext τ (τ.or (σ.new σ')) := Ext.or_l _ _
  have kn : ∀ k, (∃ u, σ k = some u) → τ k = none → (τ.or (σ.new σ')) k = none := fun k ⟨u, hu⟩ hk => by
    rw [Hp.or_r hk]
    cases hh : (σ.new σ') k with
    | none => rfl
    | some v => rw [(new_some.1 hh).1] at hu; cases hu
  have ne : ∀ k, σ k ≠ none → ∃ u, σ k = some u := fun k hk => by
    cases hh : σ k with
    | none => exact absurd hh hk
    | some u => exact ⟨u, rfl⟩
  refine ⟨τ.or (σ.new σ'), ⟨h.len, h.map.mono hx, h.ord.mono hx, fun i r g hr hg => ?_, fun a ha => ⟨(h.om a ha).1, kn _ (ne _ (h.ord.block a ha)) (h.om a ha).2⟩, fun i r hr k hk => ?_, h.vb, h.dr, kn _ (ne _ h.map.known) h.tm, ?_⟩, ht, ?_⟩
  · obtain ⟨h1, h2, h3⟩ := h.box i r g hr hg
    exact ⟨hx _ _ h1, h2.mono ELb.mono ht, h3.mono hx⟩
  · obtain ⟨h1, h2, h3⟩ := h.dm i r hr k hk
    exact ⟨h1, h2, kn k (h.known hr k hk) h3⟩
  · exact Ext.or_of (h.ext.trans hx) (Ext.of_new _ _)
  · refine Ext.or_r fun k hk => ?_
    cases hh : τ k with
    | none => rfl
    | some u =>
      have h1 := h.ext _ _ hh
      cases h2 : (σ.new σ') k with
      | none => exact absurd h2 hk
      | some v => rw [(new_some.1 h2).1] at h1; cases h1
theorem GS.push {i : Nat} {r : GR} {g : Rg} {v : Int} (h : GS τ σ m op on oc rs gs) (hr : rs[i]? = some r) (hg : gs[i]? = some g) (hb : r.vn ≤ 1000000000000) {Φ : Hp → Prop}
    (hΦ : ∀ σ' r', GS τ σ' m op on oc (rs.set i r') (gs.set i ⟨g.ls, g.vs ++ [v]⟩) → Φ σ') :
    Al σ fun b69 => Eff prog (Builtin.append_ #[135, 135] 135 #[.slice r.vp r.vn r.vc, (.slice (aD b69 0) 1 1)]) (Hp.set σ b69 (.cells #[.int .u64 v] 37 (0, 0))) (CS fun p70 n70 c70 y => Eff prog (Instr.storeAt 135 (.pointer (aD r.b 1)) (.slice p70 n70 c70)) y (fun _ y_2 => Φ y_2)) := fun b69 hb69 => by
  obtain ⟨h1, h2, h3⟩ := h.box i r g hr hg
  have hil := (List.getElem?_eq_some_iff.1 hr).1
  have hig := (List.getElem?_eq_some_iff.1 hg).1
  have x1 := Ext.set (o := .cells #[.int .u64 v] 37 (0, 0)) hb69
  refine app_eff (Own.mono x1 h3) (lit_rd (f := .int .u64) (x := v) (Hp.set_same _ _ _)) OneC.map_int (by omega) fun vp' vc' σ2 ho2 hx2 => ⟨_, _, _, rfl, ?_⟩
  have hvb := h.vb i r hr
  have keep : ∀ k u, σ k = some u → (∀ a, r.vp = some a → k ≠ a.block) → σ2 k = some u ∧ ∀ a, vp' = some a → k ≠ a.block := fun k u hk hne => by
    obtain ⟨a1, a2⟩ := del_some.1 (hx2 k u (del_some.2 ⟨hne, x1 _ _ hk⟩))
    exact ⟨a2, a1⟩
  obtain ⟨c1, c2⟩ := keep r.b _ h1 fun a ha e => hvb a ha e.symm
  refine Eff.store size135 c1 rfl (by simp) (by simp [Value.cells, Value.oneCell']) ?_
  let r' : GR := ⟨r.b, r.lp, r.ln, r.lc, vp', r.vn + 1, vc'⟩
  have hcell : (Obj.cells (wrt #[.slice r.lp r.ln r.lc, .slice r.vp r.vn r.vc] 1 (Value.slice vp' (r.vn + 1) vc').cells.toList) 137 (0, 0)) = r'.cell := by simp [wrt, Value.cells, GR.cell, r']
  rw [hcell]
  have T : ∀ k u, σ k = some u → k ∉ r.cl → (σ2.set r.b r'.cell) k = some u ∧ k ∉ r'.cl := fun k u hk hnc => by
    have hnb : k ≠ r.b := fun e => hnc (cl_mem.2 (.inl e))
    obtain ⟨a1, a2⟩ := keep k u hk fun a ha e => hnc (cl_mem.2 (.inr ⟨a, ha, e⟩))
    exact ⟨by rw [Hp.set_ne hnb]; exact a1, fun hc => by
      rcases cl_mem.1 hc with e | ⟨a, ha, e⟩
      · exact hnb e
      · exact a2 a ha e⟩
  have TK : ∀ k, (∃ u, σ k = some u) → k ∉ r.cl → (σ2.set r.b r'.cell) k = σ k ∧ k ∉ r'.cl := fun k ⟨u, hu⟩ hnc => ⟨by rw [(T k u hu hnc).1, hu], (T k u hu hnc).2⟩
  have ne : ∀ k, σ k ≠ none → ∃ u, σ k = some u := fun k hk => by
    cases hh : σ k with
    | none => exact absurd hh hk
    | some u => exact ⟨u, rfl⟩
  have mk := TK m (ne _ h.map.known) fun hc => (h.dm i r hr m hc).1 rfl
  have ok : ∀ a, op = some a → (σ2.set r.b r'.cell) a.block = σ a.block ∧ a.block ∉ r'.cl := fun a ha => TK _ (ne _ (h.ord.block a ha)) fun hc => (h.dm i r hr _ hc).2.1 a ha rfl
  have jk : ∀ j s, j ≠ i → rs[j]? = some s → ∀ k ∈ s.cl, (σ2.set r.b r'.cell) k = σ k ∧ k ∉ r'.cl := fun j s hj hs k hk => TK k (h.known hs k hk) (h.dr j i s r hj hs hr k hk)
  have old : ∀ j s, (rs.set i r')[j]? = some s → (j = i ∧ s = r') ∨ (j ≠ i ∧ rs[j]? = some s) := fun j s hs => by
    by_cases hj : j = i
    · subst hj
      rw [List.getElem?_set_self hil] at hs
      exact .inl ⟨rfl, by simpa using hs.symm⟩
    · rw [List.getElem?_set_ne (Ne.symm hj)] at hs
      exact .inr ⟨hj, hs⟩
  refine hΦ _ r' ⟨by simp [h.len], ?_, ?_, fun j s t hs ht => ?_, fun a ha => h.om a ha, fun j s hs k hk => ?_, fun j s hs a ha => ?_, fun j l s s' hjl hs hs' k hk => ?_, h.tm, fun k u hk => ?_⟩
  · rw [keysG_set (g' := ⟨g.ls, g.vs ++ [v]⟩) (r' := r') hg hr rfl rfl]; exact h.map.loc mk.1
  · have : (rs.set i r').map (fun r => Value.pointer (aD r.b 0)) = rs.map fun r => Value.pointer (aD r.b 0) := by
      rw [List.map_set]
      obtain ⟨_, e⟩ := List.getElem?_eq_some_iff.1 hr
      have : Value.pointer (aD r'.b 0) = (rs.map fun r => Value.pointer (aD r.b 0))[i]'(by simpa using hil) := by simp [e, r']
      rw [this, List.set_getElem_self]
    rw [this]; exact Own.of_eq h.ord fun a ha => (ok a ha).1
  · rcases old j s hs with ⟨rfl, rfl⟩ | ⟨hj, hs'⟩
    · rw [List.getElem?_set_self hig] at ht
      cases ht
      refine ⟨Hp.set_same _ _ _, h2, ?_⟩
      have := Own.set_ne (b := r.b) (o := r'.cell) ho2 (fun a ha e => c2 a ha e.symm)
      unfold OwnI
      rw [List.map_append]; exact this
    · rw [List.getElem?_set_ne (Ne.symm hj)] at ht
      obtain ⟨a1, a2, a3⟩ := h.box j s t hs' ht
      refine ⟨?_, a2, Own.of_eq a3 fun a ha => (jk j s hj hs' _ (cl_mem.2 (.inr ⟨a, ha, rfl⟩))).1⟩
      rw [(jk j s hj hs' _ (cl_mem.2 (.inl rfl))).1]; exact a1
  · rcases old j s hs with ⟨rfl, rfl⟩ | ⟨hj, hs'⟩
    · refine ⟨fun e => mk.2 (e ▸ hk), fun a ha e => (ok a ha).2 (e ▸ hk), ?_⟩
      cases hq : τ k with
      | none => rfl
      | some u => exact absurd hk (T k u (h.ext _ _ hq) fun hc => by rw [(h.dm j r hr k hc).2.2] at hq; cases hq).2
    · exact h.dm j s hs' k hk
  · rcases old j s hs with ⟨rfl, rfl⟩ | ⟨hj, hs'⟩
    · exact fun e => c2 a ha e.symm
    · exact h.vb j s hs' a ha
  · rcases old j s hs with ⟨rfl, rfl⟩ | ⟨hj, hs1⟩
    · rcases old l s' hs' with ⟨rfl, rfl⟩ | ⟨hl, hs2⟩
      · exact absurd rfl hjl
      · exact fun hc => (jk l s' hl hs2 k hc).2 hk
    · rcases old l s' hs' with ⟨rfl, rfl⟩ | ⟨hl, hs2⟩
      · exact (jk j s hj hs1 k hk).2
      · exact h.dr j l s s' hjl hs1 hs2 k hk
  · exact (T k u (h.ext _ _ hk) fun hc => by rw [(h.dm i r hr k hc).2.2] at hk; cases hk).1
end
end TwW
end
section
namespace TwW
open Go Tw Go.RowKit Go.Proofs.Tryz
theorem zero157 : ∀ w, (zeroValue 148).run prog w = .ok (.pointer none) w := fun w => by
  have h : prog.info? 148 = some t148 := by kernel_rfl
  simp [zeroValue, typeInfo, h]
  rfl
theorem zero158 : ∀ w, (zeroValue 149).run prog w = .ok .nilFunc w := fun w => by
  have h : prog.info? 149 = some t149 := by kernel_rfl
  simp [zeroValue, typeInfo, h]
  rfl
section
variable {τ σ σ' σ0 : Hp} {R : Ending → Hp → Prop} {m on oc : Nat} {op : Option Addr} {rs : List GR} {gs : List Rg}
theorem GS.mono (h : GS τ σ m op on oc rs gs) (hx : Ext σ σ') : GS τ σ' m op on oc rs gs :=
  ⟨h.len, h.map.mono hx, h.ord.mono hx, fun i r g hr hg => let ⟨h1, h2, h3⟩ := h.box i r g hr hg; ⟨hx _ _ h1, h2, h3.mono hx⟩, h.om, h.dm, h.vb, h.dr, h.tm, h.ext.trans hx⟩
theorem GS.add {ls : List Lb} {lp : Option Addr} {ln lc : Nat} (h : GS τ σ m op on oc rs gs) (hno : ∀ a ∈ keysG gs rs, a.1 ≠ keyL ls) (hr : RdL τ lp ln ls) (hsm : SmallL ls) (hon : on ≤ 1000000000000) {Φ : Nat → Option Addr → Nat → Nat → Hp → Prop}
    (hΦ : ∀ b op' oc' σ', GS τ σ' m op' (on + 1) oc' (rs ++ [⟨b, lp, ln, lc, none, 0, 0⟩]) (gs ++ [⟨ls, []⟩]) → Φ b op' (on + 1) oc' σ') :
    Al σ fun b53 => Spec prog 28 #[.slice lp ln lc] (Hp.set σ b53 (.cells #[.slice lp ln lc, .slice none 0 0] 137 (0, 0))) (Cont R (CT fun s56 y_3 => Eff prog (Instr.mapUpdate 145 (.map (some m)) (.string s56) (.pointer (aD b53 0))) y_3 (fun _ y_4 => Al y_4 fun b60 => Eff prog (Builtin.append_ #[146, 146] 146 #[.slice op on oc, (.slice (aD b60 0) 1 1)]) (Hp.set y_4 b60 (.cells #[(.pointer (aD b53 0))] 148 (0, 0))) (CS fun p61 n61 c61 y_5 => Φ b53 p61 n61 c61 y_5)))) := fun b53 hb53 => by
  have x1 := Ext.set (o := .cells #[.slice lp ln lc, .slice none 0 0] 137 (0, 0)) hb53
  have tb : τ b53 = none := ext_none h.ext hb53
  have ne : ∀ k, σ k ≠ none → ∃ u, σ k = some u := fun k hk => by
    cases hh : σ k with
    | none => exact absurd hh hk
    | some u => exact ⟨u, rfl⟩
  have nem : b53 ≠ m := fun e => h.map.known (by rw [← e]; exact hb53)
  have neo : ∀ a, op = some a → b53 ≠ a.block := fun a ha e => h.ord.block a ha (by rw [← e]; exact hb53)
  have ncl : ∀ (i : Nat) (r : GR), rs[i]? = some r → b53 ∉ r.cl := fun i r hr hc => by obtain ⟨u, hu⟩ := h.known hr _ hc; rw [hb53] at hu; cases hu
  refine eKey_spec (hr.mono ELb.mono (h.ext.trans x1)) hsm fun σ2 hx2 => ⟨_, rfl, ?_⟩
  have h2 := h.mono (x1.trans hx2)
  have c2 := hx2 _ _ (Hp.set_same σ b53 (.cells #[.slice lp ln lc, .slice none 0 0] 137 (0, 0)))
  refine h2.map.put (x := b53) rfl fun o hM => fun b60 hb60 => ?_
  rw [setM_none hno] at hM
  have hord : Own 1 (σ2.set m o) op on oc (rs.map fun r => .pointer (aD r.b 0)) := Own.of_eq h2.ord fun a ha => Hp.set_ne (h.om a ha).1
  refine app_eff (hord.mono (.set hb60)) (lit_rd (f := fun v => v) (x := .pointer (aD b53 0)) (Hp.set_same _ _ _)) (fun u hu => by simp at hu; subst hu; rfl) (by omega) fun op' oc' σ5 ho5 hx5 => ⟨_, _, _, rfl, ?_⟩
  have T : ∀ k u, (σ2.set m o) k = some u → (∀ a, op = some a → k ≠ a.block) → σ5 k = some u ∧ ∀ a, op' = some a → k ≠ a.block := fun k u hk hne => by
    obtain ⟨a1, a2⟩ := del_some.1 (hx5 k u (del_some.2 ⟨hne, (Ext.set hb60) _ _ hk⟩))
    exact ⟨a2, a1⟩
  have T2 : ∀ k u, σ2 k = some u → k ≠ m → (∀ a, op = some a → k ≠ a.block) → σ5 k = some u ∧ ∀ a, op' = some a → k ≠ a.block := fun k u hk hkm => T k u (by rw [Hp.set_ne hkm]; exact hk)
  have Tr : ∀ (i : Nat) (r : GR), rs[i]? = some r → ∀ k ∈ r.cl, σ5 k = σ2 k ∧ ∀ a, op' = some a → k ≠ a.block := fun i r hr k hk => by
    obtain ⟨u, hu⟩ := h2.known hr k hk
    obtain ⟨d1, d2, _⟩ := h.dm i r hr k hk
    obtain ⟨a1, a2⟩ := T2 k u hu d1 d2
    exact ⟨by rw [a1, hu], a2⟩
  have hm2 : ∃ u, (σ2.set m o) m = some u := ⟨_, Hp.set_same _ _ _⟩
  obtain ⟨um, hum⟩ := hm2
  obtain ⟨m1, m2⟩ := T m um hum fun a ha e => (h.om a ha).1 e.symm
  have old : ∀ (i : Nat) (r : GR), (rs ++ [(⟨b53, lp, ln, lc, none, 0, 0⟩ : GR)])[i]? = some r → rs[i]? = some r ∨ (i = rs.length ∧ r = ⟨b53, lp, ln, lc, none, 0, 0⟩) := fun i r hr => by
    rw [List.getElem?_append] at hr
    split at hr
    · exact .inl hr
    · rename_i hlt
      have hlt2 := (List.getElem?_eq_some_iff.1 hr).1
      simp only [List.length_singleton] at hlt2
      have : i - rs.length = 0 := by omega
      rw [this] at hr
      exact .inr ⟨by omega, by simpa using hr.symm⟩
  have cn : ∀ k, k ∈ (⟨b53, lp, ln, lc, none, 0, 0⟩ : GR).cl → k = b53 := fun k hk => by
    rcases cl_mem.1 hk with e | ⟨a, ha, _⟩
    · exact e
    · cases ha
  obtain ⟨b1, b2⟩ := T2 b53 _ c2 nem neo
  refine hΦ b53 op' oc' σ5 ⟨by simp [h.len], ?_, ?_, fun i r g hi hg => ?_, fun a ha => ⟨fun e => m2 a ha e.symm, ?_⟩, fun i r hi k hk => ?_, fun i r hi a ha => ?_, fun i j r r' hij hi hj k hk => ?_, h.tm, fun k u hk => ?_⟩
  · rw [keysG_app h.len]
    exact hM.loc (by rw [m1, hum])
  · rw [List.map_append]; exact ho5
  · rcases old i r hi with hi' | ⟨rfl, rfl⟩
    · have hlt := (List.getElem?_eq_some_iff.1 hi').1
      rw [List.getElem?_append_left (by rw [← h.len]; exact hlt)] at hg
      obtain ⟨a1, a2, a3⟩ := h2.box i r g hi' hg
      refine ⟨?_, a2, Own.of_eq a3 fun a ha => (Tr i r hi' _ (cl_mem.2 (.inr ⟨a, ha, rfl⟩))).1⟩
      rw [(Tr i r hi' _ (cl_mem.2 (.inl rfl))).1]; exact a1
    · rw [h.len, List.getElem?_append_right (Nat.le_refl _), Nat.sub_self] at hg
      simp only [List.getElem?_cons_zero, Option.some.injEq] at hg
      subst hg
      exact ⟨b1, hr, OwnI.nil⟩
  · cases hq : τ a.block with
    | none => rfl
    | some u =>
      obtain ⟨_, e2⟩ := T2 a.block u (h2.ext _ _ hq) (fun e => by rw [e, h.tm] at hq; cases hq) (fun a' ha' e => by rw [e, (h.om a' ha').2] at hq; cases hq)
      exact absurd rfl (e2 a ha)
  · rcases old i r hi with hi' | ⟨rfl, rfl⟩
    · exact ⟨(h.dm i r hi' k hk).1, (Tr i r hi' k hk).2, (h.dm i r hi' k hk).2.2⟩
    · rw [cn k hk]; exact ⟨nem, b2, tb⟩
  · rcases old i r hi with hi' | ⟨rfl, rfl⟩
    · exact h.vb i r hi' a ha
    · cases ha
  · rcases old i r hi with hi' | ⟨rfl, rfl⟩
    · rcases old j r' hj with hj' | ⟨rfl, rfl⟩
      · exact h.dr i j r r' hij hi' hj' k hk
      · exact fun hc => ncl i r hi' (by rw [← cn k hc]; exact hk)
    · rcases old j r' hj with hj' | ⟨rfl, rfl⟩
      · exact fun hc => ncl j r' hj' (by rw [← cn k hk]; exact hc)
      · exact absurd rfl hij
  · exact (T2 k u (h2.ext _ _ hk) (fun e => by rw [e, h.tm] at hk; cases hk) (fun a ha e => by rw [e, (h.om a ha).2] at hk; cases hk)).1
end
end TwW
end
section
namespace TwW
open Go Tw Go.RowKit Go.Proofs.Tryz
def PG (B : Nat) (gs : List Rg) : Prop := ∀ g ∈ gs, 0 < g.vs.length ∧ g.vs.length ≤ B ∧ SmallL g.ls
theorem addG_ok {B : Nat} {ls : List Lb} {v : Int} (hs : SmallL ls) : ∀ {gs : List Rg}, PG B gs → PG (B + 1) (addG ls v gs)
  | [], _ => fun g hg => by
    unfold addG at hg
    rw [List.mem_singleton] at hg
    subst hg
    exact ⟨by simp, by simp, hs⟩
  | a :: gs, h => fun g hg => by
    have ha := h a (by simp)
    unfold addG at hg
    split at hg
    · rcases List.mem_cons.1 hg with rfl | hg
      · exact ⟨by simp, by simp; omega, ha.2.2⟩
      · have := h g (List.mem_cons_of_mem _ hg)
        exact ⟨this.1, by omega, this.2.2⟩
    · rcases List.mem_cons.1 hg with rfl | hg
      · exact ⟨ha.1, by omega, ha.2.2⟩
      · exact addG_ok hs (fun g hg => h g (List.mem_cons_of_mem _ hg)) g hg
theorem addG_len {ls : List Lb} {v : Int} : ∀ {gs : List Rg}, (addG ls v gs).length ≤ gs.length + 1
  | [] => by simp [addG]
  | a :: gs => by
    unfold addG
    split
    · simp
    · have := addG_len (ls := ls) (v := v) (gs := gs)
      simp only [List.length_cons]; omega
def gsF (n : Nd) (l : List El) : List Rg := l.foldl (fun gs x => addG (groupL n x.ls) x.v gs) []
theorem SmallL.group {n : Nd} {ls : List Lb} (h : SmallL ls) : SmallL (groupL n ls) := by
  unfold groupL keepF bareF dropF
  split
  · exact h.filter _
  · split
    · exact (h.filter _).filter _
    · exact ⟨by decide, fun x hx => by cases hx⟩
theorem gsF_ok {n : Nd} {l : List El} (hs : ∀ e ∈ l, SmallL e.ls) : ∀ k, k ≤ l.length → PG k (gsF n (l.take k)) ∧ (gsF n (l.take k)).length ≤ k := fun k => by
  induction k with
  | zero => intro _; exact ⟨fun g hg => by simp [gsF] at hg, by simp [gsF]⟩
  | succ k ih =>
    intro hk
    obtain ⟨h1, h2⟩ := ih (by omega)
    have hx : l[k]? = some l[k] := List.getElem?_eq_getElem _
    have e : gsF n (l.take (k + 1)) = addG (groupL n l[k].ls) l[k].v (gsF n (l.take k)) := by unfold gsF; rw [take_succ' hx, List.foldl_append]; rfl
    rw [e]
    exact ⟨addG_ok (hs _ (List.getElem_mem _)).group h1, by have := addG_len (ls := groupL n l[k].ls) (v := l[k].v) (gs := gsF n (l.take k)); omega⟩
section
variable {τ σ σ' σ0 : Hp} {R : Ending → Hp → Prop}
theorem GS.empty {mb : Nat} (h : σ mb = none) : GS σ (σ.set mb (.map #[] 0)) mb none 0 0 [] [] :=
  ⟨rfl, MS.fresh, Own.nil, fun i r g hi => (by simp at hi), fun a ha => (by cases ha), fun i r hi => (by simp at hi), fun i r hi => (by simp at hi), fun i j r r' _ hi => (by simp at hi), h, .set h⟩
theorem fold_spec {op : Int} {f : Nat} {p : Option Addr} {n c : Nat} {vs : List Int} {v14 : Value} (hop : (op = 1 ∧ v14 = .func (.func 93) #[] #[]) ∨ (op = 2 ∧ v14 = .func (.func 94) #[] #[]) ∨ (op = 3 ∧ v14 = .func (.func 95) #[] #[]) ∨ (op = 4 ∧ v14 = .func (.func 96) #[] #[]) ∨ (op = 5 ∧ v14 = .func (.func 97) #[] #[]))
    (hr : RdI .u64 σ p n vs) (h0 : 0 < n) (hc : n ≤ c) (h : R (.returned (.int .u64 (foldI op vs))) σ) : ∃ (f95 : Nat) (fst95 cap95 : Array Value), v14 = .func (.func f95) fst95 cap95 ∧ Enters prog f95 ∧ Spec prog f95 (fst95 ++ #[.slice p n c] ++ cap95) σ R := by
  have hl : vs.length = n := hr.1
  unfold foldI at h
  rcases hop with ⟨rfl, rfl⟩ | ⟨rfl, rfl⟩ | ⟨rfl, rfl⟩ | ⟨rfl, rfl⟩ | ⟨rfl, rfl⟩
  · exact ⟨_, #[], #[], rfl, eval_sum.en, sum_spec hr h0 hc h⟩
  · exact ⟨_, #[], #[], rfl, eval_least.en, least_spec hr h0 hc h⟩
  · exact ⟨_, #[], #[], rfl, eval_greatest.en, greatest_spec hr h0 hc h⟩
  · exact ⟨_, #[], #[], rfl, eval_average.en, average_spec hr h0 hc (by rw [← hl]; exact h)⟩
  · exact ⟨_, #[], #[], rfl, eval_count.en, count_spec (by rw [← hl]; exact h)⟩
theorem agg_spec {n : Nd} {p q a l : Option Addr} {k c m d j e : Nat} {L : List Vv} {x : Vv} (hs : RdC 1 σ q m (n.names.map .string)) (hr : RdS 4 EVv σ l j L) (hx : L[0]? = some x) (hV : VvOk x) (hop : 1 ≤ n.op ∧ n.op ≤ 5)
    (h : RetV R σ ((vecF FF (aggF FF n x)).map fun l => ⟨2, 0, l, []⟩)) : Spec prog 64 #[.pointer a, ndV n p k c q m d, .slice l j e] σ R := by
  have hj : 0 < j := by have h1 : L.length = j := hr.1; have := (List.getElem?_eq_some_iff.1 hx).1; omega
  obtain ⟨b, o, pv, nv, cv, qv, mv, dv, rfl, h1, h2, h3, h4, h5, h6⟩ := EVv.at hr hx
  simp only [Nat.zero_mul, Nat.add_zero] at h1 h2 h3 h4
  have hl : x.vec.length = nv := h5.1
  have hlen := hV.len
  have hsm := fun z hz => (hV.el z hz).1
  have hok := gsF_ok (n := n) hsm
  have hA : aggF FF n x = (gsF n x.vec).map fun g => ⟨g.ls, foldI n.op g.vs⟩ := rfl
  rw [hA] at h
  refine eval_asker_agg.start fun _ _ => makeMap_eff fun mb hmb => ⟨mb, rfl, b, o, rfl, by omega, pv, nv, cv, (Ext.set hmb).ld h3, ?_⟩
  have last : ∀ τ σ' op on oc rs, GS τ σ' mb op on oc rs (gsF n x.vec) → Ext σ τ → eval_asker_agg.pt12 R n.kind n.op n.text p k c n.width n.back n.grp q m d n.bool n.parts 0 0 none 0 0 none 0 0 (some mb) op on oc pv nv cv nv nv σ' := fun τ σ' op on oc rs hG hx1 => by
    obtain ⟨hPG, hgl⟩ := hok nv (by omega)
    rw [List.take_of_length_le (by omega)] at hPG hgl
    refine eval_asker_agg.pt12_of ⟨fun hlt => by omega, fun _ => makeMap_eff fun mf hmf => ⟨mf, rfl, ?_⟩⟩
    refine (Stg.fresh hmf).put (by simp) fun s1 t1 => t1.put (by simp) fun s2 t2 => t2.put (by simp) fun s3 t3 => t3.put (by simp) fun s4 t4 => t4.put (by simp) fun s5 t5 => ?_
    have hG5 := hG.mono t5.1
    have hml := t5.2.2
    simp only [List.nil_append, List.cons_append] at hml
    refine hml.look zero158 (fun hno => ?_) fun v hv => ⟨v, rfl, ?_⟩
    · exfalso
      simp only [List.mem_cons, List.not_mem_nil, or_false, forall_eq_or_imp, forall_eq] at hno
      obtain ⟨a1, a2, a3, a4, a5⟩ := hno
      omega
    have hv' : (n.op = 1 ∧ v = .func (.func 93) #[] #[]) ∨ (n.op = 2 ∧ v = .func (.func 94) #[] #[]) ∨ (n.op = 3 ∧ v = .func (.func 95) #[] #[]) ∨ (n.op = 4 ∧ v = .func (.func 96) #[] #[]) ∨ (n.op = 5 ∧ v = .func (.func 97) #[] #[]) := by
      simpa only [List.mem_cons, List.not_mem_nil, or_false, Prod.mk.injEq] using hv
    replace h := h.weak (hx1.trans hG5.ext)
    have hon : rs.length = on := by have := hG5.ord.1; simpa using this
    have hgn := hG5.len
    generalize gsF n x.vec = gs at *
    clear hml t1 t2 t3 t4 t5 hv hG
    suffices H : ∀ g i : Nat, ∀ p8 n8 c8 σ2 oq, (0 < on → oq = op) → on - i = g → i ≤ on → OutL 2 EEl s5 σ2 p8 n8 c8 ((gs.take i).map fun g => ⟨g.ls, foldI n.op g.vs⟩) → eval_asker_agg.pt60 R 0 0 none 0 0 none 0 0 v p8 n8 c8 oq on oc on i σ2 from H on 0 none 0 0 s5 op (fun _ => rfl) rfl (Nat.zero_le _) (OutL.nil (.refl _))
    intro g
    induction g with
    | zero =>
      intro i p8 n8 c8 σ2 oq hoq hg hi ho
      rw [List.take_of_length_le (by omega)] at ho
      have hn8 := ho.1.1
      rw [List.length_map] at hn8
      exact eval_asker_agg.pt60_of ⟨fun hlt => by omega, fun _ => vector_spec ho (by omega) h.thru⟩
    | succ g ih =>
      intro i p8 n8 c8 σ2 oq hoq hg hi ho
      have hi' : i < on := by omega
      obtain ⟨r, hri⟩ : ∃ r, rs[i]? = some r := ⟨_, List.getElem?_eq_getElem (by omega)⟩
      obtain ⟨y, hy⟩ : ∃ y, gs[i]? = some y := ⟨_, List.getElem?_eq_getElem (by omega)⟩
      obtain ⟨b1, o1, hop1, hl1⟩ := RdC.at1 hG5.ord.rd (k := i) (v := .pointer (aD r.b 0)) (by rw [List.getElem?_map, hri]; rfl)
      obtain ⟨c1, c2, c3⟩ := hG5.box i r y hri hy
      have hP := hPG y (List.mem_of_getElem? hy)
      have hvl : y.vs.length = r.vn := by have := c3.1; simpa using this
      have hn8 := ho.1.1
      rw [List.length_map, List.length_take] at hn8
      rw [hoq (by omega), hop1]
      refine eval_asker_agg.pt60_of ⟨fun _ => ⟨b1, o1, rfl, by omega, aD r.b 0, by simpa using ho.up.ld hl1, r.b, 0, rfl, r.lp, r.ln, r.lc, ld_of (ho.up _ _ c1) rfl, r.vp, r.vn, r.vc, ld_of (ho.up _ _ c1) rfl, fold_spec (f := 0) hv' (RdI.mono ho.up (OwnI.rd c3)) (by omega) (Own.cap c3) ⟨_, rfl, Kp.of_ext (.refl _), fun b97 hb97 => ?_⟩⟩, fun hh => by omega⟩
      refine OutL.el ho ((c2.mono ELb.mono hG5.ext).mono ELb.mono ho.2) (by omega) (fun p9 c9 σ3 ho3 _ => ⟨_, _, _, rfl, by unfold I64; omega, ih (i + 1) _ _ _ _ _ (fun _ => hop1.symm) (by omega) (by omega) ?_⟩) hb97
      rw [take_succ' hy, List.map_append]; exact ho3
  suffices H : ∀ g i : Nat, ∀ τ σ' op on oc rs, nv - i = g → i ≤ nv → GS τ σ' mb op on oc rs (gsF n (x.vec.take i)) → Ext σ τ → eval_asker_agg.pt12 R n.kind n.op n.text p k c n.width n.back n.grp q m d n.bool n.parts 0 0 none 0 0 none 0 0 (some mb) op on oc pv nv cv nv i σ' from
    H nv 0 σ _ none 0 0 [] rfl (Nat.zero_le _) (GS.empty hmb) (.refl _)
  intro g
  induction g with
  | zero =>
    intro i τ σ' op on oc rs hg hi hG hx1
    have hin : i = nv := by omega
    subst hin
    rw [List.take_of_length_le (by omega)] at hG
    exact last τ σ' op on oc rs hG hx1
  | succ g ih =>
    intro i τ σ' op on oc rs hg hi hG hx1
    have hi' : i < nv := by omega
    obtain ⟨y, hy⟩ := h5.ex hi'
    obtain ⟨b1, o1, q1, m1, d1, rfl, hl1, hr1⟩ := EEl.at h5 hy
    have hs1 := hsm y (List.mem_of_getElem? hy)
    have hX := hx1.trans hG.ext
    obtain ⟨hPG, hgl⟩ := hok i (by omega)
    have hrl := hG.len
    have eN : gsF n (x.vec.take (i + 1)) = addG (groupL n y.ls) y.v (gsF n (x.vec.take i)) := by unfold gsF; rw [take_succ' hy, List.foldl_append]; rfl
    have go48 : ∀ τ4 σ4 op4 on4 oc4 rs4 gs4 (i4 : Nat) (r : GR) (t : Rg), GS τ4 σ4 mb op4 on4 oc4 rs4 gs4 → rs4[i4]? = some r → gs4[i4]? = some t → gs4.set i4 ⟨t.ls, t.vs ++ [y.v]⟩ = gsF n (x.vec.take (i + 1)) → t.vs.length ≤ i → Ext σ τ4 → eval_asker_agg.pt48 R n.kind n.op n.text p k c n.width n.back n.grp q m d n.bool n.parts 0 0 none 0 0 none 0 0 (some mb) op4 on4 oc4 q1 m1 d1 y.v (aD r.b 0) (aD b1 o1) nv cv nv i σ4 := fun τ4 σ4 op4 on4 oc4 rs4 gs4 i4 r t hG4 hr4 ht4 he hti hx4 => by
      obtain ⟨c1, c2, c3⟩ := hG4.box i4 r t hr4 ht4
      have hvl : t.vs.length = r.vn := by have := c3.1; simpa using this
      refine eval_asker_agg.pt48_of ⟨r.b, 0, rfl, r.vp, r.vn, r.vc, ld_of c1 rfl, GS.push (v := y.v) hG4 hr4 ht4 (by omega) (Φ := fun y2 => I64 ((i : Int) + 1) ∧ eval_asker_agg.pt12 R n.kind n.op n.text p k c n.width n.back n.grp q m d n.bool n.parts 0 0 none 0 0 none 0 0 (some mb) op4 on4 oc4 (aD b1 o1) nv cv nv ((i : Int) + 1) y2) fun σ5 r' hG5 => ⟨i64_succ hi' h5.big, ih (i + 1) τ4 σ5 op4 on4 oc4 (rs4.set i4 r') (by omega) (by omega) ?_ hx4⟩⟩
      rw [← he]; exact hG5
    have go37 : ∀ τ2 σ2 p' n' c', GS τ2 σ2 mb op on oc rs (gsF n (x.vec.take i)) → Ext σ τ2 → RdL τ2 p' n' (groupL n y.ls) → eval_asker_agg.pt37 R n.kind n.op n.text p k c n.width n.back n.grp q m d n.bool n.parts 0 0 none 0 0 none 0 0 (some mb) op on oc q1 m1 d1 y.v p' n' c' (aD b1 o1) nv cv nv i σ2 := fun τ2 σ2 p' n' c' hG2 hx2 hr2 => by
      refine eval_asker_agg.pt37_of (eKey_spec (hr2.mono ELb.mono hG2.ext) hs1.group fun σ3 hx3 => ⟨_, rfl, ?_⟩)
      have hG3 := hG2.mono hx3
      have hon : rs.length = on := by have := hG3.ord.1; simpa using this
      refine hG3.map.look zero157 (fun hnone => ⟨none, rfl, fun _ => ?_, fun hh => (by cases hh)⟩) fun v bb hsome hv => ⟨aD bb 0, hv, fun hh => (by cases hh), fun _ => ?_⟩
      · obtain ⟨e1, e2⟩ := keysG_none (v := y.v) hG3.len hnone
        refine GS.add hG3 e2 hr2 hs1.group (by omega) (Φ := fun b53 p61 n61 c61 y_5 => eval_asker_agg.pt48 R n.kind n.op n.text p k c n.width n.back n.grp q m d n.bool n.parts 0 0 none 0 0 none 0 0 (some mb) p61 n61 c61 q1 m1 d1 y.v (aD b53 0) (aD b1 o1) nv cv nv i y_5) fun bb op' oc' σ4 hG4 => ?_
        refine go48 τ2 σ4 op' (on + 1) oc' _ _ (gsF n (x.vec.take i)).length ⟨bb, p', n', c', none, 0, 0⟩ ⟨groupL n y.ls, []⟩ hG4 ?_ ?_ ?_ (Nat.zero_le _) hx2
        · rw [← hrl, List.getElem?_append_right (Nat.le_refl _), Nat.sub_self]; rfl
        · rw [List.getElem?_append_right (Nat.le_refl _), Nat.sub_self]; rfl
        · rw [eN, e1, List.set_append_right _ _ (Nat.le_refl _), Nat.sub_self]; rfl
      · obtain ⟨i4, t, r, a1, a2, a3, a4⟩ := keysG_look (v := y.v) hG3.len hsome
        subst a3
        exact go48 τ2 σ3 op on oc rs _ i4 r t hG3 a2 a1 (by rw [eN, a4]) (hPG t (List.mem_of_getElem? a1)).2.1 hx2
    refine eval_asker_agg.pt12_of ⟨fun _ => ⟨b1, o1, rfl, by omega, q1, m1, d1, y.v, by simpa using hl1.mono hX, fun _ => ⟨fun hg1 => keep_spec (hr1.mono ELb.mono hX) (hs1.rd hr1) (hs.mono hX) fun p' n' c' σ2 hr2 hx2 => ⟨_, _, _, rfl, ?_⟩, fun hg1 => ⟨fun hg2 => ?_, fun hg2 => go37 τ σ' none 0 0 hG hx1 ?_⟩⟩⟩, fun hh => by omega⟩
    · obtain ⟨τ2, hG2, e1, e2⟩ := hG.grow hx2
      exact go37 τ2 σ2 p' n' c' hG2 (hx1.trans e1) (by unfold groupL; rw [if_pos hg1]; exact hr2.mono ELb.mono e2)
    · refine without_spec (hr1.mono ELb.mono hX) (hs1.rd hr1) (hs.mono hX) fun p' n' c' σ2 ho2 hx2 => ⟨_, _, _, rfl, ?_⟩
      have hl' : n' ≤ 1000000 := by
        have h7 := ho2.1
        have h8 := List.length_filter_le (fun x : Lb => !memS x.1 n.names) y.ls
        have h9 := hs1.1
        omega
      refine eBare_spec ((ho2.rd ELb.mono).mono ELb.mono (Ext.of_new _ _)) hl' fun p3 n3 c3 σ3 hr3 hx3 => ⟨_, _, _, rfl, ?_⟩
      obtain ⟨τ2, hG2, e1, e2⟩ := hG.grow (hx2.trans hx3)
      exact go37 τ2 σ3 p3 n3 c3 hG2 (hx1.trans e1) (by unfold groupL; rw [if_neg hg1, if_pos hg2]; exact (hr3.mono ELb.mono (Ext.new_trans hx2)).mono ELb.mono e2)
    · unfold groupL; rw [if_neg hg1, if_neg hg2]; exact RdS.nil
end
end TwW
end
section
namespace TwW
open Go Tw Go.RowKit Go.Proofs.Tryz
def ElOk (e : El) : Prop := SmallL e.ls ∧ 0 ≤ e.v
def Sh (x : Vv) : Prop := (x.kind = 1 ∧ x.vec = [] ∧ x.rng = []) ∨ (x.kind = 2 ∧ x.rng = []) ∨ (x.kind = 3 ∧ x.vec = [])
def vlen (x : Vv) : Nat := x.vec.length + x.rng.length
structure VG (x : Vv) : Prop where
  el : ∀ e ∈ x.vec, ElOk e
  rg : ∀ r ∈ x.rng, SmallL r.ls ∧ 0 < r.vs.length
  sh : Sh x
theorem nrm_nn (x : Int) : 0 ≤ nrm x := Int.natCast_nonneg _
theorem ari_nn (op a b : Int) : 0 ≤ ari op a b := Int.natCast_nonneg _
theorem foldl_nn {f : Int → Int → Int} (hf : ∀ a b, 0 ≤ f a b) : ∀ (l : List Int) (a : Int), 0 ≤ a → 0 ≤ l.foldl f a
  | [], a, h => h
  | x :: l, a, h => foldl_nn hf l _ (hf a x)
theorem sumI_nn : ∀ vs, 0 ≤ sumI vs
  | [] => Int.le_refl _
  | v :: l => foldl_nn (fun a b => ari_nn 1 a b) l _ (nrm_nn v)
theorem bestI_nn (op : Int) : ∀ vs, 0 ≤ bestI op vs
  | [] => Int.le_refl _
  | v :: l => nrm_nn _
theorem growI_nn (vs : List Int) : 0 ≤ growI vs := by
  unfold growI
  have : ∀ (l : List (Int × Int)) (a : Int), 0 ≤ a → 0 ≤ l.foldl stepI a := fun l => by
    induction l with
    | nil => intro a h; exact h
    | cons x l ih =>
      intro a h
      refine ih _ ?_
      unfold stepI
      split
      · exact ari_nn _ _ _
      · exact h
  exact this _ _ (ari_nn _ _ _)
theorem wholeI_nn (x : Int) : 0 ≤ wholeI x := Int.natCast_nonneg _
theorem foldI_nn (op : Int) (vs : List Int) : 0 ≤ foldI op vs := by
  unfold foldI
  split
  · exact sumI_nn _
  · split
    · exact bestI_nn _ _
    · split
      · exact bestI_nn _ _
      · split
        · exact ari_nn _ _ _
        · exact wholeI_nn _
theorem overI_nn {op : Int} {vs : List Int} {w x : Int} (h : overI op vs w = some x) : 0 ≤ x := by
  unfold overI at h
  split at h
  · rw [← Option.some.inj h]; exact sumI_nn _
  split at h
  · rw [← Option.some.inj h]; exact ari_nn _ _ _
  split at h
  · rw [← Option.some.inj h]; exact bestI_nn _ _
  split at h
  · rw [← Option.some.inj h]; exact bestI_nn _ _
  split at h
  · rw [← Option.some.inj h]; exact wholeI_nn _
  split at h
  · rw [← Option.some.inj h]; exact nrm_nn _
  split at h
  · rw [← Option.some.inj h]; exact Int.natCast_nonneg _
  split at h
  · exact absurd h.symm (Option.some_ne_none _)
  split at h
  · rw [← Option.some.inj h]; exact ari_nn _ _ _
  split at h
  · rw [← Option.some.inj h]; exact growI_nn _
  · rw [← Option.some.inj h]; exact ari_nn _ _ _
theorem singI_nn (op a b : Int) : 0 ≤ (singI op a b).1 := by
  unfold singI
  split
  · exact ari_nn _ _ _
  · show 0 ≤ (if _ then wholeI 1 else wholeI 0)
    split <;> exact wholeI_nn _
theorem vecF_perm {l m : List El} (h : vecF FF l = some m) : m.Perm l := by
  unfold vecF at h
  split at h
  · cases h; exact sortE_perm l
  · cases h
theorem vecF_ok {l m : List El} (h : vecF FF l = some m) (hl : ∀ e ∈ l, ElOk e) : (∀ e ∈ m, ElOk e) ∧ m.length = l.length :=
  ⟨fun e he => hl e ((vecF_perm h).mem_iff.1 he), (vecF_perm h).length_eq⟩
theorem call_ok {n : Nd} {x : Vv} (hx : VG x) : (∀ e ∈ callF FF n x, ElOk e) ∧ (callF FF n x).length ≤ vlen x := by
  refine ⟨fun e he => ?_, ?_⟩
  · rcases List.mem_append.1 he with he | he
    · obtain ⟨y, hy, rfl⟩ := List.mem_map.1 he
      refine ⟨(hx.el y hy).1.bare, ?_⟩
      show 0 ≤ (if n.op = 11 then absI y.v else floorI y.v)
      split <;> exact Int.natCast_nonneg _
    · obtain ⟨y, hy, h1⟩ := List.mem_filterMap.1 he
      have h2 : (overI n.op y.vs x.v).map (fun v => (⟨bareF y.ls, v⟩ : El)) = some e := h1
      cases ho : overI n.op y.vs x.v with
      | none => rw [ho] at h2; cases h2
      | some z =>
        rw [ho] at h2
        simp only [Option.map_some, Option.some.injEq] at h2
        subst h2
        exact ⟨(hx.rg y hy).1.bare, overI_nn ho⟩
  · unfold callF vlen
    rw [List.length_append, List.length_map]
    have := List.length_filterMap_le (fun s : Rg => (FF.over n.op s.vs x.v).map fun v => (⟨bareF s.ls, v⟩ : El)) x.rng
    omega
theorem agg_ok {n : Nd} {x : Vv} (hx : VG x) : (∀ e ∈ aggF FF n x, ElOk e) ∧ (aggF FF n x).length ≤ vlen x := by
  obtain ⟨h1, h2⟩ := gsF_ok (n := n) (fun e he => (hx.el e he).1) x.vec.length (Nat.le_refl _)
  rw [List.take_length] at h1 h2
  have hA : aggF FF n x = (gsF n x.vec).map fun g => ⟨g.ls, foldI n.op g.vs⟩ := rfl
  rw [hA]
  refine ⟨fun e he => ?_, by rw [List.length_map]; unfold vlen; omega⟩
  obtain ⟨g, hg, rfl⟩ := List.mem_map.1 he
  exact ⟨(h1 g hg).2.2, foldI_nn _ _⟩
theorem mix_ok {n : Nd} {l : List El} {f : Int → Int × Bool} (hl : ∀ e ∈ l, ElOk e) (hf : ∀ v, 0 ≤ (f v).1) : (∀ e ∈ mixF n l f, ElOk e) ∧ (mixF n l f).length ≤ l.length := by
  refine ⟨fun e he => ?_, List.length_filterMap_le _ _⟩
  obtain ⟨y, hy, h1⟩ := List.mem_filterMap.1 he
  split at h1
  · simp only [Option.some.injEq] at h1
    subst h1
    exact ⟨(hl y hy).1.bare, hf _⟩
  · split at h1
    · simp only [Option.some.injEq] at h1
      subst h1; exact hl y hy
    · cases h1
theorem sets_ok {n : Nd} {x y : List El} (hx : ∀ e ∈ x, ElOk e) (hy : ∀ e ∈ y, ElOk e) : (∀ e ∈ setsF n x y, ElOk e) ∧ (setsF n x y).length ≤ x.length + y.length := by
  unfold setsF
  refine ⟨fun e he => ?_, ?_⟩
  · rcases List.mem_append.1 he with he | he
    · exact hx e (List.mem_filter.1 he).1
    · exact hy e (List.mem_filter.1 he).1
  · rw [List.length_append]
    exact Nat.add_le_add (List.length_filter_le _ _) (List.length_filter_le _ _)
theorem vecs_ok {n : Nd} {x y m : List El} (hx : ∀ e ∈ x, ElOk e) (h : vecsF FF n x y = some m) : (∀ e ∈ m, ElOk e) ∧ m.length ≤ x.length := by
  unfold vecsF at h
  split at h
  · simp only [Option.some.injEq] at h
    subst h
    refine ⟨fun e he => ?_, List.length_filterMap_le _ _⟩
    obtain ⟨z, hz, h1⟩ := List.mem_filterMap.1 he
    split at h1
    · cases h1
    · split at h1
      · simp only [Option.some.injEq] at h1
        subst h1
        exact ⟨(hx z hz).1.byF, singI_nn _ _ _⟩
      · split at h1
        · simp only [Option.some.injEq] at h1
          subst h1; exact hx z hz
        · cases h1
  · cases h
theorem vec_VG {l m : List El} (h : vecF FF l = some m) (hl : ∀ e ∈ l, ElOk e) : VG ⟨2, 0, m, []⟩ ∧ vlen ⟨2, 0, m, []⟩ = l.length :=
  ⟨⟨(vecF_ok h hl).1, fun r hr => (by cases hr), .inr (.inl ⟨rfl, rfl⟩)⟩, by show m.length + 0 = _; rw [(vecF_ok h hl).2]; omega⟩
theorem map_some {α β : Type} {o : Option α} {f : α → β} {y : β} (h : o.map f = some y) : ∃ x, o = some x ∧ f x = y := by
  cases o with
  | none => cases h
  | some x => exact ⟨x, rfl, by simpa using h⟩
theorem node_ok {n : Nd} {ss : List Sr} {t : Int} {L : List Vv} {v : Vv} (hS : SsOk ss) (hp : ∀ s ∈ ss, ∀ p ∈ s.ps, 0 ≤ p.2) (hf : formO n = true) (hT : (tyN n (L.map (·.kind))).2 = 0) (hL : (L.length : Int) = n.parts) (hV : ∀ x ∈ L, VG x) (h : nodeF FF ss t n L = some v) :
    VG v ∧ v.kind = (tyN n (L.map (·.kind))).1 ∧ vlen v ≤ ss.length + (L.map vlen).sum := by
  have hkO := kindO_of hf
  unfold nodeF at h
  by_cases h1 : n.kind = 1
  · rw [if_pos h1] at h; cases h
    exact ⟨⟨fun e he => (by cases he), fun r hr => (by cases hr), .inl ⟨rfl, rfl, rfl⟩⟩, by unfold tyN; rw [if_pos h1], Nat.zero_le _⟩
  rw [if_neg h1] at h
  by_cases h2 : n.kind = 2
  · rw [if_pos h2] at h; cases h
    refine ⟨⟨fun e he => ?_, fun r hr => (by cases hr), .inr (.inl ⟨rfl, rfl⟩)⟩, by unfold tyN; rw [if_neg h1, if_pos h2], ?_⟩
    · obtain ⟨s, hs, he1⟩ := List.mem_filterMap.1 he
      split at he1
      · cases he1
      · rename_i p hlast
        split at he1
        · cases he1
        · simp only [Option.some.injEq] at he1
          subst he1
          exact ⟨hS.sm s hs, hp s hs p (List.mem_filter.1 (List.mem_of_getLast? hlast)).1⟩
    · show (List.filterMap _ ss).length + 0 ≤ _
      exact Nat.le_trans (Nat.le_of_eq (Nat.add_zero _)) (Nat.le_trans (List.length_filterMap_le _ _) (Nat.le_add_right _ _))
  rw [if_neg h2] at h
  by_cases h3 : n.kind = 3
  · rw [if_pos h3] at h; cases h
    refine ⟨⟨fun e he => (by cases he), fun r hr => ?_, .inr (.inr ⟨rfl, rfl⟩)⟩, by unfold tyN; rw [if_neg h1, if_neg h2, if_pos h3], ?_⟩
    · obtain ⟨s, hs, he1⟩ := List.mem_filterMap.1 hr
      dsimp only at he1
      generalize ((ptsF s.ps (t - n.back - n.width) (t - n.back)).filter fun p => decide (p.2 ≠ stale)).map Prod.snd = vs at he1
      cases vs with
      | nil => cases he1
      | cons a l =>
        simp only [List.isEmpty_cons, Bool.not_false, Bool.true_and] at he1
        cases hsy : FF.says n.mt s.ls with
        | false => rw [hsy] at he1; cases he1
        | true =>
          rw [hsy] at he1
          simp only [cond_true, Option.some.injEq] at he1
          subst he1
          exact ⟨hS.sm s hs, by simp⟩
    · show 0 + (List.filterMap _ ss).length ≤ _
      exact Nat.le_trans (Nat.le_of_eq (Nat.zero_add _)) (Nat.le_trans (List.length_filterMap_le _ _) (Nat.le_add_right _ _))
  rw [if_neg h3] at h
  unfold kindO at hkO
  rw [if_neg h1, if_neg h2, if_neg h3] at hkO
  by_cases h4 : n.kind = 4
  · rw [if_pos h4] at hkO
    have hpar := (of_decide_eq_true hkO).1
    match L, hL with
    | [x], _ =>
      have hx := hV x (by simp)
      dsimp only at h
      rw [if_pos h4] at h
      obtain ⟨m, hm, rfl⟩ := map_some h
      obtain ⟨c1, c2⟩ := call_ok (n := n) hx
      obtain ⟨d1, d2⟩ := vec_VG hm c1
      refine ⟨d1, ?_, by rw [d2]; simp; omega⟩
      unfold tyN at hT ⊢
      rw [if_neg h1, if_neg h2, if_neg h3, if_pos h4] at hT ⊢
      unfold callT at hT ⊢
      by_cases hc : ([x].map (·.kind))[0]?.getD 0 = (if n.op = 11 ∨ n.op = 12 then 2 else 3)
      · rw [if_pos hc]
      · rw [if_neg hc] at hT; exact absurd hT (by decide)
    | [], hL => simp at hL; omega
    | _ :: _ :: _, hL => simp at hL; omega
  rw [if_neg h4] at hkO
  by_cases h5 : n.kind = 5
  · rw [if_pos h5] at hkO
    have hpar := (of_decide_eq_true hkO).1
    match L, hL with
    | [x], _ =>
      have hx := hV x (by simp)
      dsimp only at h
      rw [if_neg h4, if_pos h5] at h
      obtain ⟨m, hm, rfl⟩ := map_some h
      obtain ⟨c1, c2⟩ := agg_ok (n := n) hx
      obtain ⟨d1, d2⟩ := vec_VG hm c1
      refine ⟨d1, ?_, by rw [d2]; simp; omega⟩
      unfold tyN at hT ⊢
      rw [if_neg h1, if_neg h2, if_neg h3, if_neg h4, if_pos h5] at hT ⊢
      unfold aggT' at hT ⊢
      by_cases hc : ([x].map (·.kind))[0]?.getD 0 = 2
      · rw [if_pos hc]
      · rw [if_neg hc] at hT; exact absurd hT (by decide)
    | [], hL => simp at hL; omega
    | _ :: _ :: _, hL => simp at hL; omega
  rw [if_neg h5] at hkO
  by_cases h6 : n.kind = 6
  · rw [if_pos h6, Bool.and_eq_true] at hkO
    have hpar := (of_decide_eq_true hkO.1).1
    match L, hL with
    | [x, y], _ =>
      have hx := hV x (by simp)
      have hy := hV y (by simp)
      dsimp only at h
      rw [if_pos h6] at h
      have hTy : (tyN n ([x, y].map (·.kind))) = binT n x.kind y.kind := by unfold tyN; rw [if_neg h1, if_neg h2, if_neg h3, if_neg h4, if_neg h5, if_pos h6]; rfl
      rw [hTy] at hT ⊢
      unfold binT at hT ⊢
      split at hT
      · cases hT
      · rename_i hno
        rw [if_neg hno]
        simp only [not_or] at hno
        have sx := hx.sh
        have sy := hy.sh
        unfold binF at h
        have hvx : vlen x + vlen y = ([x, y].map vlen).sum := by simp
        rw [← hvx]
        split at h
        · rename_i hk
          cases h
          exact ⟨⟨fun e he => (by cases he), fun r hr => (by cases hr), .inl ⟨rfl, rfl, rfl⟩⟩, by simp [hk.1, hk.2], Nat.zero_le _⟩
        · rename_i hk
          obtain ⟨m, hm, rfl⟩ := map_some h
          have hkind : (2 : Int) = (if x.kind < y.kind then y.kind else x.kind) := by
            unfold Sh at sx sy
            split <;> omega
          refine (fun hh : VG ⟨2, 0, m, []⟩ ∧ vlen ⟨2, 0, m, []⟩ ≤ vlen x + vlen y => ⟨hh.1, hkind, by have := hh.2; omega⟩) ?_
          split at hm
          · obtain ⟨c1, c2⟩ := mix_ok (n := n) (f := FF.sing n.op x.v) hy.el (fun v => singI_nn _ _ _)
            obtain ⟨d1, d2⟩ := vec_VG (show vecF FF (mixF n y.vec (FF.sing n.op x.v)) = some m from hm) c1
            exact ⟨d1, by rw [d2]; unfold vlen; omega⟩
          · split at hm
            · obtain ⟨c1, c2⟩ := mix_ok (n := n) (f := fun v => FF.sing n.op v y.v) hx.el (fun v => singI_nn _ _ _)
              obtain ⟨d1, d2⟩ := vec_VG (show vecF FF (mixF n x.vec fun v => FF.sing n.op v y.v) = some m from hm) c1
              exact ⟨d1, by rw [d2]; unfold vlen; omega⟩
            · split at hm
              · obtain ⟨c1, c2⟩ := sets_ok (n := n) hx.el hy.el
                obtain ⟨d1, d2⟩ := vec_VG (show vecF FF (setsF n x.vec y.vec) = some m from hm) c1
                exact ⟨d1, by rw [d2]; unfold vlen; omega⟩
              · cases hq : vecsF FF n x.vec y.vec with
                | none => rw [hq] at hm; cases hm
                | some w =>
                  rw [hq] at hm
                  obtain ⟨c1, c2⟩ := vecs_ok hx.el hq
                  obtain ⟨d1, d2⟩ := vec_VG (show vecF FF w = some m from hm) c1
                  exact ⟨d1, by rw [d2]; unfold vlen; omega⟩
    | [], hL => simp at hL; omega
    | [_], hL => simp at hL; omega
    | _ :: _ :: _ :: _, hL => simp at hL; omega
  rw [if_neg h6] at hkO
  have h7 := (of_decide_eq_true hkO).1
  have hpar := (of_decide_eq_true hkO).2
  match L, hL with
  | [x], _ =>
    have hx := hV x (by simp)
    dsimp only at h
    rw [if_neg h4, if_neg h5, if_pos h7] at h
    have hTy : (tyN n ([x].map (·.kind))) = negT x.kind := by unfold tyN; rw [if_neg h1, if_neg h2, if_neg h3, if_neg h4, if_neg h5, if_neg h6]; rfl
    rw [hTy] at hT ⊢
    unfold negT at hT ⊢
    have sx := hx.sh
    unfold Sh at sx
    split at hT
    · cases hT
    · rename_i hno
      rw [if_neg hno]
      unfold negF at h
      split at h
      · rename_i hk
        cases h
        exact ⟨⟨fun e he => (by cases he), fun r hr => (by cases hr), .inl ⟨rfl, rfl, rfl⟩⟩, hk.symm, Nat.zero_le _⟩
      · obtain ⟨m, hm, rfl⟩ := map_some h
        have c1 : ∀ e ∈ x.vec.map (fun x => (⟨bareF x.ls, FF.turn x.v⟩ : El)), ElOk e := fun e he => by
          obtain ⟨y, hy, rfl⟩ := List.mem_map.1 he
          exact ⟨(hx.el y hy).1.bare, nrm_nn _⟩
        obtain ⟨d1, d2⟩ := vec_VG hm c1
        refine ⟨d1, by show (2 : Int) = x.kind; omega, by rw [d2, List.length_map]; simp [vlen]; omega⟩
  | [], hL => simp at hL; omega
  | _ :: _ :: _, hL => simp at hL; omega
end TwW
end
section
namespace TwW
open Go Tw Go.RowKit Go.Proofs.Tryz
theorem parts_nn {n : Nd} (ht : formO n = true) : 0 ≤ n.parts := by
  have hkO := kindO_of ht
  unfold kindO at hkO
  have hp := plainB_of ht
  by_cases h1 : n.kind = 1
  · unfold plainB bareNd at hp; simp [h1] at hp; omega
  by_cases h2 : n.kind = 2
  · unfold plainB bareNd at hp; simp [h2] at hp; omega
  by_cases h3 : n.kind = 3
  · unfold plainB bareNd at hp; simp [h3] at hp; omega
  rw [if_neg h1, if_neg h2, if_neg h3] at hkO
  split at hkO
  · simp at hkO; omega
  · split at hkO
    · simp at hkO; omega
    · split at hkO
      · simp at hkO; omega
      · simp at hkO; omega
theorem step_ok {n : Nd} {ty : List Int} (h : (tyStep n ty).1 = 0) : formO n = true ∧ n.parts ≤ ty.length ∧ mtsOk lnOk n.mt = 0 ∧ (tyN n (ty.drop (ty.length - n.parts.toNat))).2 = 0 ∧ (tyStep n ty).2 = ty.take (ty.length - n.parts.toNat) ++ [(tyN n (ty.drop (ty.length - n.parts.toNat))).1] := by
  unfold tyStep at h ⊢
  split at h
  · exact absurd h (by dsimp only; decide)
  · rename_i h1
    split at h
    · exact absurd h (by dsimp only; decide)
    · rename_i h2
      simp only [not_or] at h1
      rw [if_neg (by simp only [not_or]; exact h1), if_neg h2]
      exact ⟨by simpa using h1.1, by omega, Decidable.not_not.1 h2, h, rfl⟩
theorem ndOk_of {n : Nd} (hf : formO n = true) (hm : mtsOk lnOk n.mt = 0) (hk : n.kind = 2 ∨ n.kind = 3) : NdOk n := by
  have hkO := kindO_of hf
  have hp := plainB_of hf
  have hmt : n.mt.all mtF = true := by
    unfold mtsOk at hm
    split at hm
    · exact absurd hm (by decide)
    · cases ha : n.mt.all mtF with
      | true => rfl
      | false =>
        have : (if n.mt.all mtF = true then (0 : Int) else 40) = 0 := hm
        rw [ha] at this; exact absurd this (by decide)
  have hx : ∀ x ∈ n.mt, mtF x = true := List.all_eq_true.1 hmt
  have hbw : (0 ≤ n.back ∧ n.back < 2147483648) ∧ (0 ≤ n.width ∧ n.width < 2147483648) := by
    unfold kindO at hkO
    rcases hk with hk | hk
    · rw [if_neg (by omega), if_pos hk] at hkO
      unfold spanF at hkO
      simp only [Bool.and_eq_true, decide_eq_true_eq] at hkO
      unfold plainB bareNd at hp
      simp [hk] at hp
      omega
    · rw [if_neg (by omega), if_neg (by omega), if_pos hk] at hkO
      unfold spanF at hkO
      simp only [Bool.and_eq_true, decide_eq_true_eq] at hkO
      omega
  refine ⟨fun x hxm => ?_, fun x hxm => ?_, hbw.1, hbw.2⟩
  · have := hx x hxm
    unfold mtF at this
    simp only [Bool.and_eq_true, decide_eq_true_eq] at this
    exact this.1.1
  · have := hx x hxm
    unfold mtF at this
    simp only [Bool.and_eq_true, decide_eq_true_eq] at this
    omega
def rowT : List Nat := [60, 61, 62, 63, 64, 65, 66]
structure SsG (ss : List Sr) : Prop where
  ok : SsOk ss
  nn : ∀ s ∈ ss, ∀ p ∈ s.ps, 0 ≤ p.2
  pl : ∀ s ∈ ss, s.ps.length ≤ 1000000000
section
variable {ρ σ σ' σ0 : Hp} {R : Ending → Hp → Prop}
theorem node_call {n : Nd} {p q l : Option Addr} {k c m d j e ab : Nat} {ss : List Sr} {t : Int} {L : List Vv} (hA : AskAt ρ ab ss t) (hg : Gl ρ) (hm : RdS 3 EMt ρ p k n.mt) (hs : RdC 1 ρ q m (n.names.map .string)) (hf : formO n = true) (hmt : mtsOk lnOk n.mt = 0)
    (hT : (tyN n (L.map (·.kind))).2 = 0) (hL : (L.length : Int) = n.parts) (hV : ∀ x ∈ L, VG x) (hlen : ∀ x ∈ L, vlen x ≤ 100000000000) (hr : RdS 4 EVv ρ l j L) (hS : SsG ss) (ht : -4611686018427387904 ≤ t ∧ t ≤ 4611686018427387904) (h : RetV R ρ (nodeF FF ss t n L)) :
    ∃ f, 1 ≤ n.kind ∧ n.kind ≤ 7 ∧ rowT[n.kind.toNat - 1]? = some f ∧ Enters prog f ∧ Spec prog f #[.pointer (some ⟨ab, 0, none⟩), ndV n p k c q m d, .slice l j e] ρ R := by
  have hkO := kindO_of hf
  have vok : ∀ x ∈ L, VvOk x := fun x hx => ⟨(hV x hx).el, (hV x hx).rg, hlen x hx⟩
  unfold nodeF at h
  by_cases h1 : n.kind = 1
  · rw [if_pos h1] at h
    refine ⟨_, by omega, by omega, by rw [h1]; rfl, eval_asker_number.en, asker_number_spec hg ?_ h⟩
    unfold kindO at hkO; rw [if_pos h1] at hkO; exact hkO
  rw [if_neg h1] at h
  by_cases h2 : n.kind = 2
  · rw [if_pos h2] at h
    exact ⟨_, by omega, by omega, by rw [h2]; rfl, eval_asker_choice.en, choice_spec hA hg hm hS.ok (ndOk_of hf hmt (.inl h2)) ht h⟩
  rw [if_neg h2] at h
  by_cases h3 : n.kind = 3
  · rw [if_pos h3] at h
    exact ⟨_, by omega, by omega, by rw [h3]; rfl, eval_asker_reach.en, reach_spec hA hg hm hS.ok (ndOk_of hf hmt (.inr h3)) ht hS.pl h⟩
  rw [if_neg h3] at h
  unfold kindO at hkO
  rw [if_neg h1, if_neg h2, if_neg h3] at hkO
  by_cases h4 : n.kind = 4
  · rw [if_pos h4] at hkO
    obtain ⟨hpar, ho1, ho2⟩ := of_decide_eq_true hkO
    match L, hL with
    | [x], _ =>
      have hx := hV x (by simp)
      dsimp only at h
      rw [if_pos h4] at h
      have sx := hx.sh
      unfold Sh at sx
      unfold tyN at hT
      rw [if_neg h1, if_neg h2, if_neg h3, if_pos h4] at hT
      unfold callT at hT
      have hc : x.kind = (if n.op = 11 ∨ n.op = 12 then 2 else 3) := by
        by_cases hc : ([x].map (·.kind))[0]?.getD 0 = (if n.op = 11 ∨ n.op = 12 then 2 else 3)
        · exact hc
        · rw [if_neg hc] at hT; exact absurd hT (by decide)
      refine ⟨_, by omega, by omega, by rw [h4]; rfl, eval_asker_call.en, call_spec hr rfl (vok x (by simp)) (fun hne => ?_) (fun hne => ?_) h⟩
      · rcases sx with ⟨_, h9, _⟩ | ⟨h9, _⟩ | ⟨h9, h8⟩
        · exact absurd h9 hne
        · rw [h9] at hc
          split at hc
          · assumption
          · omega
        · exact absurd h8 hne
      · rcases sx with ⟨_, _, h9⟩ | ⟨h9, h8⟩ | ⟨h9, _⟩
        · exact absurd h9 hne
        · exact absurd h8 hne
        · rw [h9] at hc
          split at hc
          · omega
          · omega
    | [], hL => simp at hL; omega
    | _ :: _ :: _, hL => simp at hL; omega
  rw [if_neg h4] at hkO
  by_cases h5 : n.kind = 5
  · rw [if_pos h5] at hkO
    obtain ⟨hpar, ho1, ho2, _⟩ := of_decide_eq_true hkO
    match L, hL with
    | [x], _ =>
      dsimp only at h
      rw [if_neg h4, if_pos h5] at h
      exact ⟨_, by omega, by omega, by rw [h5]; rfl, eval_asker_agg.en, agg_spec hs hr rfl (vok x (by simp)) ⟨ho1, ho2⟩ h⟩
    | [], hL => simp at hL; omega
    | _ :: _ :: _, hL => simp at hL; omega
  rw [if_neg h5] at hkO
  by_cases h6 : n.kind = 6
  · rw [if_pos h6, Bool.and_eq_true] at hkO
    have hpar := (of_decide_eq_true hkO.1).1
    match L, hL with
    | [x, y], _ =>
      dsimp only at h
      rw [if_pos h6] at h
      exact ⟨_, by omega, by omega, by rw [h6]; rfl, eval_asker_bin.en, bin_spec hs hr rfl rfl (vok x (by simp)) (vok y (by simp)) h⟩
    | [], hL => simp at hL; omega
    | [_], hL => simp at hL; omega
    | _ :: _ :: _ :: _, hL => simp at hL; omega
  rw [if_neg h6] at hkO
  have h7 := (of_decide_eq_true hkO).1
  have hpar := (of_decide_eq_true hkO).2
  match L, hL with
  | [x], _ =>
    dsimp only at h
    rw [if_neg h4, if_neg h5, if_pos h7] at h
    exact ⟨_, by omega, by omega, by rw [h7]; rfl, eval_asker_neg.en, neg_spec hr rfl (vok x (by simp)) h⟩
  | [], hL => simp at hL; omega
  | _ :: _ :: _, hL => simp at hL; omega
end
end TwW
end
section
namespace TwW
open Go Tw Go.RowKit Go.Proofs.Tryz
theorem Spec.frameD {P : Program} {f : FuncId} {args : Array Value} {σ : Hp} {p : Option Addr} {R : Ending → Hp → Prop} (hk : ∀ a, p = some a → ∃ o, σ a.block = some o)
    (h : Spec P f args (σ.del p) (fun e τ' => ∀ σ', (∀ a, p = some a → σ' a.block = σ a.block) → σ'.del p = τ' → R e σ')) : Spec P f args σ R := by
  cases p with
  | none => exact h.mono fun e τ' hh => hh τ' (fun a ha => by cases ha) rfl
  | some a =>
    obtain ⟨o, ho⟩ := hk a rfl
    have e1 : (σ.del (some a)).set a.block o = σ := by
      funext k
      by_cases hka : k = a.block
      · subst hka; rw [Hp.set_same, ho]
      · rw [Hp.set_ne hka]; simp [Hp.del, hka]
    have e2 : (σ.del (some a)) a.block = none := by simp [Hp.del]
    rw [← e1]
    refine Spec.frame1 e2 (h.mono fun e τ' hh hn => hh _ (fun a' ha' => by cases ha'; rw [Hp.set_same, ho]) ?_)
    funext k
    by_cases hka : k = a.block
    · subst hka; simp [Hp.del, hn]
    · simp [Hp.del, hka, Hp.set]
theorem RdC.sub {s : Nat} {σ : Hp} {p : Option Addr} {n c i m : Nat} {cs : List Value} (h : RdC s σ p n cs) (him : i + m ≤ n) (hc : n ≤ c) : RdC s σ (slP p i c s) m ((cs.drop (i * s)).take (m * s)) := by
  obtain ⟨h2, h3, h4⟩ := h
  have hle : i * s + m * s ≤ n * s := by rw [← Nat.add_mul]; exact Nat.mul_le_mul_right _ him
  refine ⟨by rw [List.length_take, List.length_drop]; omega, by omega, ?_⟩
  rcases Nat.eq_zero_or_pos m with hm | hm
  · exact .inl hm
  · rcases h4 with h4 | ⟨b, o, rfl, h4⟩
    · omega
    · refine .inr ⟨b, o + i * s, ?_, h4.part⟩
      unfold slP
      rw [if_neg (by omega)]
      simp [add_off]
theorem EVv.one (σ : Hp) (vs : List Value) (x : Vv) (h : EVv σ vs x) : OneC vs := by
  obtain ⟨p, n, c, q, m, d, rfl, _⟩ := h
  intro u hu
  simp only [List.mem_cons, List.not_mem_nil, or_false] at hu
  rcases hu with rfl | rfl | rfl | rfl <;> rfl
theorem OutL.take {α : Type} {s : Nat} {E : Hp → List Value → α → Prop} {σ0 σ : Hp} {p : Option Addr} {n c m : Nat} {xs : List α} (h : OutL s E σ0 σ p n c xs) (hm : m ≤ n) : OutL s E σ0 σ p m c (xs.take m) := by
  obtain ⟨⟨hl, cs, ho, hc⟩, hx⟩ := h
  exact ⟨⟨by rw [List.length_take]; omega, _, Own.take ho hm, hc.take m⟩, hx⟩
section
variable {σ σ' σ0 : Hp} {R : Ending → Hp → Prop}
theorem copyV_eff {p7 q : Option Addr} {j d b : Nat} {cs : List Value} {L : List Vv} {Φ : Value → Hp → Prop} (hcs : RdC 4 σ q j cs) (hc : Ch 4 EVv (σ.del p7) cs L) (hp7 : ∀ a, p7 = some a → σ a.block ≠ none) (hn : σ b = none) (hj : j ≤ 1000000000)
    (hΦ : ∀ p' c' y, RdS 4 EVv (y.del p7) p' j L → Ext σ y → Φ (.slice p' j c') y) : Eff prog (Builtin.append_ #[105, 105] 105 #[.slice (some ⟨b, 0, none⟩) 0 0, .slice q j d]) (σ.set b (.cells #[] 79 (0, 0))) Φ := by
  have hx := Ext.set (o := .cells #[] 79 (0, 0)) hn
  refine app_eff Own.empty (hcs.mono hx) (Ch.oneC EVv.one hc (by decide)) (by omega) fun p' c' y hown hext => ?_
  have hq : ∀ a : Addr, (some (⟨b, 0, none⟩ : Addr)) = some a → σ a.block = none := fun a ha => by cases ha; exact hn
  rw [Nat.zero_add] at hown ⊢
  rw [List.nil_append] at hown
  have hXY : Ext σ y := ext_new hq hext hx
  have hnew : ∀ a, p' = some a → σ a.block = none := new_block hq hext hx
  refine hΦ p' c' y ⟨?_, cs, Own.rd (Own.del_ne hown fun a ha a' ha' e => hp7 a' ha' (by rw [← e]; exact hnew a ha)), hc.mono EVv.mono (hXY.del _)⟩ hXY
  have := hc.1
  have := hcs.1
  omega
theorem mem_sum {α : Type} {f : α → Nat} : ∀ {l : List α} {y : α}, y ∈ l → f y ≤ (l.map f).sum
  | a :: l, y, h => by
    rw [List.map_cons, List.sum_cons]
    rcases List.mem_cons.1 h with rfl | h
    · omega
    · have := mem_sum (f := f) h
      omega
structure RetW (R : Ending → Hp → Prop) (σ : Hp) (X : Option Vv) : Prop where
  ok : ∀ x σ' p n c q m d, X = some x → Ext σ σ' → RdS 2 EEl σ' p n x.vec → RdS 2 ERg σ' q m x.rng → R (.returned (.tuple #[.agg #[.int .i64 x.kind, .int .u64 x.v, .slice p n c, .slice q m d], .int .i64 0])) σ'
  no : X = none → ∀ σ', Ext σ σ' → R (.returned (.tuple #[.agg #[.int .i64 0, .int .u64 0, .slice none 0 0, .slice none 0 0], .int .i64 223])) σ'
theorem RetW.weak {X : Option Vv} (h : RetW R σ X) (hx : Ext σ σ') : RetW R σ' X := ⟨fun x σ2 p n c q m d h0 h1 h2 h3 => h.ok x σ2 p n c q m d h0 (hx.trans h1) h2 h3, fun h0 σ2 h1 => h.no h0 σ2 (hx.trans h1)⟩
theorem row_en {i f : Nat} (h : rowT[i]? = some f) : Enters prog f := by
  have hlt : i < 7 := (List.getElem?_eq_some_iff.1 h).1
  match i, h with
  | 0, h => cases h; exact eval_asker_number.en
  | 1, h => cases h; exact eval_asker_choice.en
  | 2, h => cases h; exact eval_asker_reach.en
  | 3, h => cases h; exact eval_asker_call.en
  | 4, h => cases h; exact eval_asker_agg.en
  | 5, h => cases h; exact eval_asker_bin.en
  | 6, h => cases h; exact eval_asker_neg.en
abbrev zeroO : Obj := .cells #[.int .i64 0, .int .u64 0, .slice none 0 0, .slice none 0 0] 79 (0, 0)
theorem run_spec {ab n c : Nat} {p : Option Addr} {ss : List Sr} {t : Int} {T : List Nd} {kf : Int} (hA : AskAt σ ab ss t) (hg : Gl σ) (hr : RdS 10 ENd σ p n T) (hS : SsG ss) (hn : n ≤ 4096) (ht : -4611686018427387904 ≤ t ∧ t ≤ 4611686018427387904) (hty : tyRun T [] = some [kf])
    (h : RetW R σ ((runF FF ss t T []).bind List.head?)) : Spec prog 25 #[.pointer (some ⟨ab, 0, none⟩), .slice p n c] σ R := by
  have hTl : T.length = n := hr.1
  have hssl := hS.ok.len
  refine eval_asker_run.start fun _ => eval_nodes.start fun rb hrb => ⟨_, _, _, rfl, ?_⟩
  have xb := Ext.set (o := .cells #[.nilFunc, .func (.func 60) #[] #[], .func (.func 61) #[] #[], .func (.func 62) #[] #[], .func (.func 63) #[] #[], .func (.func 64) #[] #[], .func (.func 65) #[] #[], .func (.func 66) #[] #[]] 106 (0, 0)) hrb
  have hrow : ∀ (kind : Int) f, 1 ≤ kind → kind ≤ 7 → rowT[kind.toNat - 1]? = some f → Hp.ld (σ.set rb (.cells #[.nilFunc, .func (.func 60) #[] #[], .func (.func 61) #[] #[], .func (.func 62) #[] #[], .func (.func 63) #[] #[], .func (.func 64) #[] #[], .func (.func 65) #[] #[], .func (.func 66) #[] #[]] 106 (0, 0))) ⟨rb, 0 + kind.toNat * 1, none⟩ = some (.func (.func f) #[] #[]) := fun kind f h1 h7 hf => by
    refine ld_of (Hp.set_same _ _ _) ?_
    rw [show 0 + kind.toNat * 1 = (kind.toNat - 1) + 1 by omega]
    have hlt : kind.toNat - 1 < 7 := by omega
    generalize kind.toNat - 1 = i at *
    match i, hf with
    | 0, hf => cases hf; rfl
    | 1, hf => cases hf; rfl
    | 2, hf => cases hf; rfl
    | 3, hf => cases hf; rfl
    | 4, hf => cases hf; rfl
    | 5, hf => cases hf; rfl
    | 6, hf => cases hf; rfl
  generalize σ.set rb _ = σb at *
  replace h := h.weak xb
  suffices H : ∀ g i : Nat, ∀ p7 n7 c7 σ' st, n - i = g → i ≤ n → OutL 4 EVv σb σ' p7 n7 c7 st → (∀ x ∈ st, VG x) → st.length ≤ i → (st.map vlen).sum ≤ i * ss.length → tyRun (T.drop i) (st.map (·.kind)) = some [kf] → runF FF ss t T [] = runF FF ss t (T.drop i) st → eval_asker_run.pt12 R (aD ab 0) 0 0 none 0 0 none 0 0 (aD rb 0) 8 8 p7 n7 c7 p n c n i σ' from
    H n 0 none 0 0 σb [] rfl (Nat.zero_le _) (OutL.nil (.refl _)) (fun x hx => (by cases hx)) (Nat.zero_le _) (Nat.zero_le _) hty rfl
  intro g
  induction g with
  | zero =>
    intro i p7 n7 c7 σ' st hgi hi ho hV hsl hsum hT hrun
    rw [List.drop_eq_nil_of_le (by omega)] at hT hrun
    have hk : st.map (·.kind) = [kf] := by simpa [tyRun] using hT
    have hrun' : runF FF ss t T [] = some st := by rw [hrun]; rfl
    rw [hrun'] at h
    match st, hk with
    | [x], _ =>
      obtain ⟨b, o, pv, nv, cv, qv, mv, dv, rfl, h1, h2, h3, h4, h5, h6⟩ := EVv.at (ho.rd EVv.mono) (i := 0) (x := x) rfl
      have hn7 : 1 = n7 := ho.1.1
      simp only [Nat.zero_mul, Nat.add_zero] at h1 h2 h3 h4
      exact eval_asker_run.pt12_of ⟨fun hlt => by omega, fun _ => ⟨b, o, rfl, by omega, x.kind, x.v, pv, nv, cv, qv, mv, dv, ⟨h1, h2, h3, h4, trivial⟩, h.ok x σ' pv nv cv qv mv dv rfl ho.up h5 h6⟩⟩
  | succ g ih =>
    intro i p7 n7 c7 σ' st hgi hi ho hV hsl hsum hT hrun
    have hi' : i < n := by omega
    obtain ⟨x, hx⟩ := hr.ex hi'
    obtain ⟨b, o, p1, k1, c1, q1, m1, d1, rfl, hld, hmt, hnm⟩ := ENd.at hr hx
    have hX := xb.trans ho.up
    rw [drop_at' hx] at hT hrun
    have hstep : (tyStep x (st.map (·.kind))).1 = 0 := Decidable.byContradiction fun hne => by
      rw [tyRun, if_neg hne] at hT; cases hT
    rw [tyRun, if_pos hstep] at hT
    obtain ⟨hf, hpl, hmo, hT0, hT1⟩ := step_ok hstep
    have hpn := parts_nn hf
    obtain ⟨tp, htp⟩ : ∃ tp : Nat, x.parts = tp := ⟨x.parts.toNat, by omega⟩
    have hpt : x.parts.toNat = tp := by omega
    have hst : st.length = n7 := ho.1.1
    rw [List.length_map, hst, hpt] at hT0 hT1
    rw [List.length_map] at hpl
    rw [hT1] at hT
    rw [← List.map_drop] at hT0 hT
    rw [← List.map_take] at hT
    rw [runF, hst, hpt] at hrun
    have hLl : (st.drop (n7 - tp)).length = tp := by rw [List.length_drop]; omega
    have hLV : ∀ y ∈ st.drop (n7 - tp), VG y := fun y hy => hV y (List.mem_of_mem_drop hy)
    have hsplit : (st.map vlen).sum = ((st.take (n7 - tp)).map vlen).sum + ((st.drop (n7 - tp)).map vlen).sum := by
      rw [← List.sum_append, ← List.map_append, List.take_append_drop]
    have hsb : i * ss.length ≤ 4096 * 10000000 := Nat.mul_le_mul (by omega) hssl
    have hmem : ∀ y ∈ st.drop (n7 - tp), vlen y ≤ 100000000000 := fun y hy => by
      have := mem_sum (f := vlen) (List.mem_of_mem_drop hy)
      omega
    have hno := ho.1.2
    obtain ⟨cs, hoo, hcc⟩ := hno
    have hcap := Own.cap hoo
    have e1 : Int.toNat ((n7 : Int) - x.parts) = n7 - tp := by omega
    have hcs : RdC 4 σ' (slP p7 (Int.toNat ((n7 : Int) - x.parts)) c7 4) (n7 - Int.toNat ((n7 : Int) - x.parts)) ((cs.drop ((n7 - tp) * 4)).take ((n7 - (n7 - tp)) * 4)) := by
      rw [e1]; exact RdC.sub hoo.rd (by omega) hcap
    have hcd : Ch 4 EVv (σ'.del p7) ((cs.drop ((n7 - tp) * 4)).take ((n7 - (n7 - tp)) * 4)) (st.drop (n7 - tp)) := by
      have h9 := hcc.drop (n7 - tp)
      rwa [List.take_of_length_le (by have := hoo.1; rw [List.length_drop, this, ← Nat.sub_mul]; exact Nat.le_refl _)]
    have hp7 : ∀ a, p7 = some a → σ' a.block ≠ none := ho.1.block
    have hk7 : ∀ {y : Hp}, Ext σ' y → ∀ a, p7 = some a → ∃ o, y a.block = some o := fun {y} hy a ha => by
      cases hh : σ' a.block with
      | none => exact absurd hh (hp7 a ha)
      | some u => exact ⟨u, hy _ _ hh⟩
    let Cond : Hp → Int → Int → Option Addr → Nat → Option Addr → Nat → Int → Prop := fun y2 k v pv nv qv mv e =>
      (∃ z, nodeF FF ss t x (st.drop (n7 - tp)) = some z ∧ k = z.kind ∧ v = z.v ∧ e = 0 ∧ OutL 4 EVv σb y2 p7 n7 c7 st ∧ RdS 2 EEl (y2.del p7) pv nv z.vec ∧ RdS 2 ERg (y2.del p7) qv mv z.rng) ∨ (nodeF FF ss t x (st.drop (n7 - tp)) = none ∧ e = 223 ∧ k = 0 ∧ v = 0 ∧ Ext σb y2)
    have hkr : 1 ≤ x.kind ∧ x.kind ≤ 7 := by
      have hkO := kindO_of hf
      unfold kindO at hkO
      by_cases h1 : x.kind = 1
      · omega
      by_cases h2 : x.kind = 2
      · omega
      by_cases h3 : x.kind = 3
      · omega
      by_cases h4 : x.kind = 4
      · omega
      by_cases h5 : x.kind = 5
      · omega
      by_cases h6 : x.kind = 6
      · omega
      rw [if_neg h1, if_neg h2, if_neg h3, if_neg h4, if_neg h5, if_neg h6] at hkO
      have := (of_decide_eq_true hkO).1
      omega
    obtain ⟨f0, hf0⟩ : ∃ f0, rowT[x.kind.toNat - 1]? = some f0 := ⟨_, List.getElem?_eq_getElem (show x.kind.toNat - 1 < 7 by omega)⟩
    have hl0 := (ho.up).ld (hrow x.kind f0 hkr.1 hkr.2 hf0)
    have hen0 := row_en hf0
    have callS : ∀ (y : Hp) (p37 : Option Addr) (c37 : Nat), Ext σ' y → RdS 4 EVv (y.del p7) p37 (n7 - Int.toNat ((n7 : Int) - x.parts)) (st.drop (n7 - tp)) → ∀ (R' : Ending → Hp → Prop), (∀ y2 k v pv nv cv qv mv dv e, Cond y2 k v pv nv qv mv e → R' (.returned (.tuple #[.agg #[.int .i64 k, .int .u64 v, .slice pv nv cv, .slice qv mv dv], .int .i64 e])) y2) →
        Spec prog f0 #[.pointer (some ⟨ab, 0, none⟩), ndV x p1 k1 c1 q1 m1 d1, .slice p37 (n7 - Int.toNat ((n7 : Int) - x.parts)) c37] y R' := fun y p37 c37 hy hrd R' hR' => by
      have hbase : Ext σb (y.del p7) := ho.2.trans (hy.del p7)
      have hσ : Ext σ (y.del p7) := xb.trans hbase
      have hRV : RetV (fun e τ' => ∀ y2, (∀ a, p7 = some a → y2 a.block = y a.block) → y2.del p7 = τ' → R' e y2) (y.del p7) (nodeF FF ss t x (st.drop (n7 - tp))) := by
        refine ⟨fun z τ' pv nv cv qv mv dv hz hx2 hr1 hr2 _ _ y2 hy2 hdel => ?_, fun hz τ' hx2 y2 hy2 hdel => ?_⟩
        · subst hdel
          refine hR' y2 _ _ _ _ _ _ _ _ _ (.inl ⟨z, hz, rfl, rfl, rfl, ⟨⟨ho.1.1, cs, ?_, hcc.mono EVv.mono ((hy.del p7).trans hx2)⟩, hbase.trans hx2⟩, hr1, hr2⟩)
          exact Own.of_eq (Own.mono hy hoo) hy2
        · subst hdel
          exact hR' y2 _ _ _ _ _ _ _ _ _ (.inr ⟨hz, rfl, rfl, rfl, (hbase.trans hx2).trans (Ext.of_del _ _)⟩)
      obtain ⟨f, hf1, hf2, hf3, hf4, hf5⟩ := node_call (p := p1) (c := c1) (q := q1) (d := d1) (e := c37) (hA.mono hσ) (hg.mono hσ) (hmt.mono EMt.mono hσ) (hnm.mono hσ) hf hmo hT0 (by rw [hLl, htp]) hLV hmem hrd hS ht hRV
      rw [hf0] at hf3
      cases hf3
      exact Spec.frameD (hk7 hy) hf5
    have tail : ∀ (y2 : Hp) (b11 : Nat) (k v : Int) (pv : Option Addr) (nv cv : Nat) (qv : Option Addr) (mv dv : Nat) (e : Int), y2 b11 = none → Cond y2 k v pv nv qv mv e → Eff prog (Instr.storeAt 79 (.pointer (aD b11 0)) (.agg #[.int .i64 k, .int .u64 v, .slice pv nv cv, .slice qv mv dv])) (Hp.set y2 b11 zeroO) (fun _ y_3 => Br (e ≠ 0) (R (.returned (.tuple #[.agg #[.int .i64 0, .int .u64 0, .slice none 0 0, .slice none 0 0], .int .i64 e])) y_3) (((0 : Int) ≤ ((n7 : Int) - x.parts) ∧ ((n7 : Int) - x.parts) ≤ (c7 : Int)) ∧ ∃ x48a x48b p48c n48c c48c p48d n48d c48d, LdL y_3 b11 0 [.int .i64 x48a, .int .u64 x48b, .slice p48c n48c c48c, .slice p48d n48d c48d] ∧ Al y_3 fun b49 => Eff prog (Builtin.append_ #[105, 105] 105 #[(.slice p7 (Int.toNat ((n7 : Int) - x.parts)) c7), (.slice (aD b49 0) 1 1)]) (Hp.set y_3 b49 (.cells #[.int .i64 x48a, .int .u64 x48b, .slice p48c n48c c48c, .slice p48d n48d c48d] 79 (0, 0))) (CS fun p50 n50 c50 y_4 => I64 ((i : Int) + 1) ∧ eval_asker_run.pt12 R (aD ab 0) 0 0 none 0 0 none 0 0 (aD rb 0) 8 8 p50 n50 c50 (aD b o) n c n ((i : Int) + 1) y_4))) := fun y2 b11 k v pv nv cv qv mv dv e hb hC => by
      refine store4 rfl (Hp.set_same _ _ _) (by simp [Value.oneCell']) rfl ?_
      rw [Hp.set_set]
      have x3 := Ext.set (o := .cells #[.int .i64 k, .int .u64 v, .slice pv nv cv, .slice qv mv dv] 79 (0, 0)) hb
      rcases hC with ⟨z, hz, rfl, rfl, rfl, ho2, hr1, hr2⟩ | ⟨hz, rfl, rfl, rfl, hx2⟩
      · refine ⟨fun hh => absurd rfl hh, fun _ => ⟨by omega, z.kind, z.v, pv, nv, cv, qv, mv, dv, LdL.of_cells (Hp.set_same _ _ _), fun b49 hb49 => ?_⟩⟩
        obtain ⟨w1, w2, w3⟩ := node_ok hS.ok hS.nn hf hT0 (by rw [hLl, htp]) hLV hz
        rw [hz] at hrun
        have ho3 := (ho2.mono EVv.mono x3).take (m := n7 - tp) (by omega)
        have hxd := x3.del p7
        have he : EVv ((y2.set b11 (.cells #[.int .i64 z.kind, .int .u64 z.v, .slice pv nv cv, .slice qv mv dv] 79 (0, 0))).del p7) [.int .i64 z.kind, .int .u64 z.v, .slice pv nv cv, .slice qv mv dv] z := ⟨pv, nv, cv, qv, mv, dv, rfl, hr1.mono EEl.mono hxd, hr2.mono ERg.mono hxd⟩
        rw [e1]
        refine OutL.app1 EVv.mono ho3 rfl (EVv.one _ _ _ he) he (by omega) (fun p' c' y4 ho4 _ => ⟨_, _, _, rfl, i64_succ hi' hr.big, ih (i + 1) _ _ _ _ (st.take (n7 - tp) ++ [z]) (by omega) (by omega) ho4 (fun u hu => ?_) (by rw [List.length_append, List.length_take, List.length_singleton]; omega) ?_ ?_ ?_⟩) hb49
        · rcases List.mem_append.1 hu with hu | hu
          · exact hV u (List.mem_of_mem_take hu)
          · rw [List.mem_singleton] at hu; rw [hu]; exact w1
        · rw [List.map_append, List.sum_append, List.map_singleton, List.sum_singleton, Nat.succ_mul]
          omega
        · rw [List.map_append, List.map_singleton, w2]; exact hT
        · exact hrun
      · refine ⟨fun _ => h.no ?_ _ (hx2.trans x3), fun hh => absurd (by decide) hh⟩
        rw [hrun, hz]; rfl
    have hrbk : ∃ u, σ' rb = some u := by
      unfold Hp.ld at hl0
      cases hq : σ' rb with
      | none => rw [hq] at hl0; cases hl0
      | some u => exact ⟨u, rfl⟩
    obtain ⟨urb, hurb⟩ := hrbk
    refine eval_asker_run.pt12_of ⟨fun _ => ⟨b, o, rfl, by omega, _, _, _, _, _, _, _, _, _, _, _, _, _, _, by simpa using hld.mono hX, fun _ => ⟨by unfold I64; omega, rb, 0, rfl, by omega, _, hl0, by omega, fun b33 hb33 => ⟨?_, fun b11 hb11 => ?_⟩, fun b11 hb11 b33 hb33 => ?_⟩⟩, fun hh => by omega⟩
    · refine copyV_eff hcs hcd hp7 hb33 (by omega) fun p37 c37 y hrd hy => ⟨p37, _, c37, rfl, fun k hk u hu => ?_, ?_, fun b11 hb11 => ?_⟩
      · rw [List.mem_singleton] at hk
        subst hk
        rw [(Ext.set hb33) _ _ hurb] at hu
        rw [hy _ _ hurb]; exact hu
      · exact ⟨f0, #[], #[], rfl, hen0, callS y p37 c37 hy hrd _ fun y2 k v pv nv cv qv mv dv e hC => ⟨k, v, pv, nv, cv, qv, mv, dv, e, rfl, fun b11 hb11 => tail y2 b11 k v pv nv cv qv mv dv e hb11 hC⟩⟩
      · exact ⟨f0, #[], #[], rfl, hen0, Spec.frame1 hb11 (callS y p37 c37 hy hrd _ fun y2 k v pv nv cv qv mv dv e hC hn2 => ⟨k, v, pv, nv, cv, qv, mv, dv, e, rfl, tail y2 b11 k v pv nv cv qv mv dv e hn2 hC⟩)⟩
    · have hn11 := (Hp.none_of_set hb11)
      refine Eff.frame1 hb11 (copyV_eff hcs hcd hp7 hb33 (by omega) fun p37 c37 y hrd hy hny => ⟨p37, _, c37, rfl, fun k hk u hu => ?_, ?_⟩)
      · rw [List.mem_singleton] at hk
        subst hk
        have hne : k ≠ b11 := fun e => by rw [e, hn11.2] at hurb; cases hurb
        rw [Hp.set_ne hne] at hu ⊢
        rw [(Ext.set hb33) _ _ hurb] at hu
        rw [hy _ _ hurb]; exact hu
      · exact ⟨f0, #[], #[], rfl, hen0, Spec.frame1 hny (callS y p37 c37 hy hrd _ fun y2 k v pv nv cv qv mv dv e hC hn2 => ⟨k, v, pv, nv, cv, qv, mv, dv, e, rfl, tail y2 b11 k v pv nv cv qv mv dv e hn2 hC⟩)⟩
    · have hn33 := (Hp.none_of_set hb33)
      have hn11 : (σ'.set b33 (.cells #[] 79 (0, 0))) b11 = none := by rw [Hp.set_ne (Ne.symm hn33.1)]; exact hb11
      dsimp only
      rw [Hp.set_swap (Ne.symm hn33.1)]
      refine Eff.frame1 hn11 (copyV_eff hcs hcd hp7 hn33.2 (by omega) fun p37 c37 y hrd hy hny => ⟨p37, _, c37, rfl, fun k hk u hu => ?_, ?_⟩)
      · rw [List.mem_singleton] at hk
        subst hk
        have hne : k ≠ b11 := fun e => by rw [e, hb11] at hurb; cases hurb
        rw [Hp.set_ne hne] at hu ⊢
        rw [(Ext.set hn33.2) _ _ hurb] at hu
        rw [hy _ _ hurb]; exact hu
      · exact ⟨f0, #[], #[], rfl, hen0, Spec.frame1 hny (callS y p37 c37 hy hrd _ fun y2 k v pv nv cv qv mv dv e hC hn2 => ⟨k, v, pv, nv, cv, qv, mv, dv, e, rfl, tail y2 b11 k v pv nv cv qv mv dv e hn2 hC⟩)⟩
end
end TwW
end
