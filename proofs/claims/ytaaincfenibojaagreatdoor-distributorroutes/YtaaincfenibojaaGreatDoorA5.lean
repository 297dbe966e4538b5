/-
  Part 5 of the proof that the law DistributorRoutesCardSaid of the given program answers true for every input of the given statement; the input reads behind the call as it did. (The texts: packed from 31 texts. Names are shortened by the packing program, for the bound on size.)
-/
import Derived.Test.YtaaincfenibojaaGreatDoorA4
import Derived.Laws.IdiomStrings
import Derived.Shelf.LaysM
import Derived.Shelf.LaysC
import Derived.Shelf.Sort.Plain
import Derived.Ground.Names2Prog
import Derived.Shelf.Slices.CompactI
import Derived.Shelf.Slices.Cells
import Derived.Shelf.Slices.In.SortNone
import Derived.Test.YtaaincfenibojaaGreatDoorProg
import Derived.Shelf.SlSortCmp.NoneTotal
import Derived.Ground.SlsfProg
set_option linter.all false
section
namespace TwW
open Go Tw Go.RowKit Go.Proofs.Tryz
section
variable {fs gs : Fs} {cnt safe : Nat} {W : Wl} {rc keep : Bs} {sg : Sg}
theorem A7.laid (h : A7 fs cnt W rc sg safe) (hc : cnt < 99999998) (hk : Good keep) : Shape (laid fs W.dir (AF W.dir kc W.opn) (AU keep)) W.dir (cnt + 1) W.opn keep [] [] := by
 have ho := h.opn
 have hb : W.opn < 100000000 := by omega
 have hn := Bq (dir := W.dir) (kind := kc) hb
 have hold : ∀ s, (TwW.laid fs W.dir (AF W.dir kc W.opn) (AU keep) s).isSome = true → s = AF W.dir kc W.opn ∨ (fs s).isSome = true := fun s hs => by
   by_cases h1 : s = AF W.dir kc W.opn
   · exact .inl h1
   · by_cases h2 : s = BC W.dir
     · simp [TwW.laid, h1, h2] at hs
       have := (Bj (dir := W.dir) (kind := kc) (a := W.opn) (.inl rfl))
       exact absurd hs this
     · simp only [TwW.laid, h1, h2, if_false] at hs; exact .inr hs
 refine ⟨fun _ => ⟨⟨AU keep, (AU keep).length⟩, by simp [TwW.laid], rfl⟩, fun e => by omega, fun s hs => ?_, ho.2.1, (fun x hx => by cases hx), List.Pairwise.nil, fun s hs Ag => ?_, (fun k x hx => by simp at hx), fun _ => rfl, EK, hk, (fun x hx => by cases hx), fun a ha => by cases ha⟩
 · rcases hold s hs with rfl | h1
   · omega
   · have := h.sh.Yf s h1; omega
 · exfalso
   rcases hold s hs with rfl | h1
   · have := Ih (dir := W.dir) (s := AF W.dir kc W.opn) (by omega); omega
   · obtain ⟨x, hx, e⟩ := h.sh.dH s h1 (by omega)
     have := ho.2.2 x hx; omega
theorem Shape.lX {dir s : ByteArray} {check : Nat} (h : Shape fs dir cnt check keep [] []) (hs : s ≠ AF dir kc check) : Shape (BE fs s none) dir cnt check keep [] [] :=
 h.congr (Nat.le_refl _) (fun _ => Aw hs.symm) (fun x hx => by cases hx) fun t ht => by
   by_cases Pf : t = s
   · subst Pf; rw [C0] at ht; cases ht
   · rw [Aw Pf] at ht; exact .inl ht
theorem Shape.lY {dir : ByteArray} {check : Nat} (h : Shape fs dir cnt check keep [] []) (hs : ∀ f, fs (AF dir kc check) = some f → f.GF = f.data.length) (hc : GN fs gs) : G6 gs dir cnt keep :=
 ⟨check, keep, [], [], { h with O7 := fun h0 => hc.whole (h.O7 h0) hs, Yf := fun s hs => h.Yf s (hc.Uu hs), dH := fun s hs => h.dH s (hc.Uu hs), file := fun k x hx => by simp at hx }, by simp [Ao], hc.kept, fun h => (by cases h)⟩
end
section
variable {σ ρ τ : Hp} {d b : Nat} {D : Dk} {W : Wl} {R : Rr} {fs : Fs} {cnt safe : Nat} {rc keep : Bs} {sg : Sg}
structure AEi (d b : Nat) (D : Dk) (W : Wl) (τ : Hp) (rc : Bs) (sg : Sg) (safe : Nat) (keep : Bs) (rok : Hp → Prop) (lM : Hp → Prop) : Prop where
 ok : ∀ σ' D' W', Aj σ' d b D' W' τ → D'.up = true → D'.armed = D.armed → D'.cnt = D.cnt + 1 → W'.dir = W.dir → (W'.AP = [] ∧ W'.check = W.opn ∧ ∀ s, (D'.files s).isSome = true → s = AF W.dir kc W.opn ∨ ((D.files s).isSome = true ∧ (0 < W.check → s ≠ AF W.dir kc W.check) ∧ ∀ n ∈ W.AP, s ≠ AF W.dir ks n)) → A7 D'.files D'.cnt W' keep [] keep.length → Out W.dir D.files D'.files → D'.files (BC W.dir) = none → rok σ'
 bad : D.armed = true → ∀ σ' D' told, Ai σ' d D' τ → D'.up = false → D'.armed = false → (D'.cnt = D.cnt + 1 ∧ ∀ s, (D'.files s).isSome = true → (D.files s).isSome = true ∨ s = AF W.dir kc W.opn ∨ s = BC W.dir) → G6 D'.files W.dir D'.cnt told → (told = keep ∨ (told <+: rc ++ Ao sg ∧ safe ≤ told.length)) → lM σ'
theorem AK6 : Enters prog 136 := fun args w => call136 args w
theorem AEj {b0 ck : Nat} {armed : Bool} {C : Nat} {Q : List Nat → Fs → Prop} (hQ : ∀ n l fs, Q (n :: l) fs → Q l (BE fs (AF W.dir ks n) none)) (hd : CG W.dir = true) (hC : C ≤ 67108864) (ht : Tb τ) (t0 : τ b0 = some (.cells #[.pointer (some ⟨b, 0, none⟩)] 158 (0, 0))) (ARg : Out W.dir D.files fs)
   (Aq : ∀ σ' FF W', Aj σ' d b ⟨FF, true, armed, C⟩ W' τ → W'.dir = W.dir → (W'.AP = [] ∧ W'.check = ck ∧ Q [] FF) → A7 FF C W' keep [] keep.length → Out W.dir D.files FF → FF (BC W.dir) = none → R (.returned (.tuple #[])) σ')
   (KF : armed = true → ∀ σ' gs, G6 gs W.dir C keep → Ai σ' d ⟨gs, false, false, C⟩ τ → (∃ l fs2, Q l fs2 ∧ ∀ s, (gs s).isSome = true → (fs2 s).isSome = true) → R (.panicked (bI 60)) σ') :
   ∀ (m : Nat) (σ : Hp) (fs : Fs) (V : Wl), V.AP.length = m → V.dir = W.dir → V.check = V.opn → Aj σ d b ⟨fs, true, armed, C⟩ V τ → Shape fs W.dir C V.opn keep [] [] → 0 < V.opn → (∀ f, fs (AF W.dir kc V.opn) = some f → f.GF = f.data.length) → (∀ n ∈ V.AP, (fs (AF W.dir ks n)).isSome = true ∧ n ≤ C) → V.AP.Nodup → Out W.dir D.files fs → fs (BC W.dir) = none → V.check = ck → Q V.AP fs →
     Cb.Km R b0 σ := by
 intro m
 have Nz : W.dir.size ≤ 32 := by simp [CG] at hd; exact hd.2
 induction m with
 | zero =>
   intro σ fs V hm Qi hco h Jc Ix qx VX uL E9 C3 hck hq
   have hr := h.rd
   have hx := h.ext
   obtain ⟨p, c, hc, hl, HJ⟩ := hr.AP
   have Z7 : V.AP = [] := List.eq_nil_of_length_eq_zero hm
   have qz := Jc.aB
   refine Cb.HT ⟨_, AD (hx _ _ t0) rfl, b, 0, rfl, p, _, c, hl, fun hh => by omega, fun _ => ⟨_, AD (hx _ _ t0) rfl, b, 0, rfl, V.opn, hr.opn, by unfold AN; omega, ?_⟩⟩
   have e : ((V.opn : Int) + 1) = ((V.opn + 1 : Nat) : Int) := by omega
   rw [e]
   refine h.st (i := 0 + 4) (W' := { V with opn := V.opn + 1 }) (by omega) rfl (fun p n c => rfl) fun σ1 h1 => ?_
   refine ⟨_, AD (h1.ext _ _ t0) rfl, b, 0, rfl, ?_⟩
   refine h1.st (i := 0 + 5) (x := 0) (W' := { V with opn := V.opn + 1, size := 0 }) (by omega) rfl (fun p n c => rfl) fun σ2 h2 => ?_
   refine Aq σ2 fs _ h2 Qi ⟨Z7, hck, Z7 ▸ hq⟩ ⟨?_, by rw [Z7]; rfl, ⟨by simp only; omega, by simp only; omega, fun x hx => by cases hx⟩, (fun x hx => by cases hx), fun _ => rfl, fun f h0 hf => ?_, (fun x hx => by cases hx), (fun x hx => by cases hx), fun _ => by simp [Ao]⟩ E9 C3
   · simp only [Qi, hco]; exact Jc
   · simp only [Qi, hco] at hf; exact qx f hf
 | succ m ih =>
   intro σ fs V hm Qi hco h Jc Ix qx VX uL E9 C3 hck hq
   have hr := h.rd
   have hx := h.ext
   obtain ⟨p, c, hc, hl, HJ⟩ := hr.AP
   obtain ⟨n0, l, Kr⟩ : ∃ n0 l, V.AP = n0 :: l := by
     cases hs : V.AP with
     | nil => rw [hs] at hm; cases hm
     | cons a l => exact ⟨a, l, rfl⟩
   have FB : (I1 V.AP)[0]? = some ((n0 : Nat) : Int) := by rw [I1, Kr]; rfl
   obtain ⟨b50, o50, hp, AK7⟩ := HJ.at FB
   obtain ⟨zl, ub⟩ := VX n0 (by rw [Kr]; simp)
   obtain ⟨f, hf⟩ := Option.isSome_iff_exists.1 zl
   have AEl : σ.ld ⟨b, 0 + 1, none⟩ = some (.string W.dir) := by rw [← Qi]; exact hr.dir
   have Ji : Ah (AF W.dir ks n0) = true := E3 hd (.inr rfl) (by omega)
   refine Cb.HT ⟨_, AD (hx _ _ t0) rfl, b, 0, rfl, p, _, c, hl, fun _ => ⟨_, AD (hx _ _ t0) rfl, b, 0, rfl, _, hr.ptr, _, AD (hx _ _ t0) rfl, _, AD (hx _ _ t0) rfl, b, 0, rfl, p, _, c, hl, b50, o50, hp, by omega, n0, by simpa using AK7, ?_⟩, fun hh => by omega⟩
   refine DG (kind := ks) (dir := W.dir) AEl Nz (.inr rfl) (by omega) (ht.mono hx) fun σ1 BM => ⟨_, rfl, Kp.CA BM, ?_⟩
   refine PU (h.mono BM) rfl Ji hf ⟨fun σ2 h2 => ⟨_, rfl, Ij ?_⟩, fun ha σ2 gs hg Mp => ⟨_, rfl, Lv (KF ha σ2 gs (Jc.lY qx hg) Mp ⟨V.AP, fs, hq, fun s hs => hg.Uu hs⟩)⟩⟩
   obtain ⟨p2, c2, T4, R1, AEm⟩ := h2.rd.AP
   refine ⟨_, AD (h2.ext _ _ t0) rfl, _, AD (h2.ext _ _ t0) rfl, b, 0, rfl, p2, _, c2, R1, by omega, b, 0, rfl, ?_⟩
   refine h2.cut (l := l) (by rw [Kr]; rfl) (fun p' c' ua => ?_) fun σ3 h3 => ?_
   · rw [R1] at ua
     cases ua
     refine ⟨?_, fun ρ ho => ?_⟩
     · unfold Dp
       cases p2 with
       | none => split <;> rfl
       | some a =>
         split
         · rfl
         · simp [DL, Addr.add]
     · have hlen : V.AP.length = l.length + 1 := by rw [Kr]; rfl
       obtain ⟨h1, h0, h4⟩ := ho
       refine ⟨by simp [I1]; omega, by omega, ?_⟩
       rcases h4 with ⟨_, e, _⟩ | ⟨bb, oo, arr, T, rfl, hb, iE, EY, H5⟩
       · omega
       · by_cases rH : c2 = 1
         · have SH : l = [] := List.eq_nil_of_length_eq_zero (by omega)
           subst SH rH
           exact .inr ⟨bb, oo, arr, T, by simp [Dp], hb, by simp; omega, by omega, by simp [I1]; omega⟩
         · refine .inr ⟨bb, oo + 1, arr, T, by simp [Dp, rH, DB], hb, by omega, by omega, ?_⟩
           have e : V.AP.length - 1 = l.length := by omega
           rw [Kr] at H5
           have := congrArg (List.drop 1) H5
           rw [List.drop_take, List.drop_drop] at this
           simp only [I1, List.map_cons, List.drop_succ_cons, List.drop_zero, List.length_cons] at this
           rw [hlen]
           simp only [I1]
           rw [← this]
           congr 1
   · have Ae : ∀ k, AF W.dir ks n0 ≠ AF W.dir kc k := fun k e => BH e.symm
     have O6 : n0 ∉ l ∧ l.Nodup := by rw [Kr] at uL; exact List.nodup_cons.1 uL
     refine ih σ3 _ { V with AP := l } (by rw [Kr] at hm; simpa using hm) Qi hco h3 (Jc.lX (Ae _)) Ix (fun f hf => qx f (by rwa [Aw (Ae _).symm] at hf)) (fun k hk => ?_) O6.2 (E9.trans (Out.del C8)) ((Aw (Bj (.inr rfl))).trans C3) hck (hQ n0 l fs (Kr ▸ hq))
     have nw := VX k (by rw [Kr]; simp [show k ∈ l from hk])
     refine ⟨?_, nw.2⟩
     rw [Aw]
     · exact nw.1
     · intro e
       have := Ef (by omega) (by omega) e
       exact O6.1 (this ▸ hk)
theorem gJ {b0 b1 : Nat} {p : Option Addr} {n c : Nat} (h : Aj σ d b D W τ) (ht : Tb τ) (t0 : τ b0 = some (.cells #[.pointer (some ⟨b, 0, none⟩)] 158 (0, 0))) (t1 : τ b1 = some (.cells #[.slice p n c] 165 (0, 0)))
   (hx : Jj τ p n keep) (hk : Good keep) (hlen : (AU keep).length ≤ 4194304) (Ed : D.up = true) (Hn : D.cnt < 67108864) (hfew : ON D) (hd : CG W.dir = true) (Aq : A7 D.files D.cnt W rc sg safe) (C3 : D.files (BC W.dir) = none)
   (hR : AEi d b D W τ rc sg safe keep (fun σ' => R (.returned (.tuple #[])) σ') (fun σ' => R (.panicked (bI 60)) σ')) : Spec prog 136 #[.pointer (some ⟨b0, 0, none⟩), .pointer (some ⟨b1, 0, none⟩)] σ R := by
 have hr := h.rd
 have O8 := h.ext
 have Nz : W.dir.size ≤ 32 := by simp [CG] at hd; exact hd.2
 have yM := Aq.opn
 have Ji : Ah (AF W.dir kc W.opn) = true := E3 hd (.inl rfl) (by omega)
 refine Cb.start ⟨_, AD (O8 _ _ t0) rfl, _, AD (O8 _ _ t0) rfl, _, AD (O8 _ _ t0) rfl, b, 0, rfl, W.opn, hr.opn, p, n, c, AD (O8 _ _ t1) rfl, ?_⟩
 refine DG (kind := kc) hr.dir Nz (.inl rfl) (by omega) (ht.mono O8) fun σ1 BM => ⟨_, rfl, Kp.CA BM, ?_⟩
 obtain ⟨τw, S, q, cc, T, Mp, Nk, Uy⟩ := (h.mono BM).opened
 have AK8 : Ext τ τw := Uy.trans (Ext.Cn _ _)
 have Jc := Aq.laid (keep := keep) (by omega) hk
 have cl : ∀ {σ' : Hp} {D' : Dk}, Ai σ' d D' τw → Aj σ' d b D' W τ := fun h' => (Aj.close h' Nk).FX Uy
 refine Ms Mp Nk.rB Ed Hn hfew hd Ji (hx.mono AK8) hk hlen C3 (Bj (.inl rfl)).symm ⟨fun σ2 h2 => ?_, fun ha σ2 gs' gs hgs hg AK9 => ?_⟩
 · have h2 := cl h2
   have SH : laid D.files W.dir (AF W.dir kc W.opn) (AU keep) (AF W.dir kc W.opn) = some ⟨AU keep, (AU keep).length⟩ := by simp [laid]
   have yT : ∀ f, laid D.files W.dir (AF W.dir kc W.opn) (AU keep) (AF W.dir kc W.opn) = some f → f.GF = f.data.length := fun f hf => by rw [SH] at hf; cases hf; rfl
   have Rh : ∀ s, s ≠ AF W.dir kc W.opn → s ≠ BC W.dir → laid D.files W.dir (AF W.dir kc W.opn) (AU keep) s = D.files s := fun s e1 e2 => by simp [laid, e1, e2]
   have E9 : Out W.dir D.files (laid D.files W.dir (AF W.dir kc W.opn) (AU keep)) := Out.laid (.inl rfl) (by omega) (by omega)
   have XT : laid D.files W.dir (AF W.dir kc W.opn) (AU keep) (BC W.dir) = none := by simp [laid, Bj (dir := W.dir) (kind := kc) (a := W.opn) (.inl rfl)]
   have bad : D.armed = true → ∀ σ' gs, G6 gs W.dir (D.cnt + 1) keep → Ai σ' d ⟨gs, false, false, D.cnt + 1⟩ τ → (∀ s, (gs s).isSome = true → (D.files s).isSome = true ∨ s = AF W.dir kc W.opn ∨ s = BC W.dir) → R (.panicked (bI 60)) σ' := fun ha σ' gs ho yU hsu => hR.bad ha σ' _ keep yU rfl rfl ⟨rfl, hsu⟩ ho (.inl rfl)
   let Q : List Nat → Fs → Prop := fun l fs => ∀ s, (fs s).isSome = true → s = AF W.dir kc W.opn ∨ ((D.files s).isSome = true ∧ (0 < W.check → s ≠ AF W.dir kc W.check) ∧ ∀ n ∈ W.AP, n ∈ l ∨ s ≠ AF W.dir ks n)
   have hQ : ∀ n l fs, Q (n :: l) fs → Q l (BE fs (AF W.dir ks n) none) := fun n l fs h s hs => by
     by_cases e : s = AF W.dir ks n
     · subst e; rw [C0] at hs; cases hs
     · rw [Aw e] at hs
       refine (h s hs).imp id fun ⟨g1, g2, g3⟩ => ⟨g1, g2, fun k hk => ?_⟩
       rcases g3 k hk with g | g
       · rcases List.mem_cons.1 g with rfl | g
         · exact .inr e
         · exact .inl g
       · exact .inr g
   have hQ0 : ∀ fs, (∀ s, (fs s).isSome = true → s = AF W.dir kc W.opn ∨ ((D.files s).isSome = true ∧ (0 < W.check → s ≠ AF W.dir kc W.check))) → Q W.AP fs := fun fs h s hs => (h s hs).imp id fun ⟨g1, g2⟩ => ⟨g1, g2, fun n hn => .inl hn⟩
   have lZ : ∀ s, (laid D.files W.dir (AF W.dir kc W.opn) (AU keep) s).isSome = true → s = AF W.dir kc W.opn ∨ (D.files s).isSome = true := fun s hs => by
     by_cases e1 : s = AF W.dir kc W.opn
     · exact .inl e1
     · by_cases e2 : s = BC W.dir
       · subst e2; rw [XT] at hs; cases hs
       · rw [Rh s e1 e2] at hs; exact .inr hs
   have fin : ∀ (σ' : Hp) (fs : Fs), Aj σ' d b ⟨fs, true, D.armed, D.cnt + 1⟩ W τ → Shape fs W.dir (D.cnt + 1) W.opn keep [] [] → (∀ f, fs (AF W.dir kc W.opn) = some f → f.GF = f.data.length) → (∀ k ∈ W.AP, (fs (AF W.dir ks k)).isSome = true ∧ k ≤ D.cnt + 1) → Out W.dir D.files fs → fs (BC W.dir) = none → Q W.AP fs → Cb.Jh R b0 σ' := by
     intro σ' fs hl Re qx VX ho hn oJ
     have Is := hl.rd
     refine Cb.CU ⟨_, AD (hl.ext _ _ t0) rfl, _, AD (hl.ext _ _ t0) rfl, b, 0, rfl, W.opn, Is.opn, b, 0, rfl, ?_⟩
     refine hl.st (i := 0 + 2) (W' := { W with check := W.opn }) (by omega) rfl (fun p n c => rfl) fun σ5 h5 => ?_
     refine AEj (ck := W.opn) (Q := Q) hQ (D := D) (fs := fs) (W := W) (keep := keep) (armed := D.armed) hd (by omega) ht t0 ho (fun σ6 fs6 W6 a1 a2 a3 a4 a5 a6 => hR.ok σ6 _ W6 a1 rfl rfl rfl a2 ⟨a3.1, a3.2.1, fun s hs => (a3.2.2 s hs).imp id fun ⟨g1, g2, g3⟩ => ⟨g1, g2, fun n hn => (g3 n hn).elim (fun h => by cases h) id⟩⟩ a4 a5 a6) (fun ha σ' gs ho yU ⟨l, fs2, hq2, aC⟩ => bad ha σ' gs ho yU fun s hs => (hq2 s (aC s hs)).elim (fun e => .inr (.inl e)) fun g => .inl g.1) _ σ5 fs { W with check := W.opn } rfl rfl rfl h5 Re (by simp only; omega) qx VX ?_ ho hn rfl oJ
     have : W.AP.Pairwise (· < ·) := by rw [Aq.AP, List.pairwise_map]; exact Aq.sh.Jl
     exact this.imp fun h => Nat.ne_of_lt h
   have HY : ∀ k ∈ W.AP, (laid D.files W.dir (AF W.dir kc W.opn) (AU keep) (AF W.dir ks k)).isSome = true ∧ k ≤ D.cnt + 1 := fun k DK => by
     rw [Aq.AP] at DK
     obtain ⟨x, hx, rfl⟩ := List.mem_map.1 DK
     obtain ⟨i, hi⟩ := List.getElem?_of_mem hx
     have := (Aq.sh.gt x hx).2
     exact ⟨by rw [Rh _ BH.symm (Bj (.inr rfl)).symm]; exact (Aq.sh.file i x hi).Uu, by omega⟩
   refine ⟨rfl, _, AD (h2.ext _ _ t0) rfl, b, 0, rfl, W.check, h2.rd.check, fun Ix => ?_, fun hz => ?_⟩
   · have yV : AF W.dir kc W.check ≠ AF W.dir kc W.opn := fun e => by
       have := Ef (by omega) (by omega) e; omega
     obtain ⟨f, hf⟩ := Option.isSome_iff_exists.1 (Aq.sh.O7 (by omega)).Uu
     refine ⟨_, AD (h2.ext _ _ t0) rfl, b, 0, rfl, _, h2.rd.ptr, _, AD (h2.ext _ _ t0) rfl, _, AD (h2.ext _ _ t0) rfl, b, 0, rfl, W.check, h2.rd.check, ?_⟩
     refine DG (kind := kc) h2.rd.dir Nz (.inl rfl) (by omega) (ht.mono h2.ext) fun σ3 C6 => ⟨_, rfl, Kp.CA C6, ?_⟩
     refine PU (h2.mono C6) rfl (E3 hd (.inl rfl) (by omega)) (f := f) (by show laid D.files W.dir _ _ _ = _; rw [Rh _ yV (Bj (.inl rfl)).symm]; exact hf) ⟨fun σ4 h4 => ⟨_, rfl, Ij ?_⟩, fun ha σ4 gs hg ALA => ⟨_, rfl, Lv (bad ha σ4 gs (Jc.lY yT hg) ALA fun s hs => (lZ s (hg.Uu hs)).elim (fun e => .inr (.inl e)) .inl)⟩⟩
     refine fin σ4 _ h4 (Jc.lX yV) (fun f hf => yT f ((Aw yV.symm).symm.trans hf)) (fun k DK => ?_) (E9.trans (Out.del C8)) ((Aw (Bj (.inl rfl))).trans XT) (hQ0 _ fun s hs => ?_)
     · rw [Aw BH.symm]
       exact HY k DK
     · by_cases e : s = AF W.dir kc W.check
       · subst e; rw [C0] at hs; cases hs
       · rw [Aw e] at hs
         exact (lZ s hs).imp id fun g => ⟨g, fun _ => e⟩
   · exact fin σ2 _ h2 Jc yT HY E9 XT (hQ0 _ fun s hs => (lZ s hs).imp id fun g => ⟨g, fun h0 => by omega⟩)
 · have Vb := Aq.fresh (cnt' := D.cnt + 1) (by omega) hgs
   obtain ⟨told, g1, g2, g3⟩ := Vb.dJ hg
   exact hR.bad ha σ2 _ told (cl AK9).fu rfl rfl ⟨rfl, fun s hs => by
     by_cases e : s = BC W.dir
     · exact .inr (.inr e)
     · have := hg.Uu hs
       rw [hgs s e] at this
       exact .inl this⟩ g1 (.inr ⟨g2, g3⟩)
theorem gK {p : Option Addr} {n c : Nat} (h : Aj σ d b D W τ) (ht : Tb τ) (hx : Jj τ p n keep) (h8 : ∀ r ∈ keep, E6 r) (Ed : D.up = true) (Hn : D.cnt < 67108864) (hd : CG W.dir = true) (Aq : A7 D.files D.cnt W rc sg safe) (C3 : D.files (BC W.dir) = none)
   (lO : ¬ Ml keep → ∀ σ', Aj σ' d b D W τ → R (.returned (.int .i64 70)) σ')
   (hR : Ml keep → (AU keep).length ≤ 4194304 ∧ AEi d b D W τ rc sg safe keep (fun σ' => R (.returned (.int .i64 0)) σ') (fun σ' => R (.returned (.int .i64 60)) σ')) (hfew : ON D := by refine .inl ?_; first | omega | (dsimp only [dk]; omega) | (dsimp only; omega)) : Spec prog 67 #[.pointer (some ⟨b, 0, none⟩), .slice p n c] σ R := by
 have iC : keep.length = n := hx.1
 refine Fy.start fun b2 HD b3 Ul => ?_
 obtain ⟨τ2, h2, x2, t2⟩ := h.box (o := .cells #[.pointer (some ⟨b, 0, none⟩)] 158 (0, 0)) HD
 obtain ⟨τ3, h3, x3, t3⟩ := h2.box (o := .cells #[.slice p n c] 165 (0, 0)) Ul
 have Ni := x2.trans x3
 refine ⟨p, n, c, AD (h3.ext _ _ t3) rfl, ?_⟩
 have C6 := hx.mono Ni
 suffices H : ∀ m k : Nat, n - k = m → k ≤ n → Ml (keep.take k) → Fy.NY R b2 b3 p n c n k _ from H n 0 rfl (Nat.zero_le _) (fun r hr => by simp at hr)
 intro m
 induction m with
 | zero =>
   intro k hm hk hs
   rw [List.take_of_length_le (by omega)] at hs
   refine Fy.D7 ⟨fun hh => by omega, fun _ => KJ AK6 ?_⟩
   obtain ⟨hl, hRc⟩ := hR hs
   exact gJ h3 (ht.mono Ni) (x3 _ _ t2) t3 C6 (fun r hr => ⟨hs r hr, h8 r hr⟩) hl Ed Hn hfew hd Aq C3 ⟨fun σ' D' W' a1 a2 a3 a4 a5 a6 a7 a8 a9 => .inl ⟨rfl, _, rfl, hRc.ok σ' D' W' (a1.FX Ni) a2 a3 a4 a5 a6 a7 a8 a9⟩, fun ha σ' D' told a1 a2 a3 a4 a5 a6 => .inr ⟨60, rfl, _, rfl, hRc.bad ha σ' D' told (a1.FX Ni) a2 a3 a4 a5 a6⟩⟩
 | succ m ih =>
   intro k hm hk hs
   obtain ⟨x, R0⟩ : ∃ x, keep[k]? = some x := ⟨_, List.getElem?_eq_getElem (by omega)⟩
   obtain ⟨EB, GU, Jq, n12, c12, rfl, hl, _, HJ⟩ := (C6.mono h3.ext).at R0
   have ARj : x.length = n12 := HJ.1
   have aK := hx.big
   refine Fy.D7 ⟨fun _ => ⟨EB, GU, rfl, by omega, Jq, n12, c12, by simpa using hl, fun hh => lO (fun Hu => ?_) _ (h3.FX Ni), fun hh => ⟨by unfold AN; omega, ih (k + 1) (by omega) (by omega) ?_⟩⟩, fun hh => by omega⟩
   · have := Hu x (List.mem_of_getElem? R0); omega
   · rw [AO R0]
     intro r hr
     rcases List.mem_append.1 hr with hr | hr
     · exact hs r hr
     · simp at hr; subst hr; omega
theorem R3 (h : Aj σ d b D W τ) (hR : R (.returned (.int .i64 (W.AP.length : Nat))) σ) : Spec prog 66 #[.pointer (some ⟨b, 0, none⟩)] σ R := by
 obtain ⟨p, c, hc, hl, HJ⟩ := h.rd.AP
 exact IN.start ⟨b, 0, rfl, p, _, c, hl, hR⟩
end
end TwW
end
section
namespace TwW
open Go Tw Go.RowKit Go.Proofs.Tryz
theorem GP.at1 {σ : Hp} {p : Option Addr} {n k : Nat} {L : List Value} {v : Value} (h : GP 1 σ p n L) (hk : L[k]? = some v) : ∃ b o, p = some ⟨b, o, none⟩ ∧ σ.ld ⟨b, o + k * 1, none⟩ = some v := by
 obtain ⟨h1, _, h2⟩ := h
 have Ag := (List.getElem?_eq_some_iff.1 hk).1
 rcases h2 with h2 | ⟨b, o, hp, hl⟩
 · simp at h1; omega
 · refine ⟨b, o, hp, ?_⟩
   rw [Nat.mul_one]
   exact hl.get hk
abbrev rI (σ : Hp) (p : Option Addr) (n : Nat) (bs : List Bool) : Prop := GP 1 σ p n (bs.map .bool)
theorem rI.at {σ : Hp} {p : Option Addr} {n k : Nat} {L : List Bool} {s : Bool} (h : rI σ p n L) (hk : L[k]? = some s) : ∃ b o, p = some ⟨b, o, none⟩ ∧ σ.ld ⟨b, o + k * 1, none⟩ = some (.bool s) := by
 obtain ⟨h1, _, h2⟩ := h
 have Ag := (List.getElem?_eq_some_iff.1 hk).1
 rcases h2 with h2 | ⟨b, o, hp, hl⟩
 · simp at h1; omega
 · refine ⟨b, o, hp, ?_⟩
   rw [Nat.mul_one]
   exact hl.get (by rw [List.getElem?_map, hk]; rfl)
section
variable {σ τ : Hp} {d : Nat} {D : Dk} {R : Rr}
theorem Ai.upS (h : Ai σ d D τ) (hR : R (.returned (.bool D.up)) σ) : Spec prog 91 #[.pointer (some ⟨d, 0, none⟩)] σ R := let ⟨S, g, _⟩ := h; cw g hR
end
section
variable {fs : Fs} {dir : ByteArray} {cnt : Nat}
theorem G6.AEn (h : ∀ s, (fs s).isSome = true → numOf dir kc s = 0 ∧ numOf dir ks s = 0) : XK fs dir cnt [] true :=
 ⟨0, [], [], [], ⟨fun h0 => absurd h0 (by omega), fun _ => rfl, fun s hs => by rw [(h s hs).1]; omega, Nat.zero_le _, fun x hx => (by cases hx), List.Pairwise.nil, fun s hs Ag => (by rw [(h s hs).2] at Ag; omega), fun k x hx => (by simp at hx), fun _ => rfl, EK, Good.nil, fun x hx => (by cases hx), fun a ha => (by cases ha)⟩, rfl, ⟨fun f h0 => absurd h0 (by omega), fun k x hx => (by simp at hx)⟩, fun _ => rfl⟩
end
end TwW
end
section
namespace Tw
open Go
variable [Iq]
def Qo (s : ByteArray) : List Value := s.data.toList.map fun b => .int .u8 b.toNat
theorem la {s : ByteArray} : (Qo s).length = s.size := by simp [Qo]
theorem lg {s : ByteArray} : CR (Qo s) := fun u hu => by obtain ⟨x, _, rfl⟩ := List.mem_map.1 hu; rfl
section append
variable {P : Program} {T E ty : TypeId} {bs : Nat} {σ : Hp} {p : Option Addr} {n c m : Nat} {cs ys : List Value} {Φ : Value → Hp → Prop}
theorem Qp {str : ByteArray} (w : World) (size : Nat) : (Builtin.firstCells size str.size (.string str)).run P w = .ok (Qo str).toArray w := by
 have hx : (Array.map (fun b : UInt8 => Value.int IntKind.u8 (b.toNat : Int)) str.data).extract 0 str.size = (Qo str).toArray := by
   have hs : str.size = (Array.map (fun b : UInt8 => Value.int IntKind.u8 (b.toNat : Int)) str.data).size := by rw [Array.size_map]; rfl
   rw [hs, Array.extract_size]
   apply Array.ext'
   simp [Qo]
 have Ay : Array.map (fun b : UInt8 => Value.int IntKind.u8 (b.toNat : Int)) str.data = (Qo str).toArray := by apply Array.ext'; simp [Qo]
 simp [Builtin.firstCells, Ay]
theorem dQ [h : Jo P T E 1 bs] {U : TypeId} {str : ByteArray} (hU : P.underlying U = some .string) (AY : Own 1 σ p n c cs) (hm : str.size = m) (Ht : Qo str = ys) (hb : (n + m) * bs ≤ 140737488355328)
   (hΦ : ∀ p' c' σ', Own 1 σ' p' (n + m) c' (cs ++ ys) → Ext (σ.del p) (σ'.del p') → ((p' = p ∧ c' = c ∧ n + m ≤ c) ∨ (c < n + m ∧ Ext σ σ' ∧ ∀ a, p' = some a → σ a.block = none)) → Φ (.slice p' (n + m) c') σ') :
   AJ P (Builtin.append_ #[T, U] ty #[.slice p n c, .string str]) σ Φ := by
 obtain ⟨ht, ⟨i, z, hi, hz, Re, rfl, jA⟩, Ix, Nx⟩ := h
 have h1 : CR ys := Ht ▸ lg
 have Uv : ys.length = m * 1 := by rw [← Ht, ← hm, Nat.mul_one]; exact la
 have h62 : n + m ≤ 140737488355328 := Nat.le_trans (Nat.le_mul_of_pos_right _ Nx) hb
 intro w F hs hF
 have hf := Qp (P := P) (str := str) w 1
 rw [Ht, hm] at hf
 have VZ := fun w' : World => Qp (P := P) (str := str) w' 1
 rw [Ht, hm] at VZ
 have Em := fun w' (hw : Sat σ w') => H6 (P := P) (d := c) w' hw AY.rd
 have hlen : (cs ++ ys).length = (n + m) * 1 := by rw [List.length_append, AY.1, Uv, Nat.add_mul]
 by_cases DX : n + m ≤ c
 · -- there is room
   rcases AY.2.2 with ⟨hp, hn, hc⟩ | ⟨b, o, arr, T', rfl, hblk, iE, EY, H5⟩
   · subst hp hn hc
     have hm : m = 0 := by omega
     subst hm
     have Ht : ys = [] := List.eq_nil_of_length_eq_zero (by simpa using Uv)
     have H5 : cs = [] := List.eq_nil_of_length_eq_zero (by simpa using AY.1)
     subst Ht H5
     refine ⟨.slice none 0 0, w, σ, ?_, hΦ none 0 σ Own.nil (Ext.refl _) (.inl ⟨rfl, rfl, DX⟩), hs, fun b hb => ⟨(hF b hb).2, rfl⟩, .same rfl rfl rfl, rfl, Nat.le_refl _⟩
     simp [Builtin.append_, run_underlying ht, run_underlying hU, Re, hm, Go.sizeOf, typeInfo, hi, Builtin.lenOf, hf]
   · have hw := hs _ _ hblk
     have dt : o + n * 1 + 0 + ys.length ≤ arr.size := by
       rw [Uv]
       have : (n + m) * 1 ≤ c * 1 := Nat.mul_le_mul_right _ DX
       rw [Nat.add_mul] at this
       omega
     have Kj := Dd (P := P) b (o + n * 1) T' ys 0 arr w hw dt h1
     simp only [Nat.add_zero, Nat.mul_one] at Kj
     refine ⟨.slice (some ⟨b, o, none⟩) (n + m) c, w.setRow b (DT arr (o + n) ys), σ.set b (.cells (DT arr (o + n) ys) T' (0, 0)), ?_, hΦ _ _ _ ⟨hlen, by omega, .inr ⟨b, o, _, T', rfl, Hp.AA _ _ _, DX, by rw [Dc]; exact EY, ?_⟩⟩ (by rw [Hp.Bh]; exact Ext.refl _) (.inl ⟨rfl, rfl, DX⟩), ?_⟩
     · simp [Builtin.append_, run_underlying ht, run_underlying hU, Re, hm, Go.sizeOf, typeInfo, hi, Builtin.lenOf, DX, hf, DB, Kj]
     · refine List.ext_getElem? fun j => ?_
       rw [List.getElem?_take]
       simp only [List.getElem?_drop, Array.getElem?_toList]
       rw [PG _ _ _ _ (by omega), List.getElem?_append]
       have e1 : cs.length = n * 1 := AY.1
       have e2 : ys.length = m * 1 := Uv
       have e3 : (n + m) * 1 = n * 1 + m * 1 := Nat.add_mul ..
       by_cases Ty : j < cs.length
       · rw [if_pos (by omega), if_neg (by omega), if_pos Ty, ← H5, List.getElem?_take, if_pos (by omega)]
         simp
       · rw [if_neg Ty]
         by_cases nG : j < (n + m) * 1
         · rw [if_pos nG, if_pos (by omega), show o + j - (o + n) = j - cs.length by omega]
         · rw [if_neg nG, List.getElem?_eq_none (by omega)]
     · refine ⟨fun k u hk => ?_, fun k hk => ?_, .same rfl rfl rfl, rfl, by simp⟩
       · by_cases C5 : k = b
         · subst C5; rw [Hp.AA] at hk; cases hk; exact setRow_heap w k arr _ T' (0, 0) hw
         · rw [Hp.AH C5] at hk; rw [setRow_other _ _ _ _ C5]; exact hs k u hk
       · have C5 : k ≠ b := fun h => by have := (hF k hk).2; rw [h, hblk] at this; cases this
         exact ⟨by rw [Hp.AH C5]; exact (hF k hk).2, setRow_other _ _ _ _ C5⟩
 · -- it AAm
   have sJ : Builtin.nextslicecap (n + m) c * i.bytes ≤ 281474976710656 := growslice_fits (by omega) hb
   have hgc := grownCap_ge w (n + m) c E
   have Hu : Sat σ w.drew := hs
   have Cl : (Builtin.append_ #[T, U] ty #[.slice p n c, .string str]).run P w =
       .ok (.slice (some ⟨w.heap.size, 0, none⟩) (n + m) (grownCap w (n + m) c E))
         (w.drew.alloc (.cells (cs.toArray ++ ys.toArray ++ Builtin.zeroCells z.cells (grownCap w (n + m) c E - (n + m))) E)) := by
     have du : ¬ (9223372036854775807 < ((n : Int) + (m : Int))) := by omega
     have dv : ¬ (281474976710656 < Builtin.nextslicecap (n + m) c * i.bytes) := by omega
     simp [Builtin.append_, run_underlying ht, run_underlying hU, Re, hm, Go.sizeOf, typeInfo, zeroValue, hi, hz, Builtin.lenOf, DX, du, dv, Question.forced, VZ, Em _ Hu, newRow, grownCap]
     congr 2
     apply Array.ext'
     simp [List.append_assoc]
   refine ⟨_, _, σ.set w.heap.size _, Cl, hΦ _ _ _ ⟨hlen, by omega, .inr ⟨w.heap.size, 0, _, E, rfl, Hp.AA _ _ _, hgc, ?_, ?_⟩⟩ ?_ (.inr ⟨by omega, Ext.set (DJ hs), fun a ha => by cases ha; exact DJ hs⟩), Fin.alloc hs hF _ rfl ⟨rfl, rfl, fun _ => ⟨1, rfl⟩⟩ rfl⟩
   · simp only [Array.size_append, List.size_toArray, size_zeroCells, jA, AY.1, Uv, ← Nat.add_mul]
     have : n + m + (grownCap w (n + m) c E - (n + m)) = grownCap w (n + m) c E := by omega
     rw [this]; omega
   · simp only [Array.toList_append, List.drop_zero]
     rw [← hlen]
     exact List.take_left
   · rw [Hp.Iw (DJ hs)]
     exact Ext.GA σ p
end append
end Tw
end
section
namespace TwW
open Go Tw Go.RowKit Go.Proofs.Tryz
def Nl (s : ByteArray) : List Int := s.data.toList.map fun b => (b.toNat : Int)
theorem D1 {s : ByteArray} : (Nl s).length = s.size := by simp [Nl]
theorem rJ {s : ByteArray} : E6 (Nl s) := fun a ha => by
 obtain ⟨x, _, rfl⟩ := List.mem_map.1 ha
 have := x.toNat_lt; omega
theorem XV {s : ByteArray} : Qo s = (Nl s).map (.int .u8) := by simp [Qo, Nl]
theorem gL {s : ByteArray} : strOfNums (Nl s) = s := by
 rw [Nl, XF]
theorem Kd {xs : List Int} (h : E6 xs) : Nl (strOfNums xs) = xs := by
 rw [Nl, strOfNums_data, List.map_map]
 conv => rhs; rw [← List.map_id xs]
 refine List.map_congr_left fun a ha => ?_
 have := h a ha
 simp only [Function.comp, id]
 rw [UInt8.toNat_ofNat']
 omega
theorem CH {xs : List Int} : (strOfNums xs).size = xs.length := by
 have := congrArg List.length (strOfNums_data xs)
 simpa using this
def Cf (k : ByteArray) (d : List Int) (v : Nat) : List Int := (uv k.size ++ Nl k) ++ uv v ++ uv d.length ++ d
section
variable {σ : Hp} {R : Rr}
theorem rK {p : Option Addr} {n c : Nat} {xs : List Int} (hr : B9 .u8 σ p n xs) : YF prog (convert 84 9 (.slice p n c)) σ (.string (strOfNums xs)) := fun w hs => by
 have h1 := underlying84
 have h2 := underlying9
 by_cases hn : n = 0
 · subst hn
   have hx : xs = [] := List.eq_nil_of_length_eq_zero hr.1
   subst hx
   rw [run_convert_bytes_string w 84 9 _ p 0 c h1 underlying5 h2]
   cases p <;> simp [Conv.bytesToString, loadCells] <;> rfl
 · obtain ⟨x0, Z8⟩ := hr.ex (k := 0) (by omega)
   obtain ⟨b, o, rfl, _⟩ := hr.at Z8
   refine run_convert_bytes_arg w 84 _ h1 underlying5 b o n c xs hr.1 (fun i hi => ?_) 9 h2
   obtain ⟨x, hx⟩ := hr.ex hi
   obtain ⟨b', o', he, hl⟩ := hr.at hx
   cases he
   rw [List.getD_eq_getElem?_getD, hx]
   simpa using hs.ld hl
theorem gM {s : ByteArray} {Φ : Value → Hp → Prop} (h : ∀ b o c, σ b = none → (∀ ρ : Hp, ρ b = some o → B9 .u8 ρ (some ⟨b, 0, none⟩) s.size (Nl s)) → s.size ≤ c → Φ (.slice (some ⟨b, 0, none⟩) s.size c) (σ.set b o)) (hs : s.size ≤ 4611686018427387904) :
   AJ prog (convert 9 84 (.string s)) σ Φ := fun w F Va hF => by
 have hb := DJ Va
 refine ⟨_, _, σ.set w.heap.size _, run_bytes_of_string w 9 84 5 s underlying9 underlying84 underlying5, h _ _ _ hb (fun ρ hρ => B9.Lg ⟨by simp [D1], by omega, .inr ⟨_, 0, rfl, Dn.of fun j v hj => ?_⟩⟩) ?_, Fin.alloc Va hF _ rfl ⟨rfl, rfl, fun _ => ⟨1, rfl⟩⟩ rfl⟩
 · refine AD hρ ?_
   have Ag : j < s.data.size := by
     have := (List.getElem?_eq_some_iff.1 hj).1
     simpa [Nl] using this
   rw [Nat.zero_add, bytesRow_at s _ j Ag, ← hj]
   simp [Nl, Array.getElem?_eq_getElem Ag]
 · exact grownCap_ge w s.size 0 5
theorem GZ {p : Option Addr} {n c : Nat} {xs : List Int} {s : ByteArray} (hr : B9 .u8 σ p n xs) (hn : n ≤ 1048576) (hs : s.size ≤ 1048576)
   (h : ∀ p' n' c' σ', AR .u8 (σ.new σ') p' n' c' (xs ++ uv s.size ++ Nl s) → Ext σ σ' → R (.returned (.slice p' n' c')) σ') : Spec prog 60 #[.slice p n c, .string s] σ R := by
 refine LG.start fun x8 h8 => ?_
 have e8 : x8 = (s.size : Int) := by rw [h8]; simp [IntKind.wrap, IntKind.bits, IntKind.signed]; omega
 subst e8
 refine DF hr (by omega) (by omega) fun p' n' c' σ1 ho BM => ⟨p', n', c', rfl, ?_⟩
 have hq : ∀ a, p' = some a → σ a.block = none := fun a ha => by
   have h2 := Own.block ho a ha
   cases hh : (σ.new σ1) a.block with
   | none => exact absurd hh h2
   | some o => exact (AS.1 hh).1
 have hl : (xs ++ uv s.size).length = n' := by have := ho.1; simpa using this
 have lW := BV (x := s.size) (by omega)
 have Rg : xs.length = n := hr.1
 rw [List.length_append] at hl
 refine dQ underlying9 (Own.mono (Ext.Af _ _) ho) rfl XV (by omega) fun p2 c2 σ2 Bt Ay _ => ⟨p2, _, c2, rfl, ?_⟩
 have HD := Bb hq Ay BM
 refine h p2 _ c2 σ2 ?_ (CL hq Ay BM)
 have := Own.CC Bt HD
 simpa [AR] using this
theorem C9 {p : Option Addr} {n c : Nat} {xs : List Int} (h : AR .u8 σ p n c xs) : xs.length = n := by have := h.1; simpa using this
theorem LY {k : ByteArray} {p : Option Addr} {n c v : Nat} {d : List Int} (hr : B9 .u8 σ p n d) (h8 : E6 d) (hk : k.size ≤ 262144) (hd : n ≤ 262144) (hv : v < 18446744073709551616)
   (h : ∀ p' n' c' σ', AR .u8 (σ.new σ') p' n' c' (Cf k d v) → Ext σ σ' → R (.returned (.slice p' n' c')) σ') : Spec prog 64 #[.string k, .agg #[.slice p n c, .int .u64 v]] σ R := by
 have hdl : d.length = n := hr.1
 have ALB := BV (x := k.size) (by omega)
 have qj := BV (x := v) hv
 refine S9.start ⟨_, rK hr, GZ (xs := []) Fi.nil (by omega) (by omega) fun p6 n6 c6 σ1 Fm BM => ⟨p6, n6, c6, rfl, BM, ?_⟩⟩
 have SH := C9 Fm
 rw [List.nil_append] at Fm SH
 simp only [List.length_append, D1] at SH
 refine DF (AR.rd (Own.mono (Ext.Af _ _) Fm)) (by omega) hv fun p9 n9 c9 σ2 Bt Ay => ⟨p9, n9, c9, rfl, Ay, ?_⟩
 have R1 := C9 Bt
 simp only [List.length_append, D1] at R1
 refine GZ (AR.rd (Own.mono (Ext.Af _ _) Bt)) (by omega) (by rw [CH]; omega) fun p3 n3 c3 σ3 Dq C6 => ⟨p3, n3, c3, rfl, C6, ?_⟩
 rw [CH, Kd h8] at Dq
 exact h p3 n3 c3 σ3 (Own.mono (Ext.Cm (BM.trans Ay)) Dq) (BM.trans (Ay.trans C6))
theorem dR {p : Option Addr} {n c i : Nat} {bs rest : List Int} {s : ByteArray} (hr : B9 .u8 σ p n bs) (h8 : E6 bs) (hc : n ≤ c) (hs : s.size ≤ 1048576) (hi : i ≤ n) (hd : bs.drop i = uv s.size ++ (Nl s ++ rest))
   (h : R (.returned (.tuple #[.string s, .int .i64 ((i + (uv s.size).length + s.size : Nat) : Int), .int .i64 0])) σ) : Spec prog 115 #[.slice p n c, .int .i64 i] σ R := by
 have fN : bs.length = n := hr.1
 have FV := hr.big
 have dy : JF bs i s.size := ⟨by omega, _, hd⟩
 refine QI.start (Kb hr h8 hi ⟨fun BX => (BX s.size dy).elim, fun v hv => ?_⟩)
 obtain rfl := hv.uniq dy
 have hlen : i + (uv s.size).length + s.size ≤ n := by
   have := congrArg List.length hd
   simp only [List.length_drop, List.length_append, D1] at this
   have := QZ s.size
   omega
 refine ⟨_, _, _, rfl, fun hh => absurd rfl hh, fun _ => ⟨by unfold AN; omega, fun M4 h25 => ?_⟩⟩
 have e25 : M4 = ((n - (i + (uv s.size).length) : Nat) : Int) := by rw [h25]; simp [IntKind.wrap, IntKind.bits, IntKind.signed]; omega
 refine ⟨fun hh => by omega, fun _ Fp nu => ?_⟩
 have e31 : Fp = (s.size : Int) := by rw [nu]; simp [IntKind.wrap, IntKind.bits, IntKind.signed]; omega
 subst e31
 have e1 : Int.toNat (((i + (uv s.size).length : Nat) : Int) + (s.size : Int)) - Int.toNat ((i + (uv s.size).length : Nat) : Int) = s.size := by omega
 dsimp only
 rw [e1, Int.toNat_natCast]
 refine ⟨by unfold AN; omega, by omega, F3 (B9.sub hr (by omega) hc) ⟨_, rfl, fun J8 h37 => ?_⟩⟩
 have e37 : J8 = (s.size : Int) := by rw [h37]; simp [IntKind.wrap, IntKind.bits, IntKind.signed]; omega
 subst e37
 have e2 : (bs.drop (i + (uv s.size).length)).take s.size = Nl s := by
   rw [← List.drop_drop, hd, List.drop_left, List.take_append_of_le_length (by rw [D1]; omega), List.take_of_length_le (by rw [D1]; omega)]
 rw [e2, gL]
 refine ⟨by unfold AN; omega, ?_⟩
 have e3 : ((i + (uv s.size).length : Nat) : Int) + (s.size : Int) = ((i + (uv s.size).length + s.size : Nat) : Int) := by omega
 rw [e3]; exact h
def FH (s : ByteArray) : Bool := decide (0 < s.size) && decide (s.size ≤ 64)
theorem Ii {s : ByteArray} : (ByteArray.toList s == ByteArray.toList (ByteArray.mk #[])) = decide (s.size = 0) := by
 rw [ByteArray.toList_eq, ByteArray.toList_eq]
 by_cases h : s.size = 0
 · have : s = ⟨#[]⟩ := ByteArray.ext (Array.eq_empty_of_size_eq_zero h)
   subst this; rfl
 · rw [decide_eq_false h]
   simp only [beq_eq_false_iff_ne]
   intro e
   apply h
   have := congrArg List.length e
   simpa using this
theorem Qq {s : ByteArray} (h : R (.returned (.bool (FH s))) σ) : Spec prog 94 #[.string s] σ R := by
 refine WD.start ⟨fun h0 => ?_, fun h0 => ?_⟩
 · rw [Ii, decide_eq_false_iff_not] at h0
   have e : FH s = decide (((s.size : Nat) : Int) ≤ 64) := by
     simp only [FH, decide_eq_true (show 0 < s.size by omega), Bool.true_and]
     exact decide_eq_decide.2 (by omega)
   rwa [e] at h
 · rw [Ii, decide_eq_true_eq] at h0
   have e : FH s = false := by simp [FH, h0]
   rwa [e] at h
end
end TwW
end
section
theorem Tw.Hp.AM {σ : Tw.Hp} {b k : Nat} {o : Go.Obj} (h : (σ.set b o) k = none) : k ≠ b ∧ σ k = none := by
 have Ae : k ≠ b := fun e => by rw [e, Tw.Hp.AA] at h; cases h
 exact ⟨Ae, by rw [Tw.Hp.AH Ae] at h; exact h⟩
namespace yW
open Go Go.MapKept Tw
variable [Iq]
section
variable {P : Program} {σ : Hp}
class MpI (P : Program) (T : TypeId) (K V : outParam TypeId) : Prop where
 Yv : P.underlying T = some (.map K V)
 key : P.underlying K = some (.int .i64)
def A1 (σ : Hp) (b : Nat) (l : List MapEntry) (clock : Nat) : Prop := σ b = some (.map l.toArray clock) ∧ Stamped l.toArray clock ∧ ∀ x ∈ l, IsKey (.int .i64) x.key
theorem A1.mono {σ σ' : Hp} {b : Nat} {l : List MapEntry} {clock : Nat} (h : A1 σ b l clock) (hx : Ext σ σ') : A1 σ' b l clock := ⟨hx _ _ h.1, h.2⟩
theorem A1.loc {σ σ' : Hp} {b : Nat} {l : List MapEntry} {clock : Nat} (h : A1 σ b l clock) (hx : σ' b = σ b) : A1 σ' b l clock := ⟨hx.trans h.1, h.2⟩
theorem A1.nodup {σ : Hp} {b : Nat} {l : List MapEntry} {clock : Nat} (h : A1 σ b l clock) : (l.map (·.key)).Nodup := h.2.1.2.2
theorem A1.Vh {σ : Hp} {b : Nat} {l : List MapEntry} {clock : Nat} (h : A1 σ b l clock) : (l.map (·.born)).Nodup := h.2.1.2.1
theorem FK {s : Int} {l : List MapEntry} (hk : ∀ x ∈ l, IsKey (.int .i64) x.key) :
   (Instr.findNow (.int .i64) (.int .i64 s) l 0 = some none ∧ ∀ x ∈ l, x.key ≠ .int .i64 s) ∨ ∃ l1 e l2, l = l1 ++ e :: l2 ∧ e.key = .int .i64 s ∧ Instr.findNow (.int .i64) (.int .i64 s) l 0 = some (some (l1.length, e.val)) := by
 rcases findNow_spec (d := .int .i64) (k := .int .i64 s) rfl l 0 hk with h | ⟨j, e, h1, h2, h3⟩
 · exact .inl h
 · obtain ⟨hj, rfl⟩ := List.getElem?_eq_some_iff.1 h2
   refine .inr ⟨l.take j, l[j], l.drop (j + 1), ?_, h3, ?_⟩
   · rw [List.getElem_cons_drop, List.take_append_drop]
   · rw [h1]; simp [Nat.min_eq_left (Nat.le_of_lt hj)]
section
variable {T K V ty : TypeId} {b clock : Nat} {l : List MapEntry} {s : Int}
theorem NI [t : MpI P T K V] (hm : A1 σ b l clock) {z : Value} (hz : ∀ w, (zeroValue V).run P w = .ok z w) {Q : Value → Prop}
   (h0 : (∀ x ∈ l, x.key ≠ .int .i64 s) → Q z) (h1 : ∀ l1 e l2, l = l1 ++ e :: l2 → e.key = .int .i64 s → Q e.val) : ∃ v, Q v ∧ YF P (Instr.lookup T (.map (some b)) (.int .i64 s) false) σ v := by
 rcases FK (s := s) hm.2.2 with ⟨hf, hn⟩ | ⟨l1, e, l2, hl, he, hf⟩
 · refine ⟨z, h0 hn, fun w hs => ?_⟩
   have := hs _ _ hm.1
   simp [Instr.lookup, run_underlying t.Yv, run_getObj_map this, run_checkKey t.key (k := .int .i64 s) rfl, run_findKey t.key hf, hz, Result.andThen]
 · refine ⟨e.val, h1 l1 e l2 hl he, fun w hs => ?_⟩
   have := hs _ _ hm.1
   simp [Instr.lookup, run_underlying t.Yv, run_getObj_map this, run_checkKey t.key (k := .int .i64 s) rfl, run_findKey t.key hf, Result.andThen]
theorem Iz [t : MpI P T K V] (hm : A1 σ b l clock) {z : Value} (hz : ∀ w, (zeroValue V).run P w = .ok z w) {Φ : Value → Hp → Prop}
   (h0 : (∀ x ∈ l, x.key ≠ .int .i64 s) → Φ z σ) (h1 : ∀ l1 e l2, l = l1 ++ e :: l2 → e.key = .int .i64 s → Φ e.val σ) : AJ P (Instr.lookup T (.map (some b)) (.int .i64 s) false) σ Φ := by
 obtain ⟨v, hq, hy⟩ := NI (T := T) (K := K) (s := s) (Q := fun v => Φ v σ) hm hz h0 h1
 exact AJ.pu hy hq
abbrev Cd (s : Int) (v : Value) (n : Nat) : MapEntry := { key := .int .i64 s, val := v, born := n }
theorem EE [t : MpI P T K V] (hm : A1 σ b l clock) {v : Value} {Φ : Unit → Hp → Prop}
   (h0 : (∀ x ∈ l, x.key ≠ .int .i64 s) → ∀ σ', σ' = σ.set b (.map (l ++ [Cd s v clock]).toArray (clock + 1)) → A1 σ' b (l ++ [Cd s v clock]) (clock + 1) → Φ () σ')
   (h1 : ∀ l1 e l2, l = l1 ++ e :: l2 → e.key = .int .i64 s → ∀ σ', σ' = σ.set b (.map (l1 ++ Cd s v e.born :: l2).toArray clock) → A1 σ' b (l1 ++ Cd s v e.born :: l2) clock → Φ () σ') :
   AJ P (Instr.mapUpdate T (.map (some b)) (.int .i64 s) v) σ Φ := by
 obtain ⟨hb, Kj, hk⟩ := hm
 rcases FK (s := s) hk with ⟨hf, hn⟩ | ⟨l1, e, l2, hl, he, hf⟩
 · have Vi : (l ++ [Cd s v clock]).toArray = l.toArray.push (Cd s v clock) := by simp
   refine AJ.obj (v := ()) (o' := .map (l ++ [Cd s v clock]).toArray (clock + 1)) hb (fun w hs => ⟨w, .inl rfl, ?_⟩) (h0 hn _ rfl ⟨Hp.AA _ _ _, ?_, ?_⟩)
   · have := hs _ _ hb
     rw [Vi]
     simp only [Instr.mapUpdate, Sem.run_bind, run_underlying t.Yv, run_getObj_map this, run_checkKey t.key (k := .int .i64 s) rfl, run_findKey t.key hf, Result.andThen_ok]
     simp [setObj, Sem.run, this, ChangeMaps.setBlock]
   · rw [Vi]; exact stamped_push Kj (by simpa using hn)
   · intro x hx
     rcases List.mem_append.1 hx with hx | hx
     · exact hk x hx
     · rw [List.mem_singleton] at hx; subst hx; rfl
 · subst hl
   have Rm : (l1 ++ Cd s v e.born :: l2).toArray = (l1 ++ e :: l2).toArray.modify l1.length (fun e => { e with key := .int .i64 s, val := v }) := by
     rw [← Array.toList_inj]
     apply List.ext_getElem?
     intro j
     simp only [Array.getElem?_toList, Array.getElem?_modify, List.getElem?_toArray]
     by_cases hj : l1.length = j
     · subst hj; simp
     · rw [if_neg hj]
       rcases Nat.lt_or_ge j l1.length with h | h
       · rw [List.getElem?_append_left h, List.getElem?_append_left h]
       · have : ∃ k, j = l1.length + (k + 1) := ⟨j - l1.length - 1, by omega⟩
         obtain ⟨k, rfl⟩ := this
         simp [List.getElem?_append_right]
   have FB : (l1 ++ e :: l2).toArray[l1.length]? = some e := by simp
   refine AJ.obj (v := ()) (o' := .map (l1 ++ Cd s v e.born :: l2).toArray clock) hb (fun w hs => ⟨w, .inl rfl, ?_⟩) (h1 l1 e l2 rfl he _ rfl ⟨Hp.AA _ _ _, ?_, ?_⟩)
   · have := hs _ _ hb
     rw [Rm]
     simp only [Instr.mapUpdate, Sem.run_bind, run_underlying t.Yv, run_getObj_map this, run_checkKey t.key (k := .int .i64 s) rfl, run_findKey t.key hf, Result.andThen_ok, FB, Option.map_some, Option.getD_some, he,
       run_keyThatStays (d := .int .i64) (k := .int .i64 s) rfl]
     simp [setObj, Sem.run, this, ChangeMaps.setBlock]
   · rw [Rm]; exact stamped_modify Kj _ _ (fun _ _ => rfl) (fun e' _ he' => by rw [FB] at he'; cases he'; exact he.symm)
   · intro x hx
     rcases List.mem_append.1 hx with hx | hx
     · exact hk x (List.mem_append_left _ hx)
     · rcases List.mem_cons.1 hx with rfl | hx
       · rfl
       · exact hk x (List.mem_append_right _ (List.mem_cons_of_mem _ hx))
theorem H9 [t : MpI P T K V] (hm : A1 σ b l clock) {Φ : Value → Hp → Prop} (h : ∀ i o, σ i = none → Co (σ.set i o) i b l l clock → Φ (.pointer (some ⟨i, 0, none⟩)) (σ.set i o)) : AJ P (Instr.range T (.map (some b))) σ Φ :=
 AJ.new (v := fun i => .pointer (some ⟨i, 0, none⟩)) (o := .mapIter (some b) clock #[] clock) (fun w hs => by
   have := hs _ _ hm.1
   simp [Instr.range, run_underlying t.Yv, run_getObj_map this, Result.andThen]) fun i hi => h i _ hi ⟨#[], clock, Hp.AA _ _ _, Nat.le_refl _, by simp [leftOf, List.filter_eq_self.2]⟩
theorem Jy (hm : A1 σ b l clock) {i : Nat} {L : List MapEntry} (hi : Co σ i b l L clock) {Φ : Value → Hp → Prop}
   (h0 : L = [] → Φ (.tuple #[.bool false]) σ)
   (h1 : ∀ e ∈ L, e ∈ l → ∀ o, (∀ τ, τ i = some o → Co τ i b l (L.filter fun x => x.born != e.born) clock) →
     (∀ τ, τ i = some o → τ b = σ b → ∀ {Ψ : Value → Hp → Prop}, Ψ (.tuple #[e.key, e.val]) τ → AJ P (Instr.entry (.pointer (some ⟨i, 0, none⟩))) τ Ψ) → Φ (.tuple #[.bool true, e.key, e.val]) (σ.set i o)) :
   AJ P (Instr.next (.pointer (some ⟨i, 0, none⟩)) false ty) σ Φ := by
 obtain ⟨seen, c0, hi, hc, rfl⟩ := hi
 obtain ⟨hb, Kj, hk⟩ := hm
 have hold : ∀ x ∈ l.toArray.toList, x.born < clock := Kj.1
 intro w F hs hF
 rcases run_next_at (P := P) w ty i b clock c0 seen l.toArray clock (hs _ _ hi) (hs _ _ hb) hold hc with ⟨h, Cl⟩ | ⟨e, he, w1, VJ, Cl⟩
 · exact ⟨_, w, σ, Cl, h0 (List.eq_nil_of_length_eq_zero (by simpa using h)), hs, fun k hk => ⟨(hF k hk).2, rfl⟩, .same rfl rfl rfl, rfl, Nat.le_refl _⟩
 · have zk := (mem_left he).1
   have h2 := h1 e he (by simpa using zk) (.mapIter (some b) clock (seen.push e.born) clock) (fun τ hτ => ⟨_, _, hτ, Nat.le_refl _, SM.symm⟩) (fun τ hτ vW Ψ hΨ => AJ.pu (fun w' Hu => run_entry_at w' i b clock seen l.toArray clock e (Hu _ _ hτ) (Hu _ _ (vW.trans hb)) zk Kj.2.1) hΨ)
   have Ag : i < w.heap.size := (Array.getElem?_eq_some_iff.1 (hs _ _ hi)).1
   have DI : w1.heap = w.heap := by rcases VJ with rfl | rfl <;> rfl
   refine ⟨_, _, _, Cl, h2, fun k u hk => ?_, fun k hk => ?_, ?_, ?_, ?_⟩
   · simp only [ChangeMaps.setBlock, DI]
     by_cases C5 : k = i
     · subst C5; rw [Hp.AA] at hk; cases hk; simp [Ag]
     · rw [Hp.AH C5] at hk; simp [Ne.symm C5, hs k u hk]
   · have C5 : k ≠ i := fun e => by have := (hF k hk).2; rw [e, hi] at this; cases this
     refine ⟨by rw [Hp.AH C5]; exact (hF k hk).2, ?_⟩
     simp [ChangeMaps.setBlock, DI, Ne.symm C5]
   · rcases VJ with rfl | rfl
     · exact .same rfl rfl rfl
     · exact ⟨rfl, rfl, fun _ => ⟨1, rfl⟩⟩
   · rcases VJ with rfl | rfl <;> rfl
   · simp [ChangeMaps.setBlock, DI]
end
end
end yW
end
section
namespace TwW
open Go Tw Go.RowKit Go.Proofs.Tryz
abbrev Lb := ByteArray × ByteArray
def G7 (_ : Hp) (vs : List Value) (x : Lb) : Prop := vs = [.string x.1, .string x.2]
theorem G7.mono : Oq G7 := fun _ _ _ _ _ h => h
abbrev Nn := Fi 2 G7
structure Sm where
 ls : List Lb
 t : Int
 v : Int
def Hq (σ : Hp) (vs : List Value) (s : Sm) : Prop := ∃ p n c, vs = [.slice p n c, .int .i64 s.t, .int .u64 s.v] ∧ Nn σ p n s.ls
theorem Hq.mono : Oq Hq := fun _ _ _ _ hx ⟨p, n, c, hv, hr⟩ => ⟨p, n, c, hv, hr.mono G7.mono hx⟩
abbrev GG := Fi 3 Hq
section
variable {σ : Hp} {R : Rr}
theorem Nn.at {p : Option Addr} {n i : Nat} {ls : List Lb} {x : Lb} (hr : Nn σ p n ls) (hx : ls[i]? = some x) : ∃ b o, p = some ⟨b, o, none⟩ ∧ Dn σ b (o + i * 2) [.string x.1, .string x.2] := by
 obtain ⟨b, o, vs, hp, rfl, hl⟩ := Fi.idx hr hx
 exact ⟨b, o, hp, hl⟩
theorem GG.at {p : Option Addr} {n i : Nat} {ss : List Sm} {s : Sm} (hr : GG σ p n ss) (hx : ss[i]? = some s) : ∃ b o q k c, p = some ⟨b, o, none⟩ ∧ Dn σ b (o + i * 3) [.slice q k c, .int .i64 s.t, .int .u64 s.v] ∧ Nn σ q k s.ls := by
 obtain ⟨b, o, vs, hp, ⟨q, k, c, rfl, hq⟩, hl⟩ := Fi.idx hr hx
 exact ⟨b, o, q, k, c, hp, hl, hq⟩
theorem rL {s t : ByteArray} : (s.toList == t.toList) = decide (s = t) := by
 rw [ByteArray.toList_eq, ByteArray.toList_eq]
 by_cases h : s = t
 · subst h; simp
 · rw [decide_eq_false h, beq_eq_false_iff_ne]
   exact fun e => h (ByteArray.ext (Array.toList_inj.1 e))
theorem HZ {α : Type} {xs : List α} {k : Nat} {y : α} (hy : xs[k]? = some y) : xs.drop k = y :: xs.drop (k + 1) := by
 obtain ⟨h, rfl⟩ := List.getElem?_eq_some_iff.1 hy
 exact List.drop_eq_getElem_cons h
def A8 : List Lb → ByteArray → ByteArray
 | [], _ => ⟨#[]⟩
 | x :: l, k => if x.1 = k then x.2 else A8 l k
theorem Fg {p : Option Addr} {n c : Nat} {ls : List Lb} {k : ByteArray} (hr : Nn σ p n ls) (h : R (.returned (.string (A8 ls k))) σ) : Spec prog 21 #[.slice p n c, .string k] σ R := by
 refine IH.start ?_
 suffices H : ∀ d i : Nat, n - i = d → i ≤ n → A8 ls k = A8 (ls.drop i) k → IH.NY R k p n c n i σ from H n 0 rfl (Nat.zero_le _) rfl
 intro d
 induction d with
 | zero =>
   intro i hd hi he
   refine IH.D7 ⟨fun Ag => by omega, fun _ => ?_⟩
   rw [List.drop_of_length_le (by rw [hr.1]; omega)] at he
   rw [he] at h; exact h
 | succ d ih =>
   intro i hd hi he
   refine IH.D7 ⟨fun _ => ?_, fun hh => by omega⟩
   have HI : i < n := by omega
   obtain ⟨x, hx⟩ := hr.ex HI
   obtain ⟨b, o, rfl, hl⟩ := Nn.at hr hx
   rw [HZ hx, A8] at he
   refine ⟨b, o, rfl, by omega, x.1, x.2, by simpa using hl, fun _ => ⟨fun hk => ?_, fun hk => ⟨Aa HI hr.big, ih (i + 1) (by omega) (by omega) ?_⟩⟩⟩
   · rw [rL, decide_eq_true_eq] at hk
     rw [if_pos hk] at he
     rw [he] at h; exact h
   · rw [rL, decide_eq_false_iff_not] at hk
     rwa [if_neg hk] at he
theorem U0 {s : ByteArray} {ok : UInt8 → Bool} {pt : Int → Prop} {G : Bool → Prop}
   (dz : G true → pt s.size) (N0 : ∀ (k : Nat) (u : UInt8), k < s.size → s.data[Int.toNat (k : Int)]? = some u → AN ((k : Int) + 1) → (ok u = true → pt ((k : Int) + 1)) → (ok u = false → G false) → pt k)
   (h : G (s.data.toList.all ok)) (hb : s.size ≤ 4611686018427387904) : pt 0 := by
 have EY : s.data.toList.length = s.size := rfl
 suffices H : ∀ d k : Nat, s.size - k = d → k ≤ s.size → (s.data.toList.take k).all ok = true → pt k from H s.size 0 rfl (Nat.zero_le _) rfl
 intro d
 induction d with
 | zero =>
   intro k hd hk D3
   rw [List.take_of_length_le (by omega)] at D3
   rw [D3] at h
   have : k = s.size := by omega
   rw [this]; exact dz h
 | succ d ih =>
   intro k hd hk D3
   have DK : k < s.size := by omega
   obtain ⟨u, hu⟩ : ∃ u, s.data.toList[k]? = some u := ⟨_, List.getElem?_eq_getElem (by omega)⟩
   refine N0 k u DK (by simpa using hu) (by unfold AN; omega) (fun hc => ih (k + 1) (by omega) (by omega) (by rw [AO hu, List.all_append, D3]; simpa using hc)) fun hc => ?_
   have : s.data.toList.all ok = false := by
     rw [List.all_eq_false]
     exact ⟨u, List.mem_of_getElem? hu, by simp [hc]⟩
   rwa [this] at h
def tch (u : UInt8) : Bool := decide ((97 ≤ u.toNat ∧ u.toNat ≤ 122) ∨ (48 ≤ u.toNat ∧ u.toNat ≤ 57) ∨ u.toNat = 45)
def TM (s : ByteArray) : Bool := decide (0 < s.size) && decide (s.size ≤ 32) && s.data.toList.all tch
theorem XW {s : ByteArray} (h : R (.returned (.bool (TM s))) σ) : Spec prog 191 #[.string s] σ R := by
 refine EH.start ⟨fun h0 => ?_, fun h0 => ⟨fun h1 => ?_, fun h1 => ?_⟩⟩
 · rw [Ii, decide_eq_true_eq] at h0
   simpa [TM, h0] using h
 · have : ¬ s.size ≤ 32 := by omega
   simpa [TM, this] using h
 · rw [Ii, decide_eq_false_iff_not] at h0
   refine U0 (s := s) (pt := fun k => EH.Am R s k σ) (ok := tch) (G := fun t => R (.returned (.bool t)) σ) (fun g => EH.BB ⟨fun Ag => by omega, fun _ => g⟩) (fun k u hk hu hi good bad => ?_) ?_ (by omega)
   · simp only [tch, decide_eq_true_eq, decide_eq_false_iff_not] at good bad
     refine EH.BB ⟨fun Ag => ⟨u, by omega, hu, ?_⟩, fun FB => by omega⟩
     clear h
     generalize u.toNat = n at good bad
     repeat' (first | refine ⟨fun _ => ?_, fun _ => ?_⟩ | exact ⟨hi, good (by omega)⟩ | exact bad (by omega))
   · have e : TM s = s.data.toList.all tch := by simp [TM, show 0 < s.size by omega, show s.size ≤ 32 by omega]
     rwa [e] at h
def dgt (u : UInt8) : Bool := decide (48 ≤ u.toNat ∧ u.toNat ≤ 57)
def nch (u : UInt8) : Bool := decide (u.toNat = 95 ∨ (48 ≤ u.toNat ∧ u.toNat ≤ 57) ∨ (65 ≤ u.toNat ∧ u.toNat ≤ 90) ∨ (97 ≤ u.toNat ∧ u.toNat ≤ 122))
def U1 (s : ByteArray) : Bool := decide (0 < s.size) && decide (s.size ≤ 64) && !(s.data.toList.head?.any dgt) && s.data.toList.all nch
theorem Qr {s : ByteArray} (h : R (.returned (.bool (U1 s))) σ) : Spec prog 306 #[.string s] σ R := by
 have EY : s.data.toList.length = s.size := rfl
 refine FQ.start ⟨fun h0 => ?_, fun h0 => ⟨fun h1 => ?_, fun h1 => ?_⟩⟩
 · rw [Ii, decide_eq_true_eq] at h0
   simpa [U1, h0] using h
 · have : ¬ s.size ≤ 64 := by omega
   simpa [U1, this] using h
 · rw [Ii, decide_eq_false_iff_not] at h0
   obtain ⟨u, hu⟩ : ∃ u, s.data.toList[0]? = some u := ⟨_, List.getElem?_eq_getElem (by omega)⟩
   have Ya : s.data[Int.toNat (0 : Int)]? = some u := by simpa using hu
   have hh : s.data.toList.head? = some u := by rw [← hu]; cases s.data.toList <;> rfl
   have rest : dgt u = false → FQ.Am R s 0 σ := fun hd => by
     have e : U1 s = s.data.toList.all nch := by simp [U1, show 0 < s.size by omega, show s.size ≤ 64 by omega, hh, hd]
     rw [e] at h
     refine U0 (s := s) (pt := fun k => FQ.Am R s k σ) (ok := nch) (G := fun t => R (.returned (.bool t)) σ) (fun g => FQ.BB ⟨fun Ag => by omega, fun _ => g⟩) (fun k u hk hu hi good bad => ?_) h (by omega)
     simp only [nch, decide_eq_true_eq, decide_eq_false_iff_not] at good bad
     refine FQ.BB ⟨fun Ag => ⟨u, by omega, hu, ?_⟩, fun FB => by omega⟩
     clear h
     generalize u.toNat = n at good bad
     repeat' (first | refine ⟨fun _ => ?_, fun _ => ?_⟩ | exact ⟨hi, good (by omega)⟩ | exact bad (by omega))
   simp only [dgt, decide_eq_false_iff_not] at rest
   refine ⟨u, by omega, Ya, fun h2 => ⟨u, by omega, Ya, fun h3 => ?_, fun h3 => rest (by omega)⟩, fun h2 => rest (by omega)⟩
   have : dgt u = true := by simp [dgt]; omega
   simpa [U1, hh, this] using h
def vl : Nat → Nat → Nat → List UInt8 → Bool
 | 0, _, _, [] => true
 | _ + 1, _, _, [] => false
 | 0, _, _, c :: r =>
   if c.toNat < 128 then vl 0 128 191 r
   else if 194 ≤ c.toNat ∧ c.toNat ≤ 223 then vl 1 128 191 r
   else if 224 ≤ c.toNat ∧ c.toNat ≤ 239 then (if c.toNat = 224 then vl 2 160 191 r else if c.toNat = 237 then vl 2 128 159 r else vl 2 128 191 r)
   else if 240 ≤ c.toNat ∧ c.toNat ≤ 244 then (if c.toNat = 240 then vl 3 144 191 r else if c.toNat = 244 then vl 3 128 143 r else vl 3 128 191 r)
   else false
 | m + 1, lo, hi, c :: r => if c.toNat < lo ∨ hi < c.toNat then false else vl m 128 191 r
def R4 (s : ByteArray) : Bool := vl 0 128 191 s.data.toList
theorem vl0 (l : List UInt8) (a b c d : Nat) : vl 0 a b l = vl 0 c d l := by cases l <;> rfl
theorem PA {s : ByteArray} (hb : s.size ≤ 4611686018427387904) (h : R (.returned (.bool (R4 s))) σ) : Spec prog 307 #[.string s] σ R := by
 have EY : s.data.toList.length = s.size := rfl
 refine BO.start ?_
 suffices H : ∀ d : Nat, (∀ k : Nat, s.size - k = d → k ≤ s.size → R4 s = vl 0 128 191 (s.data.toList.drop k) → BO.Bu R s k σ) ∧
     (∀ (k m lo hi : Nat), s.size - k = d → k ≤ s.size → R4 s = vl m lo hi (s.data.toList.drop k) → m ≤ 3 → BO.ov R s k m lo hi σ) from (H s.size).1 0 (by omega) (by omega) rfl
 intro d
 induction d with
 | zero =>
   have A : ∀ k : Nat, s.size - k = 0 → k ≤ s.size → R4 s = vl 0 128 191 (s.data.toList.drop k) → BO.Bu R s k σ := fun k hd hk he => by
     refine BO.BF ⟨fun _ => ?_, fun Ae => by omega⟩
     rw [List.drop_of_length_le (by omega)] at he
     rw [he] at h; exact h
   refine ⟨A, fun k m lo hi hd hk he hm => BO.cD ⟨fun h0 => A k hd hk ?_, fun h0 => ⟨fun _ => ?_, fun Ae => by omega⟩⟩⟩
   · have : m = 0 := by omega
     subst this; rw [he]; exact vl0 _ _ _ _ _
   · obtain ⟨m', rfl⟩ : ∃ m', m = m' + 1 := ⟨m - 1, by omega⟩
     rw [List.drop_of_length_le (by omega)] at he
     rw [he] at h; exact h
 | succ d ih =>
   have A : ∀ k : Nat, s.size - k = d + 1 → k ≤ s.size → R4 s = vl 0 128 191 (s.data.toList.drop k) → BO.Bu R s k σ := fun k hd hk he => by
     have DK : k < s.size := by omega
     obtain ⟨u, hu⟩ : ∃ u, s.data.toList[k]? = some u := ⟨_, List.getElem?_eq_getElem (by omega)⟩
     have Ya : s.data[Int.toNat (k : Int)]? = some u := by simpa using hu
     have hi : AN ((k : Int) + 1) := by unfold AN; omega
     rw [HZ hu, vl] at he
     have st : ∀ (m lo hi : Nat), m ≤ 3 → R4 s = vl m lo hi (s.data.toList.drop (k + 1)) → BO.Ev R s k m lo hi σ := fun m lo hh hm he => BO.ow ⟨hi, ih.2 (k + 1) m lo hh (by omega) (by omega) he hm⟩
     have nx : R4 s = vl 0 128 191 (s.data.toList.drop (k + 1)) → BO.Bu R s ((k : Int) + 1) σ := fun he => ih.1 (k + 1) (by omega) (by omega) he
     have no : R4 s = false → R (.returned (.bool false)) σ := fun e => by rw [e] at h; exact h
     refine BO.BF ⟨fun Ae => by omega, fun _ => ⟨u, by omega, Ya, ?_⟩⟩
     generalize s.data.toList.drop (k + 1) = r at he st nx
     clear ih h hu Ya
     generalize u.toNat = n at he
     repeat' (first | refine ⟨fun _ => ?_, fun _ => ?_⟩ | refine ⟨hi, nx ?_⟩ | refine st 1 128 191 (by omega) ?_ | refine st 2 160 191 (by omega) ?_ | refine st 2 128 159 (by omega) ?_ | refine st 2 128 191 (by omega) ?_ | refine st 3 144 191 (by omega) ?_ | refine st 3 128 143 (by omega) ?_ | refine st 3 128 191 (by omega) ?_ | refine no ?_)
     all_goals first | (exfalso; clear he; omega) | (rw [he]; repeat' (first | rfl | rw [if_pos (by omega)] | rw [if_neg (by omega)]))
   refine ⟨A, fun k m lo hi hd hk he hm => BO.cD ⟨fun h0 => A k hd hk ?_, fun h0 => ⟨fun Ae => by omega, fun _ => ?_⟩⟩⟩
   · have : m = 0 := by omega
     subst this; rw [he]; exact vl0 _ _ _ _ _
   · obtain ⟨m', rfl⟩ : ∃ m', m = m' + 1 := ⟨m - 1, by omega⟩
     have DK : k < s.size := by omega
     obtain ⟨u, hu⟩ : ∃ u, s.data.toList[k]? = some u := ⟨_, List.getElem?_eq_getElem (by omega)⟩
     have Ya : s.data[Int.toNat (k : Int)]? = some u := by simpa using hu
     rw [HZ hu, vl] at he
     refine ⟨u, by omega, Ya, fun h1 => ?_, fun h1 => ⟨u, by omega, Ya, fun h2 => ?_, fun h2 => ⟨by unfold AN; omega, by unfold AN; omega, ?_⟩⟩⟩
     · rw [if_pos (by omega)] at he
       rw [he] at h; exact h
     · rw [if_pos (by omega)] at he
       rw [he] at h; exact h
     · rw [if_neg (by omega)] at he
       have := ih.2 (k + 1) m' 128 191 (by omega) (by omega) he (by omega)
       have e1 : ((m' + 1 : Nat) : Int) - 1 = (m' : Nat) := by omega
       rw [e1]; exact this
end
end TwW
end
section
namespace TwW
open Go Tw Go.RowKit Go.Proofs.Tryz
section
variable {σ : Hp} {R : Rr}
def sle (a b : ByteArray) : Bool := Op.bytesLess a.toList b.toList || a.toList == b.toList
theorem yX {x y : Operand} {a b : ByteArray} {T : TypeId} : YF prog (do eqGuard .leq T x y (.string a) (.string b); binOp .leq T (.string a) (.string b)) σ (.bool (sle a b)) := fun w _ => by
 simp [eqGuard, binOp, Op.stringOp, sle]
def OZ : Option ByteArray → List Lb → Int
 | _, [] => 0
 | pv, x :: l => if U1 x.1 = false then 31 else if x.2.size = 0 ∨ 256 < x.2.size ∨ R4 x.2 = false then 32 else if pv.any (sle x.1 ·) = true then 33 else OZ (some x.1) l
def aL (ls : List Lb) : Int := if 16 < ls.length then 30 else OZ none ls
theorem PC {p : Option Addr} {n c : Nat} {ls : List Lb} (hr : Nn σ p n ls) (h : R (.returned (.int .i64 (aL ls))) σ) : Spec prog 267 #[.slice p n c] σ R := by
 have hn : ls.length = n := hr.1
 refine Ec.start ⟨fun h1 => ?_, fun h1 => ?_⟩
 · rw [aL, if_pos (by omega)] at h; exact h
 rw [aL, if_neg (by omega)] at h
 let pv : Nat → Option ByteArray := fun i => if i = 0 then none else (ls[i - 1]?).map (·.1)
 suffices H : ∀ d i : Nat, n - i = d → i ≤ n → OZ none ls = OZ (pv i) (ls.drop i) → Ec.fA R p n c p n c n i σ from H n 0 rfl (Nat.zero_le _) rfl
 intro d
 induction d with
 | zero =>
   intro i hd hi he
   refine Ec.cY ⟨fun Ag => by omega, fun _ => ?_⟩
   rw [List.drop_of_length_le (by omega)] at he
   rw [he] at h; exact h
 | succ d ih =>
   intro i hd hi he
   have HI : i < n := by omega
   obtain ⟨x, hx⟩ := hr.ex HI
   obtain ⟨b, o, rfl, hl⟩ := Nn.at hr hx
   rw [HZ hx, OZ] at he
   have out : ∀ e : Int, OZ none ls = e → R (.returned (.int .i64 e)) σ := fun e h1 => h1 ▸ h
   refine Ec.cY ⟨fun _ => ?_, fun hh => by omega⟩
   refine ⟨b, o, rfl, by omega, x.1, x.2, by simpa using hl, fun _ => Qr ⟨_, rfl, fun h1 => out _ ?_, fun h1 => ?_⟩⟩
   · rw [he, if_pos h1]
   rw [if_neg (by simp [h1])] at he
   rw [Ii]
   refine ⟨fun h2 => out _ ?_, fun h2 => ⟨fun h3 => out _ ?_, fun h3 => PA (by omega) ⟨_, rfl, fun h4 => out _ ?_, fun h4 => ?_⟩⟩⟩
   · rw [he, if_pos (.inl (by simpa using h2))]
   · rw [he, if_pos (.inr (.inl (by omega)))]
   · rw [he, if_pos (.inr (.inr h4))]
   rw [if_neg (by rw [decide_eq_false_iff_not] at h2; simp [h2, h4]; omega)] at he
   have nx : pv (i + 1) = some x.1 := by simp [pv, hx]
   have go : (pv i).any (sle x.1 ·) = false → Ec.fA R (aD b o) n c (aD b o) n c n ((i : Int) + 1) σ := fun h5 => by
     rw [if_neg (by simp [h5]), ← nx] at he
     exact ih (i + 1) (by omega) (by omega) he
   refine ⟨fun h5 => ?_, fun h5 => ⟨Aa HI hr.big, go ?_⟩⟩
   · obtain ⟨y, hy⟩ := hr.ex (k := i - 1) (by omega)
     obtain ⟨b', o', hp, Si⟩ := Nn.at hr hy
     cases hp
     have e1 : ((i : Int) - 1).toNat = i - 1 := by omega
     have hpv : pv i = some y.1 := by simp [pv, hy, show i ≠ 0 by omega]
     refine ⟨by have := hr.big; unfold AN; omega, b, o, rfl, by omega, y.1, by rw [e1]; exact Si.1, _, yX, fun h6 => out _ ?_, fun h6 => ⟨Aa HI hr.big, go ?_⟩⟩
     · rw [he, if_pos (by rw [hpv]; exact h6)]
     · rw [hpv]; exact h6
   · have : i = 0 := by omega
     simp [pv, this]
theorem TN : ∀ {ls : List Lb} {pv : Option ByteArray}, OZ pv ls = 0 → ∀ x ∈ ls, U1 x.1 = true ∧ 0 < x.2.size ∧ x.2.size ≤ 256 ∧ R4 x.2 = true
 | [], _, _, _, hx => by cases hx
 | y :: l, pv, h, x, hx => by
   rw [OZ] at h
   split at h
   · cases h
   split at h
   · cases h
   split at h
   · cases h
   rename_i h1 h2 h3
   rcases List.mem_cons.1 hx with rfl | hx
   · simp only [not_or, Bool.not_eq_false] at h1 h2
     exact ⟨h1, by omega, by omega, h2.2.2⟩
   · exact TN h x hx
def GH (ls : List Lb) : Prop := ls.length ≤ 16 ∧ ∀ x ∈ ls, x.1.size ≤ 256 ∧ x.2.size ≤ 256
theorem GH.of {ls : List Lb} (h : aL ls = 0) : GH ls := by
 unfold aL at h
 split at h
 · cases h
 · refine ⟨by omega, fun x hx => ?_⟩
   obtain ⟨h1, _, h2, _⟩ := TN h x hx
   simp [U1] at h1
   exact ⟨by omega, h2⟩
def U2 (b : Int) (s : Sm) : Int := if aL s.ls ≠ 0 ∨ s.ls.length = 0 ∨ b < s.ls.length then 152 else if s.t < -1099511627776 ∨ 1099511627776 < s.t then 153 else 0
def Oa (b : Int) : List Sm → Int
 | [] => 0
 | s :: l => if U2 b s ≠ 0 then U2 b s else Oa b l
def Ga (ten : ByteArray) (b c : Int) (ss : List Sm) : Int := if TM ten = false then 150 else if ss.length = 0 ∨ c < ss.length ∨ 256 < ss.length then 151 else Oa b ss
theorem No {b : Int} : ∀ {ss : List Sm}, Oa b ss = 0 → ∀ s ∈ ss, U2 b s = 0
 | [], _, _, hs => by cases hs
 | y :: l, h, s, hs => by
   rw [Oa] at h
   split at h
   · rename_i h1; exact absurd h h1
   · rename_i h1
     rcases List.mem_cons.1 hs with rfl | hs
     · exact Decidable.byContradiction h1
     · exact No h s hs
theorem Qt {b : Int} {s : Sm} (h : U2 b s = 0) : GH s.ls := by
 unfold U2 at h
 split at h
 · cases h
 · rename_i h1
   exact .of (Decidable.byContradiction fun h2 => h1 (.inl h2))
theorem AEr : Enters prog 266 := fun args w => call266 args w
theorem AEs : Enters prog 268 := fun args w => call268 args w
theorem Np {ten : ByteArray} {p : Option Addr} {n cc : Nat} {ss : List Sm} {a b c : Int} {d : Bool} (hr : GG σ p n ss) (h : ∀ i : Int, R (.returned (.tuple #[.int .i64 i, .int .i64 (Ga ten b c ss)])) σ) :
   Spec prog 104 #[.string ten, .slice p n cc, .agg #[.int .i64 a, .int .i64 b, .int .i64 c, .bool d]] σ R := by
 have hn : ss.length = n := hr.1
 have out : ∀ (i e : Int), Ga ten b c ss = e → R (.returned (.tuple #[.int .i64 i, .int .i64 e])) σ := fun i e h1 => h1 ▸ h i
 refine Spec.drop (B7.start fun _ => XW ⟨_, rfl, fun h1 => .mk (.refl _) (out _ _ ?_), fun h1 => ?_⟩)
 · rw [Ga, if_pos h1]
 have e0 : Ga ten b c ss = if ss.length = 0 ∨ c < ss.length ∨ 256 < ss.length then 151 else Oa b ss := by rw [Ga, if_neg (by simp [h1])]
 refine ⟨fun h2 => .mk (.refl _) (out _ _ ?_), fun h2 => ⟨fun h3 => .mk (.refl _) (out _ _ ?_), fun h3 => ⟨fun h4 => .mk (.refl _) (out _ _ ?_), fun h4 => ?_⟩⟩⟩
 · rw [e0, if_pos (.inl (by omega))]
 · rw [e0, if_pos (.inr (.inl (by omega)))]
 · rw [e0, if_pos (.inr (.inr (by omega)))]
 rw [if_neg (by omega)] at e0
 refine N8.start fun b1 O4 b4 fS => ⟨_, _, _, rfl, ?_⟩
 obtain ⟨n41, yY⟩ := Hp.AM fS
 generalize Qu : Hp.set (Hp.set σ b1 _) b4 _ = σ1
 have hx : Ext σ σ1 := by rw [← Qu]; exact (Ext.set O4).trans (.set fS)
 have l1 : σ1 b1 = some (.cells #[.int .i64 a, .int .i64 b, .int .i64 c, .bool d] 28 (0, 0)) := by rw [← Qu, Hp.AH (Ne.symm n41), Hp.AA]
 have l4 : σ1 b4 = some (.cells #[(.func (.func 266) #[] #[(.pointer (aD b1 0))]), (.func (.func 268) #[] #[])] 268 (0, 0)) := by rw [← Qu, Hp.AA]
 have gN : GG σ1 p n ss := hr.mono Hq.mono hx
 clear Qu fS yY hr
 suffices H : ∀ d i : Nat, n - i = d → i ≤ n → Oa b ss = Oa b (ss.drop i) → B7.Ua (Drop R) (aD b4 0) 2 2 p n cc n i σ1 from H n 0 rfl (Nat.zero_le _) rfl
 intro d
 induction d with
 | zero =>
   intro i hd hi he
   refine B7.MS ⟨fun Ag => by omega, fun _ => .mk hx (out _ _ ?_)⟩
   rw [e0, he, List.drop_of_length_le (by omega)]; rfl
 | succ d ih =>
   intro i hd hi he
   have HI : i < n := by omega
   have TD : n - (i + 1) = d := by omega
   obtain ⟨s, hs⟩ := gN.ex HI
   obtain ⟨b0, o, q, k, cq, rfl, hl, hq⟩ := GG.at gN hs
   have hk : s.ls.length = k := hq.1
   rw [HZ hs, Oa] at he
   refine B7.MS ⟨fun _ => ⟨b0, o, rfl, by omega, q, k, cq, s.t, s.v, by simpa using hl, fun _ => ?_⟩, fun hh => by omega⟩
   have bad : ∀ x : Int, U2 b s = x → x ≠ 0 → Drop R (.returned (.tuple #[.int .i64 i, .int .i64 x])) σ1 := fun x Z8 Ae => .mk hx (out _ _ (by rw [e0, he, Z8, if_pos Ae]))
   refine B7.JB ⟨fun _ => ⟨b4, 0, rfl, by omega, _, AD (o := 0) l4 rfl, 266, #[], _, rfl, AEr, ?_⟩, fun hh => by omega⟩
   refine LJ.start fun _ => PC hq ⟨_, rfl, ?_⟩
   have yZ : aL s.ls ≠ 0 ∨ s.ls.length = 0 ∨ b < s.ls.length → ∃ x : Int, Value.int .i64 152 = .int .i64 x ∧ Br (x ≠ 0) (Drop R (.returned (.tuple #[.int .i64 i, .int .i64 x])) σ1) (AN ((0 : Int) + 1) ∧ B7.Nc (Drop R) (aD b4 0) 2 2 i q k cq s.t s.v (aD b0 o) n cc n i (aD b4 0) 2 2 (2 : Nat) ((0 : Int) + 1) σ1) := fun hc =>
     ⟨152, rfl, fun _ => bad _ (by rw [U2, if_pos hc]) (by decide), fun hh => absurd (by decide) hh⟩
   refine ⟨fun h5 => yZ (.inl h5), fun h5 => ⟨fun h6 => yZ (.inr (.inl (by omega))), fun h6 => ⟨b, AD (o := 1) l1 rfl, fun h7 => yZ (.inr (.inr (by omega))), fun h7 => ⟨0, rfl, fun hh => absurd rfl hh, fun _ => ⟨by unfold AN; omega, ?_⟩⟩⟩⟩⟩
   refine B7.JB ⟨fun _ => ⟨b4, 0, rfl, by omega, _, AD (o := 1) l4 rfl, 268, #[], _, rfl, AEs, ?_⟩, fun hh => by omega⟩
   have e1 : U2 b s = if s.t < -1099511627776 ∨ 1099511627776 < s.t then 153 else 0 := by rw [U2, if_neg (by simp only [not_or]; exact ⟨h5, by omega, by omega⟩)]
   refine LR.start fun _ => ⟨fun h8 => ⟨153, rfl, fun _ => bad _ ?_ (by decide), fun hh => absurd (by decide) hh⟩, fun h8 => ⟨fun h9 => ⟨153, rfl, fun _ => bad _ ?_ (by decide), fun hh => absurd (by decide) hh⟩, fun h9 => ⟨0, rfl, fun hh => absurd rfl hh, fun _ => ⟨by unfold AN; omega, ?_⟩⟩⟩⟩
   · rw [e1, if_pos (.inl (by omega))]
   · rw [e1, if_pos (.inr (by omega))]
   refine B7.JB ⟨fun hh => absurd hh (by decide), fun _ => ⟨Aa HI gN.big, ih (i + 1) TD HI ?_⟩⟩
   rw [if_neg (by rw [e1, if_neg (by omega)]; simp)] at he
   exact he
theorem G7.one (σ : Hp) (vs : List Value) (x : Lb) (h : G7 σ vs x) : CR vs := by
 rw [h]
 intro u hu
 simp only [List.mem_cons, List.not_mem_nil, or_false] at hu
 rcases hu with rfl | rfl <;> rfl
theorem TO {σ1 : Hp} {q : Option Addr} {j c b : Nat} {ls : List Lb} {ty : TypeId} {Φ : Value → Hp → Prop} (ht : Nn σ1 q j ls) (hb : j ≤ 1000000000)
   (hΦ : ∀ p' c' σ', A3 2 G7 (σ1.new σ') p' j c' ls → Ext σ1 σ' → Φ (.slice p' j c') σ') (hn : σ1 b = none) :
   AJ prog (Builtin.append_ #[22, 22] ty #[.slice (some ⟨b, 0, none⟩) 0 0, .slice q j c]) (σ1.set b (.cells #[] 61 (0, 0))) Φ := by
 obtain ⟨h1, cs, h2, h3⟩ := ht
 refine Dr Own.empty (h2.mono (.set hn)) (Ch.jB G7.one h3 (by decide)) (by omega) fun p' c' σ' AY Di => ?_
 have hq : ∀ a : Addr, (some (⟨b, 0, none⟩ : Addr)) = some a → σ1 a.block = none := fun a ha => by cases ha; exact hn
 rw [Nat.zero_add] at AY ⊢
 rw [List.nil_append] at AY
 exact hΦ p' c' σ' ⟨h1, cs, Own.CC AY (Bb hq Di (.set hn)), h3⟩ (CL hq Di (.set hn))
theorem XX {q : Option Addr} {j c : Nat} {ls : List Lb} {t v : Int} (ht : Nn σ q j ls) (hb : j ≤ 1000000000)
   (h : ∀ p' c' σ', A3 2 G7 (σ.new σ') p' j c' ls → Ext σ σ' → R (.returned (.agg #[.slice p' j c', .int .i64 t, .int .u64 v])) σ') : Spec prog 53 #[.agg #[.slice q j c, .int .i64 t, .int .u64 v]] σ R :=
 JQ.start fun _ _ b3 Ul => TO ht hb (fun p' c' σ' ho hx => ⟨_, _, _, rfl, h p' c' σ' ho hx⟩) Ul
def TP (x : Lb) : List Int := uv x.1.size ++ Nl x.1 ++ (uv x.2.size ++ Nl x.2)
def ya (ls : List Lb) : List Int := uv ls.length ++ ls.flatMap TP
def AEt (h c : Int) : Int := IntKind.u32.wrap (Go.bits .xor .u32 h (IntKind.u32.wrap c) * 16777619)
def AEu (bs : List Int) : Int := bs.foldl AEt 2166136261
def TQ (ls : List Lb) : Int := AEu (ya ls)
theorem gO {p : Option Addr} {n c : Nat} {xs : List Int} (hr : B9 .u8 σ p n xs) (h : R (.returned (.int .u32 (AEu xs))) σ) : Spec prog 56 #[.slice p n c] σ R := by
 refine Dx.start ?_
 suffices H : ∀ d k : Nat, n - k = d → k ≤ n → Dx.A4 R ((xs.take k).foldl AEt 2166136261) p n c n k σ from H n 0 rfl (Nat.zero_le _)
 intro d
 induction d with
 | zero =>
   intro k hd hk
   refine Dx.AW ⟨fun Ag => by omega, fun _ => ?_⟩
   rw [List.take_of_length_le (by rw [hr.1]; omega)]; exact h
 | succ d ih =>
   intro k hd hk
   have DK : k < n := by omega
   obtain ⟨y, hy⟩ := hr.ex DK
   obtain ⟨b, o, rfl, hl⟩ := hr.at hy
   refine Dx.AW ⟨fun _ => ⟨b, o, rfl, by omega, y, by simpa using hl, fun FD h14 Hh h15 Hi ff => ⟨Aa DK hr.big, ?_⟩⟩, fun hh => by omega⟩
   have := ih (k + 1) (by omega) (by omega)
   rw [AO hy, List.foldl_append, List.foldl_cons, List.foldl_nil] at this
   subst h14 h15 ff
   exact this
theorem gP {x : Lb} (h : x.1.size ≤ 256 ∧ x.2.size ≤ 256) : (TP x).length ≤ 532 := by
 have h1 := BV (x := x.1.size) (by omega)
 have h2 := BV (x := x.2.size) (by omega)
 simp only [TP, List.length_append, D1]
 omega
theorem lh {ls : List Lb} (h : ∀ x ∈ ls, x.1.size ≤ 256 ∧ x.2.size ≤ 256) : (ls.flatMap TP).length ≤ ls.length * 532 := by
 induction ls with
 | nil => simp
 | cons x l ih =>
   have := ih fun y hy => h y (List.mem_cons_of_mem _ hy)
   have := gP (h x (by simp))
   rw [List.flatMap_cons, List.length_append, List.length_cons]
   omega
theorem U3 {p : Option Addr} {n c : Nat} {ls : List Lb} (hr : Nn σ p n ls) (hs : GH ls) (h : ∀ p' n' c' σ', AR .u8 (σ.new σ') p' n' c' (ya ls) → Ext σ σ' → R (.returned (.slice p' n' c')) σ') : Spec prog 57 #[.slice p n c] σ R := by
 have hn : ls.length = n := hr.1
 have ff := hs.1
 refine Ew.start fun x8 h8 => ?_
 have e8 : x8 = (n : Int) := by rw [h8]; simp [IntKind.wrap, IntKind.bits, IntKind.signed]; omega
 subst e8
 refine DF Fi.nil (by omega) (by omega) fun p1 n1 c1 σ1 Fm BM => ⟨p1, n1, c1, rfl, ?_⟩
 rw [List.nil_append] at Fm
 suffices H : ∀ d k : Nat, ∀ p3 n3 c3 σ3, n - k = d → k ≤ n → AR .u8 (σ.new σ3) p3 n3 c3 (uv n ++ (ls.take k).flatMap TP) → Ext σ σ3 → Ew.A4 R p3 n3 c3 p n c n k σ3 from H n 0 p1 n1 c1 σ1 rfl (Nat.zero_le _) (by simpa using Fm) BM
 intro d
 induction d with
 | zero =>
   intro k p3 n3 c3 σ3 hd hk ho hx
   refine Ew.AW ⟨fun Ag => by omega, fun _ => h p3 n3 c3 σ3 ?_ hx⟩
   rw [List.take_of_length_le (by omega)] at ho
   rw [ya, hn]; exact ho
 | succ d ih =>
   intro k p3 n3 c3 σ3 hd hk ho hx
   have DK : k < n := by omega
   obtain ⟨y, hy⟩ := hr.ex DK
   obtain ⟨b, o, rfl, hl⟩ := Nn.at hr hy
   have qx := hs.2 y (List.mem_of_getElem? hy)
   have hl3 := C9 ho
   have lW := BV (x := n) (by omega)
   have Z0 := lh (ls := ls.take k) fun x hx => hs.2 x (List.mem_of_mem_take hx)
   rw [List.length_append] at hl3
   rw [List.length_take] at Z0
   have h3b : n3 ≤ 9000 := by omega
   refine Ew.AW ⟨fun _ => ⟨b, o, rfl, by omega, y.1, y.2, by simpa using hl.mono hx, fun _ => ?_⟩, fun hh => by omega⟩
   refine GZ (AR.rd (Own.mono (Ext.Af _ _) ho)) (by omega) (by omega) fun p4 n4 c4 σ4 OS LW => ⟨p4, n4, c4, rfl, ?_⟩
   have hl4 := C9 OS
   have hu1 := BV (x := y.1.size) (by omega)
   simp only [List.length_append, D1] at hl4
   refine GZ (AR.rd (Own.mono (Ext.Af _ _) OS)) (by omega) (by omega) fun p5 n5 c5 σ5 dE OU => ⟨p5, n5, c5, rfl, Aa DK hr.big, ?_⟩
   refine ih (k + 1) p5 n5 c5 σ5 (by omega) (by omega) ?_ (hx.trans (LW.trans OU))
   have := Own.mono (Ext.Cm (hx.trans LW)) dE
   rw [AO hy, List.flatMap_append]
   simpa [TP, AR] using this
theorem TR {p : Option Addr} {n c : Nat} {ls : List Lb} (hr : Nn σ p n ls) (hs : GH ls) (h : R (.returned (.int .u32 (TQ ls))) σ) : Spec prog 24 #[.slice p n c] σ R :=
 Spec.drop (QD.start (U3 hr hs fun p' n' c' σ' ho hx => ⟨_, _, _, rfl, gO (AR.rd (Own.mono (Ext.Af _ _) ho)) ⟨_, rfl, .mk hx h⟩⟩))
end
end TwW
end
section
namespace TwW
open Go Tw Go.Proofs.Tryz
structure Mem where
 id : Int
 state : Int
 B5 : List Int
def EA (σ : Hp) (vs : List Value) (m : Mem) : Prop := ∃ p n c, vs = [.int .i64 m.id, .int .i64 m.state, .slice p n c] ∧ B9 .u32 σ p n m.B5
theorem EA.mono : Oq EA := fun _ _ _ _ h ⟨p, n, c, hv, hr⟩ => ⟨p, n, c, hv, hr.mono h⟩
abbrev Nq := Fi 3 EA
abbrev Jm := A3 3 EA
theorem Nq.Qv {σ σ' : Hp} (h : Ext σ σ') {p : Option Addr} {n : Nat} {ms : List Mem} (hr : Nq σ p n ms) : Nq σ' p n ms := Fi.mono EA.mono h hr
theorem Nq.at' {σ : Hp} {p : Option Addr} {n i : Nat} {ms : List Mem} {m : Mem} (hr : Nq σ p n ms) (hx : ms[i]? = some m) :
   ∃ b o q k c, p = some ⟨b, o, none⟩ ∧ Dn σ b (o + i * 3) [.int .i64 m.id, .int .i64 m.state, .slice q k c] ∧ B9 .u32 σ q k m.B5 := by
 obtain ⟨b, o, vs, hp, ⟨q, k, c, rfl, hq⟩, hl⟩ := Fi.idx hr hx
 exact ⟨b, o, q, k, c, hp, hl, hq⟩
theorem Qw {a b : Int} {p : Option Addr} {n c : Nat} : CR [.int .i64 a, .int .i64 b, .slice p n c] := by
 intro u hu
 simp only [List.mem_cons, List.not_mem_nil, or_false] at hu
 rcases hu with rfl | rfl | rfl <;> rfl
end TwW
end
section
namespace TwW
open Go Tw Go.Proofs.Tryz
def EM (xs : List Int) : Prop := xs.Pairwise (· < ·)
instance (xs : List Int) : Decidable (EM xs) := inferInstanceAs (Decidable (xs.Pairwise (· < ·)))
theorem gQ {xs : List Int} {k : Nat} {y : Int} (hk : 0 < k) (hy : xs[k - 1]? = some y) : xs.take k = xs.take (k - 1) ++ [y] := by
 have := AO hy
 rwa [Nat.sub_add_cancel hk] at this
theorem Ke {xs : List Int} {k : Nat} {x y : Int} (hk : 0 < k) (hy : xs[k - 1]? = some y) (hx : xs[k]? = some x) (h : EM (xs.take k)) (hl : y < x) : EM (xs.take (k + 1)) := by
 unfold EM at *
 rw [AO hx, List.pairwise_append]
 refine ⟨h, by simp, fun a ha b hb => ?_⟩
 simp only [List.mem_singleton] at hb
 subst hb
 rw [gQ hk hy] at ha h
 rw [List.pairwise_append] at h
 simp only [List.mem_append, List.mem_singleton] at ha
 rcases ha with ha | rfl
 · have := h.2.2 a ha y (by simp); omega
 · exact hl
theorem XY {xs : List Int} {k : Nat} {x y : Int} (hk : 0 < k) (hy : xs[k - 1]? = some y) (hx : xs[k]? = some x) (hl : x ≤ y) : ¬ EM xs := fun h => by
 have h1 := (List.pairwise_iff_getElem.1 h) (k - 1) k (List.getElem?_eq_some_iff.1 hy).1 (List.getElem?_eq_some_iff.1 hx).1 (by omega)
 rw [(List.getElem?_eq_some_iff.1 hy).2, (List.getElem?_eq_some_iff.1 hx).2] at h1
 omega
theorem JG {xs : List Int} (h : xs.length ≤ 1) : EM xs := by
 match xs, h with
 | [], _ => simp [EM]
 | [x], _ => simp [EM]
theorem U4 {R : Rr} {σ : Hp} {p : Option Addr} {n c : Nat} {xs : List Int} (hr : B9 .u32 σ p n xs) (h : R (.returned (.bool (decide (EM xs)))) σ) :
   Spec prog 118 #[.slice p n c] σ R := by
 refine CF.start ?_
 suffices H : ∀ d k : Nat, n - k = d → 0 < k → EM (xs.take k) → CF.Jh R p n c k σ from H (n - 1) 1 rfl (by omega) (JG (by simp; omega))
 intro d
 induction d with
 | zero =>
   intro k hd hk BX
   refine CF.CU ⟨fun Ag => by omega, fun _ => ?_⟩
   rw [List.take_of_length_le (by rw [hr.1]; omega)] at BX
   simpa [BX] using h
 | succ d ih =>
   intro k hd hk BX
   refine CF.CU ⟨fun Ag => ?_, fun FB => by omega⟩
   have DK : k < n := by omega
   obtain ⟨x, hx⟩ := hr.ex DK
   obtain ⟨y, hy⟩ := hr.ex (k := k - 1) (by omega)
   obtain ⟨b, o, rfl, hl⟩ := hr.at hx
   obtain ⟨b', o', he, Si⟩ := hr.at hy
   cases he
   have e : ((k : Int) - 1) = ((k - 1 : Nat) : Int) := by omega
   have hb := hr.big
   refine ⟨b, o, rfl, by omega, x, by simpa using hl, by unfold AN; omega, by omega, y, by rw [e]; simpa using Si, fun hle => ?_, fun hgt => ⟨Aa DK hr.big, ih (k + 1) (by omega) (by omega) (Ke hk hy hx BX (by omega))⟩⟩
   simpa [XY hk hy hx hle] using h
theorem U5 {R : Rr} {σ : Hp} {p : Option Addr} {n c : Nat} {xs : List Int} (hr : B9 .i64 σ p n xs) (h : R (.returned (.bool (decide (EM xs)))) σ) :
   Spec prog 119 #[.slice p n c] σ R := by
 refine DN.start ?_
 suffices H : ∀ d k : Nat, n - k = d → 0 < k → EM (xs.take k) → DN.Jh R p n c k σ from H (n - 1) 1 rfl (by omega) (JG (by simp; omega))
 intro d
 induction d with
 | zero =>
   intro k hd hk BX
   refine DN.CU ⟨fun Ag => by omega, fun _ => ?_⟩
   rw [List.take_of_length_le (by rw [hr.1]; omega)] at BX
   simpa [BX] using h
 | succ d ih =>
   intro k hd hk BX
   refine DN.CU ⟨fun Ag => ?_, fun FB => by omega⟩
   have DK : k < n := by omega
   obtain ⟨x, hx⟩ := hr.ex DK
   obtain ⟨y, hy⟩ := hr.ex (k := k - 1) (by omega)
   obtain ⟨b, o, rfl, hl⟩ := hr.at hx
   obtain ⟨b', o', he, Si⟩ := hr.at hy
   cases he
   have e : ((k : Int) - 1) = ((k - 1 : Nat) : Int) := by omega
   have hb := hr.big
   refine ⟨b, o, rfl, by omega, x, by simpa using hl, by unfold AN; omega, by omega, y, by rw [e]; simpa using Si, fun hle => ?_, fun hgt => ⟨Aa DK hr.big, ih (k + 1) (by omega) (by omega) (Ke hk hy hx BX (by omega))⟩⟩
   simpa [XY hk hy hx hle] using h
def oB (m : Mem) : Prop := 0 ≤ m.id ∧ m.id < 16 ∧ 1 ≤ m.state ∧ m.state ≤ 3 ∧ 1 ≤ m.B5.length ∧ m.B5.length ≤ 64 ∧ EM m.B5
instance (m : Mem) : Decidable (oB m) := by unfold oB; infer_instance
def ids (ms : List Mem) : List Int := ms.map Mem.id
def Ku (ms : List Mem) : Prop := (∀ m ∈ ms, oB m) ∧ EM (ids ms)
instance (ms : List Mem) : Decidable (Ku ms) := by unfold Ku; infer_instance
def O7 (ms : List Mem) : Int := if Ku ms then 0 else 130
theorem dS {R : Rr} {σ : Hp} {x : Int} (h : R (.returned (.bool (decide (0 ≤ x ∧ x < 16)))) σ) : Spec prog 117 #[.int .i64 x] σ R := by
 refine bt.start ⟨fun h0 => by simpa [h0] using h, fun h0 => by simpa [h0] using h⟩
end TwW
end
section
namespace TwW
open Go Tw Go.Proofs.Tryz
def Small (ms : List Mem) : Prop := ms.length ≤ 3518437208883 ∧ ∀ m ∈ ms, m.B5.length ≤ 35184372088832
theorem Lw {R : Rr} {σ : Hp} {e : Int} {p : Option Addr} {n c : Nat} {ms : List Mem} (hr : Nq σ p n ms) (hs : Small ms) (h : R (.returned (.int .i64 (O7 ms))) σ) :
   Spec prog 54 #[.agg #[.int .u64 e, .slice p n c]] σ R := by
 refine Spec.drop (Gs.start ?_)
 have hlen : n ≤ 3518437208883 := by have := hs.1; have := hr.1; omega
 have bad : ¬ Ku ms → ∀ σ', Ext σ σ' → Drop R (.returned (.int .i64 130)) σ' := fun hn σ' hx => .mk hx (by simpa [O7, hn] using h)
 suffices H : ∀ d k : Nat, ∀ p3 c3 σ', n - k = d → k ≤ n → (∀ m ∈ ms.take k, oB m) → Ext σ σ' → AR .i64 (σ.new σ') p3 k c3 (ids (ms.take k)) → Gs.A4 (Drop R) p3 k c3 p n c n k σ' from fun _ => H n 0 _ _ _ rfl (by omega) (by simp) (.refl σ) AR.nil
 intro d
 induction d with
 | zero =>
   intro k p3 c3 σ' hd hk ho hx AY
   refine Gs.AW ⟨fun Ag => by omega, fun _ => U5 (AY.rd.mono (Ext.Af σ σ')) ⟨_, rfl, ?_, ?_⟩⟩
   all_goals rw [List.take_of_length_le (by rw [hr.1]; omega)] at ho ⊢
   · intro hf
     exact bad (fun Aq => by simp [Aq.2] at hf) _ hx
   · intro ht
     have : Ku ms := ⟨ho, by simpa using ht⟩
     exact .mk hx (by simpa [O7, this] using h)
 | succ d ih =>
   intro k p3 c3 σ' hd hk ho hx AY
   refine Gs.AW ⟨fun Ag => ?_, fun FB => by omega⟩
   have DK : k < n := by omega
   obtain ⟨m, hm⟩ := hr.ex DK
   obtain ⟨b, o, q, j, c', rfl, hl, ht⟩ := hr.at' hm
   have C2 : m ∈ ms := List.mem_of_getElem? hm
   have hlj := ht.1
   refine ⟨b, o, rfl, by omega, m.id, m.state, q, j, c', by simpa using hl.mono hx, fun _ KY lj => ?_⟩
   refine AR.H7 hx AY (by omega) (fun p' c2 σ2 Bt Ay _ => ⟨p', k + 1, c2, rfl, dS ⟨_, rfl, ?_, ?_⟩⟩) lj
   · intro hf
     exact bad (fun Aq => by have := Aq.1 m C2; simp [oB] at this hf; omega) _ Ay
   intro yb
   refine ⟨fun h1 => bad (fun Aq => by have := Aq.1 m C2; simp [oB] at this; omega) _ Ay, fun h1 => ⟨fun h2 => bad (fun Aq => by have := Aq.1 m C2; simp [oB] at this; omega) _ Ay, fun h2 => ⟨fun h3 => bad (fun Aq => by have := Aq.1 m C2; simp [oB] at this; omega) _ Ay, fun h3 => ⟨fun h4 => bad (fun Aq => by have := Aq.1 m C2; simp [oB] at this; omega) _ Ay, fun h4 => ?_⟩⟩⟩⟩
   refine U4 (ht.mono Ay) ⟨_, rfl, fun hf => bad (fun Aq => by have := Aq.1 m C2; simp [oB] at this hf; exact hf this.2.2.2.2.2.2) _ Ay, fun VW => ⟨Aa DK hr.big, ih (k + 1) _ _ _ (by omega) (by omega) ?_ Ay ?_⟩⟩
   · intro m' L5
     rw [List.take_add_one, hm] at L5
     simp only [Option.toList, List.mem_append, List.mem_singleton] at L5
     rcases L5 with L5 | rfl
     · exact ho m' L5
     · simp at yb VW
       exact ⟨by omega, by omega, by omega, by omega, by omega, by omega, VW⟩
   · have : ids (ms.take (k + 1)) = ids (ms.take k) ++ [m.id] := by simp [ids, List.take_add_one, hm]
     rw [this]; exact Bt
end TwW
end
section
namespace TwW
open Go Tw Go.Proofs.Tryz
theorem aM {σ σ1 : Hp} {q : Option Addr} {j c : Nat} {xs : List Int} {T Et ty : TypeId} {bs : Nat} [Jo prog T Et 1 bs] {Φ : Value → Hp → Prop} (hx : Ext σ σ1) (ht : B9 .u32 σ1 q j xs) (hb : j * bs ≤ 140737488355328)
   (hΦ : ∀ p' c' σ', AR .u32 (σ1.new σ') p' j c' xs → Ext σ1 σ' → Φ (.slice p' j c') σ') {b : Nat} (hn : σ1 b = none) :
   AJ prog (Builtin.append_ #[T, T] ty #[.slice (some ⟨b, 0, none⟩) 0 0, .slice q j c]) (σ1.set b (.cells #[] Et (0, 0))) Φ := by
 refine Dr Own.empty ((GP.of_map ht).mono (.set hn)) CR.Cj (by rw [Nat.zero_add]; exact hb) fun p' c' σ' AY Di => ?_
 have hq : ∀ a : Addr, (some (⟨b, 0, none⟩ : Addr)) = some a → σ1 a.block = none := fun a ha => by cases ha; exact hn
 rw [Nat.zero_add] at AY ⊢
 exact hΦ p' c' σ' (Own.CC AY (Bb hq Di (.set hn))) (CL hq Di (.set hn))
theorem Qy {R : Rr} {σ : Hp} {e : Int} {p : Option Addr} {n c : Nat} {ms : List Mem} (hr : Nq σ p n ms) (hs : Small ms)
   (h : ∀ p' c' σ', Jm (σ.new σ') p' n c' ms → Ext σ σ' → R (.returned (.agg #[.int .u64 e, .slice p' n c'])) σ') : Spec prog 186 #[.agg #[.int .u64 e, .slice p n c]] σ R := by
 refine IW.start ?_
 have hlen : n ≤ 3518437208883 := by have := hs.1; have := hr.1; omega
 suffices H : ∀ d k : Nat, ∀ p3 c3 σ', n - k = d → k ≤ n → Ext σ σ' → Jm (σ.new σ') p3 k c3 (ms.take k) → IW.A4 R 0 none 0 0 e p3 k c3 p n c n k σ' from fun _ _ _ => H n 0 _ _ _ rfl (by omega) (.refl σ) A3.nil
 intro d
 induction d with
 | zero =>
   intro k p3 c3 σ' hd hk hx AY
   refine IW.AW ⟨fun Ag => by omega, fun _ => ?_⟩
   rw [List.take_of_length_le (by rw [hr.1]; omega)] at AY
   have : k = n := by omega
   subst this
   exact h _ _ _ AY hx
 | succ d ih =>
   intro k p3 c3 σ' hd hk hx AY
   refine IW.AW ⟨fun Ag => ?_, fun FB => by omega⟩
   have DK : k < n := by omega
   obtain ⟨m, hm⟩ := hr.ex DK
   obtain ⟨b, o, q, j, c', rfl, hl, ht⟩ := hr.at' hm
   have C2 : m ∈ ms := List.mem_of_getElem? hm
   have hlj := ht.1
   have hsj := hs.2 m C2
   refine ⟨b, o, rfl, by omega, m.id, m.state, q, j, c', by simpa using hl.mono hx, fun _ KY lj => ?_⟩
   refine aM hx (ht.mono hx) (by omega) (fun q' j' σ1 hq BM => ⟨q', j, j', rfl, fun QA lk => ?_⟩) lj
   have XZ : Jm (σ.new σ1) p3 k c3 (ms.take k) := AY.mono EA.mono (Ext.BN BM)
   have Yg : ∀ a, p3 = some a → σ' a.block ≠ none := fun a ha => by
     have := AY.block a ha
     cases hh : (σ.new σ') a.block with
     | none => exact absurd hh this
     | some oo => rw [(AS.1 hh).2]; simp
   have Ck : Ext (σ'.new σ1) ((σ.new σ1).del p3) := Ext.Gj hx Yg
   have he : EA ((σ.new σ1).del p3) [.int .i64 m.id, .int .i64 m.state, .slice q' j j'] m := ⟨q', j, j', rfl, hq.rd.mono Ck⟩
   refine A3.H7 EA.mono (hx.trans BM) XZ rfl Qw he (by omega) (fun p' c2 σ2 Bt Ay => ⟨p', k + 1, c2, rfl, Aa DK hr.big, ih (k + 1) _ _ _ (by omega) (by omega) Ay ?_⟩) lk
   rw [List.take_add_one, hm]; exact Bt
def place (ms : List Mem) (x : Int) : Int := match ms.findIdx? (fun m => decide (m.id = x)) with | some k => k | none => -1
theorem Qz {ms : List Mem} {x : Int} (h : ∀ m ∈ ms, m.id ≠ x) : place ms x = -1 := by
 unfold place
 rw [List.findIdx?_eq_none_iff.2 (by simpa using h)]
theorem Q0 {ms : List Mem} {x : Int} {k : Nat} {m : Mem} (hm : ms[k]? = some m) (he : m.id = x) (h : ∀ m ∈ ms.take k, m.id ≠ x) : place ms x = k := by
 unfold place
 have Ag := (List.getElem?_eq_some_iff.1 hm).1
 have heq := (List.getElem?_eq_some_iff.1 hm).2
 rw [(List.findIdx?_eq_some_iff_getElem (i := k)).2 ⟨Ag, by rw [heq]; simpa using he, fun j hj => ?_⟩]
 have := h ms[j] (List.mem_iff_getElem.2 ⟨j, by simp; omega, by simp⟩)
 simpa using this
theorem Q1 : Enters prog 261 := fun args w => Go.Proofs.Tryz.call261 args w
theorem Xa {R : Rr} {σ : Hp} {e x : Int} {p : Option Addr} {n c : Nat} {ms : List Mem} (hr : Nq σ p n ms) (h : R (.returned (.int .i64 (place ms x))) σ) :
   Spec prog 187 #[.agg #[.int .u64 e, .slice p n c], .int .i64 x] σ R := by
 refine Spec.drop (OG.start fun _ b3 Ul => ?_)
 have hx : Ext σ (σ.set b3 (.cells #[.int .i64 x] 3 (0, 0))) := .set Ul
 have Is := hr.Qv hx
 have bN : Hp.ld (σ.set b3 (.cells #[.int .i64 x] 3 (0, 0))) ⟨b3, 0, none⟩ = some (.int .i64 x) := by simp [Hp.ld, Hp.AA]
 dsimp only
 generalize hσ : (σ.set b3 (.cells #[.int .i64 x] 3 (0, 0))) = σ1 at *
 refine BQ.start ?_
 suffices H : ∀ d k : Nat, n - k = d → k ≤ n → (∀ m ∈ ms.take k, m.id ≠ x) → BQ.NY (AB (Drop R) fun v σ1 => ∃ x8 : Int, v = .int .i64 x8 ∧ Drop R (.returned (.int .i64 x8)) σ1) p n c (.func (.func 261) #[] #[.pointer (some ⟨b3, 0, none⟩)]) n k σ1 from H n 0 rfl (by omega) (by simp)
 intro d
 induction d with
 | zero =>
   intro k hd hk BX
   refine BQ.D7 ⟨fun Ag => by omega, fun _ => ⟨_, rfl, .mk hx ?_⟩⟩
   rw [List.take_of_length_le (by rw [hr.1]; omega)] at BX
   rw [← Qz BX]; exact h
 | succ d ih =>
   intro k hd hk BX
   refine BQ.D7 ⟨fun Ag => ?_, fun FB => by omega⟩
   have DK : k < n := by omega
   obtain ⟨m, hm⟩ := Is.ex DK
   obtain ⟨b, o, q, j, c', rfl, hl, ht⟩ := Is.at' hm
   refine ⟨b, o, rfl, by omega, m.id, m.state, q, j, c', by simpa using hl, _, _, _, rfl, Q1, ?_⟩
   refine LO.start fun _ => ⟨x, bN, _, rfl, fun yb => ⟨_, rfl, .mk hx ?_⟩, fun hf => ⟨Aa DK hr.big, ih (k + 1) (by omega) (by omega) ?_⟩⟩
   · have he : m.id = x := by simpa using yb
     rw [← Q0 hm he BX]; exact h
   · have Ae : m.id ≠ x := by simpa using hf
     intro m' L5
     rw [List.take_add_one, hm] at L5
     simp only [Option.toList, List.mem_append, List.mem_singleton] at L5
     rcases L5 with L5 | rfl
     · exact BX m' L5
     · exact Ae
theorem KL (ms : List Mem) (x : Int) : (place ms x = -1 ∧ ∀ m ∈ ms, m.id ≠ x) ∨ ∃ k m, place ms x = (k : Nat) ∧ ms[k]? = some m ∧ m.id = x ∧ ∀ m ∈ ms.take k, m.id ≠ x := by
 unfold place
 cases hf : ms.findIdx? (fun m => decide (m.id = x)) with
 | none => exact .inl ⟨rfl, by simpa using hf⟩
 | some k =>
   obtain ⟨hk, he, BX⟩ := List.findIdx?_eq_some_iff_getElem.1 hf
   refine .inr ⟨k, ms[k], rfl, List.getElem?_eq_getElem hk, by simpa using he, fun m hm => ?_⟩
   obtain ⟨j, hj, rfl⟩ := List.mem_iff_getElem.1 hm
   have Tx : j < k := by simp at hj; omega
   have := BX j Tx
   simpa using this
end TwW
end
section
namespace TwW
open Go Tw Go.Proofs.Tryz
theorem ll (w : World) : (Go.sizeOf 70).run prog w = .ok 1 w := Go.Proofs.Tryz.sizeOf70 w
theorem gR {R : Rr} {σ : Hp} {x y : Int} (h : R (.returned (.bool (decide (x < y)))) σ) : Spec prog 328 #[.int .u32 x, .int .u32 y] σ R := by
 refine JR.start (Du.start ⟨_, rfl, fun ht => ?_, fun _ => h⟩)
 simp at ht
def Asc (ys : List Int) (i : Nat) (p : Nat → Prop) : Prop := ∀ a b x y, a < b → b < i → p b → ys[a]? = some x → ys[b]? = some y → x ≤ y
theorem Q2 {R : Rr} {σ : Hp} {p : Option Addr} {n c : Nat} {xs : List Int} {Q : Int → Prop} (hQ : ∀ x ∈ xs, Q x) (ho : AR .u32 σ p n c xs)
   (h : ∀ σ' ys, (∀ y ∈ ys, Q y) → AR .u32 σ' p n c ys → Ext (σ.del p) (σ'.del p) → Asc ys n (fun _ => True) → R (.returned (.tuple #[])) σ') : Spec prog 322 #[.slice p n c, .int .i64 0, .int .i64 n] σ R := by
 have hb := ho.rd.big
 refine AL.start ⟨by unfold AN; omega, ?_⟩
 suffices H : ∀ d i : Nat, ∀ σ' ys, (∀ y ∈ ys, Q y) → n - i = d → 0 < i → AR .u32 σ' p n c ys → Ext (σ.del p) (σ'.del p) → Asc ys (min i n) (fun _ => True) → AL.ZW R p n c 0 n i σ' from
   H (n - 1) 1 σ xs hQ rfl (by omega) ho (Ext.refl _) (fun a b x y fz Jf _ _ _ => by omega)
 intro d
 induction d with
 | zero =>
   intro i σ' ys hq hd hi AY hx hs
   refine AL.Ln ⟨fun Ag => by omega, fun _ => h σ' ys hq AY hx ?_⟩
   rwa [Nat.min_eq_right (by omega)] at hs
 | succ d ih =>
   intro i σ' ys hq hd hi AY hx hs
   have Ck : i < n := by omega
   rw [Nat.min_eq_left (by omega)] at hs
   refine AL.Ln ⟨fun _ => ?_, fun FB => by omega⟩
   suffices H2 : ∀ j : Nat, ∀ σ' ys, (∀ y ∈ ys, Q y) → j ≤ i → AR .u32 σ' p n c ys → Ext (σ.del p) (σ'.del p) → Asc ys (i + 1) (fun b => b ≠ j) → AL.GR R p n c 0 n i j σ' from
     H2 i σ' ys hq (Nat.le_refl _) AY hx (fun a b x y fz Jf Ae => hs a b x y fz (by omega) trivial)
   intro j
   induction j with
   | zero =>
     intro σ' ys hq _ AY hx hs
     refine AL.GS ⟨fun Ag => by omega, fun _ => ⟨Aa Ck hb, ih (i + 1) σ' ys hq (by omega) (by omega) AY hx ?_⟩⟩
     rw [Nat.min_eq_left (by omega)]
     exact fun a b x y fz Jf _ => hs a b x y fz Jf (by omega)
   | succ j ihj =>
     intro σ' ys hq YI AY hx hs
     refine AL.GS ⟨fun _ => ?_, fun FB => by omega⟩
     obtain ⟨x, hxv⟩ := AY.rd.ex (k := j + 1) (by omega)
     obtain ⟨y, hyv⟩ := AY.rd.ex (k := j) (by omega)
     have AOQ := AY.rd.1
     obtain ⟨b, o, hp, hl⟩ := AY.rd.at hxv
     obtain ⟨b', o', hp', Si⟩ := AY.rd.at hyv
     rw [hp] at hp'; cases hp'
     have e : ((j + 1 : Nat) : Int) - 1 = (j : Nat) := by omega
     have SF : ¬ x < y → Asc ys (min (i + 1) n) (fun _ => True) := by
       intro hf
       have FB : y ≤ x := by omega
       rw [Nat.min_eq_left (by omega)]
       intro a b' u v fz hbi _ hu hv
       by_cases O4 : b' = j + 1
       · subst O4
         rw [hxv] at hv; cases hv
         by_cases ha : a = j
         · subst ha; rw [hyv] at hu; cases hu; exact FB
         · have := hs a j u y (by omega) (by omega) (by omega) hu hyv
           omega
       · exact hs a b' u v fz (by omega) O4 hu hv
     refine ⟨b, o, hp, by omega, x, by simpa using hl, by unfold AN; omega, by omega, y, by rw [e]; simpa using Si, gR ⟨_, rfl, fun ht => ?swap, fun hf => ⟨Aa Ck hb, by rw [MI hp]; exact ih (i + 1) σ' ys hq (by omega) (by omega) AY hx (SF (by simpa using hf))⟩⟩⟩
     case swap =>
       have Ag : x < y := by simpa using ht
       refine ⟨by unfold AN; omega, by unfold AN; omega, by omega, y, by rw [e]; simpa using Si, by omega, x, by simpa using hl, by omega, ?_⟩
       suffices H3 : ∀ σ2, AR .u32 σ2 p n c (ys.set (j + 1) y) → Ext (σ'.del p) (σ2.del p) → ((0 : Int) ≤ ((j + 1 : Nat) : Int) - 1 ∧ ((j + 1 : Nat) : Int) - 1 < ((n : Nat) : Int)) ∧ AJ prog (Instr.storeAt 70 (.pointer (some ⟨b, (o + Int.toNat (((j + 1 : Nat) : Int) - 1) * 1), none⟩)) (.int .u32 x)) σ2 (fun _ A0 => AN (((j + 1 : Nat) : Int) - 1) ∧ AL.GR R (some ⟨b, o, none⟩) n c 0 n i (((j + 1 : Nat) : Int) - 1) A0) by
         obtain ⟨b1, o1, hp1, lq⟩ := AR.Yw AY (P := prog) (T := 70) (i := j + 1) (v := y) (by omega) ll H3
         rw [hp] at hp1; cases hp1
         simpa [In] using lq
       intro σ2 Ob Ay
       refine ⟨by omega, ?_⟩
       suffices H4 : ∀ σ3, AR .u32 σ3 p n c ((ys.set (j + 1) y).set j x) → Ext (σ2.del p) (σ3.del p) → AN (((j + 1 : Nat) : Int) - 1) ∧ AL.GR R (some ⟨b, o, none⟩) n c 0 n i (((j + 1 : Nat) : Int) - 1) σ3 by
         obtain ⟨b3, o3, nz, AEv⟩ := AR.Yw Ob (P := prog) (T := 70) (i := j) (v := x) (by omega) ll H4
         rw [hp] at nz; cases nz
         rw [e]; simpa [e] using AEv
       intro σ3 TS C6
       have dummy : True := trivial
       · · refine ⟨by unfold AN; omega, ?_⟩
           rw [e, show (some (⟨b, o, none⟩ : Addr)) = p from hp.symm]
           have hq3 : ∀ z ∈ (ys.set (j + 1) y).set j x, Q z := fun z hz => by
             rcases List.mem_or_eq_of_mem_set hz with hz | rfl
             · rcases List.mem_or_eq_of_mem_set hz with hz | rfl
               · exact hq z hz
               · exact hq z (List.mem_of_getElem? hyv)
             · exact hq z (List.mem_of_getElem? hxv)
           refine ihj σ3 _ hq3 (by omega) TS ((hx.trans Ay).trans C6) ?_
           intro a b' u v fz hbi Ae hu hv
           rw [List.getElem?_set, List.getElem?_set] at hu hv
           simp only [List.length_set] at hu hv
           have fact := fun a b u v h1 h2 h3 h4 h5 => hs a b u v h1 h2 h3 h4 h5
           by_cases O4 : b' = j + 1
           · subst O4
             rw [if_neg (by omega), if_pos rfl, if_pos (by omega)] at hv
             cases hv
             by_cases ha : a = j
             · subst ha
               rw [if_pos rfl, if_pos (by omega)] at hu
               cases hu; omega
             · rw [if_neg (by omega), if_neg (by omega)] at hu
               exact fact a j u y (by omega) (by omega) (by omega) hu hyv
           · rw [if_neg (by omega), if_neg (by omega)] at hv
             by_cases ha : a = j
             · subst ha
               rw [if_pos rfl, if_pos (by omega)] at hu
               cases hu
               exact fact (a + 1) b' x v (by omega) (by omega) (by omega) hxv hv
             · rw [if_neg (by omega)] at hu
               by_cases ha1 : a = j + 1
               · subst ha1
                 rw [if_pos rfl, if_pos (by omega)] at hu
                 cases hu
                 exact fact j b' y v (by omega) (by omega) (by omega) hyv hv
               · rw [if_neg (by omega)] at hu
                 exact fact a b' u v fz (by omega) (by omega) hu hv
end TwW
end
section
namespace TwW
open Go Tw Go.Proofs.Tryz
theorem lr {R : Rr} {σ : Hp} {p : Option Addr} {n c : Nat} {xs : List Int} (hr : B9 .u8 σ p n xs) (h : ∀ x, 0 ≤ x ∧ x < 4294967296 → R (.returned (.int .u32 x)) σ) : Spec prog 56 #[.slice p n c] σ R := by
 refine Dx.start ?_
 suffices H : ∀ d k : Nat, ∀ x : Int, 0 ≤ x ∧ x < 4294967296 → n - k = d → k ≤ n → Dx.A4 R x p n c n k σ from H n 0 _ (by decide) rfl (by omega)
 intro d
 induction d with
 | zero =>
   intro k x hx hd hk
   exact Dx.AW ⟨fun Ag => by omega, fun _ => h x hx⟩
 | succ d ih =>
   intro k x hx hd hk
   refine Dx.AW ⟨fun Ag => ?_, fun FB => by omega⟩
   obtain ⟨y, hy⟩ := hr.ex (k := k) (by omega)
   obtain ⟨b, o, rfl, hl⟩ := hr.at hy
   exact ⟨b, o, rfl, by omega, y, by simpa using hl, fun _ _ _ _ Hi qb => ⟨Aa (by omega) hr.big, ih (k + 1) Hi (by rw [qb]; simp [IntKind.wrap, IntKind.bits, IntKind.signed]; omega) (by omega) (by omega)⟩⟩
end TwW
end
section
set_option maxRecDepth 100000
noncomputable section
namespace TwW
open Go Tw Go.Proofs.Tryz
variable [Iq] {R : Rr} {σ : Hp}

namespace B3
def K0 := f305.body.getD .skip
def K1 := cl K0
def K2 := cr K0
def K3 := cl K2
def K4 := cr K2
def K5 := cl K4
def K6 := cl K5
def K7 := cl K6
def K8 := cl K7
def K9 := cr K7
def Lm := cl K9
def Ss := cl Lm
def MM := cr Lm
def QC := cl MM
def ZV := cl QC
def eb := cr QC
def Su := cr MM
def N5 := cr K9
def YL := cl N5
def UO := cl YL
def Sv := cr YL
def iI := cl Sv
def bz := cl iI
def YM := cr iI
def ed := cr Sv
def WG := cr N5
def WH := cl WG
def WI := cl WH
def WJ := cr WH
def WK := cl WJ
def jj := cl WK
def iJ := cr WK
def YO := cr WJ
def cA := cr WG
def iK := cl cA
def iL := cr cA
abbrev gl (R : Rr) : Gl := Gl.fn prog 305 134 R
def NY (R : Rr) (p0 : Option Addr) (n0 c0 : Nat) (x1 x2 x3 : Int) (t8 t9 : Bool) (σ : Hp) : Prop := ∀ (J : Env), At (gl R) [.code K8, .code K9, .inBlock 1, .inLoop K6, .inBlock 0] (Gg J [(0, (.slice p0 n0 c0)), (1, (.int .i64 x1)), (2, (.int .i64 x2)), (3, (.int .i64 x3)), (8, (.bool t8)), (9, (.bool t9))]) [] σ
def QE (R : Rr) (p0 : Option Addr) (n0 c0 : Nat) (x1 x2 x3 : Int) (t8 t9 : Bool) (Db : Int) (σ : Hp) : Prop := ∀ (J : Env), At (gl R) [.code iK, .code iL, .inBlock 1, .inLoop K6, .inBlock 0] (Gg J [(0, (.slice p0 n0 c0)), (1, (.int .i64 x1)), (2, (.int .i64 x2)), (3, (.int .i64 x3)), (8, (.bool t8)), (9, (.bool t9)), (10, (.int .i64 Db))]) [] σ
theorem start {R : Rr} {p0 : Option Addr} {n0 c0 : Nat} {x1 x2 x3 : Int} {σ : Hp} (h : NY R p0 n0 c0 x1 x2 x3 true true σ) : Spec prog 305 #[(.slice p0 n0 c0), (.int .i64 x1), (.int .i64 x2), (.int .i64 x3)] σ R := by
 refine Spec.Js (fn := f305) (c := K0) func305 (by kernel_rfl) (Nat.le_of_ble_eq_true (by kernel_rfl)) (fun e he => ?_)
 refine At.oO (l := [(0, (.slice p0 n0 c0)), (1, (.int .i64 x1)), (2, (.int .i64 x2)), (3, (.int .i64 x3))]) ⟨he 0, he 1, he 2, he 3, trivial⟩ (fun J => ?_)
 show At (gl R) _ _ _ _
 refine At.s K1 K2 ?_
 refine At.rg 0 [0] ?_
 refine Seq.u 8 (.bool true) (Seq.done ?_)
 refine At.s K3 K4 ?_
 refine At.rg 1 [0] ?_
 refine Seq.u 9 (.bool true) (Seq.done ?_)
 refine At.b 0 K5 ?_
 refine At.loop (x := K6) (by kernel_rfl) ?_
 refine At.b 1 K7 ?_
 refine At.s K8 K9 ?_
 exact At.v [(0, (.slice p0 n0 c0)), (1, (.int .i64 x1)), (2, (.int .i64 x2)), (3, (.int .i64 x3)), (8, (.bool true)), (9, (.bool true))] (h _)
theorem D7 {R : Rr} {p0 : Option Addr} {n0 c0 : Nat} {x1 x2 x3 : Int} {t8 t9 : Bool} {σ : Hp} (h : AN (x2 - x1) ∧ (((x2 - x1) : Int) ≤ 12 → Spec prog 322 #[(.slice p0 n0 c0), (.int .i64 x1), (.int .i64 x2)] σ (AB R (fun v σ1 => v = (.tuple #[]) ∧ R (.returned (.tuple #[])) σ1))) ∧ (¬ (((x2 - x1) : Int) ≤ 12) → ((x3 : Int) = 0 → Spec prog 323 #[(.slice p0 n0 c0), (.int .i64 x1), (.int .i64 x2)] σ (AB R (fun v σ1 => v = (.tuple #[]) ∧ R (.returned (.tuple #[])) σ1))) ∧ (¬ ((x3 : Int) = 0) → (t8 = false → Spec prog 324 #[(.slice p0 n0 c0), (.int .i64 x1), (.int .i64 x2)] σ (AB R (fun v σ1 => v = (.tuple #[]) ∧ AN (x3 - 1) ∧ QE R p0 n0 c0 x1 x2 ((x3 - 1)) t8 t9 ((x2 - x1)) σ1))) ∧ (t8 = true → QE R p0 n0 c0 x1 x2 x3 t8 t9 ((x2 - x1)) σ)))) : NY R p0 n0 c0 x1 x2 x3 t8 t9 σ := by
 intro J
 show At (gl R) _ _ _ _
 refine At.rg 2 [0, 1, 2, 3] ?_
 refine Seq.us [(19, .int .i64 x2), (20, .int .i64 x1)] ?_
 obtain ⟨hi, h⟩ := h
 refine Seq.z 21 (.binOp .sub 3 (.tmp 19) (.tmp 20) 3) 3 (.int .i64 (x2 - x1)) (Y.oK hi rfl rfl) ?_
 refine Seq.u 10 (.int .i64 (x2 - x1)) (Seq.done ?_)
 refine At.s Lm N5 (At.s Ss MM ?_)
 refine At.rg 3 [0, 1] ?_
 refine Seq.us [(22, .int .i64 (x2 - x1)), (23, .bool (decide (((x2 - x1) : Int) ≤ 12)))] (Seq.done ?_)
 cases hb : (decide (((x2 - x1) : Int) ≤ 12)) with
 | true =>
  replace h := h.1 (of_decide_eq_true hb)
  refine At.cT 23 QC Su ?_
  refine At.s ZV eb ?_
  refine At.rg 4 [0, 1, 2, 3] ?_
  refine Seq.us [(24, .slice p0 n0 c0), (25, .int .i64 x1), (26, .int .i64 x2)] ?_
  refine Seq.o ?_
  refine AV.cl (some 27) call322 (h.cont fun v σ1 h2 => ?_); replace h := h2; clear h2
  obtain ⟨rfl, h⟩ := h
  refine Seq.done ?_
  exact At.rt [] [] func305 rfl h
 | false =>
  replace h := h.2 (of_decide_eq_false hb)
  refine At.cF 23 QC Su ?_
  refine At.skip ?_
  refine At.s YL WG (At.s UO Sv ?_)
  refine At.rg 5 [0, 1] ?_
  refine Seq.us [(28, .int .i64 x3), (29, .bool (decide ((x3 : Int) = 0)))] (Seq.done ?_)
  cases hb : (decide ((x3 : Int) = 0)) with
  | true =>
   replace h := h.1 (of_decide_eq_true hb)
   refine At.cT 29 iI ed ?_
   refine At.s bz YM ?_
   refine At.rg 6 [0, 1, 2, 3] ?_
   refine Seq.us [(30, .slice p0 n0 c0), (31, .int .i64 x1), (32, .int .i64 x2)] ?_
   refine Seq.o ?_
   refine AV.cl (some 33) call323 (h.cont fun v σ1 h2 => ?_); replace h := h2; clear h2
   obtain ⟨rfl, h⟩ := h
   refine Seq.done ?_
   exact At.rt [] [] func305 rfl h
  | false =>
   replace h := h.2 (of_decide_eq_false hb)
   refine At.cF 29 iI ed ?_
   refine At.skip ?_
   refine At.s WH cA (At.s WI WJ ?_)
   refine At.rg 7 [0, 1] ?_
   refine Seq.us [(34, .bool t8), (35, .bool (!t8))] (Seq.done ?_)
   cases hb : (!t8) with
   | true =>
    replace h := h.1 (Tw.nt hb)
    refine At.cT 35 WK YO ?_
    refine At.s jj iJ ?_
    refine At.rg 8 [0, 1, 2, 3] ?_
    refine Seq.us [(36, .slice p0 n0 c0), (37, .int .i64 x1), (38, .int .i64 x2)] ?_
    refine Seq.o ?_
    refine AV.cl (some 39) call324 (h.cont fun v σ1 h2 => ?_); replace h := h2; clear h2
    obtain ⟨rfl, h⟩ := h
    refine Seq.done ?_
    refine At.rg 9 [0, 1, 2] ?_
    refine Seq.u 40 (.int .i64 x3) ?_
    obtain ⟨hi, h⟩ := h
    refine Seq.z 41 (.binOp .sub 3 (.tmp 40) (.const (.int .i64 1)) 3) 3 (.int .i64 (x3 - 1)) (Y.oK hi rfl rfl) ?_
    refine Seq.u 3 (.int .i64 (x3 - 1)) (Seq.done ?_)
    refine At.s iK iL ?_
    exact At.v [(0, (.slice p0 n0 c0)), (1, (.int .i64 x1)), (2, (.int .i64 x2)), (3, (.int .i64 (x3 - 1))), (8, (.bool t8)), (9, (.bool t9)), (10, (.int .i64 (x2 - x1)))] (h _)
   | false =>
    replace h := h.2 (Tw.nf hb)
    refine At.cF 35 WK YO ?_
    refine At.skip ?_
    refine At.s iK iL ?_
    exact At.v [(0, (.slice p0 n0 c0)), (1, (.int .i64 x1)), (2, (.int .i64 x2)), (3, (.int .i64 x3)), (8, (.bool t8)), (9, (.bool t9)), (10, (.int .i64 (x2 - x1)))] (h _)
end B3
end TwW
end
end
section
namespace TwW
open Go Tw Go.Proofs.Tryz
set_option maxRecDepth 100000 in
theorem lu {R : Rr} {σ : Hp} {n : Nat} (hn : n < 256) (h : ∀ x, R (.returned (.int .i64 x)) σ) : Spec prog 113 #[.int .u64 n] σ R := by
 refine LU.start (DP.start ⟨fun h1 => by omega, fun _ => DP.Fb ⟨fun h1 => by omega, fun _ => DP.I5 ⟨fun h1 => by omega, fun _ => DP.qD fun x hx => ?_⟩⟩⟩)
 have : x = (n : Int) := by rw [hx]; simp [IntKind.wrap, IntKind.bits, IntKind.signed]; omega
 subst this
 refine ⟨_, by omega, Array.getElem?_eq_getElem (by show Int.toNat (n : Int) < 256; omega), fun Sp rM => ⟨?_, _, rfl, h _⟩⟩
 generalize hu : UInt8.toNat _ = u at rM
 have hu2 : u < 256 := by rw [← hu]; exact UInt8.toNat_lt _
 rw [rM, IntKind.wrap_i64]
 unfold AN
 omega
theorem gS {R : Rr} {σ : Hp} {p : Option Addr} {n c : Nat} {xs : List Int} {Q : Int → Prop} (hQ : ∀ x ∈ xs, Q x) (ho : AR .u32 σ p n c xs) (hn : n ≤ 12)
   (h : ∀ σ' ys, (∀ y ∈ ys, Q y) → AR .u32 σ' p n c ys → Ext (σ.del p) (σ'.del p) → Asc ys n (fun _ => True) → R (.returned (.tuple #[])) σ') : Spec prog 264 #[.slice p n c] σ R := by
 refine G2.start fun x8 O2 => ?_
 have : x8 = (n : Int) := by rw [O2]; simp [IntKind.wrap, IntKind.bits, IntKind.signed]; omega
 subst this
 refine lu (by omega) fun x => ⟨x, rfl, B3.start (B3.D7 ⟨by unfold AN; omega, fun _ => ?_, fun hgt => by omega⟩)⟩
 refine Q2 hQ ho fun σ' ys h0 h1 h2 h3 => ⟨rfl, rfl, h σ' ys h0 h1 h2 h3⟩
theorem lv {xs : List Int} (h : EM xs) {a b : Nat} {x y : Int} (fz : a < b) (hx : xs[a]? = some x) (hy : xs[b]? = some y) : x < y := by
 unfold EM at h
 have := (List.pairwise_iff_getElem (R := ((· < ·) : Int → Int → Prop))).1 h a b (List.getElem?_eq_some_iff.1 hx).1 (List.getElem?_eq_some_iff.1 hy).1 fz
 rwa [(List.getElem?_eq_some_iff.1 hx).2, (List.getElem?_eq_some_iff.1 hy).2] at this
theorem yc : ∀ z w, (zeroValue 70).run prog w = .ok z w → CR z.cells.toList := fun z w h => by
 rw [show (zeroValue 70).run prog w = _ from Go.Proofs.Tryz.zeroValue70 w] at h
 cases h
 intro u hu
 simp [Value.cells] at hu
 subst hu; rfl
theorem U6 {R : Rr} {σ : Hp} {p : Option Addr} {n c : Nat} {xs : List Int} {Q : Int → Prop} (hQ : ∀ x ∈ xs, Q x) (ho : AR .u32 σ p n c xs) (hs : Asc xs n (fun _ => True)) (ub : 0 < n)
   (h : ∀ σ' m ys, (∀ y ∈ ys, Q y) → AR .u32 σ' p m c ys → Ext (σ.del p) (σ'.del p) → EM ys → 0 < m → m ≤ n → R (.returned (.slice p m c)) σ') : Spec prog 265 #[.slice p n c] σ R := by
 have hb := ho.rd.big
 have Rg := ho.rd.1
 refine Ab.start ⟨fun Ag => h σ n xs hQ ho (Ext.refl _) (JG (by omega)) ub (Nat.le_refl _), fun FB => ?_⟩
 suffices H : ∀ d k : Nat, n - k = d → 0 < k → k ≤ n → EM (xs.take k) → Ab.Am R p n c k σ from H (n - 1) 1 rfl (by omega) (by omega) (JG (by simp; omega))
 intro d
 induction d with
 | zero =>
   intro k hd hk Pd VW
   refine Ab.BB ⟨fun Ag => by omega, fun _ => h σ n xs hQ ho (Ext.refl _) ?_ ub (Nat.le_refl _)⟩
   rwa [List.take_of_length_le (by omega)] at VW
 | succ d ih =>
   intro k hd hk Pd VW
   refine Ab.BB ⟨fun Ag => ?_, fun FB => by omega⟩
   have DK : k < n := by omega
   obtain ⟨x, hx⟩ := ho.rd.ex DK
   obtain ⟨y, hy⟩ := ho.rd.ex (k := k - 1) (by omega)
   obtain ⟨b, o, hp, hl⟩ := ho.rd.at hx
   obtain ⟨b', o', he, Si⟩ := ho.rd.at hy
   rw [hp] at he; cases he
   have e : ((k : Int) - 1) = ((k - 1 : Nat) : Int) := by omega
   have hyx : y ≤ x := hs (k - 1) k y x (by omega) DK trivial hy hx
   refine ⟨b, o, hp, by omega, x, by simpa using hl, by unfold AN; omega, by omega, y, by rw [e]; simpa using Si, fun heq => ⟨by omega, ?_⟩, fun Ae => ⟨Aa DK hb, by rw [MI hp]; exact ih (k + 1) (by omega) (by omega) (by omega) (Ke hk hy hx VW (by omega))⟩⟩
   rw [MI hp]
   have xv : n ≤ c := ho.room.1
   suffices H2 : ∀ d2 i j : Nat, ∀ σ' zs, (∀ z ∈ zs, Q z) → n - i = d2 → i ≤ n → 0 < j → j < i → k < i → AR .u32 σ' p n c zs → Ext (σ.del p) (σ'.del p) → (∀ a, i ≤ a + 1 → zs[a]? = xs[a]?) → EM (zs.take j) → zs[j - 1]? = xs[i - 1]? →
       Ab.WU R p n c j (Dp p k c 1) (n - k) (c - k) ((i - k : Nat) : Int) σ' by
     have := H2 (n - (k + 1)) (k + 1) k σ xs hQ rfl (by omega) hk (by omega) (by omega) ho (Ext.refl _) (fun _ _ => rfl) VW (by rw [hy, show k + 1 - 1 = k by omega, hx]; simp; omega)
     simpa using this
   intro d2
   induction d2 with
   | zero =>
     intro i j σ' zs yd Rz Ck hj0 YI hki AY fV hag hrj Ja
     refine Ab.JA ⟨fun Ag => by omega, fun _ => ⟨by omega, ?_⟩⟩
     obtain ⟨_, L, hC, hL⟩ := AY.room
     refine dx (s := 1) (j := j) (L := L) (by simpa using hC) (by simp; omega) yc fun σ2 ws hws ye Ay => ⟨by omega, ?_⟩
     refine h σ2 j (zs.take j) (fun z hz => yd z (List.mem_of_mem_take hz)) ?_ (fV.trans Ay) hrj hj0 (by omega)
     have := ye.own (n := j) (by omega) (by omega)
     have hLl : L.length = c * 1 := hC.1
     suffices he : List.take (j * 1) (over L (j * 1) ws) = (zs.take j).map (.int .u32) by
       show Own 1 σ2 p j c ((zs.take j).map (.int .u32))
       rw [← he]; exact this
     unfold over
     rw [List.append_assoc, List.take_append_of_le_length (by simp; omega), List.take_take, Nat.min_self]
     rw [List.map_take, ← hL, List.take_take, Nat.mul_one, Nat.mul_one, Nat.min_eq_left (by omega)]
   | succ d2 rN =>
     intro i j σ' zs yd Rz Ck hj0 YI hki AY fV hag hrj Ja
     have hzl := AY.rd.1
     refine Ab.JA ⟨fun Ag => ?_, fun FB => by omega⟩
     have HI : i < n := by omega
     obtain ⟨u, hu⟩ := AY.rd.ex HI
     obtain ⟨v, hv⟩ := AY.rd.ex (k := i - 1) (by omega)
     obtain ⟨b1, o1, rO, SH⟩ := AY.rd.at hu
     obtain ⟨b2, o2, W8, R1⟩ := AY.rd.at hv
     rw [hp] at rO W8; cases rO; cases W8
     have huo : xs[i]? = some u := by rw [← hag i (by omega)]; exact hu
     have hvo : xs[i - 1]? = some v := by rw [← hag (i - 1) (by omega)]; exact hv
     have hvu : v ≤ u := hs (i - 1) i v u (by omega) HI trivial hvo huo
     have dM : Dp p k c 1 = some ⟨b, o + k, none⟩ := by rw [hp]; simp [Dp, show c ≠ k by omega, MC]
     have e1 : o + k + (i - k) = o + i := by omega
     have e2 : ((i - k : Nat) : Int) - 1 = ((i - 1 - k : Nat) : Int) := by omega
     have e3 : o + k + (i - 1 - k) = o + (i - 1) := by omega
     have qu : Hp.ld σ' ⟨b, o + k + Int.toNat ((i - k : Nat) : Int) * 1, none⟩ = some (.int .u32 u) := by
       rw [Int.toNat_natCast, Nat.mul_one, e1]; simpa using SH
     have hlv : Hp.ld σ' ⟨b, o + k + Int.toNat (((i - k : Nat) : Int) - 1) * 1, none⟩ = some (.int .u32 v) := by
       rw [e2, Int.toNat_natCast, Nat.mul_one, e3]; simpa using R1
     refine ⟨b, o + k, dM, by omega, u, qu, by unfold AN; omega, by omega, v, hlv, fun Ae => ⟨by omega, u, qu, b, o, hp, by omega, ?_⟩, fun heq => Ab.cV ⟨by unfold AN; omega, ?_⟩⟩
     · suffices H3 : ∀ σ2, AR .u32 σ2 p n c (zs.set j u) → Ext (σ'.del p) (σ2.del p) → AN ((j : Int) + 1) ∧ Ab.pS R (some ⟨b, o, none⟩) n c ((j : Int) + 1) (some ⟨b, o + k, none⟩) (n - k) (c - k) ((i - k : Nat) : Int) σ2 by
         obtain ⟨b3, o3, nz, lq⟩ := AR.Yw AY (P := prog) (T := 70) (i := j) (v := u) (by omega) ll H3
         rw [hp] at nz; cases nz
         simpa using lq
       intro σ2 Ob Ay
       refine ⟨by unfold AN; omega, Ab.cV ⟨by unfold AN; omega, ?_⟩⟩
       rw [← hp, ← dM]
       have ALG : ∀ z ∈ zs.set j u, Q z := fun z hz => by
         rcases List.mem_or_eq_of_mem_set hz with hz | rfl
         · exact yd z hz
         · exact yd z (List.mem_of_getElem? hu)
       have := rN (i + 1) (j + 1) σ2 (zs.set j u) ALG (by omega) (by omega) (by omega) (by omega) (by omega) Ob (fV.trans Ay) (fun a ha => by rw [List.getElem?_set_ne (by omega)]; exact hag a (by omega)) ?_ ?_
       · have e4 : ((i + 1 - k : Nat) : Int) = ((i - k : Nat) : Int) + 1 := by omega
         rw [e4] at this; exact this
       · have hvj : (zs.set j u)[j - 1]? = some v := by rw [List.getElem?_set_ne (by omega), Ja, hvo]
         have huj : (zs.set j u)[j]? = some u := by rw [List.getElem?_set_self (by omega)]
         refine Ke hj0 hvj huj ?_ (by omega)
         rw [List.take_set_of_le (by omega)]; exact hrj
       · rw [show j + 1 - 1 = j by omega, show i + 1 - 1 = i by omega, List.getElem?_set_self (by omega), huo]
     · rw [MI dM]
       have := rN (i + 1) j σ' zs yd (by omega) (by omega) hj0 (by omega) (by omega) AY fV (fun a ha => hag a (by omega)) hrj (by rw [Ja, hvo, show i + 1 - 1 = i by omega, huo]; simp; omega)
       have e4 : ((i + 1 - k : Nat) : Int) = ((i - k : Nat) : Int) + 1 := by omega
       rw [e4] at this; exact this
end TwW
end
section
namespace TwW
open Go Tw Go.Proofs.Tryz
theorem Ext.lx {σ σ1 σ2 : Hp} {p : Option Addr} (h0 : Ext σ σ1) (hp : ∀ a, p = some a → σ a.block = none) (hx : Ext (σ1.del p) (σ2.del p)) : Ext σ σ2 := fun b o hb => by
 have h1 := h0 b o hb
 exact (A9.1 (hx b o (A9.2 ⟨fun a ha he => (by rw [he, hp a ha] at hb; cases hb), h1⟩))).2
theorem Xb {R : Rr} {σ : Hp} {x : Nat} (hx : x < 16)
   (h : ∀ p n c σ' ys, (∀ y ∈ ys, 0 ≤ y ∧ y < 4294967296) → B9 .u32 (σ.new σ') p n ys → Ext σ σ' → EM ys → 0 < n → n ≤ 4 → R (.returned (.slice p n c)) σ') : Spec prog 189 #[.int .i64 x] σ R := by
 refine Ft.start ?_
 suffices H : ∀ d k : Nat, ∀ p c σ' ys, (∀ y ∈ ys, 0 ≤ y ∧ y < 4294967296) → 4 - k = d → k ≤ 4 → Ext σ σ' → AR .u32 (σ.new σ') p k c ys → Ft.Bu R x p k c k σ' from H 4 0 none 0 σ [] (by simp) rfl (by omega) (.refl σ) AR.nil
 intro d
 induction d with
 | zero =>
   intro k p c σ' ys hq hd hk Di AY
   have hk4 : k = 4 := by omega
   subst hk4
   refine Ft.BF ⟨fun Ag => by omega, fun _ => ?_⟩
   have oQ := AY.De
   refine gS hq (Own.mono (Ext.Af σ σ') AY) (by omega) fun σ2 zs yd Ob Ay ALH => ⟨rfl, ?_⟩
   refine U6 yd Ob ALH (by omega) fun σ3 m ws hqw TS C6 VW hm hm4 => ⟨_, _, _, rfl, h _ _ _ _ ws hqw (AR.rd (Own.CC TS oQ)) ?_ VW hm hm4⟩
   exact Ext.lx Di oQ (Ay.trans C6)
 | succ d ih =>
   intro k p c σ' ys hq hd hk Di AY
   refine Ft.BF ⟨fun _ Eb ALI => ?_, fun FB => by omega⟩
   have oA : Eb = (x : Int) := by rw [ALI]; simp [IntKind.wrap, IntKind.bits, IntKind.signed]; omega
   subst oA
   have Z7 : B9 .u8 σ' none 0 [] := Fi.nil
   refine DF Z7 (by omega) (by omega) fun p1 n1 c1 σ1 Fm rO => ⟨_, _, _, rfl, ?_⟩
   have SH := Fm.rd.1
   have := BV (x := x) (by omega)
   simp only [List.nil_append] at SH
   refine DF (Fm.rd.mono (Ext.Af _ _)) (by omega) (by omega) fun p2 n2 c2 σ2 Bt W8 => ⟨_, _, _, rfl, ?_⟩
   refine lr (Bt.rd.mono (Ext.Af _ _)) fun t ht => ⟨t, rfl, fun KY lj => ?_⟩
   refine AR.H7 ((Di.trans rO).trans W8) (Own.mono (Ext.BN (rO.trans W8)) AY) (by omega) (fun p3 c3 σ3 Dq he3 _ => ⟨_, _, _, rfl, fun x8 O2 => ?_⟩) lj
   have h8 : x8 = ((k + 1 : Nat) : Int) := by rw [O2]; simp [IntKind.wrap, IntKind.bits, IntKind.signed]; omega
   subst h8
   exact ih (k + 1) p3 c3 σ3 _ (fun y hy => by
     rcases List.mem_append.1 hy with hy | hy
     · exact hq y hy
     · simp at hy; subst hy; exact ht) (by omega) (by omega) he3 Dq
end TwW
end
section
namespace TwW
open Go Tw Go.Proofs.Tryz
theorem EA.one (σ : Hp) (vs : List Value) (m : Mem) (h : EA σ vs m) : CR vs := by
 obtain ⟨p, n, c, rfl, _⟩ := h
 exact Qw
theorem ly {L vs : List Value} {i n : Nat} (hl : (n + 1) * 3 ≤ L.length) (hi : i ≤ n) (hv : vs.length = 3) :
   List.take ((n + 1) * 3) (over (over L ((i + 1) * 3) ((L.take (n * 3)).drop (i * 3))) (i * 3) vs) = (L.take (n * 3)).take (i * 3) ++ vs ++ (L.take (n * 3)).drop (i * 3) := by
 have hd : ((L.take (n * 3)).drop (i * 3)).length = n * 3 - i * 3 := by simp; omega
 refine List.ext_getElem? fun k => ?_
 unfold over
 rw [List.getElem?_take, List.take_take, Nat.min_eq_left (by omega)]
 have ht : ∀ M : List Value, (n + 1) * 3 ≤ M.length → (M.take (i * 3)).length = i * 3 := fun M h => by rw [List.length_take]; omega
 have hM : (List.take ((i + 1) * 3) L ++ List.drop (i * 3) (List.take (n * 3) L) ++ List.drop ((i + 1) * 3 + (List.drop (i * 3) (List.take (n * 3) L)).length) L).length = L.length := by
   simp only [List.length_append, List.length_take, List.length_drop]; omega
 by_cases hk : k < (n + 1) * 3
 · rw [if_pos hk]
   by_cases h1 : k < i * 3
   · rw [List.append_assoc, List.getElem?_append_left (by rw [ht _ (by omega)]; omega), List.getElem?_take, if_pos h1, List.append_assoc, List.getElem?_append_left (by rw [List.length_take]; omega), List.getElem?_take, if_pos (by omega),
       List.append_assoc, List.getElem?_append_left (by rw [List.length_take]; omega), List.getElem?_take, if_pos h1]
   · by_cases h2 : k < i * 3 + 3
     · rw [List.append_assoc, List.getElem?_append_right (by rw [ht _ (by omega)]; omega), ht _ (by omega), List.getElem?_append_left (by omega),
         List.append_assoc, List.getElem?_append_right (by rw [List.length_take]; omega), List.length_take, Nat.min_eq_left (by omega), List.getElem?_append_left (by omega)]
     · rw [List.getElem?_append_right (by rw [List.length_append, ht _ (by omega)]; omega), List.length_append, ht _ (by omega), hv, List.getElem?_drop, show i * 3 + 3 + (k - (i * 3 + 3)) = k by omega,
         List.append_assoc, List.getElem?_append_right (by rw [List.length_take]; omega), List.length_take, Nat.min_eq_left (by omega), List.getElem?_append_left (by omega),
         List.getElem?_append_right (by rw [List.length_append, List.length_take]; omega), List.length_append, List.length_take, Nat.min_eq_left (by omega), hv, show (i + 1) * 3 = i * 3 + 3 by omega]
 · rw [if_neg hk, eq_comm, List.getElem?_eq_none]
   simp only [List.length_append, List.length_take, List.length_drop]; omega
end TwW
namespace TwW
open Go Tw Go.Proofs.Tryz
theorem yf (args : Array Value) (w : World) : (callFunc 262 args).run prog w = ((Extern.SlicesOverlaps.overlaps #[39, 39] #[4] args).run prog w).andThen (fun v w => .ok (.value v) w) :=
 run_callFunc_extern Go.Proofs.Tryz.func262 (by kernel_rfl) (by kernel_rfl) (by kernel_rfl) (e := Extern.SlicesOverlaps.overlaps #[39, 39] #[4]) (by kernel_rfl) args w
theorem gT {L cs vs rest : List Value} {i n : Nat} (hl : (n + 1) * 3 ≤ L.length) (hi : i ≤ n) (hv : vs.length = 3) (hc : L.take (i * 3) = cs) (hr : rest.length = (n - i) * 3) :
   List.take ((n + 1) * 3) (over (over L (i * 3) vs) ((i + 1) * 3) rest) = cs ++ vs ++ rest := by
 have jX : cs.length = i * 3 := by rw [← hc, List.length_take]; omega
 have h1 : (over L (i * 3) vs).length = L.length := Ny (by omega)
 have h2 : List.take ((i + 1) * 3) (over L (i * 3) vs) = cs ++ vs := by
   unfold over
   rw [hc, List.take_append_of_le_length (by rw [List.length_append]; omega), List.take_of_length_le (by rw [List.length_append]; omega)]
 generalize over L (i * 3) vs = M at *
 unfold over
 rw [h2, List.take_append_of_le_length (by simp only [List.length_append]; omega), List.take_of_length_le (by simp only [List.length_append]; omega)]
theorem Xc {R : Rr} {σ : Hp} {p : Option Addr} {n c i bv : Nat} {ms : List Mem} {vs : List Value} {Tv : TypeId} {x : Mem} (ho : Jm σ p n c ms) (hi : i ≤ n) (hn : n ≤ 1048576)
   (hv : σ bv = some (.cells vs.toArray Tv (0, 0))) (hpv : ∀ a, p = some a → a.block ≠ bv) (he : EA (σ.del p) vs x)
   (h : ∀ p' c' σ', Jm σ' p' (n + 1) c' (ms.take i ++ [x] ++ ms.drop i) → Ext (σ.del p) (σ'.del p') → R (.returned (.slice p' (n + 1) c')) σ') :
   Spec prog 188 #[.slice p n c, .int .i64 i, .slice (some ⟨bv, 0, none⟩) 1 1] σ R := by
 obtain ⟨hlen, cs, AY, ud⟩ := ho
 obtain ⟨iE, L, hC, hL⟩ := AY.room
 have hb := AY.2.1
 have jX := AY.1
 have hLl := hC.1
 have hvl : vs.length = 3 := by obtain ⟨q, k, c, rfl, _⟩ := he; rfl
 have hv1 : CR vs := EA.one _ _ _ he
 have hvr : ∀ σ' : Hp, σ' bv = some (.cells vs.toArray Tv (0, 0)) → GP 3 σ' (some ⟨bv, 0, none⟩) 1 vs := fun σ' h => ⟨by rw [hvl], by omega, .inr ⟨bv, 0, rfl, Dn.of fun j v hj => by simp [Hp.ld, h, hj]⟩⟩
 have hvd : (σ.del p) bv = some (.cells vs.toArray Tv (0, 0)) := A9.2 ⟨fun a ha he => hpv a ha he.symm, hv⟩
 have fin : ∀ p' c' σ' cells, Own 3 σ' p' (n + 1) c' cells → cells = cs.take (i * 3) ++ vs ++ cs.drop (i * 3) → Ext (σ.del p) (σ'.del p') → R (.returned (.slice p' (n + 1) c')) σ' := by
   rintro p' c' σ' _ lz rfl hx
   refine h p' c' σ' ⟨by simp only [List.length_append, List.length_take, List.length_drop, List.length_singleton]; omega, _, lz, ?_⟩ hx
   exact (((ud.take i).append (Ch.one hvl he)).append (ud.drop i)).mono EA.mono hx
 refine Fu.start ⟨by omega, fun h0 => by omega, fun _ => ⟨fun dz => ?_, fun vN => ⟨by unfold AN; omega, fun DX => ?_, fun DX => ?_⟩⟩⟩
 · -- at the end
   have Ck : i = n := by omega
   refine Dr AY (hvr σ hv) hv1 (by omega) fun p' c' σ' Em Ci => ⟨p', n + 1, c', rfl, fin p' c' σ' _ Em ?_ Ci⟩
   rw [Ck, ← jX, List.take_length, List.drop_length, List.append_nil]
 · -- no room
   refine ⟨by omega, by unfold AN; omega, by unfold AN; omega, ?_⟩
   have e1 : (((n : Nat) : Int) + ((1 : Nat) : Int)) - (i : Int) = ((n + 1 - i : Nat) : Int) := by omega
   have e2 : (((n : Nat) : Int) + 1) - (i : Int) = ((n + 1 - i : Nat) : Int) := by omega
   simp only [Int.toNat_natCast, e1, e2]
   refine Tz Go.Proofs.Tryz.underlying3 (AY.take hi) (by omega) (by omega) fun p' c' L' σ1 hC1 fi hL1 BM SE hf => ?_
   have Ck : i + (n + 1 - i) = n + 1 := by omega
   rw [Ck] at fi ⊢
   refine ⟨p', n + 1, c', rfl, by omega, ?_⟩
   refine MD (k := 1) hC1 (by omega) (by omega) (hvr σ1 (BM _ _ hv)) hv1 fun σ2 ye Ay => ⟨_, rfl, by unfold AN; omega, by omega, by omega, ?_⟩
   have e3 : Int.toNat ((i : Int) + ((1 : Nat) : Int)) = i + 1 := by omega
   have e4 : Int.toNat ((i : Int) + 1) = i + 1 := by omega
   simp only [e3, e4]
   have Z4 : Ext σ σ2 := (SE.trans Ay).trans (Ext.GA _ _)
   have HJ := (hC.rd (i := i) (n := n - i) (by omega) (by omega)).mono Z4
   have Lt : (L.drop (i * 3)).take ((n - i) * 3) = cs.drop (i * 3) := by
     rw [← hL, List.drop_take]; congr 1; omega
   rw [Lt] at HJ
   have TD : CR (cs.drop (i * 3)) := fun u hu => ud.jB EA.one (by decide) u (List.mem_of_mem_drop hu)
   refine MD (k := n - i) ye (by omega) (by omega) HJ TD fun σ3 hC3 C6 => ⟨_, rfl, ?_⟩
   have TS := hC3.own (n := n + 1) (by omega) (by omega)
   have SH : (n + 1) * 3 ≤ L'.length := by rw [hC1.1]; exact Nat.mul_le_mul_right 3 fi
   have hdl : (cs.drop (i * 3)).length = (n - i) * 3 := by rw [List.length_drop, jX]; omega
   rw [gT SH hi hvl hL1 hdl] at TS
   refine fin p' c' σ3 _ TS rfl ?_
   exact (Ext.GA σ p).trans ((SE.trans Ay).trans C6)
 · -- room
   have yh : n + 1 ≤ c := by omega
   refine ⟨by unfold AN; omega, by omega, by unfold AN; omega, by omega, ?_⟩
   have e3 : Int.toNat ((i : Int) + ((1 : Nat) : Int)) = i + 1 := by omega
   have e4 : Int.toNat ((i : Int) + 1) = i + 1 := by omega
   have e5 : Int.toNat ((n : Int) + ((1 : Nat) : Int)) = n + 1 := by omega
   have e6 : Int.toNat ((n : Int) + 1) = n + 1 := by omega
   simp only [e3, e4, e5, e6, Int.toNat_natCast]
   refine ⟨false, ?_, fun _ => ⟨by unfold AN; omega, by omega, by omega, ?_⟩, fun hf => by cases hf⟩
   · rcases hC.2 with ⟨_, hc0⟩ | ⟨b, o, arr, T, rfl, hblk, EY, _⟩
     · omega
     · have Re : ∃ o', Dp (some ⟨b, o, none⟩) (i + 1) c 3 = some ⟨b, o', none⟩ := by
         unfold Dp
         split
         · exact ⟨o, rfl⟩
         · exact ⟨o + (i + 1) * 3, by simp [MC]⟩
       obtain ⟨o', Re⟩ := Re
       exact Ve (T := 39) (tR := 4) Go.Proofs.Tryz.func262 (yf _) rfl Re hv hblk (fun e => hpv _ rfl e.symm) (by omega)
   · have HJ := hC.rd (i := i) (n := n - i) (by omega) (by omega)
     have Lt : (L.drop (i * 3)).take ((n - i) * 3) = (L.take (n * 3)).drop (i * 3) := by
       rw [List.drop_take]; congr 1; omega
     rw [Lt] at HJ
     have TD : CR ((L.take (n * 3)).drop (i * 3)) := by
       rw [hL]; exact fun u hu => ud.jB EA.one (by decide) u (List.mem_of_mem_drop hu)
     refine MD (k := n - i) hC (by omega) (by omega) HJ TD fun σ1 hC1 BM => ⟨_, rfl, by omega, ?_⟩
     have hv2 : σ1 bv = some (.cells vs.toArray Tv (0, 0)) := Ext.GA _ _ _ _ (BM _ _ hvd)
     refine MD (k := 1) hC1 (by omega) (by omega) (hvr σ1 hv2) hv1 fun σ2 ye Ay => ⟨_, rfl, ?_⟩
     have Ob := ye.own (n := n + 1) (by omega) (by omega)
     rw [ly (by rw [hLl]; exact Nat.mul_le_mul_right 3 yh) hi hvl, hL] at Ob
     exact fin p c σ2 _ Ob rfl (BM.trans Ay)
end TwW
end
section
namespace TwW
open Go Tw Go.Proofs.Tryz
theorem Hp.set_comm {σ : Hp} {a b : Nat} {o u : Obj} (h : a ≠ b) : (σ.set a o).set b u = (σ.set b u).set a o := by
 funext k
 simp only [Hp.set]
 by_cases h1 : k = a
 · subst h1; simp [h]
 · simp [h1]
theorem Ad {σ : Hp} {b o : Nat} {cs : Array Value} {t : TypeId} {v : Value} (h : cs[o]? = some v) : Hp.ld (σ.set b (.cells cs t (0, 0))) ⟨b, o, none⟩ = some v := by
 simp [Hp.ld, Hp.AA, h]
theorem TT : ∀ (xs : List Int) (N : Nat) (a : Int), EM xs → (∀ x ∈ xs, a ≤ x ∧ x < a + N) → xs.length ≤ N
 | [], _, _, _, _ => Nat.zero_le _
 | x :: xs, 0, a, _, h => by have := h x (List.mem_cons_self ..); omega
 | x :: xs, N + 1, a, hr, h => by
   have hx := h x (List.mem_cons_self ..)
   unfold EM at hr
   rw [List.pairwise_cons] at hr
   have := TT xs N (a + 1) hr.2 (fun y hy => by have h1 := h y (List.mem_cons_of_mem _ hy); have h2 := hr.1 y hy; push_cast at h1; omega)
   simp; omega
theorem Ku.len {ms : List Mem} (h : Ku ms) : ms.length ≤ 16 := by
 have := TT (ids ms) 16 0 h.2 (fun x hx => by
   obtain ⟨m, hm, rfl⟩ := List.mem_map.1 hx
   have := h.1 m hm
   exact ⟨this.1, by have := this.2.1; omega⟩)
 simpa [ids] using this
theorem Ku.small {ms : List Mem} (h : Ku ms) : Small ms := ⟨by have := h.len; omega, fun m hm => by have := (h.1 m hm).2.2.2.2.2.1; omega⟩
def l3 (ms : List Mem) (x code : Int) (EN : List Mem) : Prop :=
 (place ms x ≠ -1 ∧ code = 131) ∨ (place ms x = -1 ∧ code = 0 ∧ ∃ i t, i ≤ ms.length ∧ (∀ m ∈ ms.take i, m.id < x) ∧ (∀ m, ms[i]? = some m → ¬ m.id < x) ∧ EM t ∧ 1 ≤ t.length ∧ t.length ≤ 4 ∧ (∀ y ∈ t, 0 ≤ y ∧ y < 4294967296) ∧ EN = ms.take i ++ [⟨x, 1, t⟩] ++ ms.drop i)
def Xd (f t : Int) (ms : List Mem) (x code : Int) (EN : List Mem) : Prop :=
 (place ms x = -1 ∧ code = 131) ∨ ∃ (k : Nat) (m : Mem), place ms x = k ∧ ms[k]? = some m ∧ ((m.state ≠ f ∧ code = 132) ∨ (m.state = f ∧ code = 0 ∧ EN = ms.set k { m with state := t }))
abbrev cell (τ : Hp) (b : Nat) (e : Int) (p : Option Addr) (n c : Nat) : Hp := τ.set b (.cells #[.int .u64 e, .slice p n c] 41 (0, 0))
def yi (f : Nat) (C : List Mem → Int → Int → List Mem → Prop) : Prop := ∀ (R : Rr) (τ : Hp) (b : Nat) (e x : Int) (p : Option Addr) (n c : Nat) (ms : List Mem), Jm τ p n c ms → τ b = none → Ku ms → 0 ≤ x → x < 16 →
 (∀ code EN, C ms x code EN → code ≠ 0 → R (.returned (.int .i64 code)) (cell τ b e p n c)) →
 (∀ p' n' c' τ' EN, C ms x 0 EN → Jm τ' p' n' c' EN → Ext (τ.del p) (τ'.del p') → τ' b = none → R (.returned (.int .i64 0)) (cell τ' b e p' n' c')) →
 Spec prog f #[.agg #[.pointer (some ⟨b, 0, none⟩), .int .i64 x, .int .i64 (place ms x)]] (cell τ b e p n c) R
theorem AEy (w : World) : (Go.sizeOf 39).run prog w = .ok 1 w := Go.Proofs.Tryz.sizeOf39 w
theorem Xe (w : World) : (Go.sizeOf 3).run prog w = .ok 1 w := Go.Proofs.Tryz.sizeOf3 w
theorem aN {τ : Hp} {b : Nat} {e : Int} {p q : Option Addr} {n c m d : Nat} {Φ : Unit → Hp → Prop} (h : Φ () (cell τ b e q m d)) :
   AJ prog (Instr.storeAt 39 (.pointer (some ⟨b, 0 + 1, none⟩)) (.slice q m d)) (cell τ b e p n c) Φ := by
 refine AJ.store AEy (Hp.AA _ _ _) rfl (by simp) (by simp [Value.cells, Value.oneCell']) ?_
 simp only [cell, Hp.set_set]
 exact h
theorem l6 {ms : List Mem} {k : Nat} {m : Mem} (h : ms[k]? = some m) : k < ms.length := (List.getElem?_eq_some_iff.1 h).1
theorem Jm.state {τ : Hp} {p : Option Addr} {n c k : Nat} {ms : List Mem} {m : Mem} {t : Int} {Ψ : Hp → Prop} (ho : Jm τ p n c ms) (hm : ms[k]? = some m)
   (h : ∀ τ', Jm τ' p n c (ms.set k { m with state := t }) → Ext (τ.del p) (τ'.del p) → Ψ τ') :
   ∃ b o, p = some ⟨b, o, none⟩ ∧ AJ prog (Instr.storeAt 3 (.pointer (some ⟨b, o + k * 3 + 1, none⟩)) (.int .i64 t)) τ (fun _ => Ψ) := by
 obtain ⟨hlen, cs, AY, ud⟩ := ho
 have hk : k < n := by rw [← hlen]; exact (List.getElem?_eq_some_iff.1 hm).1
 have AOS := AY
 obtain ⟨h1, h0, h2⟩ := AY
 rcases h2 with ⟨_, hn, _⟩ | ⟨b, o, arr, T', rfl, hblk, iE, EY, H5⟩
 · omega
 · have hle : (k + 1) * 3 ≤ c * 3 := by omega
   refine ⟨b, o, rfl, AJ.store Xe hblk rfl (by omega) (by simp [Value.cells, Value.oneCell']) (h _ ⟨by simp [hlen], cs.set (k * 3 + 1) (.int .i64 t), ⟨by simpa using h1, h0, .inr ⟨b, o, _, T', rfl, Hp.AA _ _ _, iE, by rw [Dc]; exact EY, ?_⟩⟩, ?_⟩ (by rw [Hp.Bh]; exact Ext.refl _))⟩
   · show ((DT arr (o + k * 3 + 1) [.int .i64 t]).toList.drop o).take (n * 3) = _
     rw [show o + k * 3 + 1 = o + (k * 3 + 1) by omega, Pk (by simp; omega) (by omega), H5]
     unfold over
     rw [List.set_eq_take_append_cons_drop, if_pos (by omega)]
     simp
   · rw [Hp.Bh]
     refine ⟨by simp [ud.1], fun i y hy => ?_⟩
     rw [List.getElem?_set] at hy
     have yI : k < ms.length := by omega
     obtain ⟨q, j, d, hv, hq⟩ := ud.2 k m hm
     by_cases hik : k = i
     · subst hik
       rw [if_pos rfl, if_pos yI] at hy
       cases hy
       refine ⟨q, j, d, ?_, hq⟩
       have hd : (cs.drop (k * 3)).take 3 = [.int .i64 m.id, .int .i64 m.state, .slice q j d] := hv
       have : ((cs.set (k * 3 + 1) (.int .i64 t)).drop (k * 3)).take 3 = ((cs.drop (k * 3)).take 3).set 1 (.int .i64 t) := by
         rw [List.drop_set, if_neg (by omega), List.take_set]
         congr 1; omega
       rw [this, hd]; rfl
     · rw [if_neg hik] at hy
       have := ud.2 i y hy
       have he : ((cs.set (k * 3 + 1) (.int .i64 t)).drop (i * 3)).take 3 = (cs.drop (i * 3)).take 3 := by
         rw [List.drop_set]
         split
         · rfl
         · rw [List.take_set_of_le (by omega)]
       rw [he]; exact this
theorem gU (f t : Int) : ∀ (R : Rr) (τ : Hp) (b : Nat) (e x : Int) (p : Option Addr) (n c : Nat) (ms : List Mem), Jm τ p n c ms → τ b = none →
 (∀ code EN, Xd f t ms x code EN → code ≠ 0 → R (.returned (.int .i64 code)) (cell τ b e p n c)) →
 (∀ τ' EN, Xd f t ms x 0 EN → Jm τ' p n c EN → Ext (τ.del p) (τ'.del p) → τ' b = none → R (.returned (.int .i64 0)) (cell τ' b e p n c)) →
 Spec prog 190 #[.agg #[.pointer (some ⟨b, 0, none⟩), .int .i64 x, .int .i64 (place ms x)], .int .i64 f, .int .i64 t] (cell τ b e p n c) R := by
 intro R τ b e x p n c ms ho hb Qb Aq
 refine IX.start fun _ => ⟨fun Ag => ?_, fun FB => ?_⟩
 · rcases KL ms x with ⟨h1, _⟩ | ⟨k, m, hk, _⟩
   · exact Qb 131 ms (.inl ⟨h1, rfl⟩) (by decide)
   · omega
 · rcases KL ms x with ⟨h1, _⟩ | ⟨k, m, hk, hm, hid, BX⟩
   · omega
   · have hx : Ext τ (cell τ b e p n c) := .set hb
     obtain ⟨b2, o2, q, j, d, hp, hl, _⟩ := Nq.at' (A3.rd EA.mono ho) hm
     have hl := hl.mono hx
     have Pd : k < n := by rw [← ho.1]; exact (List.getElem?_eq_some_iff.1 hm).1
     rw [hk]
     refine ⟨b, 0, rfl, p, n, c, Ad rfl, b2, o2, hp, by omega, m.state, by simpa using hl.2.1, fun Ae => ?_, fun heq => ?_⟩
     · exact Qb 132 ms (.inr ⟨k, m, hk, hm, .inl ⟨Ae, rfl⟩⟩) (by decide)
     · refine ⟨p, n, c, Ad rfl, b2, o2, hp, by omega, ?_⟩
       simp only [Int.toNat_natCast]
       refine AJ.B6 hb ?_
       obtain ⟨b3, o3, nz, lq⟩ := Jm.state ho hm (t := t) (Ψ := fun τ' => τ' b = none → R (.returned (.int .i64 0)) (cell τ' b e p n c)) (fun τ' Em Ci hn => Aq τ' _ (.inr ⟨k, m, hk, hm, .inr ⟨by omega, rfl, rfl⟩⟩) Em Ci hn)
       rw [hp] at nz; cases nz
       exact lq
theorem Xf : yi 102 (Xd 1 2) := fun R τ b e x p n c ms ho hb _ _ _ Qb Aq =>
 Fq.start fun _ => (gU 1 2 _ τ b e x p n c ms ho hb (fun code EN hc Ae => ⟨_, rfl, Qb code EN hc Ae⟩) fun τ' EN hc Em hx hn => ⟨_, rfl, Aq p n c τ' EN hc Em hx hn⟩)
theorem EA.mk {σ : Hp} {p : Option Addr} {n c : Nat} {x s : Int} {t : List Int} (h : B9 .u32 σ p n t) : EA σ [.int .i64 x, .int .i64 s, .slice p n c] ⟨x, s, t⟩ := ⟨p, n, c, rfl, h⟩
theorem rP : yi 101 l3 := fun R τ b e x p n c ms ho hb hms Z8 qb Qb Aq => by
 have hlen := hms.len
 have hn := ho.1
 have HJ := A3.rd EA.mono ho
 have ia : Ext τ (cell τ b e p n c) := .set hb
 obtain ⟨x, rfl⟩ : ∃ y : Nat, x = y := ⟨x.toNat, by omega⟩
 refine Cz.start fun _ => ⟨fun FB => Qb 131 ms (.inl ⟨by omega, rfl⟩) (by decide), fun Ag => ?_⟩
 have l7 : place ms x = -1 := by rcases KL ms x with ⟨h1, _⟩ | ⟨k, m, hk, _⟩ <;> omega
 rw [l7]
 have fin : ∀ i : Nat, i ≤ n → (∀ m ∈ ms.take i, m.id < x) → (∀ m, ms[i]? = some m → ¬ m.id < x) →
     ∃ Ra : Option Addr, ∃ n37 : Nat, ∃ c37 : Nat, Hp.ld (cell τ b e p n c) ⟨b, (0 + 1), none⟩ = some (.slice Ra n37 c37) ∧ Spec prog 189 #[(.int .i64 x)] (cell τ b e p n c) (AB R (fun v σ1 => ∃ UR : Option Addr, ∃ n43 : Nat, ∃ VN : Nat, v = (.slice UR n43 VN) ∧ Kp [b] (cell τ b e p n c) σ1 ∧ ∀ WY : Nat, σ1 WY = none → Spec prog 188 #[(.slice Ra n37 c37), (.int .i64 i), (.slice (some ⟨WY, 0, none⟩) 1 1)] (Hp.set σ1 WY (.cells #[(.int .i64 x), (.int .i64 1), (.slice UR n43 VN)] 196 (0, 0))) (AB R (fun MO Az => ∃ cU : Option Addr, ∃ n46 : Nat, ∃ c46 : Nat, MO = (.slice cU n46 c46) ∧ AJ prog (Instr.storeAt 39 (.pointer (some ⟨b, (0 + 1), none⟩)) (.slice cU n46 c46)) Az (fun _ A0 => R (.returned (.int .i64 0)) A0))))) := by
   intro i hi Rh hhi
   refine ⟨p, n, c, Ad rfl, Spec.B6 hb (Xb (by omega) fun q j d τ1 t hq4 ht BM VW hj0 hj4 Ql => ⟨q, j, d, rfl, fun k hk u hu => ?_, fun b2 HD => ?_⟩)⟩
   · simp only [List.mem_singleton] at hk
     subst hk
     simp only [cell, Hp.AA] at hu ⊢; exact hu
   · have Ae : b2 ≠ b := fun h => by rw [h, Hp.AA] at HD; cases HD
     have AEz : τ1 b2 = none := by rw [Hp.AH Ae] at HD; exact HD
     rw [Hp.set_comm (Ne.symm Ae)]
     have Ay : Ext τ1 (τ1.set b2 (.cells #[.int .i64 x, .int .i64 1, .slice q j d] 196 (0, 0))) := .set AEz
     have Fm : Jm (τ1.set b2 (.cells #[.int .i64 x, .int .i64 1, .slice q j d] 196 (0, 0))) p n c ms := ho.mono EA.mono (BM.trans Ay)
     have Yg : ∀ a, p = some a → τ a.block ≠ none := ho.block
     refine Spec.B6 (Hp.BD (Ne.symm Ae) Ql) ?_
     refine Xc (vs := [.int .i64 x, .int .i64 1, .slice q j d]) (x := ⟨x, 1, t⟩) Fm hi (by omega) (Hp.AA _ _ _) (fun a ha h => Yg a ha (A6 BM (h ▸ AEz))) (EA.mk ?_) fun p' c' τ2 Bt Uy O6 => ⟨p', n + 1, c', rfl, aN ?_⟩
     · exact ht.mono ((Ext.oP Yg).trans (Ay.del p))
     · refine Aq p' (n + 1) c' τ2 _ (.inr ⟨l7, rfl, i, t, by omega, Rh, hhi, VW, by have := ht.1; omega, by have := ht.1; omega, hq4, rfl⟩) Bt ?_ O6
       exact ((BM.trans Ay).del p).trans Uy
 suffices H : ∀ d i : Nat, n - i = d → i ≤ n → (∀ m ∈ ms.take i, m.id < x) → Cz.Am R (some ⟨b, 0, none⟩) x (-1) i (cell τ b e p n c) from H n 0 rfl (by omega) (by simp)
 intro d
 induction d with
 | zero =>
   intro i hd hi Rh
   exact Cz.BB ⟨b, 0, rfl, p, n, c, Ad rfl, fun Ag => by omega, fun _ => fin i hi Rh (fun m hm => by have := l6 hm; omega)⟩
 | succ d ih =>
   intro i hd hi Rh
   obtain ⟨m, hm⟩ := HJ.ex (k := i) (by omega)
   obtain ⟨b2, o2, q, j, d2, hp, hl, _⟩ := Nq.at' HJ hm
   have hl := hl.mono ia
   refine Cz.BB ⟨b, 0, rfl, p, n, c, Ad rfl, fun _ => ⟨p, n, c, Ad rfl, b2, o2, hp, by omega, m.id, by simpa using hl.1, fun Ag => ⟨by unfold AN; omega, ih (i + 1) (by omega) (by omega) ?_⟩, fun FB => fin i hi Rh (fun m' L5 => by rw [hm] at L5; cases L5; exact FB)⟩, fun FB => by omega⟩
   intro m' L5
   rw [List.take_add_one, hm] at L5
   simp only [Option.toList, List.mem_append, List.mem_singleton] at L5
   rcases L5 with L5 | rfl
   · exact Rh m' L5
   · exact Ag
end TwW
end
section
namespace TwW
open Go Tw Go.Proofs.Tryz
abbrev F4 (e : Int) (p : Option Addr) (n c : Nat) : Value := .agg #[.int .u64 e, .slice p n c]
abbrev Oc : Int := 18446744073709551615
def Fit (ms : List Mem) (e x : Int) : Prop := Ku ms ∧ e ≠ Oc ∧ 0 ≤ x ∧ x < 16
instance (ms : List Mem) (e x : Int) : Decidable (Fit ms e x) := by unfold Fit; infer_instance
theorem yj (w : World) : (Go.sizeOf 41).run prog w = .ok 2 w := Go.Proofs.Tryz.sizeOf41 w
theorem Mu {f : Nat} {C : List Mem → Int → Int → List Mem → Prop} (hby : yi f C) (Ju : Enters prog f) {R : Rr} {σ : Hp} {e x : Int} {p : Option Addr} {n c : Nat} {ms : List Mem} (hr : Nq σ p n ms) (hs : Small ms) (he : 0 ≤ e ∧ e ≤ Oc)
   (bad : ¬ Fit ms e x → R (.returned (.tuple #[F4 0 none 0 0, .int .i64 130])) σ)
   (err : Fit ms e x → ∀ code EN, C ms x code EN → code ≠ 0 → R (.returned (.tuple #[F4 0 none 0 0, .int .i64 code])) σ)
   (ok : Fit ms e x → ∀ p' n' c' σ' EN, C ms x 0 EN → Nq σ' p' n' EN → Ext σ σ' → R (.returned (.tuple #[F4 (e + 1) p' n' c', .int .i64 0])) σ') :
   Spec prog 100 #[F4 e p n c, .int .i64 x, .func (.func f) #[] #[]] σ R := by
 refine Spec.drop (MN.start fun _ _ => (Lw hr hs ⟨_, rfl, fun Ae => ?_, fun heq => ⟨fun h1 => ?_, fun h1 => dS ⟨_, rfl, fun hf => ?_, fun ht => ?_⟩⟩⟩))
 · exact .mk (.refl σ) (bad fun h => Ae (by simp [O7, h.1]))
 · exact .mk (.refl σ) (bad fun h => h.2.1 h1)
 · exact .mk (.refl σ) (bad fun h => by simp at hf; have := h.2.2; omega)
 · have Aq : Ku ms := Decidable.byContradiction fun hn => heq (by simp [O7, hn])
   have hx : 0 ≤ x ∧ x < 16 := by simpa using ht
   have dt : Fit ms e x := ⟨Aq, h1, hx⟩
   refine Qy hr hs fun p1 c1 τ ho BM => ⟨e, p1, n, c1, rfl, fun b hb => ?_⟩
   refine AJ.store yj (Hp.AA _ _ _) rfl (by simp) (by simp [Value.cells, Value.oneCell']) ?_
   rw [Hp.set_set]
   refine ⟨e, Ad rfl, fun Gq Q3 => ?_⟩
   have h28 : Gq = e + 1 := by rw [Q3]; simp [IntKind.wrap, IntKind.bits, IntKind.signed]; simp [Oc] at h1 he; omega
   subst h28
   refine AJ.store Zx (Hp.AA _ _ _) rfl (by simp [Dc]) (by simp [Value.cells, Value.oneCell']) ?_
   rw [Hp.set_set]
   have FA : (τ.set b (.cells (DT (DT #[.int .u64 0, .slice none 0 0] 0 (Value.agg #[.int .u64 e, .slice p1 n c1]).cells.toList) 0 (Value.int .u64 (e + 1)).cells.toList) 41 (0, 0))) = cell τ b (e + 1) p1 n c1 := by
     simp [cell, DT, Value.cells]
   rw [FA]
   have oQ : ∀ a, p1 = some a → σ a.block = none := let ⟨_, _, h, _⟩ := ho; h.De
   have Fm : Jm τ p1 n c1 ms := ho.mono EA.mono (Ext.Af σ τ)
   have ia : Ext σ (cell τ b (e + 1) p1 n c1) := BM.trans (.set hb)
   refine Xa (hr.Qv ia) ⟨_, rfl, f, #[], #[], rfl, Ju, ?_⟩
   refine hby _ τ b (e + 1) x p1 n c1 ms Fm hb Aq hx.1 hx.2 (fun code EN hC Ae => ⟨_, rfl, fun _ => .mk ia (err dt code EN hC Ae), fun h0 => absurd Ae h0⟩) fun p' n' c' τ' EN hC Em Ci hn => ⟨_, rfl, fun h0 => absurd rfl h0, fun _ => ⟨e + 1, p', n', c', ⟨Ad rfl, Ad rfl, trivial⟩, ?_⟩⟩
   have Ni : Ext σ τ' := CL oQ Ci BM
   exact .mk (.refl _) (ok dt p' n' c' _ EN hC ((A3.rd EA.mono Em).mono EA.mono (.set hn)) (Ni.trans (.set hn)))
theorem yk : Enters prog 101 := fun args w => Go.Proofs.Tryz.call101 args w
theorem aO : Enters prog 102 := fun args w => Go.Proofs.Tryz.call102 args w
section
variable {R : Rr} {σ : Hp} {e x : Int} {p : Option Addr} {n c : Nat} {ms : List Mem}
def ChR (C : List Mem → Int → Int → List Mem → Prop) (ms : List Mem) (e x : Int) (σ : Hp) (Φ : Int → Option Addr → Nat → Nat → Int → Hp → Prop) : Prop :=
 (¬ Fit ms e x → Φ 0 none 0 0 130 σ) ∧ (Fit ms e x → ∀ code EN, C ms x code EN → code ≠ 0 → Φ 0 none 0 0 code σ) ∧
 (Fit ms e x → ∀ p' n' c' σ' EN, C ms x 0 EN → Nq σ' p' n' EN → Ext σ σ' → Φ (e + 1) p' n' c' 0 σ')
theorem aP (hr : Nq σ p n ms) (hs : Small ms) (he : 0 ≤ e ∧ e ≤ Oc) (h : ChR l3 ms e x σ fun e' p' n' c' code σ' => R (.returned (.tuple #[F4 e' p' n' c', .int .i64 code])) σ') : Spec prog 45 #[F4 e p n c, .int .i64 x] σ R :=
 TA.start fun _ _ => (Mu rP yk hr hs he (fun hb => ⟨_, _, _, _, _, rfl, h.1 hb⟩) (fun hf code EN hC Ae => ⟨_, _, _, _, _, rfl, h.2.1 hf code EN hC Ae⟩) fun hf p' n' c' σ' EN hC Is hx => ⟨_, _, _, _, _, rfl, h.2.2 hf p' n' c' σ' EN hC Is hx⟩)
theorem Q4 (hr : Nq σ p n ms) (hs : Small ms) (he : 0 ≤ e ∧ e ≤ Oc) (h : ChR (Xd 1 2) ms e x σ fun e' p' n' c' code σ' => R (.returned (.tuple #[F4 e' p' n' c', .int .i64 code])) σ') : Spec prog 46 #[F4 e p n c, .int .i64 x] σ R :=
 LC.start fun _ _ => (Mu Xf aO hr hs he (fun hb => ⟨_, _, _, _, _, rfl, h.1 hb⟩) (fun hf code EN hC Ae => ⟨_, _, _, _, _, rfl, h.2.1 hf code EN hC Ae⟩) fun hf p' n' c' σ' EN hC Is hx => ⟨_, _, _, _, _, rfl, h.2.2 hf p' n' c' σ' EN hC Is hx⟩)
end
end TwW
end
section
namespace Go.Proofs
open Go.Shelf
def Tryz.Xg : Go.Shelf.Ren := ⟨fun | 189 => 48 | 125 => 113 | 257 => 112 | 128 => 210 | 129 => 211 | 294 => 201 | 295 => 202 | 296 => 203 | 297 => 204 | 298 => 205 | 299 => 206 | 216 => 207 | 300 => 208 | 301 => 209 | 328 => 272 | 329 => 273 | 330 => 274 | 331 => 275 | 332 => 276 | 215 => 214 | 343 => 309 | n => n, fun | 28 => 26 | 3 => 3 | 46 => 205 | 0 => 0 | 51 => 70 | 53 => 23 | 4 => 4 | 183 => 280 | 182 => 279 | 131 => 151 | 5 => 5 | 9 => 9 | 218 => 325 | 222 => 328 | 228 => 351 | 229 => 352 | n => n, fun | n => n⟩
theorem Tryz.dT : Go.Proofs.Lays.n189 Tryz.prog Tryz.Xg := {
 mixed := by kernel_rfl
 f125 := Tryz.func113.trans (congrArg some (by kernel_rfl))
 f128 := Tryz.func210.trans (congrArg some (by kernel_rfl))
 f129 := Tryz.func211.trans (congrArg some (by kernel_rfl))
 f189 := Tryz.func48.trans (congrArg some (by kernel_rfl))
 f215 := Tryz.func214.trans (congrArg some (by kernel_rfl))
 f216 := Tryz.func207.trans (congrArg some (by kernel_rfl))
 f257 := Tryz.func112.trans (congrArg some (by kernel_rfl))
 f294 := Tryz.func201.trans (congrArg some (by kernel_rfl))
 f295 := Tryz.func202.trans (congrArg some (by kernel_rfl))
 f296 := Tryz.func203.trans (congrArg some (by kernel_rfl))
 f297 := Tryz.func204.trans (congrArg some (by kernel_rfl))
 f298 := Tryz.func205.trans (congrArg some (by kernel_rfl))
 f299 := Tryz.func206.trans (congrArg some (by kernel_rfl))
 f300 := Tryz.func208.trans (congrArg some (by kernel_rfl))
 f301 := Tryz.func209.trans (congrArg some (by kernel_rfl))
 f328 := Tryz.func272.trans (congrArg some (by kernel_rfl))
 f329 := Tryz.func273.trans (congrArg some (by kernel_rfl))
 f330 := Tryz.func274.trans (congrArg some (by kernel_rfl))
 f331 := Tryz.func275.trans (congrArg some (by kernel_rfl))
 f332 := Tryz.func276.trans (congrArg some (by kernel_rfl))
 f343 := Tryz.func309.trans (congrArg some (by kernel_rfl))
 t0 := Tryz.underlying0
 a0 := Tryz.isAgg0
 z0 := Tryz.sizeOf0
 v0 := Tryz.zeroValue0
 t3 := Tryz.underlying3
 a3 := Tryz.isAgg3
 z3 := Tryz.sizeOf3
 v3 := Tryz.zeroValue3
 t4 := Tryz.underlying4
 a4 := Tryz.isAgg4
 z4 := Tryz.sizeOf4
 v4 := Tryz.zeroValue4
 t5 := Tryz.underlying5
 a5 := Tryz.isAgg5
 z5 := Tryz.sizeOf5
 v5 := Tryz.zeroValue5
 t9 := Tryz.underlying9
 a9 := Tryz.isAgg9
 z9 := Tryz.sizeOf9
 v9 := Tryz.zeroValue9
 t28 := Tryz.underlying26
 a28 := Tryz.isAgg26
 z28 := Tryz.sizeOf26
 v28 := Tryz.zeroValue26
 t46 := Tryz.underlying205
 a46 := Tryz.isAgg205
 z46 := Tryz.sizeOf205
 v46 := Tryz.zeroValue205
 t51 := Tryz.underlying70
 a51 := Tryz.isAgg70
 z51 := Tryz.sizeOf70
 v51 := Tryz.zeroValue70
 t53 := Tryz.underlying23
 a53 := Tryz.isAgg23
 z53 := Tryz.sizeOf23
 v53 := Tryz.zeroValue23
 t131 := Tryz.underlying151
 a131 := Tryz.isAgg151
 z131 := Tryz.sizeOf151
 v131 := Tryz.zeroValue151
 t182 := Tryz.underlying279
 a182 := Tryz.isAgg279
 z182 := Tryz.sizeOf279
 v182 := Tryz.zeroValue279
 t183 := Tryz.underlying280
 a183 := Tryz.isAgg280
 z183 := Tryz.sizeOf280
 v183 := Tryz.zeroValue280
 t218 := Tryz.underlying325
 a218 := Tryz.isAgg325
 z218 := Tryz.sizeOf325
 v218 := Tryz.zeroValue325
 t222 := Tryz.underlying328
 a222 := Tryz.isAgg328
 z222 := Tryz.sizeOf328
 v222 := Tryz.zeroValue328
 t228 := Tryz.underlying351
 a228 := Tryz.isAgg351
 z228 := Tryz.sizeOf351
 v228 := Tryz.zeroValue351
 t229 := Tryz.underlying352
 a229 := Tryz.isAgg352
 z229 := Tryz.sizeOf352
 v229 := Tryz.zeroValue352 }
open Go.Sort Go.RowKit in
theorem Tryz.slices_Sort_int (DL off cap : Nat) (zs : List Int) (w : World) (hH : Holds (Value.int .i64) w DL off zs.toArray) (hblk : DL < w.heap.size) (EY : zs.length < 4611686018427387904) :
   Calls Tryz.prog 48 #[.slice (some ⟨DL, off, none⟩) zs.length cap] w fun e w' =>
     e = .returned (.tuple #[]) ∧ ∃ n os, w' = grow (putRow (Value.int .i64) (Sort.ahead w n) DL off (zs.mergeSort fun x y => decide (x ≤ y)).toArray) os := Any.slices_Sort_int Tryz.dT DL off cap zs w hH hblk EY
def Tryz.R5 : Go.Shelf.Ren := ⟨fun | 20 => 49 | n => n, fun | 22 => 26 | 3 => 3 | 4 => 4 | 0 => 0 | n => n, fun | n => n⟩
theorem Tryz.TU : Go.Proofs.Lays2.n20 Tryz.prog Tryz.R5 := {
 mixed := by kernel_rfl
 f20 := Tryz.func49.trans (congrArg some (by kernel_rfl))
 t0 := Tryz.underlying0
 a0 := Tryz.isAgg0
 z0 := Tryz.sizeOf0
 v0 := Tryz.zeroValue0
 t3 := Tryz.underlying3
 a3 := Tryz.isAgg3
 z3 := Tryz.sizeOf3
 v3 := Tryz.zeroValue3
 t4 := Tryz.underlying4
 a4 := Tryz.isAgg4
 z4 := Tryz.sizeOf4
 v4 := Tryz.zeroValue4
 t22 := Tryz.underlying26
 a22 := Tryz.isAgg26
 z22 := Tryz.sizeOf26
 v22 := Tryz.zeroValue26
 i3 := by kernel_rfl }
open Go.RowKit Go.Lib Go.Sort in
theorem Tryz.slices_Compact_int (DL off cap : Nat) (zs : List Int) (w : World) (hH : Holds (Value.int .i64) w DL off zs.toArray) (EY : zs.length ≤ 9223372036854775807) (xv : zs.length ≤ cap) :
   Calls Tryz.prog 49 #[.slice (some ⟨DL, off, none⟩) zs.length cap] w fun e w' => e = .returned (.slice (some ⟨DL, off, none⟩) (Lib.compact zs).length cap) ∧ ∃ q, w' = putRow (Value.int .i64) (Sort.ahead w q) DL off (Lib.compact zs ++ List.replicate (zs.length - (Lib.compact zs).length) 0).toArray := Any.slices_Compact_int Tryz.TU DL off cap zs w hH EY xv
open Go.RowKit Go.Lib Go.Sort in
theorem Tryz.slices_Compact_int_empty (a : Option Addr) (cap : Nat) (w : World) :
   Calls Tryz.prog 49 #[.slice a 0 cap] w fun e w' => e = .returned (.slice a 0 cap) ∧ w' = w := Any.slices_Compact_int_empty Tryz.TU a cap w
open Go.RowKit Go.Sort in
theorem Tryz.slices_Sort_int_none (p : Option Addr) (cap : Nat) (w : World) :
   Calls Tryz.prog 48 #[.slice p 0 cap] w fun e w' => e = .returned (.tuple #[]) ∧ w' = w := Any.slices_Sort_int_none Tryz.dT p cap w
def Tryz.U7 : Go.Shelf.Ren := ⟨fun | 6 => 120 | 15 => 113 | 14 => 212 | 28 => 210 | 29 => 211 | 20 => 277 | 21 => 278 | 22 => 279 | 23 => 280 | 24 => 281 | 25 => 282 | 26 => 283 | 27 => 284 | 46 => 310 | 47 => 273 | 48 => 274 | 49 => 311 | 50 => 312 | 57 => 331 | n => n, fun | 22 => 213 | 24 => 215 | 25 => 220 | 3 => 3 | 39 => 205 | 0 => 0 | 53 => 70 | 55 => 23 | 4 => 4 | 46 => 280 | 45 => 279 | 50 => 151 | 5 => 5 | 9 => 9 | 66 => 325 | 70 => 328 | 76 => 351 | 77 => 352 | n => n, fun | n => n⟩
theorem Tryz.Xh : Go.Proofs.SlLaysF0.n6 Tryz.prog Tryz.U7 := {
 mixed := by kernel_rfl
 f6 := ⟨Tryz.f120.name, by decide, Tryz.func120.trans (congrArg some (by kernel_rfl))⟩
 f14 := ⟨Tryz.f212.name, by decide, Tryz.func212.trans (congrArg some (by kernel_rfl))⟩
 f15 := Tryz.func113.trans (congrArg some (by kernel_rfl))
 f20 := ⟨Tryz.f277.name, by decide, Tryz.func277.trans (congrArg some (by kernel_rfl))⟩
 f21 := ⟨Tryz.f278.name, by decide, Tryz.func278.trans (congrArg some (by kernel_rfl))⟩
 f22 := ⟨Tryz.f279.name, by decide, Tryz.func279.trans (congrArg some (by kernel_rfl))⟩
 f23 := ⟨Tryz.f280.name, by decide, Tryz.func280.trans (congrArg some (by kernel_rfl))⟩
 f24 := ⟨Tryz.f281.name, by decide, Tryz.func281.trans (congrArg some (by kernel_rfl))⟩
 f25 := ⟨Tryz.f282.name, by decide, Tryz.func282.trans (congrArg some (by kernel_rfl))⟩
 f26 := ⟨Tryz.f283.name, by decide, Tryz.func283.trans (congrArg some (by kernel_rfl))⟩
 f27 := ⟨Tryz.f284.name, by decide, Tryz.func284.trans (congrArg some (by kernel_rfl))⟩
 f28 := Tryz.func210.trans (congrArg some (by kernel_rfl))
 f29 := Tryz.func211.trans (congrArg some (by kernel_rfl))
 f46 := ⟨Tryz.f310.name, by decide, Tryz.func310.trans (congrArg some (by kernel_rfl))⟩
 f47 := Tryz.func273.trans (congrArg some (by kernel_rfl))
 f48 := Tryz.func274.trans (congrArg some (by kernel_rfl))
 f49 := ⟨Tryz.f311.name, by decide, Tryz.func311.trans (congrArg some (by kernel_rfl))⟩
 f50 := ⟨Tryz.f312.name, by decide, Tryz.func312.trans (congrArg some (by kernel_rfl))⟩
 f57 := ⟨Tryz.f331.name, by decide, Tryz.func331.trans (congrArg some (by kernel_rfl))⟩
 t0 := Tryz.underlying0
 a0 := Tryz.isAgg0
 z0 := Tryz.sizeOf0
 v0 := Tryz.zeroValue0
 t3 := Tryz.underlying3
 a3 := Tryz.isAgg3
 z3 := Tryz.sizeOf3
 v3 := Tryz.zeroValue3
 t4 := Tryz.underlying4
 a4 := Tryz.isAgg4
 z4 := Tryz.sizeOf4
 v4 := Tryz.zeroValue4
 t5 := Tryz.underlying5
 a5 := Tryz.isAgg5
 z5 := Tryz.sizeOf5
 v5 := Tryz.zeroValue5
 t9 := Tryz.underlying9
 a9 := Tryz.isAgg9
 z9 := Tryz.sizeOf9
 v9 := Tryz.zeroValue9
 t22 := Tryz.underlying213
 a22 := Tryz.isAgg213
 z22 := Tryz.sizeOf213
 v22 := Tryz.zeroValue213
 t25 := Tryz.underlying220
 a25 := Tryz.isAgg220
 z25 := Tryz.sizeOf220
 v25 := Tryz.zeroValue220
 t39 := Tryz.underlying205
 a39 := Tryz.isAgg205
 z39 := Tryz.sizeOf205
 v39 := Tryz.zeroValue205
 t45 := Tryz.underlying279
 a45 := Tryz.isAgg279
 z45 := Tryz.sizeOf279
 v45 := Tryz.zeroValue279
 t46 := Tryz.underlying280
 a46 := Tryz.isAgg280
 z46 := Tryz.sizeOf280
 v46 := Tryz.zeroValue280
 t50 := Tryz.underlying151
 a50 := Tryz.isAgg151
 z50 := Tryz.sizeOf151
 v50 := Tryz.zeroValue151
 t53 := Tryz.underlying70
 a53 := Tryz.isAgg70
 z53 := Tryz.sizeOf70
 v53 := Tryz.zeroValue70
 t55 := Tryz.underlying23
 a55 := Tryz.isAgg23
 z55 := Tryz.sizeOf23
 v55 := Tryz.zeroValue23
 t66 := Tryz.underlying325
 a66 := Tryz.isAgg325
 z66 := Tryz.sizeOf325
 v66 := Tryz.zeroValue325
 t70 := Tryz.underlying328
 a70 := Tryz.isAgg328
 z70 := Tryz.sizeOf328
 v70 := Tryz.zeroValue328
 t76 := Tryz.underlying351
 a76 := Tryz.isAgg351
 z76 := Tryz.sizeOf351
 v76 := Tryz.zeroValue351
 t77 := Tryz.underlying352
 a77 := Tryz.isAgg352
 z77 := Tryz.sizeOf352
 v77 := Tryz.zeroValue352 }
end Go.Proofs
end
section
namespace Tw
open Go
theorem Spec.grown {P : Program} {f : FuncId} {args : Array Value} {R : Rr} (h : @Spec ⟨True⟩ P f args (fun _ => none) R) (w : World) :
   Calls P f args w (fun e w' => (∃ σ, R e σ) ∧ ∃ q os, w' = { w with heap := w.heap ++ os, drawn := w.drawn + q }) := by
 refine (h w (fun b => b < w.heap.size) (fun b o hb => by cases hb) (fun b hb => ⟨hb, rfl⟩)).mono ?_
 rintro e w' ⟨σ, hr, hf⟩
 refine ⟨⟨σ, hr⟩, ?_⟩
 obtain ⟨h1, h2, h30⟩ := @Fin.os ⟨True⟩ _ _ _ _ hf
 have hfp := @Fin.C1 ⟨True⟩ _ _ _ _ hf
 have hfg := @Fin.grow ⟨True⟩ _ _ _ _ hf
 have hfo := @Fin.out ⟨True⟩ _ _ _ _ hf
 obtain ⟨q, h3⟩ := h30 trivial
 refine ⟨q, w'.heap.extract w.heap.size w'.heap.size, ?_⟩
 have hh : w'.heap = w.heap ++ w'.heap.extract w.heap.size w'.heap.size := by
   apply Array.ext_getElem?
   intro i
   rw [Array.getElem?_append]
   split
   · rename_i hi
     exact (hfp i hi).2
   · rename_i hi
     rw [Array.getElem?_extract]
     have := hfg
     split
     · congr 1; omega
     · rename_i h2
       exact Array.getElem?_eq_none (by omega)
 cases w with
 | mk heap tape drawn os output =>
   cases w' with
   | mk AOU AOV ALM os' AHe =>
     have h4 := hfo
     simp only at h1 h2 h3 h4 hh ⊢
     subst h1 h2 h3 h4
     rw [← hh]
end Tw
end
section
namespace TwW
open Go Tw Go.Proofs.Tryz
abbrev F5 := Int × Int
def encS (x : F5) : List Value := [.int .u32 x.1, .int .i64 x.2]
def dU (x y : F5) : Int := if x.1 < y.1 then -1 else if y.1 < x.1 then 1 else if x.2 < y.2 then -1 else if y.2 < x.2 then 1 else 0
theorem gV [Iq] {R : Rr} {σ : Hp} {x y : Int} (h : R (.returned (.int .i64 (if x < y then -1 else if y < x then 1 else 0))) σ) : Spec prog 123 #[.int .u32 x, .int .u32 y] σ R := by
 refine Gw.start (Du.start ⟨_, rfl, Du.start ⟨_, rfl, fun ht => by simp at ht, fun _ => ⟨fun ht => by simp at ht, fun _ => ⟨fun h1 => ?_, fun h1 => ⟨fun h2 => ?_, fun h2 => ?_⟩⟩⟩⟩⟩)
 · simpa [h1] using h
 · simpa [h1, h2] using h
 · simpa [h1, h2] using h
theorem gW [Iq] {R : Rr} {σ : Hp} {x y : Int} (h : R (.returned (.int .i64 (if x < y then -1 else if y < x then 1 else 0))) σ) : Spec prog 124 #[.int .i64 x, .int .i64 y] σ R := by
 refine cmp_Compare_int.start (cmp_isNaN_int.start ⟨_, rfl, cmp_isNaN_int.start ⟨_, rfl, fun ht => by simp at ht, fun _ => ⟨fun ht => by simp at ht, fun _ => ⟨fun h1 => ?_, fun h1 => ⟨fun h2 => ?_, fun h2 => ?_⟩⟩⟩⟩⟩)
 · simpa [h1] using h
 · simpa [h1, h2] using h
 · simpa [h1, h2] using h
theorem U8 [Iq] {R : Rr} {σ : Hp} {x y : F5} (h : ∀ σ', R (.returned (.int .i64 (dU x y))) σ') : Spec prog 121 #[.agg #[.int .u32 x.1, .int .i64 x.2], .agg #[.int .u32 y.1, .int .i64 y.2]] σ R := by
 refine Kz.start fun _ _ => (gV ⟨_, rfl, gW ⟨_, rfl, fun b hb => ?_⟩⟩)
 generalize hu : (if x.1 < y.1 then (-1 : Int) else if y.1 < x.1 then 1 else 0) = u
 generalize hv : (if x.2 < y.2 then (-1 : Int) else if y.2 < x.2 then 1 else 0) = v
 have yV : dU x y = if u = 0 then v else u := by
   unfold dU
   rw [← hu, ← hv]
   by_cases h1 : x.1 < y.1
   · simp [h1]
   · by_cases h2 : y.1 < x.1
     · simp [h1, h2]
     · simp [h1, h2]
 refine Gv.start (Gv.AW ⟨fun _ => ⟨b, 0, rfl, by omega, u, by simp [Hp.ld, Hp.AA], fun h0 => ⟨_, rfl, ?_⟩, fun h0 => ⟨by unfold AN; omega, Gv.AW ⟨fun _ => ⟨b, 0, rfl, by omega, v, by simp [Hp.ld, Hp.AA], fun h1 => ⟨_, rfl, ?_⟩, fun h1 => ⟨by unfold AN; omega, Gv.AW ⟨fun h2 => by omega, fun _ => ⟨_, rfl, ?_⟩⟩⟩⟩, fun h2 => by omega⟩⟩⟩, fun h2 => by omega⟩)
 · have := h (σ.set b (.cells #[.int .i64 u, .int .i64 v] 3 (0, 0)))
   rw [yV, if_neg h0] at this; exact this
 · have h0 : u = 0 := Decidable.byContradiction h0
   have := h (σ.set b (.cells #[.int .i64 u, .int .i64 v] 3 (0, 0)))
   rw [yV, if_pos h0] at this; exact this
 · have h0 : u = 0 := Decidable.byContradiction h0
   have h1 : v = 0 := Decidable.byContradiction h1
   have := h (σ.set b (.cells #[.int .i64 u, .int .i64 v] 3 (0, 0)))
   rw [yV, if_pos h0] at this
   simpa [h1] using this
theorem R6 (x y : F5) (W : World) : Calls prog 121 #[.agg (encS x).toArray, .agg (encS y).toArray] W fun e w' => e = .returned (.int .i64 (dU x y)) ∧ ∃ q os, w' = Sort.grow (W.drewN q) os :=
 (Spec.grown (@U8 ⟨True⟩ (fun e _ => e = .returned (.int .i64 (dU x y))) _ _ _ fun _ => rfl) W).mono fun e w' ⟨⟨_, he⟩, q, os, hw⟩ => ⟨he, q, os, hw⟩
theorem ltS (x y : F5) : Proofs.ltOf dU x y = decide (x.1 < y.1 ∨ (x.1 = y.1 ∧ x.2 < y.2)) := by
 unfold Proofs.ltOf dU
 by_cases h1 : x.1 < y.1
 · simp [h1]
 · by_cases h2 : y.1 < x.1
   · simp [h1, h2]; omega
   · by_cases h3 : x.2 < y.2
     · simp [h1, h2, h3]; omega
     · by_cases h4 : y.2 < x.2
       · simp [h1, h2, h3, h4]
       · simp [h1, h2, h3, h4]
theorem ALN : Sort.SWO (Proofs.ltOf dU) where
 irrefl x := by rw [ltS]; simp
 trans x y z h1 h2 := by rw [ltS] at *; simp at *; omega
 ntrans x y z h1 h2 := by rw [ltS] at *; simp at *; omega
theorem ALO (x y : F5) (h1 : Proofs.ltOf dU x y = false) (h2 : Proofs.ltOf dU y x = false) : x = y := by
 rw [ltS] at *
 simp at h1 h2
 exact Prod.ext (by omega) (by omega)
def sorted (xs : List F5) : List F5 := xs.mergeSort fun x y => !(Proofs.ltOf dU) y x
theorem Dl (xs : List F5) : (sorted xs).length = xs.length := List.length_mergeSort _
theorem Q5 {α : Type} {enc : α → List Value} {k : Nat} (hk : ∀ x, (enc x).length = k) (h0 : 0 < k) : ∀ (xs : List α) (j : Nat), (xs.flatMap enc)[j]? = (xs[j / k]?).bind fun x => (enc x)[j % k]?
 | [], j => by simp
 | x :: xs, j => by
   rw [List.flatMap_cons, List.getElem?_append, hk]
   by_cases hj : j < k
   · rw [if_pos hj, Nat.div_eq_of_lt hj, Nat.mod_eq_of_lt hj]; simp
   · rw [if_neg hj, Q5 hk h0 xs, show j / k = (j - k) / k + 1 by rw [← Nat.add_div_right _ h0]; congr 1; omega, show (j - k) % k = j % k by rw [Nat.mod_eq_sub_mod (by omega : j ≥ k)]]
     simp
theorem Kf {α : Type} {enc : α → List Value} {k : Nat} (hk : ∀ x, (enc x).length = k) : ∀ (xs : List α), (xs.flatMap enc).length = xs.length * k
 | [] => by simp
 | x :: xs => by rw [List.flatMap_cons, List.length_append, Kf hk xs, hk, List.length_cons, Nat.add_mul]; omega
theorem TV (d : List F5) (j : Nat) (hj : j < d.length * 2) : (d.flatMap encS)[j]? = some (Sort.flatK encS 2 d.toArray)[j]! := by
 rw [Q5 (k := 2) (fun _ => rfl) (by decide), Sort.get_flatK _ _ _ _ (by simpa using hj)]
 have Ag : j / 2 < d.length := by omega
 rw [List.getElem?_eq_getElem Ag]
 have h2 : j % 2 < (encS d[j / 2]).length := Nat.mod_lt _ (by decide)
 simp only [Option.bind_some]
 rw [List.getElem?_eq_getElem h2]
 have e1 : d.toArray[j / 2]! = d[j / 2] := by simp [Ag]
 rw [e1, getElem!_pos (encS d[j / 2]) (j % 2) h2]
theorem gX {σ : Hp} {w : World} (hs : Sat σ w) {b o m d : Nat} {cs : List Value} (h : Own 2 σ (some ⟨b, o, none⟩) m d cs) (hm : m ≠ 0) :
   ∃ arr T, σ b = some (.cells arr T (0, 0)) ∧ w.heap[b]? = some (.cells arr T (0, 0)) ∧ m ≤ d ∧ o + d * 2 ≤ arr.size ∧ (arr.toList.drop o).take (m * 2) = cs := by
 rcases h.2.2 with ⟨h1, h2, _⟩ | ⟨b', o', arr, T, hp, hb, cz, EY, H5⟩
 · exact absurd h2 hm
 · cases hp
   exact ⟨arr, T, hb, hs _ _ hb, cz, EY, H5⟩
theorem Q6 {R : Rr} {σ : Hp} {q : Option Addr} {m d : Nat} {xs : List F5} (ho : Own 2 σ q m d (xs.flatMap encS)) (hm : xs.length = m) (EY : m < 4611686018427387904)
   (h : ∀ σ', Own 2 σ' q m d ((sorted xs).flatMap encS) → Ext (σ.del q) (σ'.del q) → R (.returned (.tuple #[])) σ') : Spec prog 120 #[.slice q m d, .func (.func 121) #[] #[]] σ R := by
 intro w F hs hF
 by_cases Mi : m = 0
 · subst Mi
   have hx : xs = [] := List.eq_nil_of_length_eq_zero hm
   subst hx
   have Ho := Proofs.AnyF.slices_SortFunc_none Proofs.Tryz.Xh q d (.func (.func 121) #[] #[]) w
   change Calls prog 120 _ _ _ at Ho
   refine Ho.mono ?_
   rintro e w' ⟨rfl, rfl⟩
   exact ⟨σ, h σ (by simpa [sorted] using ho) (Ext.refl _), hs, fun b hb => ⟨(hF b hb).2, rfl⟩, .same rfl rfl rfl, rfl, Nat.le_refl _⟩
 · obtain ⟨b, o, rfl⟩ : ∃ b o, q = some ⟨b, o, none⟩ := by
     rcases ho.2.2 with ⟨_, h2, _⟩ | ⟨b', o', arr, T, hp, _⟩
     · exact absurd h2 Mi
     · exact ⟨b', o', hp⟩
   obtain ⟨arr, T, hb, hw, cz, Oo, H5⟩ := gX hs ho Mi
   have AE0 : (Sort.flatK encS 2 xs.toArray).size = m * 2 := by simp [hm]
   have O0 : ∀ j, j < m * 2 → arr[o + j]? = some (Sort.flatK encS 2 xs.toArray)[j]! := fun j hj => by
     rw [← TV xs j (by omega), ← H5, List.getElem?_take, if_pos hj, List.getElem?_drop, Array.getElem?_toList]
   have hH : Sort.HoldsK encS 2 w b o xs.toArray := fun j hj => by
     rw [AE0] at hj
     refine ⟨?_, by simp [World.frozen?, hw]⟩
     simp only [World.cell?, hw, id]
     simpa using O0 j hj
   have hblk : b < w.heap.size := (Array.getElem?_eq_some_iff.1 hw).1
   have eg : ∀ args w, (callFunc 121 args).run prog w = .ok (.enter 121 args) w := fun args w => Proofs.Tryz.call121 args w
   have ALP : Proofs.CmpLays prog 121 #[] encS 2 dU b o xs.toArray.size w := fun _ _ _ _ x y => R6 x y _
   have Ho := Proofs.AnyQ.slices_SortFunc_total Proofs.Tryz.Xh 2 Proofs.Tryz.isAgg215 Proofs.Tryz.sizeOf215 encS (fun _ => rfl) (fun x v hv => by simp [encS] at hv; rcases hv with rfl | rfl <;> rfl) dU ALN 121 #[] b o d xs.toArray w eg ALP hH hblk (by simpa [hm] using EY) ALO
   change Calls prog 120 _ _ _ at Ho
   rw [show xs.toArray.size = m by simpa using hm] at Ho
   rw [show (xs.toArray.toList.mergeSort fun x y => !Proofs.ltOf dU y x) = sorted xs from rfl] at Ho
   refine Ho.mono ?_
   rintro e w' ⟨rfl, n, os, rfl⟩
   let F2 := Sort.flatK encS 2 (sorted xs).toArray
   have hF2 : F2.size = m * 2 := by simp [F2, Dl, hm]
   have DI : ∀ k, (Proofs.sortWorldK encS 2 w b o n (sorted xs).toArray os).heap[k]? = if k < w.heap.size then (if b = k then (w.heap[k]?).map (Sort.onCells (Sort.putCells id o F2)) else w.heap[k]?) else os[k - w.heap.size]? := fun k => by
     simp only [Proofs.sortWorldK, Sort.grow, Sort.putRowK, Sort.putRow, Sort.mapBlock, Sort.ahead, Array.getElem?_append, Array.size_modify, Array.getElem?_modify]
     rfl
   refine ⟨σ.set b (.cells (Sort.putCells id o F2 arr) T (0, 0)), h _ ⟨by rw [Kf (k := 2) (fun _ => rfl), Dl, hm], by omega, .inr ⟨b, o, _, T, rfl, Hp.AA _ _ _, cz, by simpa [Sort.putCells] using Oo, ?_⟩⟩ (by rw [Hp.Bh]; exact Ext.refl _), ?_⟩
   · refine List.ext_getElem? fun j => ?_
     rw [List.getElem?_take]
     by_cases hj : j < m * 2
     · rw [if_pos hj, List.getElem?_drop, Array.getElem?_toList, E0, if_pos (by omega), TV _ _ (by rw [Dl]; omega), O0 j hj]
       simp [F2]
     · rw [if_neg hj, List.getElem?_eq_none (by rw [Kf (k := 2) (fun _ => rfl), Dl]; omega)]
   · refine ⟨fun k u hk => ?_, fun k hk => ?_, ⟨rfl, rfl, fun _ => ⟨n, rfl⟩⟩, rfl, by simp [Proofs.sortWorldK, Sort.grow, Sort.putRowK, Sort.putRow, Sort.mapBlock, Sort.ahead]⟩
     · rw [DI]
       by_cases C5 : k = b
       · subst C5
         rw [Hp.AA] at hk; cases hk
         rw [if_pos hblk, if_pos rfl, hw]; rfl
       · rw [Hp.AH C5] at hk
         have := hs k u hk
         rw [if_pos (Array.getElem?_eq_some_iff.1 this).1, if_neg (Ne.symm C5)]; exact this
     · have C5 : k ≠ b := fun e => by have := (hF k hk).2; rw [e, hb] at this; cases this
       refine ⟨by rw [Hp.AH C5]; exact (hF k hk).2, ?_⟩
       rw [DI, if_pos (hF k hk).1, if_neg (Ne.symm C5)]
end TwW
end
section
namespace TwW
open Go Tw Go.Proofs.Tryz
def Kg (m : Mem) : List F5 := if m.state = 2 then m.B5.map (fun t => (t, m.id)) else []
def Bf (ms : List Mem) : List F5 := ms.flatMap Kg
theorem Xi (m : Mem) (N : Nat) (h : m.B5.length ≤ N) : (Kg m).length ≤ N := by
 unfold Kg; split <;> simp; exact h
theorem Kh : ∀ (ms : List Mem) (N : Nat), (∀ m ∈ ms, m.B5.length ≤ N) → (Bf ms).length ≤ ms.length * N
 | [], N, _ => by simp [Bf]
 | m :: ms, N, h => by
   have h1 := Kh ms N (fun x hx => h x (List.mem_cons_of_mem _ hx))
   have h2 := Xi m N (h m (List.mem_cons_self ..))
   simp only [Bf, List.flatMap_cons, List.length_append, List.length_cons, Nat.add_mul] at *
   omega
theorem Q7 {ms : List Mem} {i : Nat} {m : Mem} (h : ms[i]? = some m) : Bf (ms.take (i + 1)) = Bf (ms.take i) ++ Kg m := by
 simp [Bf, List.take_add_one, h]
abbrev c5 (τ : Hp) (b : Nat) (q : Option Addr) (m d : Nat) : Hp := τ.set b (.cells #[.slice q m d] 213 (0, 0))
theorem rQ (w : World) : (Go.sizeOf 213).run prog w = .ok 1 w := Go.Proofs.Tryz.sizeOf213 w
def KM (_ : Hp) (vs : List Value) (x : F5) : Prop := vs = encS x
theorem KM.mono : Oq KM := fun _ _ _ _ _ h => h
theorem rR {σ : Hp} : ∀ {xs : List F5}, Ch 2 KM σ (xs.flatMap encS) xs := fun {xs} => by
 refine ⟨Kf (k := 2) (fun _ => rfl) xs, fun i x hx => ?_⟩
 show _ = encS x
 refine List.ext_getElem? fun j => ?_
 rw [List.getElem?_take]
 by_cases hj : j < 2
 · rw [if_pos hj, List.getElem?_drop, Q5 (k := 2) (fun _ => rfl) (by decide), show (i * 2 + j) / 2 = i by omega, show (i * 2 + j) % 2 = j by omega, hx]; rfl
 · rw [if_neg hj, List.getElem?_eq_none (by show 2 ≤ j; omega)]
theorem gY {x : F5} : CR (encS x) := by
 intro u hu
 simp [encS] at hu
 rcases hu with rfl | rfl <;> rfl
theorem Xj {R : Rr} {σ : Hp} {e hash : Int} {p : Option Addr} {n c : Nat} {ms : List Mem} (hr : Nq σ p n ms) (Aq : Ku ms)
   (h : ∀ b5 D8 q m d τ k, τ b5 = none → τ D8 = none → b5 ≠ D8 → Ext σ τ → Fi 2 KM (σ.new τ) q m (sorted (Bf ms)) → k ≤ m → (∀ s ∈ (sorted (Bf ms)).take k, s.1 < hash) → (∀ s, (sorted (Bf ms))[k]? = some s → ¬ s.1 < hash) →
     R (.returned (.func (.func 125) #[] #[.pointer (some ⟨b5, 0, none⟩), .pointer (some ⟨D8, 0, none⟩)])) ((c5 τ b5 q m d).set D8 (.cells #[.int .i64 k] 3 (0, 0)))) :
   Spec prog 55 #[F4 e p n c, .int .u32 hash] σ R := by
 have hn : ms.length = n := hr.1
 have hlen := Aq.len
 refine BG.start fun _ b5 Wu => ?_
 have AE1 : ∀ q m d τ, m = (Bf ms).length → τ b5 = none → Ext σ τ → Own 2 (σ.new τ) q m d ((Bf ms).flatMap encS) → ∃ Ra : Option Addr, ∃ n37 : Nat, ∃ c37 : Nat, Hp.ld (c5 τ b5 q m d) ⟨b5, 0, none⟩ = some (.slice Ra n37 c37) ∧ Spec prog 120 #[(.slice Ra n37 c37), (.func (.func 121) #[] #[])] (c5 τ b5 q m d) (AB R (fun v σ1 => v = (.tuple #[]) ∧ ∀ D8 : Nat, σ1 D8 = none → AJ prog (Instr.storeAt 3 (.pointer (some ⟨D8, 0, none⟩)) (.int .i64 0)) (Hp.set σ1 D8 (.cells #[(.int .i64 0)] 3 (0, 0))) (fun _ Az => BG.G0 R hash b5 D8 Az))) := by
   intro q m d τ hm hb hx ho
   refine ⟨q, m, d, Ad rfl, Spec.B6 hb ?_⟩
   have FV : m ≤ 1024 := by
     have h1 := Kh ms 64 (fun x hx => (Aq.1 x hx).2.2.2.2.2.1)
     omega
   refine Q6 (ho.mono (Ext.Af σ τ)) hm.symm (by omega) fun τ' Em Ci Jn => ⟨rfl, fun D8 AE2 => ?_⟩
   obtain ⟨Ae, uf⟩ := Hp.AM AE2
   refine AJ.store Xe (Hp.AA _ _ _) rfl (by simp) (by simp [Value.cells, Value.oneCell']) ?_
   rw [Hp.set_set]
   have fV : Ext σ τ' := CL ho.De Ci hx
   have hL : (sorted (Bf ms)).length = m := by rw [Dl, hm]
   have L0 : Fi 2 KM (σ.new τ') q m (sorted (Bf ms)) := ⟨hL, _, (Own.CC Em (Bb ho.De Ci hx)).rd, rR⟩
   have HJ : Fi 2 KM τ' q m (sorted (Bf ms)) := L0.mono KM.mono (Ext.Af σ τ')
   suffices H : ∀ g k, m - k = g → k ≤ m → (∀ s ∈ (sorted (Bf ms)).take k, s.1 < hash) → BG.G0 R hash b5 D8 ((c5 τ' b5 q m d).set D8 (.cells #[.int .i64 k] 3 (0, 0))) from by
     have := H m 0 rfl (by omega) (by simp)
     simpa [DT, Value.cells] using this
   intro g
   induction g with
   | zero =>
     intro k hg hk Rh
     refine BG.PT ⟨k, Ad rfl, q, m, d, by rw [Hp.set_comm Ae.symm]; exact Ad rfl, fun Ag => by omega, fun _ => ?_⟩
     exact h b5 D8 q m d τ' k Jn uf Ae.symm fV L0 hk Rh (fun s hs => by have := (List.getElem?_eq_some_iff.1 hs).1; omega)
   | succ g ih =>
     intro k hg hk Rh
     obtain ⟨s, hs⟩ := HJ.ex (k := k) (by omega)
     obtain ⟨b, o, vs, hq, hv, hl⟩ := Fi.idx HJ hs
     have hv : vs = encS s := hv
     subst hv
     have Ni : Ext τ' ((c5 τ' b5 q m d).set D8 (.cells #[.int .i64 k] 3 (0, 0))) := (Ext.set Jn).trans (.set AE2)
     refine BG.PT ⟨k, Ad rfl, q, m, d, by rw [Hp.set_comm Ae.symm]; exact Ad rfl, fun Ag => ⟨q, m, d, by rw [Hp.set_comm Ae.symm]; exact Ad rfl, k, Ad rfl, b, o, hq, by omega, s.1, by simpa using Ni.ld hl.1, fun ht => ⟨k, Ad rfl, by unfold AN; omega, ?_⟩, fun ht => ?_⟩, fun FB => by omega⟩
     · refine AJ.store Xe (Hp.AA _ _ _) rfl (by simp) (by simp [Value.cells, Value.oneCell']) ?_
       rw [Hp.set_set]
       have := ih (k + 1) (by omega) (by omega) (fun s' Hu => by
         rw [List.take_add_one, hs] at Hu
         simp only [Option.toList, List.mem_append, List.mem_singleton] at Hu
         rcases Hu with Hu | rfl
         · exact Rh s' Hu
         · exact ht)
       simpa [DT, Value.cells] using this
     · exact h b5 D8 q m d τ' k Jn uf Ae.symm fV L0 hk Rh (fun s' Hu => by rw [hs] at Hu; cases Hu; exact ht)
 suffices H : ∀ g i : Nat, ∀ q m d τ, n - i = g → i ≤ n → m = (Bf (ms.take i)).length → τ b5 = none → Ext σ τ → Own 2 (σ.new τ) q m d ((Bf (ms.take i)).flatMap encS) → BG.A4 R hash b5 p n c n i (c5 τ b5 q m d) from
   H n 0 none 0 0 σ rfl (by omega) rfl Wu (.refl σ) .nil
 intro g
 induction g with
 | zero =>
   intro i q m d τ hg hi hm hb hx ho
   refine BG.AW ⟨fun Ag => by omega, fun _ => ?_⟩
   rw [List.take_of_length_le (by omega)] at hm ho
   exact AE1 q m d τ hm hb hx ho
 | succ g ih =>
   intro i q m d τ hg hi hm hb hx ho
   refine BG.AW ⟨fun Ag => ?_, fun FB => by omega⟩
   obtain ⟨mm, gZ⟩ := hr.ex (k := i) (by omega)
   obtain ⟨b, o, q1, j, d1, rfl, hl, ht⟩ := hr.at' gZ
   have C2 : mm ∈ ms := List.mem_of_getElem? gZ
   have ga := Aq.1 mm C2
   have hj : mm.B5.length = j := ht.1
   have AR5 : j ≤ 64 := by rw [← hj]; exact ga.2.2.2.2.2.1
   have O1 : (Bf (ms.take i)).length ≤ i * 64 := by
     have h1 := Kh (ms.take i) 64 (fun x hx => (Aq.1 x (List.mem_of_mem_take hx)).2.2.2.2.2.1)
     rw [List.length_take] at h1
     have : min i ms.length * 64 ≤ i * 64 := Nat.mul_le_mul_right _ (Nat.min_le_left ..)
     omega
   refine ⟨b, o, rfl, by omega, mm.id, mm.state, q1, j, d1, by simpa using hl.mono (hx.trans (.set hb)), fun _ => ?_⟩
   suffices H2 : ∀ g2 k : Nat, ∀ q m d τ, j - k = g2 → k ≤ j → m = (Bf (ms.take i) ++ (if mm.state = 2 then (mm.B5.take k).map (fun t => (t, mm.id)) else [])).length → τ b5 = none → Ext σ τ → Own 2 (σ.new τ) q m d ((Bf (ms.take i) ++ (if mm.state = 2 then (mm.B5.take k).map (fun t => (t, mm.id)) else [])).flatMap encS) →
       BG.GV R hash b5 mm.id mm.state q1 j d1 (some ⟨b, o, none⟩) n c n i q1 j d1 j k (c5 τ b5 q m d) from
     H2 j 0 q m d τ rfl (by omega) (by simpa using hm) hb hx (by simpa using ho)
   intro g2
   induction g2 with
   | zero =>
     intro k q m d τ hg2 hk hm hb hx ho
     refine BG.Fe ⟨fun Ag => by omega, fun _ => ⟨by unfold AN; omega, ih (i + 1) q m d τ (by omega) (by omega) ?_ hb hx ?_⟩⟩
     all_goals rw [List.take_of_length_le (by omega : mm.B5.length ≤ k)] at *
     · rw [Q7 gZ]; exact hm
     · rw [Q7 gZ]; exact ho
   | succ g2 rN =>
     intro k q m d τ hg2 hk hm hb hx ho
     obtain ⟨t, Mr⟩ := ht.ex (k := k) (by omega)
     obtain ⟨b2, o2, rfl, R1⟩ := ht.at Mr
     refine BG.Fe ⟨fun _ => ⟨b2, o2, rfl, by omega, t, by simpa using (hx.trans (.set hb)).ld R1, fun h2 => ?_, fun h2 => ?_⟩, fun FB => by omega⟩
     · refine ⟨q, m, d, Ad rfl, fun YU gb => ?_⟩
       obtain ⟨Ae, AE3⟩ := Hp.AM gb
       rw [Hp.set_comm Ae.symm]
       rw [if_pos h2] at hm ho
       have AOW : m ≤ 2048 := by rw [hm]; simp; omega
       refine AJ.B6 (Hp.BD Ae.symm hb) (Iy (m := 1) (ys := encS (t, mm.id)) hx ho rfl gY (by omega) (fun q' d' τ' Em Ci _ Jn => ⟨q', m + 1, d', rfl, ?_⟩) AE3)
       refine AJ.store rQ (Hp.AA _ _ _) rfl (by simp) (by simp [Value.cells, Value.oneCell']) ?_
       rw [Hp.set_set]
       have e1 : mm.B5.take (k + 1) = mm.B5.take k ++ [t] := AO Mr
       have := rN (k + 1) q' (m + 1) d' τ' (by omega) (by omega) (by rw [if_pos h2, e1, hm]; simp; omega) Jn Ci (by
         rw [if_pos h2, e1, List.map_append, ← List.append_assoc, List.flatMap_append]
         simpa using Em)
       refine BG.MT ⟨by unfold AN; omega, ?_⟩
       simpa [DT, Value.cells] using this
     · rw [if_neg h2] at hm ho
       exact BG.MT ⟨by unfold AN; omega, rN (k + 1) q m d τ (by omega) (by omega) (by rw [if_neg h2]; exact hm) hb hx (by rw [if_neg h2]; exact ho)⟩
end TwW
end
section
namespace TwW
open Go Tw Go.Proofs.Tryz
def R7 (ms : List Mem) (hash : Int) : List F5 := (sorted (Bf ms)).dropWhile (fun s => decide (s.1 < hash)) ++ (sorted (Bf ms)).takeWhile (fun s => decide (s.1 < hash))
def dd : List Int → List Int → List Int
 | acc, [] => acc
 | acc, x :: xs => if x ∈ acc then dd acc xs else dd (acc ++ [x]) xs
def round (ms : List Mem) (hash : Int) : List Int := dd [] ((R7 ms hash).map Prod.snd)
theorem aQ : ∀ (xs acc : List Int), ∃ E, dd acc xs = acc ++ E
 | [], acc => ⟨[], by simp [dd]⟩
 | x :: xs, acc => by
   unfold dd
   split
   · exact aQ xs acc
   · obtain ⟨E, hE⟩ := aQ xs (acc ++ [x])
     exact ⟨x :: E, by rw [hE]; simp⟩
theorem aR : ∀ (xs ys acc : List Int), dd acc (xs ++ ys) = dd (dd acc xs) ys
 | [], ys, acc => rfl
 | x :: xs, ys, acc => by
   simp only [List.cons_append, dd]
   split <;> exact aR xs ys _
theorem aS : ∀ (xs acc : List Int) (y : Int), y ∈ dd acc xs ↔ y ∈ acc ∨ y ∈ xs
 | [], acc, y => by simp [dd]
 | x :: xs, acc, y => by
   unfold dd
   split
   · rename_i h
     rw [aS xs acc y, List.mem_cons]
     constructor
     · rintro (h1 | h1)
       · exact .inl h1
       · exact .inr (.inr h1)
     · rintro (h1 | rfl | h1)
       · exact .inl h1
       · exact .inl h
       · exact .inr h1
   · rw [aS xs _ y]; simp [or_assoc]
theorem Q8 : ∀ (xs acc : List Int), acc.Nodup → (dd acc xs).Nodup
 | [], acc, h => h
 | x :: xs, acc, h => by
   unfold dd
   split
   · exact Q8 xs acc h
   · rename_i hx
     refine Q8 xs _ ?_
     rw [List.nodup_append]
     exact ⟨h, by simp, fun a ha b hb => by simp at hb; subst hb; exact fun e => hx (e ▸ ha)⟩
theorem aT {xs : List F5} {x : F5} : x ∈ sorted xs ↔ x ∈ xs := (List.mergeSort_perm xs _).mem_iff
theorem Xk {ms : List Mem} {hash : Int} {s : F5} : s ∈ R7 ms hash ↔ s ∈ Bf ms := by
 unfold R7
 rw [List.mem_append, or_comm, ← List.mem_append, List.takeWhile_append_dropWhile, aT]
def kd (hash t : Int) : Int := (t - hash) % 4294967296
def oC (t : Int) : Prop := 0 ≤ t ∧ t < 4294967296
def better (hash : Int) (b : Option F5) (s : F5) : Option F5 :=
 match b with
 | none => some s
 | some u => if kd hash s.1 < kd hash u.1 then some s else some u
def pick (hash : Int) (xs : List F5) : Option F5 := xs.foldl (better hash) none
theorem Nr : ∀ (A B : List Int), A.Nodup → (∀ x ∈ A, x ∈ B) → A.length ≤ B.length
 | [], B, _, _ => Nat.zero_le _
 | a :: A, B, hn, h => by
   rw [List.nodup_cons] at hn
   have ha := h a (List.mem_cons_self ..)
   have := Nr A (B.erase a) hn.2 (fun x hx => (List.mem_erase_of_ne (fun (e : x = a) => hn.1 (by rw [← e]; exact hx))).2 (h x (List.mem_cons_of_mem _ hx)))
   rw [List.length_erase_of_mem ha] at this
   have hb : 0 < B.length := List.length_pos_of_mem ha
   simp; omega
theorem Xl {A B : List Int} (ha : A.Nodup) (hb : B.Nodup) (h : ∀ x, x ∈ A ↔ x ∈ B) : A.length = B.length :=
 Nat.le_antisymm (Nr A B ha fun x hx => (h x).1 hx) (Nr B A hb fun x hx => (h x).2 hx)
def Bz (ms : List Mem) : List Int := (ms.filter fun m => decide (m.state = 2)).map Mem.id
theorem l8 {ms : List Mem} (Aq : Ku ms) (x : Int) : x ∈ (Bf ms).map Prod.snd ↔ x ∈ Bz ms := by
 unfold Bf Bz
 simp only [List.mem_map, List.mem_flatMap, List.mem_filter, decide_eq_true_eq]
 constructor
 · rintro ⟨s, ⟨m, hm, hs⟩, rfl⟩
   unfold Kg at hs
   split at hs
   · rename_i h2
     obtain ⟨t, ht, rfl⟩ := List.mem_map.1 hs
     exact ⟨m, ⟨hm, h2⟩, rfl⟩
   · cases hs
 · rintro ⟨m, ⟨hm, h2⟩, rfl⟩
   have h1 := (Aq.1 m hm).2.2.2.2.1
   cases hto : m.B5 with
   | nil => rw [hto] at h1; simp at h1
   | cons t ts => exact ⟨(t, m.id), ⟨m, hm, by unfold Kg; rw [if_pos h2, hto]; simp⟩, rfl⟩
theorem Q9 {xs : List Int} (h : EM xs) : xs.Nodup := List.Pairwise.imp (fun {a b} (fz : a < b) => by omega) h
theorem TW {ms : List Mem} {hash x : Int} (Aq : Ku ms) : x ∈ round ms hash ↔ x ∈ Bz ms := by
 unfold round
 rw [aS, ← l8 Aq]
 simp only [List.not_mem_nil, false_or, List.mem_map]
 constructor
 · rintro ⟨s, hs, rfl⟩; exact ⟨s, Xk.1 hs, rfl⟩
 · rintro ⟨s, hs, rfl⟩; exact ⟨s, Xk.2 hs, rfl⟩
theorem Od (ms : List Mem) (hash : Int) : (round ms hash).Nodup := Q8 _ _ List.nodup_nil
theorem TX {ms : List Mem} {hash : Int} (Aq : Ku ms) : (round ms hash).length = (Bz ms).length :=
 Xl (Od ms hash) ((Q9 Aq.2).sublist ((List.filter_sublist).map _)) fun x => TW Aq
end TwW
end
section
namespace TwW
open Go Tw Go.Proofs.Tryz
theorem aU {R : Rr} {σ : Hp} {p : Option Addr} {n c : Nat} {x : Int} {xs : List Int} (hr : B9 .i64 σ p n xs) (h : ∀ i : Int, (0 ≤ i ↔ x ∈ xs) → R (.returned (.int .i64 i)) σ) :
   Spec prog 114 #[.slice p n c, .int .i64 x] σ R := by
 refine slices_Index_int.start ?_
 suffices H : ∀ d k : Nat, n - k = d → k ≤ n → x ∉ xs.take k → slices_Index_int.NY R p n c x n k σ from H n 0 rfl (Nat.zero_le _) (by simp)
 intro d
 induction d with
 | zero =>
   intro k hd hk BX
   refine slices_Index_int.D7 ⟨fun Ag => by omega, fun _ => h (-1) ?_⟩
   rw [List.take_of_length_le (by rw [hr.1]; omega)] at BX
   exact ⟨fun h => absurd h (by decide), fun h => absurd h BX⟩
 | succ d ih =>
   intro k hd hk BX
   obtain ⟨y, hy⟩ := hr.ex (k := k) (by omega)
   obtain ⟨b, o, rfl, hl⟩ := hr.at hy
   refine slices_Index_int.D7 ⟨fun _ => ⟨b, o, rfl, by omega, y, by simpa using hl, fun he => h k ⟨fun _ => ?_, fun _ => by omega⟩, fun Ae => ⟨Aa (by omega) hr.big, ih (k + 1) (by omega) (by omega) ?_⟩⟩, fun FB => by omega⟩
   · rw [show x = y by omega]; exact List.mem_of_getElem? hy
   · rw [Fa hy]
     rintro (h1 | h1)
     · exact BX h1
     · exact Ae (by omega)
theorem Hr {R : Rr} {σ : Hp} {p : Option Addr} {n c : Nat} {x : Int} {xs : List Int} (hr : B9 .i64 σ p n xs) (h : R (.returned (.bool (decide (x ∈ xs)))) σ) :
   Spec prog 50 #[.slice p n c, .int .i64 x] σ R :=
 slices_Contains_int.start (aU hr fun i hi => ⟨i, rfl, by dsimp only; rw [show decide (0 ≤ i) = decide (x ∈ xs) by by_cases hx : x ∈ xs <;> simp [hx, hi]]; exact h⟩)
abbrev NA (b5 b6 b7 b8 D l : Nat) (rf : Int) (o6 : Value) (o7 : Int) (q : Option Addr) (n d : Nat) (lo : Loop) : List (Nat × Obj) :=
 [(l, .loop lo), (D, .deferred (some [])), (b8, .cells #[.slice q n d] 26 (0, 0)), (b7, .cells #[.int .i64 o7] 67 (0, 0)), (b6, .cells #[o6] 26 (0, 0)), (b5, .cells #[.int .i64 rf] 3 (0, 0))]
theorem KN {B : Hp} {b5 b6 b7 b8 D l : Nat} {rf : Int} {o6 : Value} {o7 : Int} {q : Option Addr} {n d : Nat} {lo lo' : Loop} : (AX B (NA b5 b6 b7 b8 D l rf o6 o7 q n d lo)).set l (.loop lo') = AX B (NA b5 b6 b7 b8 D l rf o6 o7 q n d lo') := Hp.set_set
theorem PY (w : World) : (Go.sizeOf 26).run prog w = .ok 1 w := Go.Proofs.Tryz.sizeOf26 w
theorem aV (w : World) : (Go.sizeOf 67).run prog w = .ok 1 w := Go.Proofs.Tryz.sizeOf67 w
section
variable {b5 b6 b7 b8 D l : Nat}
def Nd (b5 b6 b7 b8 D l : Nat) : Prop := [l, D, b8, b7, b6, b5].Nodup
def Xm (b5 b6 b7 b8 D l : Nat) (B : Hp) : Prop := ∀ b ∈ [l, D, b8, b7, b6, b5], B b = none
theorem TY {R2 : Rr} {σ B : Hp} {r0 : Loop} {n k0 d : Nat} {q : Option Addr} {out : List Int} (hn : Nd b5 b6 b7 b8 D l)
   (ready : n ≠ k0 → R2 (.returned (.bool true)) (AX B (NA b5 b6 b7 b8 D l k0 (.slice none 0 0) 0 q n d (lp r0 .ready none))))
   (stop : n = k0 → R2 (.returned (.bool false)) (AX B (NA b5 b6 b7 b8 D l k0 (.slice q n d) 0 q n d (lp r0 .done (some .ret))))) :
   DR.pH R2 l r0 b5 b6 b7 b8 (AX B (NA b5 b6 b7 b8 D l k0 (.slice none 0 0) 0 q n d (lp r0 .busy none))) := by
 refine DR.pJ ⟨q, n, d, Hv (i := 2) hn rfl rfl, k0, Hv (i := 5) hn rfl rfl, fun he => ⟨q, n, d, Hv (i := 2) hn rfl rfl, ?_⟩, fun Ae => ⟨B4 (i := 0) hn rfl, ?_⟩⟩
 · refine AJ.B1 (i := 4) (c := #[.slice none 0 0]) PY hn rfl rfl rfl rfl rfl ?_
   refine AJ.B1 (i := 3) (c := #[.int .i64 0]) aV hn rfl rfl rfl rfl rfl ?_
   refine ⟨B4 (i := 0) hn rfl, ?_⟩
   have Kj := stop (by omega)
   rw [← KN (lo := lp r0 .busy none)] at Kj
   exact Kj
 · have cN := ready (by omega)
   rw [← KN (lo := lp r0 .busy none)] at cN
   exact cN
theorem aW {R2 : Rr} {σ B : Hp} {r0 : Loop} {n k0 d : Nat} {q : Option Addr} {out : List Int} {x : Int} (hn : Nd b5 b6 b7 b8 D l) (Ep : Xm b5 b6 b7 b8 D l B) (hx : Ext σ B) (ho : AR .i64 (σ.new B) q n d out) (hnk : n < k0) (hk5 : k0 ≤ 5)
   (ready : ∀ q' n' d' B' KO, KO = (if x ∈ out then out else out ++ [x]) → n' = KO.length → n' < k0 → Xm b5 b6 b7 b8 D l B' → Ext σ B' → AR .i64 (σ.new B') q' n' d' KO → Ext ((σ.new B).del q) ((σ.new B').del q') → R2 (.returned (.bool true)) (AX B' (NA b5 b6 b7 b8 D l k0 (.slice none 0 0) 0 q' n' d' (lp r0 .ready none))))
   (stop : ∀ q' d' B' KO, KO = (if x ∈ out then out else out ++ [x]) → k0 = KO.length → Xm b5 b6 b7 b8 D l B' → Ext σ B' → AR .i64 (σ.new B') q' k0 d' KO → R2 (.returned (.bool false)) (AX B' (NA b5 b6 b7 b8 D l k0 (.slice q' k0 d') 0 q' k0 d' (lp r0 .done (some .ret))))) :
   DR.Am R2 l r0 b5 b6 b7 b8 x (AX B (NA b5 b6 b7 b8 D l k0 (.slice none 0 0) 0 q n d (lp r0 .ready none))) := by
 have hol : out.length = n := ho.rd.1
 have AOY : ∀ lo o6 o7 q n d, HP (NA b5 b6 b7 b8 D l k0 o6 o7 q n d lo) B := fun _ _ _ _ _ _ => Ep
 refine DR.BB ⟨B4 (i := 0) hn rfl, ?_⟩
 rw [show Hp.set (AX B (NA b5 b6 b7 b8 D l k0 (.slice none 0 0) 0 q n d (lp r0 .ready none))) l (.loop (lp r0 .busy none)) = AX B (NA b5 b6 b7 b8 D l k0 (.slice none 0 0) 0 q n d (lp r0 .busy none)) from KN]
 change ∃ OA : Option Addr, ∃ n25 : Nat, ∃ M7 : Nat, Hp.ld (AX B (NA b5 b6 b7 b8 D l k0 (.slice none 0 0) 0 q n d (lp r0 .busy none))) ⟨b8, 0, none⟩ = some (.slice OA n25 M7) ∧ Spec prog 50 #[.slice OA n25 M7, .int .i64 x] (AX B (NA b5 b6 b7 b8 D l k0 (.slice none 0 0) 0 q n d (lp r0 .busy none))) _
 have QT : Ext B (AX B (NA b5 b6 b7 b8 D l k0 (.slice none 0 0) 0 q n d (lp r0 .busy none))) := HP.ext (hn : (names (NA b5 b6 b7 b8 D l k0 (.slice none 0 0) 0 q n d (lp r0 .busy none))).Nodup) Ep
 refine ⟨q, n, d, Hv (i := 2) hn rfl rfl, Hr (ho.rd.mono ((Ext.Af σ B).trans QT)) ⟨_, rfl, fun hf => ?_, fun ht => ?_⟩⟩
 · have hnx : x ∉ out := by simpa using hf
   refine ⟨q, n, d, Hv (i := 2) hn rfl rfl, fun Jp rS => ?_⟩
   obtain ⟨MA, hB⟩ := By rS
   rw [DC MA]
   refine AJ.CD hn (HP.set (L := NA b5 b6 b7 b8 D l k0 (.slice none 0 0) 0 q n d (lp r0 .busy none)) Ep MA) (AR.H7 hx ho (by omega) (fun q' d' B' Em Ci SE TZ => ⟨q', n + 1, d', rfl, ?_⟩) hB)
   refine AJ.B1 (i := 2) (c := #[.slice q n d]) PY hn rfl rfl rfl rfl rfl ?_
   have hlen : (out ++ [x]).length = n + 1 := by simp [hol]
   refine TY (σ := σ) (out := out) hn (fun Ae => ready q' (n + 1) d' B' (out ++ [x]) (by rw [if_neg hnx]) hlen.symm (by omega) TZ Ci Em SE) fun he => ?_
   subst he
   exact stop q' d' B' (out ++ [x]) (by rw [if_neg hnx]) hlen.symm TZ Ci Em
 · have Uy : x ∈ out := by simpa using ht
   refine TY (σ := σ) (out := out) hn (fun Ae => ready q n d B out (by rw [if_pos Uy]) hol.symm hnk Ep hx ho (.refl _)) fun he => by omega
end
theorem ug : ∀ (L : List F5) (k : Nat) (hash : Int), (∀ s ∈ L.take k, s.1 < hash) → (∀ s, L[k]? = some s → ¬ s.1 < hash) → L.takeWhile (fun s => decide (s.1 < hash)) = L.take k ∧ L.dropWhile (fun s => decide (s.1 < hash)) = L.drop k
 | [], k, hash, _, _ => by simp
 | x :: L, 0, hash, _, h2 => by
   have := h2 x rfl
   simp [List.takeWhile, List.dropWhile, decide_eq_false this]
 | x :: L, k + 1, hash, h1, h2 => by
   have hx : x.1 < hash := h1 x (by simp)
   have ih := ug L k hash (fun s hs => h1 s (by simp [hs])) (fun s hs => h2 s (by simpa using hs))
   simp [List.takeWhile, List.dropWhile, decide_eq_true hx, ih.1, ih.2]
theorem l9 {ms : List Mem} {hash : Int} {k m j : Nat} (hm : (sorted (Bf ms)).length = m) (hk : k ≤ m) (h1 : ∀ s ∈ (sorted (Bf ms)).take k, s.1 < hash) (h2 : ∀ s, (sorted (Bf ms))[k]? = some s → ¬ s.1 < hash) (hj : j < m) :
   (R7 ms hash)[j]? = (sorted (Bf ms))[(k + j) % m]? := by
 obtain ⟨e1, e2⟩ := ug _ k hash h1 h2
 unfold R7
 rw [e1, e2, List.getElem?_append, List.length_drop, hm]
 by_cases Ty : j < m - k
 · rw [if_pos Ty, List.getElem?_drop, Nat.mod_eq_of_lt (by omega)]
 · rw [if_neg Ty, List.getElem?_take, if_pos (by omega), show (k + j) % m = j - (m - k) by rw [Nat.mod_eq_sub_mod (by omega), Nat.mod_eq_of_lt (by omega)]; omega]
theorem mA {ms : List Mem} {hash : Int} : (R7 ms hash).length = (Bf ms).length := by
 unfold R7
 rw [List.length_append, Nat.add_comm, ← List.length_append, List.takeWhile_append_dropWhile, Dl]
theorem U9 {R : Rr} {σ0 : Hp} {Hj c5 l k m d : Nat} {q : Option Addr} {ms : List Mem} {hash : Int} {I : Nat → Hp → Prop} {S : Hp → Prop}
   (hm : (sorted (Bf ms)).length = m) (hm9 : m ≤ 1024) (hk : k ≤ m) (h1 : ∀ s ∈ (sorted (Bf ms)).take k, s.1 < hash) (h2 : ∀ s, (sorted (Bf ms))[k]? = some s → ¬ s.1 < hash)
   (hI : ∀ j σ, I j σ → Hp.ld σ ⟨c5, 0, none⟩ = some (.slice q m d) ∧ Hp.ld σ ⟨Hj, 0, none⟩ = some (.int .i64 k) ∧ Fi 2 KM σ q m (sorted (Bf ms)))
   (N0 : ∀ j σ s, I j σ → (R7 ms hash)[j]? = some s → H8 prog l #[.int .i64 s.2] σ (fun e σ' => (e = .returned (.bool true) ∧ I (j + 1) σ') ∨ (e = .returned (.bool false) ∧ S σ')))
   (dz : ∀ σ, I m σ → R (.returned (.tuple #[])) σ) (AE4 : ∀ σ, S σ → R (.returned (.tuple #[])) σ) (h0 : I 0 σ0) :
   Spec prog 125 #[.func (.yield l) #[] #[], .pointer (some ⟨c5, 0, none⟩), .pointer (some ⟨Hj, 0, none⟩)] σ0 R := by
 refine EJ.start ⟨q, m, d, (hI 0 σ0 h0).1, ?_⟩
 suffices H : ∀ g j : Nat, ∀ σ, m - j = g → j ≤ m → I j σ → EJ.pt5 R (.func (.yield l) #[] #[]) c5 Hj m j σ from H m 0 σ0 rfl (by omega) h0
 intro g
 induction g with
 | zero =>
   intro j σ hg hj hi
   obtain rfl : j = m := by omega
   exact EJ.kX ⟨fun Ag => by omega, fun _ => dz σ hi⟩
 | succ g ih =>
   intro j σ hg hj hi
   obtain ⟨f1, f2, f3⟩ := hI j σ hi
   have hjm : j < m := by omega
   have Rm : (k + j) % m < m := Nat.mod_lt _ (by omega)
   obtain ⟨s, hs⟩ := f3.ex Rm
   obtain ⟨b, o, vs, hq, hv, hl⟩ := Fi.idx f3 hs
   have hv : vs = encS s := hv
   subst hv
   have H5 : (R7 ms hash)[j]? = some s := by rw [l9 hm hk h1 h2 hjm]; exact hs
   refine EJ.kX ⟨fun _ => ⟨q, m, d, f1, k, f2, by unfold AN; omega, q, m, d, f1, by omega, fun I7 ALQ => ?_⟩, fun FB => by omega⟩
   have h17 : I7 = (((k + j) % m : Nat) : Int) := by
     rw [ALQ, Int.tmod_eq_emod_of_nonneg (by omega), Int.natCast_emod, Int.natCast_add]
   subst h17
   refine ⟨b, o, hq, by omega, s.2, by rw [Int.toNat_natCast]; exact hl.2.1, l, rfl, (N0 j σ s hi H5).mono fun e σ' he => ?_⟩
   rcases he with ⟨rfl, HI⟩ | ⟨rfl, Hu⟩
   · exact ⟨true, rfl, fun h => (by cases h), fun _ => ⟨by unfold AN; omega, ih (j + 1) σ' (by omega) (by omega) HI⟩⟩
   · exact ⟨false, rfl, fun _ => AE4 σ' Hu, fun h => by cases h⟩
end TwW
end
section
namespace TwW
open Go Tw Go.RowKit Go.Proofs.Tryz
structure Part where
 s : Sm
 rs : List Int
def Dm (σ : Hp) (vs : List Value) (x : Part × Nat) : Prop := ∃ p n c q m d, vs = [.slice p n c, .int .i64 x.1.s.t, .int .u64 x.1.s.v, .slice q m d, .map (some x.2)] ∧ Nn σ p n x.1.s.ls ∧ B9 .i64 σ q m x.1.rs
theorem Dm.mono : Oq Dm := fun _ _ _ _ hx ⟨p, n, c, q, m, d, hv, h1, h2⟩ => ⟨p, n, c, q, m, d, hv, h1.mono G7.mono hx, h2.mono hx⟩
abbrev EO := List (Int × Int)
def Jd : EO → Int → Int
 | [], _ => 0
 | (a, b) :: l, x => if a = x then b else Jd l x
def RA : EO → Int → Int → EO
 | [], x, y => [(x, y)]
 | (a, b) :: l, x, y => if a = x then (x, y) :: l else (a, b) :: RA l x y
def G8 (x : Int) : Bool := decide (x = 1 ∨ x = 2)
def Xn (f : EO) : Nat := (f.filter fun x => G8 x.2).length
theorem aX {f : EO} {x : Int} (h : ∀ a ∈ f, a.1 ≠ x) : Jd f x = 0 := by
 induction f with
 | nil => rfl
 | cons a f ih => rw [Jd, if_neg (h a (by simp))]; exact ih fun b hb => h b (List.mem_cons_of_mem _ hb)
theorem gg {f1 f2 : EO} {x y : Int} (h : ∀ a ∈ f1, a.1 ≠ x) : Jd (f1 ++ (x, y) :: f2) x = y := by
 induction f1 with
 | nil => simp [Jd]
 | cons a f ih => rw [List.cons_append, Jd, if_neg (h a (by simp))]; exact ih fun b hb => h b (List.mem_cons_of_mem _ hb)
theorem Ta {f : EO} {x y : Int} (h : ∀ a ∈ f, a.1 ≠ x) : RA f x y = f ++ [(x, y)] := by
 induction f with
 | nil => rfl
 | cons a f ih => rw [RA, if_neg (h a (by simp)), ih fun b hb => h b (List.mem_cons_of_mem _ hb)]; rfl
theorem Xo {f1 f2 : EO} {x y z : Int} (h : ∀ a ∈ f1, a.1 ≠ x) : RA (f1 ++ (x, z) :: f2) x y = f1 ++ (x, y) :: f2 := by
 induction f1 with
 | nil => simp [RA]
 | cons a f ih => rw [List.cons_append, RA, if_neg (h a (by simp)), ih fun b hb => h b (List.mem_cons_of_mem _ hb)]; rfl
def JH (x : Int × Int) (n : Nat) : MapEntry := { key := .int .i64 x.1, val := .int .i64 x.2, born := n }
def EW (σ : Hp) (m : Nat) (f : EO) : Prop := ∃ (bs : List Nat) (clock : Nat), bs.length = f.length ∧ yW.A1 σ m (List.zipWith JH f bs) clock
instance : yW.MpI prog 127 3 3 := ⟨underlying127, underlying3⟩
theorem AE5 : ∀ w, (zeroValue 3).run prog w = .ok (.int .i64 0) w := fun w => by
 have h : prog.info? 3 = some t3 := by kernel_rfl
 simp [zeroValue, typeInfo, h]
 rfl
section
variable {σ σ' τ : Hp} {R : Rr}
theorem EW.mono {m : Nat} {f : EO} (h : EW σ m f) (hx : Ext σ σ') : EW σ' m f := let ⟨bs, c, h1, h2⟩ := h; ⟨bs, c, h1, h2.mono hx⟩
theorem EW.loc {m : Nat} {f : EO} (h : EW σ m f) (hx : σ' m = σ m) : EW σ' m f := let ⟨bs, c, h1, h2⟩ := h; ⟨bs, c, h1, h2.loc hx⟩
theorem EW.known {m : Nat} {f : EO} (h : EW σ m f) : σ m ≠ none := let ⟨bs, c, h1, h2⟩ := h; by rw [h2.1]; simp
theorem PZ {f : EO} {bs : List Nat} (h : bs.length = f.length) {a : Int × Int} (ha : a ∈ f) : ∃ e ∈ List.zipWith JH f bs, e.key = .int .i64 a.1 := by
 obtain ⟨i, hi⟩ := List.mem_iff_getElem?.1 ha
 have Ag := (List.getElem?_eq_some_iff.1 hi).1
 refine ⟨JH a (bs[i]'(by omega)), List.mem_iff_getElem?.2 ⟨i, ?_⟩, rfl⟩
 rw [List.getElem?_zipWith, hi, List.getElem?_eq_getElem (by omega)]
theorem Tc {f : EO} {bs : List Nat} {l1 l2 : List MapEntry} {e : MapEntry} {x : Int} (h : bs.length = f.length) (hl : List.zipWith JH f bs = l1 ++ e :: l2) (hk : e.key = .int .i64 x) :
   ∃ f1 y f2 b1 b b2, f = f1 ++ (x, y) :: f2 ∧ bs = b1 ++ b :: b2 ∧ b1.length = f1.length ∧ l1 = List.zipWith JH f1 b1 ∧ l2 = List.zipWith JH f2 b2 ∧ e = JH (x, y) b := by
 induction l1 generalizing f bs with
 | nil =>
   cases f with
   | nil => simp at hl
   | cons a f =>
     cases bs with
     | nil => simp at h
     | cons b bs =>
       simp only [List.zipWith_cons_cons, List.nil_append, List.cons.injEq] at hl
       obtain ⟨rfl, rfl⟩ := hl
       have : a.1 = x := by simpa [JH] using hk
       subst this
       exact ⟨[], a.2, f, [], b, bs, rfl, rfl, rfl, rfl, rfl, rfl⟩
 | cons a l1 ih =>
   cases f with
   | nil => simp at hl
   | cons a' f =>
     cases bs with
     | nil => simp at h
     | cons b' bs =>
       simp only [List.zipWith_cons_cons, List.cons_append, List.cons.injEq] at hl
       obtain ⟨rfl, hl⟩ := hl
       obtain ⟨f1, y, f2, b1, b, b2, rfl, rfl, h3, rfl, rfl, rfl⟩ := ih (by simpa using h) hl
       exact ⟨a' :: f1, y, f2, b' :: b1, b, b2, rfl, rfl, by simp [h3], rfl, rfl, rfl⟩
theorem Oe {f1 f2 : EO} {b1 b2 : List Nat} {b : Nat} {x y : Int} (hb : b1.length = f1.length) (hn : ((List.zipWith JH (f1 ++ (x, y) :: f2) (b1 ++ b :: b2)).map (·.key)).Nodup) : ∀ a ∈ f1, a.1 ≠ x := fun a ha he => by
 rw [List.zipWith_append (by omega), List.map_append, List.zipWith_cons_cons, List.map_cons, List.nodup_append] at hn
 obtain ⟨e, h1, h2⟩ := PZ hb ha
 exact hn.2.2 _ (List.mem_map.2 ⟨e, h1, h2⟩) _ (by simp [JH]; exact .inl rfl) (by rw [he])
theorem EW.look {m : Nat} {f : EO} {x : Int} {Φ : Value → Hp → Prop} (h : EW σ m f) (hΦ : Φ (.int .i64 (Jd f x)) σ) : AJ prog (Instr.lookup 127 (.map (some m)) (.int .i64 x) false) σ Φ := by
 obtain ⟨bs, clock, hb, hm⟩ := h
 refine yW.Iz hm AE5 (fun BX => ?_) fun l1 e l2 hl he => ?_
 · rwa [aX] at hΦ
   intro a ha ym
   obtain ⟨e, h1, h2⟩ := PZ hb ha
   exact BX e h1 (by rw [h2, ym])
 · obtain ⟨f1, y, f2, b1, b, b2, rfl, rfl, h3, rfl, rfl, rfl⟩ := Tc hb hl he
   rwa [gg (Oe h3 hm.nodup)] at hΦ
theorem EW.put {m : Nat} {f : EO} {x y : Int} {Φ : Unit → Hp → Prop} (h : EW σ m f) (hΦ : ∀ o, EW (σ.set m o) m (RA f x y) → Φ () (σ.set m o)) : AJ prog (Instr.mapUpdate 127 (.map (some m)) (.int .i64 x) (.int .i64 y)) σ Φ := by
 obtain ⟨bs, clock, hb, hm⟩ := h
 refine yW.EE hm (fun BX σ' hσ L5 => ?_) fun l1 e l2 hl he σ' hσ L5 => ?_
 · subst hσ
   refine hΦ _ ⟨bs ++ [clock], clock + 1, ?_, ?_⟩
   · rw [Ta]
     · simp [hb]
     · intro a ha ym
       obtain ⟨e, h1, h2⟩ := PZ hb ha
       exact BX e h1 (by rw [h2, ym])
   · rw [Ta, List.zipWith_append hb.symm]
     · exact L5
     · intro a ha ym
       obtain ⟨e, h1, h2⟩ := PZ hb ha
       exact BX e h1 (by rw [h2, ym])
 · obtain ⟨f1, z, f2, b1, b, b2, rfl, rfl, h3, rfl, rfl, rfl⟩ := Tc hb hl he
   have hf := Oe h3 hm.nodup
   subst hσ
   refine hΦ _ ⟨b1 ++ b :: b2, clock, ?_, ?_⟩
   · rw [Xo hf]; simpa using hb
   · rw [Xo hf, List.zipWith_append h3.symm]
     exact L5
theorem mB {α : Type} {l : List α} (h : l.Nodup) {i j : Nat} {x : α} (hi : l[i]? = some x) (hj : l[j]? = some x) : i = j := by
 obtain ⟨h1, Uh⟩ := List.getElem?_eq_some_iff.1 hi
 obtain ⟨h2, fR⟩ := List.getElem?_eq_some_iff.1 hj
 have := List.pairwise_iff_getElem.1 h
 rcases Nat.lt_trichotomy i j with hl | hl | hl
 · exact absurd (Uh.trans fR.symm) (this i j h1 h2 hl)
 · exact hl
 · exact absurd (fR.trans Uh.symm) (this j i h2 h1 hl)
structure Lx (σ : Hp) (pb : Nat) (E : Int) (Q : Int) (ps : List Part) (ms : List Nat) : Prop where
 cell : ∃ p n c, σ pb = some (.cells #[.int .u64 E, .int .i64 Q, .slice p n c] 126 (0, 0)) ∧ Fi 5 Dm σ p n (ps.zip ms)
 len : ps.length = ms.length
 uh : ps.length ≤ 256
 small : ∀ x ∈ ps, GH x.s.ls
 rep : ∀ x ∈ ps, x.rs.length ≤ 5
theorem Lx.mono {pb : Nat} {E Q : Int} {ps : List Part} {ms : List Nat} (h : Lx σ pb E Q ps ms) (hx : Ext σ σ') : Lx σ' pb E Q ps ms :=
 let ⟨⟨p, n, c, h1, h2⟩, h3, h4, h5, h6⟩ := h; ⟨⟨p, n, c, hx _ _ h1, h2.mono Dm.mono hx⟩, h3, h4, h5, h6⟩
structure CP (σ : Hp) (pb : Nat) (E : Int) (Q : Int) (ps : List Part) (ms : List Nat) (fs : List EO) (τ : Hp) : Prop where
 row : Lx (σ.off ms) pb E Q ps ms
 nodup : ms.Nodup
 len : ms.length = fs.length
 Xp : ∀ (i m : Nat) (f : EO), ms[i]? = some m → fs[i]? = some f → EW σ m f
 ext : Ext τ (σ.off ms)
variable {pb : Nat} {E Q : Int} {ps : List Part} {ms : List Nat} {fs : List EO}
theorem CP.at (h : CP σ pb E Q ps ms fs τ) : Lx σ pb E Q ps ms := h.row.mono (Ext.Cn _ _)
theorem CP.known (h : CP σ pb E Q ps ms fs τ) : ∀ m ∈ ms, σ m ≠ none := fun m hm => by
 obtain ⟨i, hi⟩ := List.mem_iff_getElem?.1 hm
 have Ag := (List.getElem?_eq_some_iff.1 hi).1
 exact (h.Xp i m _ hi (List.getElem?_eq_getElem (by rw [← h.len]; exact Ag))).known
theorem CP.grow (h : CP σ pb E Q ps ms fs τ) (hx : Ext σ σ') : ∃ τ', CP σ' pb E Q ps ms fs τ' ∧ Ext τ τ' ∧ Ext (σ.new σ') τ' :=
 ⟨σ'.off ms, ⟨h.row.mono (hx.off ms), h.nodup, h.len, fun i m f hm hf => (h.Xp i m f hm hf).mono hx, .refl _⟩, h.ext.trans (hx.off ms), fun k o hk => Hp.AG.2 ⟨fun DK => by
   have h1 := (AS.1 hk).1
   exact h.known k DK h1, (AS.1 hk).2⟩⟩
theorem CP.FX {τ' : Hp} (h : CP σ pb E Q ps ms fs τ) (hx : Ext τ' τ) : CP σ pb E Q ps ms fs τ' := ⟨h.row, h.nodup, h.len, h.Xp, hx.trans h.ext⟩
theorem CP.mono (h : CP σ pb E Q ps ms fs τ) (hx : Ext σ σ') : CP σ' pb E Q ps ms fs τ := let ⟨_, h1, h2, _⟩ := h.grow hx; h1.FX h2
theorem CP.up (h : CP σ pb E Q ps ms fs τ) : Ext τ σ := h.ext.trans (Ext.Cn _ _)
theorem CP.Af {σ0 : Hp} (h : CP (σ0.new σ) pb E Q ps ms fs (fun _ => none)) (hx : Ext σ0 σ) : CP σ pb E Q ps ms fs σ0 :=
 ⟨h.row.mono ((Ext.Af _ _).off ms), h.nodup, h.len, fun i m f hm hf => (h.Xp i m f hm hf).mono (Ext.Af _ _), fun k o hk => Hp.AG.2 ⟨fun DK => h.known k DK (by
   cases hh : (σ0.new σ) k with
   | none => rfl
   | some u => have := (AS.1 hh).1; rw [hk] at this; cases this), hx _ _ hk⟩⟩
theorem CP.set {i m x y : Nat} {f f' : EO} {o : Obj} (h : CP σ pb E Q ps ms fs τ) (hm : ms[i]? = some m) (hf : EW (σ.set m o) m f') : CP (σ.set m o) pb E Q ps ms (fs.set i f') τ := by
 have C2 : m ∈ ms := List.mem_of_getElem? hm
 have Ag := (List.getElem?_eq_some_iff.1 hm).1
 have e : (σ.set m o).off ms = σ.off ms := Hp.GQ C2
 refine ⟨by rw [e]; exact h.row, h.nodup, by simp [h.len], fun j m' g hj hg => ?_, by rw [e]; exact h.ext⟩
 by_cases hij : i = j
 · subst hij
   rw [hm] at hj; cases hj
   rw [List.getElem?_set_self (by rw [← h.len]; exact Ag)] at hg
   cases hg; exact hf
 · rw [List.getElem?_set_ne hij] at hg
   have Ae : m' ≠ m := fun e => by
     subst e
     exact hij (mB h.nodup hm hj)
   exact (h.Xp j m' g hj hg).loc (Hp.AH Ae)
def BL (nd : Int) (x : Part) : Bool := decide (nd ∈ x.rs)
theorem Dm.at {p : Option Addr} {n i : Nat} {L : List (Part × Nat)} {x : Part × Nat} (hr : Fi 5 Dm σ p n L) (hx : L[i]? = some x) : ∃ b o p1 n1 c1 q m d, p = some ⟨b, o, none⟩ ∧ Dn σ b (o + i * 5) [.slice p1 n1 c1, .int .i64 x.1.s.t, .int .u64 x.1.s.v, .slice q m d, .map (some x.2)] ∧ Nn σ p1 n1 x.1.s.ls ∧ B9 .i64 σ q m x.1.rs := by
 obtain ⟨b, o, vs, hp, ⟨p1, n1, c1, q, m, d, rfl, h1, h2⟩, hl⟩ := Fi.idx hr hx
 exact ⟨b, o, p1, n1, c1, q, m, d, hp, hl, h1, h2⟩
theorem Hq.one (σ : Hp) (vs : List Value) (x : Sm) (h : Hq σ vs x) : CR vs := by
 obtain ⟨p, n, c, rfl, _⟩ := h
 intro u hu
 simp only [List.mem_cons, List.not_mem_nil, or_false] at hu
 rcases hu with rfl | rfl | rfl <;> rfl
theorem RB {nd : Int} (h : Lx σ pb E Q ps ms) (hR : ∀ p n c σ', A3 3 Hq (σ.new σ') p n c ((ps.filter (BL nd)).map (·.s)) → Ext σ σ' → R (.returned (.tuple #[.slice p n c, .int .u64 E])) σ') :
   Spec prog 20 #[.pointer (some ⟨pb, 0, none⟩), .int .i64 nd] σ R := by
 obtain ⟨p, n, c, hc, hr⟩ := h.cell
 have hn : ps.length = n := by have := hr.1; rw [List.length_zip, ← h.len, Nat.min_self] at this; exact this
 have hfew := h.uh
 refine BA.start ⟨pb, 0, rfl, p, n, c, AD hc rfl, ?_⟩
 suffices H : ∀ d i : Nat, ∀ p6 n6 c6 σ6, n - i = d → i ≤ n → A3 3 Hq (σ.new σ6) p6 n6 c6 (((ps.take i).filter (BL nd)).map (·.s)) → Ext σ σ6 → BA.A4 R (aD pb 0) nd p6 n6 c6 p n c n i σ6 from H n 0 none 0 0 σ rfl (Nat.zero_le _) A3.nil (.refl σ)
 intro d
 induction d with
 | zero =>
   intro i p6 n6 c6 σ6 hd hi ho hx
   refine BA.AW ⟨fun Ag => by omega, fun _ => ⟨pb, 0, rfl, E, AD (hx _ _ hc) rfl, hR p6 n6 c6 σ6 ?_ hx⟩⟩
   rw [List.take_of_length_le (by omega)] at ho; exact ho
 | succ d ih =>
   intro i p6 n6 c6 σ6 hd hi ho hx
   have HI : i < n := by omega
   obtain ⟨x, aY⟩ := hr.ex HI
   obtain ⟨mC, QT⟩ := List.getElem?_zip_eq_some.1 aY
   obtain ⟨b, o, p1, n1, c1, q, m, d1, rfl, hl, h1, h2⟩ := Dm.at hr aY
   have Ky := h.small x.1 (List.mem_of_getElem? mC)
   have SH : x.1.s.ls.length = n1 := h1.1
   have ff := Ky.1
   have ho6 : n6 ≤ 256 := by
     have := ho.1
     simp only [List.length_map] at this
     have h9 := List.length_filter_le (BL nd) (ps.take i)
     rw [List.length_take] at h9
     omega
   refine BA.AW ⟨fun _ => ⟨b, o, rfl, by omega, p1, n1, c1, x.1.s.t, x.1.s.v, q, m, d1, x.2, by simpa using hl.mono hx, fun _ => Hr (h2.mono hx) ⟨_, rfl, fun Ck => ?_, fun Ck => ?_⟩⟩, fun hh => by omega⟩
   · refine XX (h1.mono G7.mono hx) (by omega) fun q' j' σ1 hq BM => ⟨q', n1, j', _, _, rfl, fun PQ Up => ?_⟩
     have XZ : A3 3 Hq (σ.new σ1) p6 n6 c6 (((ps.take i).filter (BL nd)).map (·.s)) := ho.mono Hq.mono (Ext.BN BM)
     have Yg : ∀ a, p6 = some a → σ6 a.block ≠ none := fun a ha => by
       have := ho.block a ha
       cases hh : (σ.new σ6) a.block with
       | none => exact absurd hh this
       | some oo => rw [(AS.1 hh).2]; simp
     have yn : Ext (σ6.new σ1) ((σ.new σ1).del p6) := Ext.Gj hx Yg
     have he : Hq ((σ.new σ1).del p6) [.slice q' n1 j', .int .i64 x.1.s.t, .int .u64 x.1.s.v] x.1.s := ⟨q', n1, j', rfl, (hq.rd G7.mono).mono G7.mono yn⟩
     refine A3.H7 Hq.mono (hx.trans BM) XZ rfl (Hq.one _ _ _ he) he (by omega) (fun p' c2 σ2 Bt Ay => ⟨p', n6 + 1, c2, rfl, BA.Fe ⟨Aa HI hr.big, ih (i + 1) _ _ _ _ (by omega) (by omega) ?_ Ay⟩⟩) Up
     rw [AO mC, List.filter_append, List.map_append]
     have : BL nd x.1 = true := Ck
     simpa [this] using Bt
   · refine BA.Fe ⟨Aa HI hr.big, ih (i + 1) _ _ _ _ (by omega) (by omega) ?_ hx⟩
     rw [AO mC, List.filter_append, List.map_append]
     have : BL nd x.1 = false := Ck
     simpa [this] using ho
theorem RC {x : Int} (h : R (.returned (.bool (G8 x))) σ) : Spec prog 51 #[.int .i64 x] σ R := by
 refine IQ.start ⟨fun h1 => ?_, fun h1 => ?_⟩
 · simpa [G8, h1] using h
 · simpa [G8, h1] using h
def G9 (nd : Int) : List Part → List EO → List Int → List EO
 | [], fs, _ => fs
 | _, [], _ => []
 | x :: ps, f :: fs, ys => if BL nd x then (if G8 (Jd f nd) then f else RA f nd (ys.headD 0)) :: G9 nd ps fs ys.tail else f :: G9 nd ps fs ys
def Og (nd : Int) (ps : List Part) (fs : List EO) (ys : List Int) : List EO := if (ps.filter (BL nd)).length = ys.length then G9 nd ps fs ys else fs
theorem aZ {ys : List Int} {k : Nat} {y : Int} (h : ys[k]? = some y) : (ys.drop k).headD 0 = y := by rw [HZ h]; rfl
theorem Td {nd : Int} {q : Option Addr} {n2 c2 : Nat} {ys : List Int} (h : CP σ pb E Q ps ms fs τ) (hy : B9 .i64 τ q n2 ys)
   (hR : ∀ σ', CP σ' pb E Q ps ms (Og nd ps fs ys) τ → R (.returned (.tuple #[])) σ') : Spec prog 15 #[.pointer (some ⟨pb, 0, none⟩), .int .i64 nd, .slice q n2 c2] σ R := by
 have Uv : ys.length = n2 := hy.1
 refine Ak.start (RB h.at fun UY n14 UZ σ1 ho BM => ⟨UY, n14, UZ, E, rfl, fun Ae => ?_, fun heq => ?_⟩)
 · refine hR σ1 ?_
   have := ho.1
   rw [List.length_map] at this
   rw [Og, if_neg (by omega)]
   exact h.mono BM
 have Hn : (ps.filter (BL nd)).length = ys.length := by have := ho.1; rw [List.length_map] at this; omega
 rw [Og, if_pos Hn] at hR
 obtain ⟨p, n, c, hc, hr⟩ := h.row.cell
 have hn : ps.length = n := by have := hr.1; rw [List.length_zip, ← h.row.len, Nat.min_self] at this; exact this
 have rH := h.row.len
 have SH := h.len
 have hfew := h.row.uh
 refine ⟨pb, 0, rfl, p, n, c, AD (BM _ _ (Ext.Cn _ _ _ _ hc)) rfl, ?_⟩
 have hU1 := h.mono BM
 suffices H : ∀ d i k : Nat, ∀ (σ2 : Hp) (gs : List EO), n - i = d → i ≤ n → k = ((ps.take i).filter (BL nd)).length → CP σ2 pb E Q ps ms gs τ → Fi 5 Dm (σ2.off ms) p n (ps.zip ms) → gs.drop i = fs.drop i → G9 nd ps fs ys = gs.take i ++ G9 nd (ps.drop i) (fs.drop i) (ys.drop k) →
     Ak.Km R nd q n2 c2 k p n c n i σ2 from H n 0 0 σ1 fs rfl (Nat.zero_le _) rfl hU1 (hr.mono Dm.mono (BM.off ms)) rfl rfl
 intro d
 induction d with
 | zero =>
   intro i k σ2 gs hd hi hk hU SJ hg ht
   refine Ak.HT ⟨fun Ag => by omega, fun _ => hR σ2 ?_⟩
   have hgl := hU.len
   rw [List.take_of_length_le (by omega), List.drop_of_length_le (l := fs) (by omega), List.drop_of_length_le (l := ps) (by omega)] at ht
   rw [ht]; simpa [G9] using hU
 | succ d ih =>
   intro i k σ2 gs hd hi hk hU SJ hg ht
   have HI : i < n := by omega
   have hgl := hU.len
   obtain ⟨x, aY⟩ := SJ.ex HI
   obtain ⟨mC, QT⟩ := List.getElem?_zip_eq_some.1 aY
   obtain ⟨b, o, p1, n1, c1, q1, m, d1, rfl, hl, h1, h2⟩ := Dm.at SJ aY
   have Ed : Ext (σ2.off ms) σ2 := Ext.Cn _ _
   obtain ⟨f, hf⟩ : ∃ f, fs[i]? = some f := ⟨_, List.getElem?_eq_getElem (by omega)⟩
   have hgf : gs[i]? = some f := by
     have := congrArg List.head? hg
     rw [List.head?_drop, List.head?_drop] at this
     rw [this, hf]
   rw [HZ mC, HZ hf] at ht
   have hg1 : gs.drop (i + 1) = fs.drop (i + 1) := by
     have := congrArg List.tail hg
     simpa [List.tail_drop] using this
   have next : ∀ (j : Nat) (σ3 : Hp) (g' : EO), j = ((ps.take (i + 1)).filter (BL nd)).length → CP σ3 pb E Q ps ms (gs.set i g') τ → σ3.off ms = σ2.off ms → G9 nd ps fs ys = gs.take i ++ g' :: G9 nd (ps.drop (i + 1)) (fs.drop (i + 1)) (ys.drop j) → Ak.QF R nd q n2 c2 j (aD b o) n c n i σ3 := fun j σ3 g' hj hU3 he ht3 =>
     Ak.US ⟨Aa HI hr.big, ih (i + 1) j σ3 _ (by omega) (by omega) hj hU3 (by rw [he]; exact SJ) (by rw [List.drop_set_of_lt (by omega)]; exact hg1) (by
       rw [ht3, List.take_add_one, List.getElem?_set_self (by omega), List.take_set_of_le (by omega)]
       simp)⟩
   have J1 : gs.set i f = gs := by
     obtain ⟨h8, h9⟩ := List.getElem?_eq_some_iff.1 hgf
     rw [← h9]; exact List.set_getElem_self h8
   have AOb : k ≤ 256 := by
     have h9 := List.length_filter_le (BL nd) (ps.take i)
     rw [List.length_take] at h9
     omega
   refine Ak.HT ⟨fun _ => ⟨b, o, rfl, by omega, p1, n1, c1, x.1.s.t, x.1.s.v, q1, m, d1, x.2, by simpa using hl.mono Ed, fun _ => Hr (h2.mono Ed) ⟨_, rfl, fun Ck => ?_, fun Ck => ?_⟩⟩, fun hh => by omega⟩
   · have Ck : BL nd x.1 = false := Ck
     rw [G9, if_neg (by simp [Ck])] at ht
     refine next k σ2 f ?_ (by rw [J1]; exact hU) rfl ht
     rw [AO mC, List.filter_append, List.length_append, ← hk]; simp [Ck]
   · have Ck : BL nd x.1 = true := Ck
     rw [G9, if_pos Ck, List.tail_drop] at ht
     have dV := hU.Xp i x.2 f QT hgf
     have hk1 : k + 1 = ((ps.take (i + 1)).filter (BL nd)).length := by
       rw [AO mC, List.filter_append, List.length_append, ← hk]; simp [Ck]
     refine dV.look ⟨_, rfl, RC ⟨_, rfl, fun KV => ?_, fun KV => ?_⟩⟩
     · have Ag : k < n2 := by
         have h9 : ((ps.take (i + 1)).filter (BL nd)).length ≤ (ps.filter (BL nd)).length := List.Sublist.length_le ((List.take_sublist _ _).filter _)
         omega
       obtain ⟨y, hyk⟩ := hy.ex Ag
       obtain ⟨cI, ju, rfl, ALS⟩ := hy.at hyk
       refine ⟨cI, ju, rfl, by omega, y, by simpa using hU.up.ld ALS, dV.put fun ob ALT => ?_⟩
       rw [if_neg (by simp [KV]), aZ hyk] at ht
       refine Ak.cp ⟨by unfold AN; omega, ?_⟩
       exact next (k + 1) _ _ hk1 (hU.set (x := 0) (y := 0) (f := []) QT ALT) (Hp.GQ (List.mem_of_getElem? QT)) ht
     · rw [if_pos KV] at ht
       refine Ak.cp ⟨by unfold AN; omega, ?_⟩
       exact next (k + 1) σ2 f hk1 (by rw [J1]; exact hU) rfl ht
end
end TwW
end
section
namespace TwW
open Go Tw Go.RowKit Go.Proofs.Tryz
instance : sM prog 159 9 156 := ⟨underlying159, underlying9⟩
theorem yo : ∀ w, (zeroValue 156).run prog w = .ok (.agg #[.slice none 0 0, .int .u64 0]) w := fun w => by
 have h : prog.info? 156 = some t156 := by kernel_rfl
 simp [zeroValue, typeInfo, h]
 rfl
structure CM where
 key : ByteArray
 p : Option Addr
 n : Nat
 c : Nat
 data : List Int
 mD : Nat
 born : Nat
def CM.Cd (r : CM) : MapEntry := Tw.Cd r.key (.agg #[.slice r.p r.n r.c, .int .u64 r.mD]) r.born
structure CM.Ok (ρ : Hp) (r : CM) : Prop where
 cap : r.n ≤ r.c
 rd : B9 .u8 ρ r.p r.n r.data
 uQ : E6 r.data
 small : r.n ≤ 65536
 key : FH r.key = true
 mD : r.mD < 18446744073709551616
theorem CM.Ok.mono {ρ ρ' : Hp} {r : CM} (h : r.Ok ρ) (hx : Ext ρ ρ') : r.Ok ρ' := ⟨h.cap, h.rd.mono hx, h.uQ, h.small, h.key, h.mD⟩
abbrev yp := List Int × Nat
def CJ (rows : List CM) (k : ByteArray) : Option yp := (rows.find? fun r => decide (r.key = k)).map fun r => (r.data, r.mD)
def DW (rows : List CM) (k : ByteArray) : yp := (CJ rows k).getD ([], 0)
abbrev BS (rows : List CM) : List ByteArray := rows.map (·.key)
theorem HA {r : CM} {rows : List CM} {k : ByteArray} : CJ (r :: rows) k = if r.key = k then some (r.data, r.mD) else CJ rows k := by
 unfold CJ
 rw [List.find?_cons]
 by_cases h : r.key = k <;> simp [h]
theorem JI {rows : List CM} {k : ByteArray} (h : k ∉ BS rows) : CJ rows k = none := by
 induction rows with
 | nil => rfl
 | cons r rows ih =>
   simp only [BS, List.map_cons, List.mem_cons, not_or] at h
   rw [HA, if_neg (fun e => h.1 e.symm)]; exact ih h.2
theorem Mv {r1 r2 : List CM} {k : ByteArray} : CJ (r1 ++ r2) k = (CJ r1 k).or (CJ r2 k) := by
 induction r1 with
 | nil => simp [CJ]
 | cons r r1 ih =>
   rw [List.cons_append, HA, HA, ih]
   by_cases h : r.key = k <;> simp [h]
theorem Ki {r1 r2 : List CM} {r : CM} (hn : (BS (r1 ++ r :: r2)).Nodup) (k : ByteArray) : CJ (r1 ++ r :: r2) k = if r.key = k then some (r.data, r.mD) else (CJ r1 k).or (CJ r2 k) := by
 rw [Mv, HA]
 by_cases h : r.key = k
 · rw [if_pos h, if_pos h]
   have : k ∉ BS r1 := by
     rw [BS, List.map_append, List.nodup_append] at hn
     intro hk
     exact hn.2.2 k hk k (by simp [h]) rfl
   rw [JI this]; rfl
 · rw [if_neg h, if_neg h]
theorem gh {rows : List CM} {k : ByteArray} (hn : (BS rows).Nodup) (hk : k ∈ BS rows) : ∃ r ∈ rows, r.key = k ∧ CJ rows k = some (r.data, r.mD) := by
 obtain ⟨r, hr, rfl⟩ := List.mem_map.1 hk
 obtain ⟨r1, r2, rfl⟩ := List.append_of_mem hr
 exact ⟨r, hr, rfl, by rw [Ki hn, if_pos rfl]⟩
theorem KQ {rows : List CM} {l1 l2 : List MapEntry} {e : MapEntry} (h : rows.map CM.Cd = l1 ++ e :: l2) : ∃ r1 r r2, rows = r1 ++ r :: r2 ∧ r1.map CM.Cd = l1 ∧ r.Cd = e ∧ r2.map CM.Cd = l2 := by
 obtain ⟨r1, t, h1, h2, h3⟩ := List.map_eq_append_iff.1 h
 obtain ⟨r, r2, h4, h5, h6⟩ := List.map_eq_cons_iff.1 h3
 exact ⟨r1, r, r2, by rw [h1, h4], h2, h5, h6⟩
structure ic (ρ : Hp) (b d s m clock : Nat) (rows : List CM) (τ : Hp) : Prop where
 cell : ρ s = some (.cells #[.pointer (some ⟨b, 0, none⟩), .pointer (some ⟨d, 0, none⟩), .map (some m)] 161 (0, 0))
 map : A1 ρ m (rows.map CM.Cd) clock
 row : ∀ r ∈ rows, r.Ok (ρ.off [m])
 ext : Ext τ (ρ.off [m])
def Hs (σ : Hp) (d b s : Nat) (D : Dk) (W : Wl) (rows : List CM) (τ : Hp) : Prop := ∃ ρ m clock, Aj σ d b D W ρ ∧ ic ρ b d s m clock rows τ
section
variable {σ σ' τ τ' ρ ρ' : Hp} {d b s m clock : Nat} {D : Dk} {W : Wl} {rows : List CM} {R : Rr}
theorem ic.mono (h : ic ρ b d s m clock rows τ) (hx : Ext ρ ρ') : ic ρ' b d s m clock rows τ := ⟨hx _ _ h.cell, h.map.mono hx, fun r hr => (h.row r hr).mono (hx.off [m]), h.ext.trans (hx.off [m])⟩
theorem ic.nodup (h : ic ρ b d s m clock rows τ) : (BS rows).Nodup := by
 have := h.map.nodup
 rw [List.map_map] at this
 have e : (rows.map ((fun e : MapEntry => e.key) ∘ CM.Cd)) = (BS rows).map Value.string := by rw [BS, List.map_map]; rfl
 rw [e, List.Nodup, List.pairwise_map] at this
 exact this.imp fun Ae e => Ae (by rw [e])
theorem ic.ne (h : ic ρ b d s m clock rows τ) : s ≠ m := fun e => by
 have h1 := h.cell
 rw [e, h.map.1] at h1; cases h1
theorem ic.up (h : ic ρ b d s m clock rows τ) : Ext τ ρ := h.ext.trans (Ext.Cn _ _)
theorem Hs.ext (h : Hs σ d b s D W rows τ) : Ext τ σ := let ⟨ρ, m, cl, h1, h2⟩ := h; h2.up.trans h1.ext
theorem Hs.nodup (h : Hs σ d b s D W rows τ) : (BS rows).Nodup := let ⟨ρ, m, cl, h1, h2⟩ := h; h2.nodup
theorem Hs.FX (h : Hs σ d b s D W rows τ) (hx : Ext τ' τ) : Hs σ d b s D W rows τ' := let ⟨ρ, m, cl, h1, h2⟩ := h; ⟨ρ, m, cl, h1, h2.cell, h2.map, h2.row, hx.trans h2.ext⟩
theorem Hs.grow (h : Hs σ d b s D W rows τ) (hx : Ext σ σ') : ∃ τ', Hs σ' d b s D W rows τ' ∧ Ext τ τ' ∧ Ext (σ.new σ') τ' := by
 obtain ⟨ρ, m, cl, h1, h2⟩ := h
 obtain ⟨ρ1, h3, x3, x3n⟩ := h1.grow hx
 have h4 := h2.mono x3
 refine ⟨ρ1.off [m], ⟨ρ1, m, cl, h3, h4.cell, h4.map, h4.row, Ext.refl _⟩, h4.ext, fun k o hk => Hp.AG.2 ⟨?_, x3n k o hk⟩⟩
 have h5 := (AS.1 hk).1
 have h6 := h1.ext _ _ h2.map.1
 simp only [List.mem_singleton]
 intro e
 rw [e, h6] at h5; cases h5
theorem Hs.mono (h : Hs σ d b s D W rows τ) (hx : Ext σ σ') : Hs σ' d b s D W rows τ := let ⟨_, h1, h2, _⟩ := h.grow hx; h1.FX h2
theorem Hs.box {k : Nat} {o : Obj} (h : Hs σ d b s D W rows τ) (hk : σ k = none) : ∃ τ', Hs (σ.set k o) d b s D W rows τ' ∧ Ext τ τ' ∧ τ' k = some o := by
 obtain ⟨τ', h1, h2, h3⟩ := h.grow (.set hk (o := o))
 exact ⟨τ', h1, h2, h3 k o (AS.2 ⟨hk, Hp.AA _ _ _⟩)⟩
theorem ad {r : CM} (h : ic ρ b d s m clock rows τ) (hr : r ∈ rows) : CJ rows r.key = some (r.data, r.mD) := by
 obtain ⟨r1, r2, rfl⟩ := List.append_of_mem hr
 rw [Ki h.nodup, if_pos rfl]
theorem Hs.look {k : ByteArray} {Φ : Value → Hp → Prop} {mm : Option Nat} (h : Hs σ d b s D W rows τ) (hm : σ.ld ⟨s, 0 + 2, none⟩ = some (.map mm))
   (hΦ : ∀ p n c, n ≤ c → n ≤ 65536 → E6 (DW rows k).1 → (DW rows k).2 < 18446744073709551616 → B9 .u8 σ p n (DW rows k).1 → Φ (.agg #[.slice p n c, .int .u64 (DW rows k).2]) σ) : AJ prog (Instr.lookup 159 (.map mm) (.string k) false) σ Φ := by
 obtain ⟨ρ, m, cl, h1, h2⟩ := h
 have hx := h1.ext
 rw [AD (hx _ _ h2.cell) rfl] at hm
 cases hm
 refine Iz (h2.map.mono hx) yo (fun BX => ?_) fun l1 e l2 hl he => ?_
 · have e : DW rows k = ([], 0) := by
     have hk : k ∉ BS rows := fun hk => by
       obtain ⟨r, hr, rfl⟩ := List.mem_map.1 hk
       exact BX r.Cd (List.mem_map.2 ⟨r, hr, rfl⟩) rfl
     rw [DW, JI hk]; rfl
   have := hΦ none 0 0 (Nat.le_refl _) (by omega)
   rw [e] at this
   exact this (fun a ha => by cases ha) (by omega) Fi.nil
 · obtain ⟨r1, r, r2, CO, _, rfl, _⟩ := KQ hl
   have hr : r ∈ rows := by simp [CO]
   have hk : r.key = k := by simpa [CM.Cd] using he
   have hg : DW rows k = (r.data, r.mD) := by rw [DW, ← hk, ad h2 hr]; rfl
   have Aq := h2.row r hr
   have := hΦ r.p r.n r.c Aq.cap Aq.small
   rw [hg] at this
   exact this Aq.uQ Aq.mD (Aq.rd.mono ((Ext.Cn _ _).trans hx))
theorem Hs.put {k : ByteArray} {p : Option Addr} {n c v : Nat} {data : List Int} {Φ : Unit → Hp → Prop} {mm : Option Nat} (h : Hs σ d b s D W rows τ) (hm : σ.ld ⟨s, 0 + 2, none⟩ = some (.map mm)) (hc : n ≤ c) (hr : B9 .u8 τ p n data) (h8 : E6 data) (hn : n ≤ 65536) (hk : FH k = true) (hv : v < 18446744073709551616)
   (hΦ : ∀ σ' rows', Hs σ' d b s D W rows' τ → (∀ k', CJ rows' k' = if k = k' then some (data, v) else CJ rows k') → (∀ x, x ∈ BS rows' ↔ x = k ∨ x ∈ BS rows) → Φ () σ') : AJ prog (Instr.mapUpdate 159 (.map mm) (.string k) (.agg #[.slice p n c, .int .u64 v])) σ Φ := by
 obtain ⟨ρ, m, cl, h1, h2⟩ := h
 have hx := h1.ext
 rw [AD (hx _ _ h2.cell) rfl] at hm
 cases hm
 have FA : ∀ o, Aj (σ.set m o) d b D W ((ρ.off [m]).set m o) := fun o => by
   have := (h1.gG h2.map.1).lU (k := m) (o := o) (Hp.T6 (by simp))
   have e : (σ.off [m]).set m o = σ.set m o := by
     funext i
     by_cases hi : i = m
     · rw [hi, Hp.AA, Hp.AA]
     · rw [Hp.AH hi, Hp.AH hi, Hp.EP (by simpa using hi)]
   rwa [e] at this
 have Ep : ∀ o, ((ρ.off [m]).set m o).off [m] = ρ.off [m] := fun o => by
   funext i
   by_cases hi : i = m <;> simp [Hp.off, Hp.set, hi]
 have C3 : ∀ bn, (⟨k, p, n, c, data, v, bn⟩ : CM).Ok (ρ.off [m]) := fun bn => ⟨hc, hr.mono h2.ext, h8, hn, hk, hv⟩
 refine EE (h2.map.mono hx) (fun BX σ' Rl L5 => ?_) fun l1 e l2 hl he σ' Rl L5 => ?_
 · have Pd : k ∉ BS rows := fun DK => by
     obtain ⟨r, hr, rfl⟩ := List.mem_map.1 DK
     exact BX r.Cd (List.mem_map.2 ⟨r, hr, rfl⟩) rfl
   refine hΦ σ' (rows ++ [⟨k, p, n, c, data, v, cl⟩]) ⟨(ρ.off [m]).set m (.map (rows.map CM.Cd ++ [Tw.Cd k (.agg #[.slice p n c, .int .u64 v]) cl]).toArray (cl + 1)), m, cl + 1, Rl ▸ FA _, ?_, ?_, ?_, ?_⟩ (fun k' => ?_) (fun x => by simp [BS, or_comm])
   · rw [Hp.AH h2.ne, Hp.EP (by simpa using h2.ne)]; exact h2.cell
   · rw [List.map_append]
     exact ⟨Hp.AA _ _ _, L5.2⟩
   · intro r hr
     rw [Ep]
     rcases List.mem_append.1 hr with hr | hr
     · exact h2.row r hr
     · simp at hr; subst hr; exact C3 _
   · rw [Ep]; exact h2.ext
   · rw [Mv, HA]
     by_cases dW : k = k'
     · subst dW
       rw [if_pos rfl, if_pos rfl, JI Pd]; rfl
     · rw [if_neg dW, if_neg dW]
       simp [CJ]
 · obtain ⟨r1, r, r2, CO, e1, rfl, e2⟩ := KQ hl
   have DK : r.key = k := by simpa [CM.Cd] using he
   have uL := h2.nodup
   have dW : BS (r1 ++ ⟨k, p, n, c, data, v, r.born⟩ :: r2) = BS rows := by rw [CO]; simp [BS, DK]
   refine hΦ σ' (r1 ++ ⟨k, p, n, c, data, v, r.born⟩ :: r2) ⟨(ρ.off [m]).set m (.map (l1 ++ Tw.Cd k (.agg #[.slice p n c, .int .u64 v]) r.Cd.born :: l2).toArray cl), m, cl, Rl ▸ FA _, ?_, ?_, ?_, ?_⟩ (fun k' => ?_) (fun x => ?_)
   · rw [Hp.AH h2.ne, Hp.EP (by simpa using h2.ne)]; exact h2.cell
   · rw [List.map_append, List.map_cons, e1, e2]
     exact ⟨Hp.AA _ _ _, L5.2⟩
   · intro r' Is
     rw [Ep]
     rcases List.mem_append.1 Is with Is | Is
     · exact h2.row r' (by simp [CO, Is])
     · rcases List.mem_cons.1 Is with rfl | Is
       · exact C3 _
       · exact h2.row r' (by simp [CO, Is])
   · rw [Ep]; exact h2.ext
   · rw [Ki (by rw [dW]; exact uL), CO, Ki (CO ▸ uL), DK]
     by_cases e : k = k' <;> simp [e]
   · rw [dW]
     constructor
     · exact .inr
     · rintro (rfl | h)
       · rw [CO]; simp [BS, DK]
       · exact h
end
end TwW
end
section
namespace TwW
open Go Tw Go.RowKit Go.Proofs.Tryz
def Ri : ByteArray := ⟨#[107, 118]⟩
theorem ae : CG Ri = true := by decide
abbrev Rec := ByteArray × List Int × Nat
abbrev Mw (t : Rec) : List Int := Cf t.1 t.2.1 t.2.2
def Xq (ts : List Rec) : Prop := ∀ t ∈ ts, FH t.1 = true ∧ E6 t.2.1 ∧ t.2.1.length ≤ 65536 ∧ 0 < t.2.2 ∧ t.2.2 < 18446744073709551616
def FY (ts : List Rec) (k : ByteArray) : Option yp := ts.foldl (fun a t => if t.1 = k then some t.2 else a) none
theorem Oh {ts : List Rec} {t : Rec} {k : ByteArray} : FY (ts ++ [t]) k = if t.1 = k then some t.2 else FY ts k := by simp [FY]
theorem VA {k : ByteArray} {d : List Int} {v : Nat} (h : E6 d) (hk : k.size < 18446744073709551616) (hd : d.length < 18446744073709551616) (hv : v < 18446744073709551616) : E6 (Cf k d v) := by
 unfold Cf
 exact Be (Be (Be (Be (Nj 9 _ (by omega)) rJ) (Nj 9 _ (by omega))) (Nj 9 _ (by omega))) h
section
variable {σ σ' τ τ' ρ ρ' : Hp} {d b s m clock : Nat} {D : Dk} {W : Wl} {rows : List CM} {R : Rr}
theorem Hs.rd (h : Hs σ d b s D W rows τ) : σ.ld ⟨s, 0, none⟩ = some (.pointer (some ⟨b, 0, none⟩)) ∧ σ.ld ⟨s, 0 + 1, none⟩ = some (.pointer (some ⟨d, 0, none⟩)) ∧ ∃ m, σ.ld ⟨s, 0 + 2, none⟩ = some (.map (some m)) := by
 obtain ⟨ρ, m, cl, h1, h2⟩ := h
 have := h1.ext _ _ h2.cell
 exact ⟨AD this rfl, AD this rfl, m, AD this rfl⟩
theorem Hs.fu (h : Hs σ d b s D W rows τ) : Ai σ d D τ := let ⟨ρ, m, cl, h1, h2⟩ := h; h1.fu.FX h2.up
theorem Xr {k : ByteArray} (h : Hs σ d b s D W rows τ) (hu : D.up = true) (hk0 : FH k = false → R (.returned (.tuple #[.slice none 0 0, .int .u64 0, .int .i64 120])) σ)
   (hk : FH k = true → ∀ p n c σ', AR .u8 (σ.new σ') p n c (DW rows k).1 → Ext σ σ' → R (.returned (.tuple #[.slice p n c, .int .u64 (DW rows k).2, .int .i64 0])) σ') : Spec prog 39 #[.pointer (some ⟨s, 0, none⟩), .string k] σ R := by
 obtain ⟨l0, l1, m, l2⟩ := h.rd
 refine MY.start (Qq ⟨_, rfl, fun hf => hk0 hf, fun ht => ⟨s, 0, rfl, _, l1, h.fu.upS ⟨_, rfl, fun hh => (by rw [hu] at hh; cases hh), fun _ => ⟨_, l2, h.look l2 fun p n c hc hn h8 hv hr => ⟨p, n, c, _, rfl, fun _ pd rT => ?_⟩⟩⟩⟩⟩)
 refine Dr Own.empty ((GP.of_map hr).mono (.set rT)) CR.Cj (by omega) fun p' c' σ' AY Di => ?_
 have hq : ∀ a : Addr, (some (⟨pd, 0, none⟩ : Addr)) = some a → σ a.block = none := fun a ha => by cases ha; exact rT
 refine ⟨p', 0 + n, c', rfl, ?_⟩
 rw [Nat.zero_add] at AY ⊢
 exact hk ht p' n c' σ' (Own.CC AY (Bb hq Di (.set rT))) (CL hq Di (.set rT))
theorem af {p : Option Addr} {n c v : Nat} {k : ByteArray} {Gb : List Int} (h : Hs σ d b s D W rows τ) (hr : B9 .u8 σ p n (Cf k Gb v)) (hc : n ≤ c) (hk : FH k = true) (h8 : E6 Gb) (hd : Gb.length ≤ 65536) (hv0 : 0 < v) (hv : v < 18446744073709551616)
   (hR : ∀ σ' rows', Hs σ' d b s D W rows' τ → (∀ k', CJ rows' k' = if k = k' then some (Gb, v) else CJ rows k') → (∀ x, x ∈ BS rows' ↔ x = k ∨ x ∈ BS rows) → R (.returned (.bool true)) σ') : Spec prog 96 #[.pointer (some ⟨s, 0, none⟩), .slice p n c] σ R := by
 have XH : k.size ≤ 64 := by simp [FH] at hk; exact hk.2
 have h8r : E6 (Cf k Gb v) := VA h8 (by omega) (by omega) hv
 have hlen : (Cf k Gb v).length = n := hr.1
 have R1 : (Cf k Gb v).length = (uv k.size).length + k.size + (uv v).length + (uv Gb.length).length + Gb.length := by simp [Cf, D1]; omega
 have e0 : (Cf k Gb v).drop 0 = uv k.size ++ (Nl k ++ (uv v ++ uv Gb.length ++ Gb)) := by simp [Cf]
 have e1 : (Cf k Gb v).drop (0 + (uv k.size).length + k.size) = uv v ++ (uv Gb.length ++ Gb) := by
   have : Cf k Gb v = (uv k.size ++ Nl k) ++ (uv v ++ (uv Gb.length ++ Gb)) := by simp [Cf]
   rw [this, List.drop_left' (by simp [D1])]
 have e2 : (Cf k Gb v).drop (0 + (uv k.size).length + k.size + (uv v).length) = uv (strOfNums Gb).size ++ (Nl (strOfNums Gb) ++ []) := by
   have : Cf k Gb v = (uv k.size ++ Nl k ++ uv v) ++ (uv Gb.length ++ Gb) := by simp [Cf]
   rw [this, List.drop_left' (by simp only [List.length_append, D1]; omega), CH, Kd h8, List.append_nil]
 have dy : JF (Cf k Gb v) (0 + (uv k.size).length + k.size) v := ⟨hv, _, e1⟩
 refine KA.start (dR (i := 0) hr h8r hc (by omega) (Nat.zero_le _) e0 ⟨_, _, _, rfl, fun hh => absurd rfl hh, fun _ => ?_⟩)
 refine Kb hr h8r (by omega) ⟨fun BX => (BX v dy).elim, fun v' oL => ?_⟩
 obtain rfl := oL.uniq dy
 refine ⟨_, _, _, rfl, fun hh => absurd rfl hh, fun _ => ?_⟩
 refine dR hr h8r hc (by rw [CH]; omega) (by omega) e2 ⟨_, _, _, rfl, fun hh => absurd rfl hh, fun _ => ⟨fun hh => ?_, fun _ => ?_⟩⟩
 · rw [CH] at hh; exact absurd (by omega) hh
 · refine Qq ⟨_, rfl, fun hh => (by rw [hk] at hh; cases hh), fun _ => ⟨fun hh => by omega, fun _ => ?_⟩⟩
   obtain ⟨l0, l1, m, l2⟩ := h.rd
   refine ⟨s, 0, rfl, _, l2, gM (fun b1 o c1 O4 HJ iZ => ⟨_, _, _, rfl, ?_⟩) (by rw [CH]; omega)⟩
   obtain ⟨τ1, h1, x1, t1⟩ := h.box (o := o) O4
   have l2' := (Ext.set O4 (o := o)).ld l2
   have AE7 := HJ τ1 t1
   rw [CH, Kd h8] at AE7
   rw [CH] at iZ ⊢
   exact h1.put l2' iZ AE7 h8 hd hk hv fun σ2 rows' h2 hl dW => hR σ2 rows' (h2.FX x1) hl dW
end
end TwW
end
section
namespace TwW
open Go Tw Go.RowKit Go.Proofs.Tryz
section
variable {σ σ' τ τ' ρ ρ' : Hp} {d b s m clock : Nat} {D : Dk} {W : Wl} {rows : List CM} {R : Rr}
theorem VB {ts : List Rec} {w : Bool} (h : Ai σ d D τ) (ht : Tb τ) (Ed : D.up = true) (Kt : D.armed = false) (hc : D.cnt < 67108864) (ho : XK D.files Ri D.cnt (ts.map Mw) w) (hg : Xq ts) (FV : ts.length ≤ 4194304)
   (hR : ∀ s b σ' W rows FF cnt', Hs σ' d b s (dk FF cnt') W rows τ → (∀ k, CJ rows k = FY ts k) → (∀ x, x ∈ BS rows → ∃ t ∈ ts, t.1 = x) → W.dir = Ri → (∃ rc sg, A7 FF cnt' W rc sg 0 ∧ rc ++ Ao sg = ts.map Mw) → FF (BC Ri) = none → D.cnt ≤ cnt' → cnt' ≤ D.cnt + 1 → Sub D.files FF → (w = true → cnt' = D.cnt) → R (.returned (.tuple #[.pointer (some ⟨s, 0, none⟩), .int .i64 0])) σ') (hfew : ON D := by refine .inl ?_; first | omega | (dsimp only [dk]; omega) | (dsimp only; omega)) :
   Spec prog 41 #[.pointer (some ⟨d, 0, none⟩)] σ R := by
 refine MK.start (gI (told := ts.map Mw) h ht Ed Kt ae hc ho (by simpa using FV) (fun b σ1 W1 rc1 sg1 ρ1 p1 n1 c1 fs1 AE8 h1 x1 r1 e1 ok1 lN ASG ALV ALW k1a k1b k1c => ⟨_, _, _, _, _, rfl, fun hh => absurd rfl hh, fun _ => HQ fun m hm => ⟨m, rfl, fun s hs => ?_⟩⟩) (hfew := hfew))
 obtain ⟨ρ2, h2, x2, t2⟩ := h1.box (o := .map #[] 0) hm
 obtain ⟨ρ3, h3, x3, t3⟩ := h2.box (o := .cells #[.pointer (some ⟨b, 0, none⟩), .pointer (some ⟨d, 0, none⟩), .map (some m)] 161 (0, 0)) hs
 have Ql : (ts.map Mw).length = n1 := r1.1
 rw [List.length_map] at Ql
 have yI : ic ρ3 b d s m 0 [] ρ1 := ⟨t3, ⟨x3 _ _ t2, (A1.fresh (σ := σ1) (b := m)).2⟩, fun r hr => (by cases hr), fun k o hk => Hp.AG.2 ⟨fun e => (by
   simp only [List.mem_singleton] at e
   have := h1.ext _ _ hk
   rw [e, hm] at this; cases this), x3 _ _ (x2 _ _ hk)⟩⟩
 suffices H : ∀ (j k : Nat) (σ : Hp) (rows : List CM), n1 - k = j → k ≤ n1 → Hs σ d b s (dk fs1 AE8) W1 rows ρ1 → (∀ x, CJ rows x = FY (ts.take k) x) → (∀ x, x ∈ BS rows → ∃ t ∈ ts, t.1 = x) → MK.NV R (some ⟨s, 0, none⟩) p1 n1 c1 n1 k σ from
   H n1 0 _ [] rfl (Nat.zero_le _) ⟨ρ3, m, 0, h3, yI⟩ (fun x => rfl) (fun x hx => by cases hx)
 intro j
 induction j with
 | zero =>
   intro k σ rows hj hk hu hl dW
   rw [List.take_of_length_le (by omega)] at hl
   exact MK.I5 ⟨fun hh => by omega, fun _ => hR s b σ W1 rows fs1 AE8 (hu.FX x1) hl dW e1 ⟨rc1, sg1, ok1, lN⟩ ALW k1a k1b ALV fun hw => (k1c hw).1⟩
 | succ j ih =>
   intro k σ rows hj hk hu hl dW
   obtain ⟨t, Mr⟩ : ∃ t, ts[k]? = some t := ⟨_, List.getElem?_eq_getElem (by omega)⟩
   have mE := List.mem_of_getElem? Mr
   obtain ⟨g1, g2, g3, g4, g5⟩ := hg t mE
   obtain ⟨QA, br, eP, n29, eQ, hp, ALX, ALY, HJ⟩ := r1.at (x := Mw t) (i := k) (by rw [List.getElem?_map, Mr]; rfl)
   refine MK.I5 ⟨fun _ => ⟨QA, br, hp, by omega, eP, n29, eQ, by simpa using hu.ext.ld ALX, ?_⟩, fun hh => by omega⟩
   refine af hu (HJ.mono hu.ext) ALY g1 g2 g3 g4 g5 fun σ2 Ws h2 R1 nw => ⟨_, rfl, fun hh => (by cases hh), fun _ => ⟨by unfold AN; omega, ?_⟩⟩
   rw [MI hp]
   refine ih (k + 1) σ2 Ws (by omega) (by omega) h2 (fun x => ?_) fun x hx => ?_
   · rw [AO Mr, Oh, R1, hl]
   · rcases (nw x).1 hx with rfl | hx
     · exact ⟨t, mE, rfl⟩
     · exact dW x hx
abbrev GI (rows : List CM) (L : List ByteArray) : Bs := L.map fun k => Cf k (DW rows k).1 (DW rows k).2
theorem mF {p3 : Option Addr} {n3 c3 : Nat} {L : List ByteArray} {σs : Hp} (h : Hs σs d b s D W rows τ) (HJ : GP 1 σs p3 n3 (L.map .string)) (hn : n3 ≤ 1024) (hL : ∀ k ∈ L, k.size ≤ 64)
   (hR : ∀ p n c σ', Ic (σs.new σ') p n c (GI rows L) → Ext σs σ' → R (.returned (.slice p n c)) σ') :
   ∀ (j k : Nat) (σ : Hp) (p5 : Option Addr) (c5 : Nat), n3 - k = j → k ≤ n3 → Ext σs σ → Ic (σs.new σ) p5 k c5 (GI rows (L.take k)) → CX.QL R (some ⟨s, 0, none⟩) p5 k c5 p3 n3 c3 n3 k σ := by
 have hLn : L.length = n3 := by have := HJ.1; simpa using this
 intro j
 induction j with
 | zero =>
   intro k σ p5 c5 hj hk hx ho
   have Pd : k = n3 := by omega
   subst Pd
   rw [List.take_of_length_le (by omega)] at ho
   exact CX.PS ⟨fun hh => by omega, fun _ => hR p5 _ c5 σ ho hx⟩
 | succ j ih =>
   intro k σ p5 c5 hj hk hx ho
   obtain ⟨x, R0⟩ : ∃ x, L[k]? = some x := ⟨_, List.getElem?_eq_getElem (by omega)⟩
   obtain ⟨b27, o27, hp, ALZ⟩ := GP.at1 (k := k) (v := .string x) HJ (by rw [List.getElem?_map, R0]; rfl)
   have hu := h.mono hx
   obtain ⟨l0, l1, m, l2⟩ := hu.rd
   have uZ := hL x (List.mem_of_getElem? R0)
   refine CX.PS ⟨fun _ => ⟨b27, o27, hp, by omega, x, by simpa using hx.ld ALZ, s, 0, rfl, _, l2, hu.look l2 fun UT n36 WR hc ASK h8 hv hr => ⟨UT, n36, WR, _, rfl, ?_⟩⟩, fun hh => by omega⟩
   refine LY hr h8 (by omega) (by omega) hv fun Ra n37 c37 σ3 Dq C6 => ⟨Ra, n37, c37, rfl, fun b38 ALa => ?_⟩
   have HD : ∀ a, p5 = some a → σ a.block ≠ none := fun a ha e => A3.block ho a ha (by
     cases hh : (σs.new σ) a.block with
     | none => rfl
     | some u => rw [(AS.1 hh).2] at e; cases e)
   refine A3.H7 (T := 165) Rf.mono (hx.trans C6) (A3.mono Rf.mono (Ext.BN C6) ho) rfl (fun u hu => by simp at hu; subst hu; rfl) (x := Cf x (DW rows x).1 (DW rows x).2) ⟨Ra, n37, c37, rfl, Own.cap Dq, (AR.rd Dq).mono (Ext.Gj hx HD)⟩ (by omega) (fun p4 c4 σ4 OS LW => ⟨p4, _, c4, rfl, by unfold AN; omega, ?_⟩) ALa
   rw [MI hp]
   refine ih (k + 1) σ4 p4 c4 (by omega) (by omega) LW ?_
   rw [AO R0, GI, List.map_append]
   exact OS
theorem mG {σ0 : Hp} {i m clock : Nat} (Mi : A1 σ0 m (rows.map CM.Cd) clock) (dA : rows.length ≤ 1024) (Pd : (BS rows).Nodup)
   (hR : ∀ p n c L σ', QY (σ0.new σ') p n c L → L.Perm (BS rows) → Ext σ0 σ' → n ≤ 1024 → CX.QL R (some ⟨s, 0, none⟩) none 0 0 p n c n 0 σ') :
   ∀ (k : Nat) (σ : Hp) (L : List MapEntry) (xs : List ByteArray) (p : Option Addr) (c : Nat), L.length = k → Ext σ0 σ → Co (σ0.new σ) i m (rows.map CM.Cd) L clock → QY (σ0.new σ) p xs.length c xs → (xs ++ L.map nm).Perm (BS rows) →
     CX.A4 R (some ⟨s, 0, none⟩) p xs.length c (.pointer (some ⟨i, 0, none⟩)) σ := by
 intro k
 induction k using Nat.strongRecOn with
 | _ k ih =>
 intro σ L xs p c hL hx hi ho hp
 have hlen : xs.length ≤ rows.length := by
   have := hp.length_eq
   simp [BS] at this; omega
 have hm := Mi.mono hx
 refine CX.AW (Jy hm (hi.mono (Ext.Af _ _)) (fun h0 => .inl ⟨rfl, ?_⟩) fun e Ju Ui o Z2 Zz => .inr ?_)
 · subst h0
   rw [List.map_nil, List.append_nil] at hp
   have Bt : Own 1 σ p xs.length c ((xs.map (·.data.toList)).map W5) := by
     rw [List.map_map]; exact ho.mono (Ext.Af _ _)
   refine Mh Bt (by simp) (by omega) fun σ' hs hsx => ⟨rfl, ?_⟩
   refine hR p _ c ((GY (xs.map (·.data.toList))).map fun l => ⟨l.toArray⟩) σ' ?_ ?_ (CL ho.De hsx hx) (by omega)
   · have := Own.CC hs (σ := σ0) ho.De
     unfold QY
     rw [List.map_map]
     exact this
   · refine List.Perm.trans ?_ hp
     have h1 := (List.mergeSort_perm (xs.map (·.data.toList)) fun x y => decide (x ≤ y)).map fun l => (⟨l.toArray⟩ : ByteArray)
     rw [List.map_map] at h1
     have h2 : xs.map ((fun l => (⟨l.toArray⟩ : ByteArray)) ∘ fun s : ByteArray => s.data.toList) = xs := by
       conv => rhs; rw [← List.map_id xs]
       exact List.map_congr_left fun a _ => rfl
     rw [h2] at h1
     exact h1
 · obtain ⟨seen, c0, xy, _⟩ := hi
   obtain ⟨km, _⟩ := AS.1 xy
   have qZ : ∀ a, p = some a → a.block ≠ i := fun a ha e => by
     rcases ho.2.2 with ⟨h1, _⟩ | ⟨b, o', arr, T, h1, h2, _⟩
     · rw [h1] at ha; cases ha
     · rw [h1] at ha; cases ha
       simp only at e; subst e
       rw [xy] at h2; cases h2
   have uF : m ≠ i := fun e => by rw [← e, Mi.1] at km; cases km
   obtain ⟨l1, l2, hl⟩ := List.append_of_mem Ui
   obtain ⟨r1, r, r2, CO, _, rfl, _⟩ := KQ hl
   have Ay : Ext σ0 (σ.set i o) := fun b u hb => by rw [Hp.AH fun e => by rw [e, km] at hb; cases hb]; exact hx b u hb
   have nq : (σ0.new (σ.set i o)) i = some o := AS.2 ⟨km, Hp.AA _ _ _⟩
   have Bt : QY (σ0.new (σ.set i o)) p xs.length c xs := TwW.Own.loc ho fun b hb => by
     cases p with
     | none => cases hb
     | some a =>
       simp only [DL, List.mem_singleton] at hb
       subst hb
       simp only [Hp.new, Hp.AH (qZ a rfl)]
   have W7 : (L.map (·.born)).Nodup := Mi.Vh.sublist ((Co.sub ⟨seen, c0, xy, by assumption⟩).map _)
   have qa := (Ka W7 Ju).map nm
   rw [List.map_cons] at qa
   refine ⟨_, _, _, _, _, rfl, Zz _ (Hp.AA _ _ _) (Hp.AH uF) ⟨_, _, _, _, _, rfl, fun PQ Up => ?_⟩⟩
   refine Iy (T := 97) (ys := [.string r.key]) Ay Bt rfl (fun u hu => by simp at hu; subst hu; rfl) (by omega) (fun p' c' σ' Dq C6 nr => ⟨p', _, c', rfl, ?_⟩) Up
   have hi3 : (σ0.new σ') i = some o := by
     have := nr i o (A9.2 ⟨fun a ha => Ne.symm (qZ a ha), nq⟩)
     exact (A9.1 this).2
   have := ih _ (hL ▸ KS Ju) σ' _ (xs ++ [r.key]) p' c' rfl C6 (Z2 _ hi3) (by simpa [QY] using Dq) (by
     rw [List.append_assoc]
     exact (qa.append_left xs).symm.trans hp)
   simpa using this
theorem mH (h : Hs σ d b s D W rows τ) (dA : rows.length ≤ 1024)
   (hR : ∀ p n c L σ', Ic (σ.new σ') p n c (GI rows L) → L.Perm (BS rows) → Ext σ σ' → R (.returned (.slice p n c)) σ') : Spec prog 68 #[.pointer (some ⟨s, 0, none⟩)] σ R := by
 have h' := h
 obtain ⟨ρ, m, cl, h1, h2⟩ := h'
 have hx := h1.ext
 refine CX.start ⟨s, 0, rfl, _, AD (hx _ _ h2.cell) rfl, H9 (h2.map.mono hx) fun i o hi Oz => ⟨_, rfl, ?_⟩⟩
 have ALb : ∀ x ∈ BS rows, x.size ≤ 64 := fun x hx => by
   obtain ⟨r, hr, rfl⟩ := List.mem_map.1 hx
   have := (h2.row r hr).key
   simp [FH] at this; exact this.2
 refine mG (h2.map.mono hx) dA h2.nodup (fun p n c L σ1 ho hp BM hn => ?_) _ _ _ [] none 0 rfl (.set hi) (Oz.loc (by simp [Hp.new, hi])) Own.nil (by simp [BS, List.map_map]; exact List.Perm.of_eq (List.map_congr_left fun r _ => rfl))
 refine mF (h.mono BM) (Own.rd (ho.mono (Ext.Af _ _))) hn (fun k hk => ALb k (hp.mem_iff.1 hk)) (fun p' n' c' σ2 Bt Ay => hR p' n' c' L σ2 (A3.mono Rf.mono (Ext.Cm BM) Bt) hp (BM.trans Ay)) n 0 σ1 none 0 rfl (Nat.zero_le _) (Ext.refl _) A3.nil
end
end TwW
end
section
namespace TwW
open Go Tw Go.RowKit Go.Proofs.Tryz
theorem yq {α : Type} {t l : List α} {x : α} (h : t <+: l ++ [x]) (hl : l.length ≤ t.length) : t = l ∨ t = l ++ [x] := by
 obtain ⟨r, hr⟩ := h
 rcases List.eq_nil_or_concat r with e | ⟨r0, y, e⟩
 · subst e; rw [List.append_nil] at hr; exact .inr hr
 · rw [List.concat_eq_append] at e
   subst e
   rw [← List.append_assoc] at hr
   have h1 := List.append_inj_left' hr rfl
   have : r0 = [] := List.eq_nil_of_length_eq_zero (by have := congrArg List.length h1; simp at this; omega)
   subst this
   exact .inl (by simpa using h1)
theorem Xs : ∀ {rs : Bs} {M : Nat}, Ml rs → (∀ r ∈ rs, r.length ≤ M) → (AU rs).length ≤ rs.length * (M + 7)
 | [], _, _, _ => by simp [AU]
 | r :: rs, M, h, hM => by
   rw [B2, List.length_append, List.length_cons, Nat.add_mul]
   have h1 := OR (h r (by simp))
   have h2 := Xs (rs := rs) (M := M) (fun x hx => h x (by simp [hx])) fun x hx => hM x (by simp [hx])
   have h3 := hM r (by simp)
   omega
theorem Te {k : ByteArray} {d : List Int} {v : Nat} (hk : k.size ≤ 64) (hd : d.length ≤ 60000) (hv : v < 18446744073709551616) : (Cf k d v).length ≤ 60094 := by
 have h1 := BV (x := k.size) (by omega)
 have h2 := BV (x := v) hv
 have h3 := BV (x := d.length) (by omega)
 simp only [Cf, List.length_append, D1]; omega
open Classical in
theorem gi {L : List ByteArray} {g : ByteArray → yp} {x : ByteArray} : ∀ a, (L.map fun y => (y, g y)).foldl (fun a (t : Rec) => if t.1 = x then some t.2 else a) a = if x ∈ L then some (g x) else a := by
 induction L with
 | nil => intro a; simp
 | cons y L ih =>
   intro a
   rw [List.map_cons, List.foldl_cons, ih]
   by_cases hx : x ∈ L
   · simp [hx]
   · by_cases hy : y = x
     · subst hy; simp
     · have : ¬ x = y := fun e => hy e.symm
       simp [hx, hy, this]
open Classical in
theorem ag {L : List ByteArray} {g : ByteArray → yp} {x : ByteArray} : FY (L.map fun y => (y, g y)) x = if x ∈ L then some (g x) else none := gi none
theorem ah {x : ByteArray} {r : yp} {ts : List Rec} : FY ts x = some r → ∃ t ∈ ts, t.1 = x ∧ t.2 = r := by
 have : ∀ (ts : List Rec) (a : Option yp), ts.foldl (fun a (t : Rec) => if t.1 = x then some t.2 else a) a = some r → a = some r ∨ ∃ t ∈ ts, t.1 = x ∧ t.2 = r := by
   intro ts
   induction ts with
   | nil => intro a h; exact .inl h
   | cons t ts ih =>
     intro a h
     rw [List.foldl_cons] at h
     rcases ih _ h with h1 | ⟨u, hu, e⟩
     · by_cases ht : t.1 = x
       · rw [if_pos ht] at h1; cases h1; exact .inr ⟨t, by simp, ht, rfl⟩
       · rw [if_neg ht] at h1; exact .inl h1
     · exact .inr ⟨u, by simp [hu], e⟩
 intro h
 rcases this ts none h with h | h
 · cases h
 · exact h
open Classical in
theorem Xt {rows : List CM} (hn : (BS rows).Nodup) (x : ByteArray) : CJ rows x = if x ∈ BS rows then some (DW rows x) else none := by
 by_cases hx : x ∈ BS rows
 · rw [if_pos hx]
   obtain ⟨r, hr, e1, e2⟩ := gh hn hx
   rw [DW, e2]; rfl
 · rw [if_neg hx, JI hx]
structure gj (D : Dk) (W : Wl) (rows : List CM) (ts : List Rec) : Prop where
 up : D.up = true
 dir : W.dir = Ri
 log : ∃ rc sg, A7 D.files D.cnt W rc sg ts.length ∧ rc ++ Ao sg = ts.map Mw
 good : Xq ts
 look : ∀ k, CJ rows k = FY ts k
 new : D.files (BC Ri) = none
 ex : ∀ s, (D.files s).isSome = true → (0 < W.check ∧ s = AF Ri kc W.check) ∨ ∃ n ∈ W.AP, s = AF Ri ks n
 sml : W.AP.length ≤ 64
def kvF (W : Wl) : List ByteArray := AF Ri kc W.check :: W.AP.map (AF Ri ks)
theorem dX {W : Wl} {s : ByteArray} (h : (0 < W.check ∧ s = AF Ri kc W.check) ∨ ∃ n ∈ W.AP, s = AF Ri ks n) : s ∈ kvF W := by
 rcases h with ⟨_, e⟩ | ⟨n, hn, e⟩
 · rw [e]; exact List.mem_cons_self ..
 · rw [e]; exact List.mem_cons_of_mem _ (List.mem_map.2 ⟨n, hn, rfl⟩)
theorem dY {D : Dk} {W : Wl} (h : ∀ s, (D.files s).isSome = true → (0 < W.check ∧ s = AF Ri kc W.check) ∨ ∃ n ∈ W.AP, s = AF Ri ks n) (hl : W.AP.length ≤ 100) : ON D :=
 .inr ⟨kvF W, by simp [kvF]; omega, fun s hs => dX (h s hs)⟩
theorem RD {D D' : Dk} {W : Wl} {a b : ByteArray} (h : ∀ s, (D.files s).isSome = true → (0 < W.check ∧ s = AF Ri kc W.check) ∨ ∃ n ∈ W.AP, s = AF Ri ks n) (hl : W.AP.length ≤ 100) (hs : ∀ s, (D'.files s).isSome = true → (D.files s).isSome = true ∨ s = a ∨ s = b) : ON D' :=
 .inr ⟨a :: b :: kvF W, by simp [kvF]; omega, fun s h1 => by
   rcases hs s h1 with g | g | g
   · exact List.mem_cons_of_mem _ (List.mem_cons_of_mem _ (dX (h s g)))
   · rw [g]; exact List.mem_cons_self ..
   · rw [g]; exact List.mem_cons_of_mem _ (List.mem_cons_self ..)⟩
theorem gj.uh {D : Dk} {W : Wl} {rows : List CM} {ts : List Rec} (h : gj D W rows ts) : ON D := dY h.ex (by have := h.sml; omega)
structure rU (K : List ByteArray) (rows : List CM) : Prop where
 keys : ∀ x ∈ BS rows, x ∈ K
 len : ∀ x, (DW rows x).1.length ≤ 60000
section
variable {σ σ' τ τ' ρ ρ' : Hp} {d b s m clock : Nat} {D : Dk} {W : Wl} {rows : List CM} {R : Rr}
theorem mI {K : List ByteArray} {k : ByteArray} {p : Option Addr} {n c v : Nat} {Gb : List Int} {ts : List Rec} (h : Hs σ d b s D W rows τ) (ht : Tb τ) (ho : gj D W rows ts) (Ky : rU K rows) (hK : K.length ≤ 8) (hk : FH k = true) (hkK : k ∈ K) (hr : B9 .u8 τ p n Gb) (h8 : E6 Gb) (hd : Gb.length ≤ 60000) (hv : v + 1 < 18446744073709551616) (hc : D.cnt + 1 < 67108864)
   (Ae : (DW rows k).2 ≠ v → ∀ σ', Ext σ σ' → R (.returned (.tuple #[.int .u64 (DW rows k).2, .int .i64 121])) σ')
   (Aq : (DW rows k).2 = v → ∀ σ' D' W' rows' rV, Hs σ' d b s D' W' rows' τ → gj D' W' rows' rV → rU K rows' → (∀ k', CJ rows' k' = if k = k' then some (Gb, v + 1) else CJ rows k') → D'.armed = D.armed → (D'.cnt ≤ D.cnt + 2 ∧ (rV.length ≤ ts.length + 1 ∨ rV.length ≤ 9)) → (∀ x, x ∈ BS rows' ↔ x = k ∨ x ∈ BS rows) → R (.returned (.tuple #[.int .u64 ((v + 1 : Nat) : Int), .int .i64 0])) σ')
   (KF : D.armed = true → ∀ σ' D' rV, Ai σ' d D' τ → D'.up = false → D'.armed = false → D'.cnt ≤ D.cnt + 2 → ON D' → G6 D'.files Ri D'.cnt (rV.map Mw) → Xq rV → rV.length ≤ ts.length + 9 → ((∀ k', FY rV k' = CJ rows k') ∨ (∀ k', FY rV k' = if k = k' then some (Gb, v + 1) else CJ rows k')) → R (.returned (.tuple #[.int .u64 0, .int .i64 60])) σ') :
   Spec prog 30 #[.pointer (some ⟨s, 0, none⟩), .string k, .slice p n c, .int .u64 v] σ R := by
 have hdn : Gb.length = n := hr.1
 have XH : k.size ≤ 64 := by simp [FH] at hk; exact hk.2
 have dA := Te XH hd hv
 have h8r : E6 (Cf k Gb (v + 1)) := VA h8 (by omega) (by omega) hv
 have hdd : CG W.dir = true := by rw [ho.dir]; exact ae
 obtain ⟨rc, sg, rW, Mt⟩ := ho.log
 have hgn : Xq (ts ++ [(k, Gb, v + 1)]) := fun t mE => by
   rcases List.mem_append.1 mE with mE | mE
   · exact ho.good t mE
   · simp at mE; subst mE; exact ⟨hk, h8, Nat.le_trans hd (by decide), Nat.succ_pos v, hv⟩
 have hln : ∀ k', FY (ts ++ [(k, Gb, v + 1)]) k' = if k = k' then some (Gb, v + 1) else CJ rows k' := fun k' => by rw [Oh, ho.look]
 have Zy : (ts ++ [(k, Gb, v + 1)]).map Mw = ts.map Mw ++ [Cf k Gb (v + 1)] := by simp
 have AFA : D.armed = true → ∀ σ' D' t, Ai σ' d D' τ → D'.up = false → D'.armed = false → D'.cnt ≤ D.cnt + 2 → ON D' → G6 D'.files Ri D'.cnt t → t <+: ts.map Mw ++ [Cf k Gb (v + 1)] → ts.length ≤ t.length → R (.returned (.tuple #[.int .u64 0, .int .i64 60])) σ' := fun ha σ' D' t Mp Ya ha' hc' VZ Em hp hl => by
   rcases yq hp (by simpa using hl) with e | e
   · subst e
     exact KF ha σ' D' ts Mp Ya ha' hc' VZ Em ho.good (by omega) (.inl fun k' => (ho.look k').symm)
   · rw [e, ← Zy] at Em
     exact KF ha σ' D' _ Mp Ya ha' hc' VZ Em hgn (by simp) (.inr hln)
 refine GW.start (Xr h ho.up (fun hf => by rw [hk] at hf; cases hf) fun _ sw n20 c20 σ1 Fm BM => ⟨_, _, _, _, _, rfl, fun hh => absurd rfl hh, fun _ => ⟨fun hh => Ae (fun e => hh (by rw [e])) σ1 BM, fun heq YU gb => ?_⟩⟩)
 have ALc : (DW rows k).2 = v := by omega
 have Aq := Aq ALc
 have h1 := h.mono BM
 refine Dr Own.empty ((GP.of_map (hr.mono h1.ext)).mono (.set gb)) CR.Cj (by omega) fun p35 c35 σ2 AY Di => ?_
 have hq : ∀ a : Addr, (some (⟨YU, 0, none⟩ : Addr)) = some a → σ1 a.block = none := fun a ha => by cases ha; exact gb
 rw [Nat.zero_add] at AY ⊢
 have AFB : AR .u8 (σ1.new σ2) p35 n c35 Gb := Own.CC AY (Bb hq Di (.set gb))
 have Ay : Ext σ1 σ2 := CL hq Di (.set gb)
 obtain ⟨τ2, h2, x2, qy⟩ := h1.grow Ay
 have AFC : B9 .u8 τ2 p35 n Gb := (AR.rd AFB).mono qy
 refine ⟨p35, n, c35, rfl, fun J8 h37 => ?_⟩
 have e37 : J8 = ((v + 1 : Nat) : Int) := by rw [h37]; simp [IntKind.wrap, IntKind.bits, IntKind.signed]; omega
 subst e37
 obtain ⟨l0, l1, m, l2⟩ := h2.rd
 refine fun _ => ⟨s, 0, rfl, _, l0, LY (AFC.mono h2.ext) h8 (by omega) (by omega) hv fun xQ n45 c45 σ3 Dq C6 => ⟨xQ, n45, c45, rfl, Kp.CA C6, ?_⟩⟩
 obtain ⟨τ3, h3, x3, x3n⟩ := h2.grow C6
 have lA : B9 .u8 τ3 xQ n45 (Cf k Gb (v + 1)) := (AR.rd Dq).mono x3n
 have AOe : (Cf k Gb (v + 1)).length = n45 := lA.1
 obtain ⟨ρ, m3, cl, hl, hm⟩ := h3
 have mJ : Ext τ ρ := (x2.trans x3).trans hm.up
 have AFD := ht.mono mJ
 refine Uw (hfew := ho.uh) hl AFD (lA.mono hm.up) h8r ho.up (by omega) hdd rW (fun hh => by omega) fun _ => ⟨fun σ4 D4 W4 sg4 sf4 h4 u4 a4 k4 d4 z4 ALe s4 AFE ASN ALf ch4 _ _ _ => ⟨0, rfl, fun hh => absurd rfl hh, fun _ => ?_⟩, fun ha σ4 D4 t4 h4 u4 a4 k4 o4 ht4 hs4 => ⟨60, rfl, fun _ => ?_, fun hh => absurd (by decide) hh⟩⟩
 · have Yh : W4.dir = Ri := d4.trans ho.dir
   have AFF : CG W4.dir = true := by rw [Yh]; exact ae
   have VC : rc ++ Ao sg4 = (ts ++ [(k, Gb, v + 1)]).map Mw := by rw [AFE, ← List.append_assoc, Mt, Zy]
   have u4' : Hs σ4 d b s D4 W4 rows τ3 := ⟨ρ, m3, cl, h4, hm⟩
   refine ⟨_, u4'.rd.1, aE h4 AFD u4 (by omega) AFF ALe (fun σ5 D5 h5 u5 a5 k5 yr ASQ ALg ff5 => ⟨0, rfl, fun hh => absurd rfl hh, fun _ => ?_⟩) (fun ha σ5 D5 t5 h5 u5 a5 k5 o5 ht5 hs5 => ⟨60, rfl, fun _ => ?_, fun hh => absurd (by decide) hh⟩)⟩
   · have u5' : Hs σ5 d b s D5 W4 rows τ3 := ⟨ρ, m3, cl, h5, hm⟩
     obtain ⟨z1, z2, z3, z5, z6⟩ := z4
     have AFG : W4.opn ∈ W4.AP := List.mem_of_getLast? (by simpa [hasB] using z3)
     have rX : ∀ s, (D5.files s).isSome = true → (0 < W4.check ∧ s = AF Ri kc W4.check) ∨ ∃ n ∈ W4.AP, s = AF Ri ks n := fun s hs => by
       rcases z6 s (ff5.2 s hs) with g | g
       · rw [ch4]
         exact (ho.ex s g).imp id fun ⟨n, hn, e⟩ => ⟨n, z5.subset hn, e⟩
       · exact .inr ⟨_, AFG, by rw [g, Yh]⟩
     have ASS : W4.AP.length ≤ 65 := by have := ho.sml; omega
     obtain ⟨m0, _, m5, l5⟩ := u5'.rd
     have ui : D5.files (BC Ri) = none := by
       have e1 := ALg; have e2 := ALf
       rw [Yh] at e1; rw [ho.dir] at e2
       exact (e1.trans e2).trans ho.new
     refine ⟨_, l5, u5'.put l5 (Own.cap AFB) (AFC.mono x3) h8 (by omega) hk hv fun σ6 E4 h6 uj hk6 => ?_⟩
     have rY : rU K E4 := ⟨fun x hx => by
       rcases (hk6 x).1 hx with rfl | hx
       · exact hkK
       · exact Ky.keys x hx, fun x => by
       have e : DW E4 x = if k = x then (Gb, v + 1) else DW rows x := by
         rw [DW, uj]
         by_cases yP : k = x <;> simp [yP, DW]
       rw [e]
       by_cases yP : k = x
       · rw [if_pos yP]; exact hd
       · rw [if_neg yP]; exact Ky.len x⟩
     have mK : ∀ x, CJ E4 x = FY (ts ++ [(k, Gb, v + 1)]) x := fun x => by rw [hln, uj]
     have yt := h6.nodup
     have ALj : E4.length ≤ 8 := by
       have := Wt yt rY.keys
       simp only [BS, List.length_map] at this; omega
     have ga6 : D5.armed = D.armed := a5.trans a4
     obtain ⟨ρ6, m6, cl6, AFH, yu⟩ := h6
     have h6 : Hs σ6 d b s D5 W4 E4 τ3 := ⟨ρ6, m6, cl6, AFH, yu⟩
     have mL : Ext τ τ3 := x2.trans x3
     refine ⟨_, h6.rd.1, R3 AFH ⟨_, rfl, fun FV => ?_, fun ASU => ?_⟩⟩
     · refine ⟨_, h6.rd.1, mH h6 (by omega) fun Zi YY c75 L σ8 rZ hp8 O2 => ⟨Zi, YY, c75, rfl, Kp.CA O2, ?_⟩⟩
       obtain ⟨τ8, h8', x8, x8n⟩ := h6.grow O2
       obtain ⟨ρ8, m8, cl8, hl8, hm8⟩ := h8'
       let oD : List Rec := L.map fun x => (x, DW E4 x)
       have e9 : GI E4 L = oD.map Mw := by simp [oD, GI]
       have mM : ∀ x ∈ L, ∃ t ∈ ts ++ [(k, Gb, v + 1)], t.1 = x ∧ t.2 = DW E4 x := fun x hx => by
         refine ah ?_
         rw [← mK, Xt yt, if_pos (hp8.mem_iff.1 hx)]
       have hg9 : Xq oD := fun t mE => by
         obtain ⟨x, hx, rfl⟩ := List.mem_map.1 mE
         obtain ⟨u, hu, e1, e2⟩ := mM x hx
         have := hgn u hu
         rw [e1, e2] at this; exact this
       have hl9 : ∀ x, FY oD x = CJ E4 x := fun x => by
         rw [ag, Xt yt]
         by_cases hx : x ∈ L
         · rw [if_pos hx, if_pos (hp8.mem_iff.1 hx)]
         · rw [if_neg hx, if_neg (fun h => hx (hp8.mem_iff.2 h))]
       have hLl : L.length = E4.length := by have := hp8.length_eq; simpa [BS] using this
       have uo : ∀ r ∈ GI E4 L, r.length ≤ 60094 := fun r Is => by
         obtain ⟨x, hx, rfl⟩ := List.mem_map.1 Is
         obtain ⟨u, hu, e1, e2⟩ := mM x hx
         have uq := hgn u hu
         refine Te ?_ (rY.len x) (by rw [← e2]; exact uq.2.2.2.2)
         have := uq.1
         rw [e1] at this
         simp [FH] at this; exact this.2
       have AFI : Ml (GI E4 L) := fun r Is => by have := uo r Is; omega
       have hj9 : (AU (GI E4 L)).length ≤ 4194304 := by
         have := Xs AFI uo
         rw [List.length_map, hLl] at this
         have h2 : E4.length * (60094 + 7) ≤ 8 * (60094 + 7) := Nat.mul_le_mul_right _ ALj
         omega
       have h89 : ∀ r ∈ GI E4 L, E6 r := fun r Is => by
         obtain ⟨x, hx, rfl⟩ := List.mem_map.1 Is
         obtain ⟨u, hu, e1, e2⟩ := mM x hx
         have uq := hgn u hu
         rw [e1, e2] at uq
         have uZ : x.size ≤ 64 := by have := uq.1; simp [FH] at this; exact this.2
         exact VA uq.2.1 (by omega) (by have := uq.2.2.1; omega) uq.2.2.2.2
       have rG : Ext τ ρ8 := (mL.trans x8).trans hm8.up
       refine gK (hfew := dY rX (by omega)) hl8 (ht.mono rG) (Jj.mono (x8n.trans hm8.up) (A3.rd Rf.mono rZ)) h89 u5 (by omega) AFF yr (by rw [Yh]; exact ui) (fun hh => absurd AFI hh) fun _ => ⟨hj9, ⟨fun σ9 D9 W9 h9 u9 a9 k9 d9 s9 ALm ASa ALn => ⟨0, rfl, fun hh => absurd rfl hh, fun _ => GW.cZ ?_⟩, fun ha σ9 D9 t9 h9 u9 a9 k9 o9 ht9 => ⟨60, rfl, fun _ => ?_, fun hh => absurd (by decide) hh⟩⟩⟩
       · refine Aq σ9 D9 W9 E4 oD ⟨ρ8, m8, cl8, h9, hm8.cell, hm8.map, hm8.row, (mL.trans x8).trans hm8.ext⟩ ⟨u9, d9.trans Yh, ⟨GI E4 L, [], ?_, by simp [Ao, e9]⟩, hg9, fun x => (hl9 x).symm, by have := ALn; rw [Yh] at this; exact this, fun s hs => ?_, by rw [s9.1]; simp⟩ rY uj (a9.trans ga6) ⟨by omega, .inr (by simp only [oD, List.length_map]; omega)⟩ hk6
         · have : (GI E4 L).length = oD.length := by rw [e9, List.length_map]
           rw [← this]; exact ALm
         · rw [s9.2.1]
           rcases s9.2.2 s hs with g | ⟨g1, g2, g3⟩
           · exact .inl ⟨by have := yr.opn.1; omega, by rw [g, Yh]⟩
           · exfalso
             rcases rX s g1 with ⟨e1, e2⟩ | ⟨n, hn, e⟩
             · exact g2 e1 (by rw [e2, Yh])
             · exact g3 n hn (by rw [e, Yh])
       · rw [Yh] at o9
         have D3 : t9 = oD.map Mw ∨ t9 = (ts ++ [(k, Gb, v + 1)]).map Mw := by
           rcases ht9 with e | ⟨e1, e2⟩
           · exact .inl (e.trans e9)
           · rw [VC] at e1 e2
             exact .inr (e1.eq_of_length (by have := e1.length_le; omega))
         have Mp : Ai σ9 d D9 τ := h9.FX rG
         have Kt : D.armed = true := by rw [← ga6]; exact ha
         have AFJ : ON D9 := RD rX (by omega) k9.2
         rcases D3 with e | e
         · rw [e] at o9
           exact KF Kt σ9 D9 oD Mp u9 a9 (by omega) AFJ o9 hg9 (by simp only [oD, List.length_map]; omega) (.inr fun x => by rw [hl9, uj])
         · rw [e] at o9
           exact KF Kt σ9 D9 _ Mp u9 a9 (by omega) AFJ o9 hgn (by simp) (.inr hln)
     · refine GW.cZ (Aq σ6 D5 W4 E4 _ (h6.FX mL) ⟨u5, Yh, ⟨rc, sg4, ?_, VC⟩, hgn, mK, ui, rX, by omega⟩ rY uj ga6 ⟨by omega, .inl (by simp)⟩ hk6)
       have : (rc ++ Ao sg4).length = (ts ++ [(k, Gb, v + 1)]).length := by rw [VC, List.length_map]
       rw [← this]; exact yr
   · rw [Yh] at o5
     have Kt : D.armed = true := by rw [← a4]; exact ha
     have ALo : ∀ s, (D4.files s).isSome = true → (D.files s).isSome = true ∨ s = AF W4.dir ks W4.opn ∨ s = AF W4.dir ks W4.opn := fun s hs => (z4.2.2.2.2 s hs).imp id .inl
     refine AFA Kt σ5 D5 t5 (h5.FX mJ) u5 a5 (by omega) (RD ho.ex (by have := ho.sml; omega) fun s hs => ALo s (k5.2 s hs)) o5 ?_ (by omega)
     rw [← Zy, ← VC]; exact ht5
 · rw [ho.dir] at o4
   refine AFA ha σ4 D4 t4 (h4.FX mJ) u4 a4 (by omega) (RD ho.ex (by have := ho.sml; omega) k4.2) o4 ?_ (by omega)
   rw [← Mt]; exact ht4
end
end TwW
end
section
namespace TwW
open Go Tw Go.RowKit Go.Proofs.Tryz
section
variable {σ σ' τ τ' ρ ρ' : Hp} {d b s m clock : Nat} {D : Dk} {W : Wl} {rows : List CM} {R : Rr}
theorem Xu (h : Ai σ d D τ) (ht : Tb τ) (Ed : D.up = true) (Kt : D.armed = false) (hc : D.cnt = 0) (hf : ∀ s, D.files s = none)
   (hR : ∀ s b σ' W FF, Hs σ' d b s (dk FF 0) W [] τ → gj (dk FF 0) W [] [] → (∀ s, FF s = none) → R (.returned (.tuple #[.pointer (some ⟨s, 0, none⟩), .int .i64 0])) σ') : Spec prog 41 #[.pointer (some ⟨d, 0, none⟩)] σ R := by
 refine VB (ts := []) (w := true) h ht Ed Kt (by omega) (G6.AEn fun s hs => by rw [hf s] at hs; cases hs) (fun t ht => by cases ht) (by simp) fun s b σ1 W1 rows FF cnt' h1 hl hk hd rW hn c1 c2 Lt hw => ?_
 have CO : rows = [] := by
   cases rows with
   | nil => rfl
   | cons r l => obtain ⟨t, ht, _⟩ := hk r.key (by simp [BS]); cases ht
 subst CO
 have Hn : cnt' = 0 := (hw rfl).trans hc
 subst Hn
 have M3 : ∀ x, FF x = none := fun x => by
   cases hh : FF x with
   | none => rfl
   | some f => have := Lt x (by rw [hh]; rfl); rw [hf x] at this; cases this
 refine hR s b σ1 W1 FF h1 ⟨rfl, hd, rW, fun t ht => (by cases ht), hl, hn, fun x hx => (by rw [show (dk FF 0).files x = none from M3 x] at hx; cases hx), ?_⟩ M3
 obtain ⟨rc, sg, Rh, _⟩ := rW
 have VX : sg = [] := by
   cases sg with
   | nil => rfl
   | cons x l =>
     obtain ⟨f, hx, _⟩ := Rh.sh.file 0 x rfl
     rw [M3] at hx; cases hx
 rw [Rh.AP, VX]; simp
end
end TwW
end
