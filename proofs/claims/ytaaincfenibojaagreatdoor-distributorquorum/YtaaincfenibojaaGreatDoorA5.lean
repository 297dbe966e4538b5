/-
  Part 5 of the proof that the law DistributorQuorumCardSaid of the given program answers true for every input of the given statement; the input reads behind the call as it did. (The texts: packed from 31 texts. Names are shortened by the packing program, for the bound on size.)
-/
import Derived.Test.YtaaincfenibojaaGreatDoorA4
import Derived.Laws.IdiomStrings
import Derived.Shelf.LaysM
import Derived.Shelf.LaysC
import Derived.Shelf.Sort.Plain
import Derived.Ground.Names2Prog
import Derived.Shelf.Slices.CompactI
import Derived.Shelf.Slices.Cells
import Derived.Shelf.Slices.In.SortNone
import Derived.Test.YtaaincfenibojaaGreatDoorProg
import Derived.Shelf.SlSortCmp.NoneTotal
import Derived.Ground.SlsfProg
set_option linter.all false
section
namespace TwW
open Go Tw Go.RowKit Go.Proofs.Tryz
section
variable {fs gs : Fs} {cnt safe : Nat} {W : Wl} {rc keep : Bq} {sg : Sg}
theorem A7.laid (h : A7 fs cnt W rc sg safe) (hc : cnt < 99999998) (hk : Good keep) : Shape (laid fs W.dir (AF W.dir kc W.opn) (AU keep)) W.dir (cnt + 1) W.opn keep [] [] := by
 have ho := h.opn
 have hb : W.opn < 100000000 := by omega
 have hn := Bp (dir := W.dir) (kind := kc) hb
 have hold : ∀ s, (TwW.laid fs W.dir (AF W.dir kc W.opn) (AU keep) s).isSome = true → s = AF W.dir kc W.opn ∨ (fs s).isSome = true := fun s hs => by
   by_cases h1 : s = AF W.dir kc W.opn
   · exact .inl h1
   · by_cases h2 : s = BB W.dir
     · simp [TwW.laid, h1, h2] at hs
       have := (Bi (dir := W.dir) (kind := kc) (a := W.opn) (.inl rfl))
       exact absurd hs this
     · simp only [TwW.laid, h1, h2, if_false] at hs; exact .inr hs
 refine ⟨fun _ => ⟨⟨AU keep, (AU keep).length⟩, by simp [TwW.laid], rfl⟩, fun e => by omega, fun s hs => ?_, ho.2.1, (fun x hx => by cases hx), List.Pairwise.nil, fun s hs Ag => ?_, (fun k x hx => by simp at hx), fun _ => rfl, EL, hk, (fun x hx => by cases hx), fun a ha => by cases ha⟩
 · rcases hold s hs with rfl | h1
   · omega
   · have := h.sh.Yw s h1; omega
 · exfalso
   rcases hold s hs with rfl | h1
   · have := IY (dir := W.dir) (s := AF W.dir kc W.opn) (by omega); omega
   · obtain ⟨x, hx, e⟩ := h.sh.dD s h1 (by omega)
     have := ho.2.2 x hx; omega
theorem Shape.lN {dir s : ByteArray} {check : Nat} (h : Shape fs dir cnt check keep [] []) (hs : s ≠ AF dir kc check) : Shape (BD fs s none) dir cnt check keep [] [] :=
 h.congr (Nat.le_refl _) (fun _ => Av hs.symm) (fun x hx => by cases hx) fun t ht => by
   by_cases Pp : t = s
   · subst Pp; rw [C1] at ht; cases ht
   · rw [Av Pp] at ht; exact .inl ht
theorem Shape.lO {dir : ByteArray} {check : Nat} (h : Shape fs dir cnt check keep [] []) (hs : ∀ f, fs (AF dir kc check) = some f → f.GD = f.data.length) (hc : GK fs gs) : G2 gs dir cnt keep :=
 ⟨check, keep, [], [], { h with PE := fun h0 => hc.whole (h.PE h0) hs, Yw := fun s hs => h.Yw s (hc.U0 hs), dD := fun s hs => h.dD s (hc.U0 hs), file := fun k x hx => by simp at hx }, by simp [An], hc.kept, fun h => (by cases h)⟩
end
section
variable {σ ρ τ : Hp} {d b : Nat} {D : Dk} {W : Wl} {R : Rr} {fs : Fs} {cnt safe : Nat} {rc keep : Bq} {sg : Sg}
structure AEp (d b : Nat) (D : Dk) (W : Wl) (τ : Hp) (rc : Bq) (sg : Sg) (safe : Nat) (keep : Bq) (rok : Hp → Prop) (lC : Hp → Prop) : Prop where
 ok : ∀ σ' D' W', Aj σ' d b D' W' τ → D'.up = true → D'.armed = D.armed → D'.cnt = D.cnt + 1 → W'.dir = W.dir → (W'.AP = [] ∧ W'.check = W.opn ∧ ∀ s, (D'.files s).isSome = true → s = AF W.dir kc W.opn ∨ ((D.files s).isSome = true ∧ (0 < W.check → s ≠ AF W.dir kc W.check) ∧ ∀ n ∈ W.AP, s ≠ AF W.dir ks n)) → A7 D'.files D'.cnt W' keep [] keep.length → Out W.dir D.files D'.files → D'.files (BB W.dir) = none → rok σ'
 bad : D.armed = true → ∀ σ' D' told, Ai σ' d D' τ → D'.up = false → D'.armed = false → (D'.cnt = D.cnt + 1 ∧ ∀ s, (D'.files s).isSome = true → (D.files s).isSome = true ∨ s = AF W.dir kc W.opn ∨ s = BB W.dir) → G2 D'.files W.dir D'.cnt told → (told = keep ∨ (told <+: rc ++ An sg ∧ safe ≤ told.length)) → lC σ'
theorem AK4 : Enters prog 136 := fun args w => call136 args w
theorem AEq {b0 ck : Nat} {armed : Bool} {C : Nat} {Q : List Nat → Fs → Prop} (hQ : ∀ n l fs, Q (n :: l) fs → Q l (BD fs (AF W.dir ks n) none)) (hd : CE W.dir = true) (hC : C ≤ 67108864) (ht : Tb τ) (t0 : τ b0 = some (.cells #[.pointer (some ⟨b, 0, none⟩)] 158 (0, 0))) (ARv : Out W.dir D.files fs)
   (Ap : ∀ σ' FG W', Aj σ' d b ⟨FG, true, armed, C⟩ W' τ → W'.dir = W.dir → (W'.AP = [] ∧ W'.check = ck ∧ Q [] FG) → A7 FG C W' keep [] keep.length → Out W.dir D.files FG → FG (BB W.dir) = none → R (.returned (.tuple #[])) σ')
   (KH : armed = true → ∀ σ' gs, G2 gs W.dir C keep → Ai σ' d ⟨gs, false, false, C⟩ τ → (∃ l fs2, Q l fs2 ∧ ∀ s, (gs s).isSome = true → (fs2 s).isSome = true) → R (.panicked (bM 60)) σ') :
   ∀ (m : Nat) (σ : Hp) (fs : Fs) (V : Wl), V.AP.length = m → V.dir = W.dir → V.check = V.opn → Aj σ d b ⟨fs, true, armed, C⟩ V τ → Shape fs W.dir C V.opn keep [] [] → 0 < V.opn → (∀ f, fs (AF W.dir kc V.opn) = some f → f.GD = f.data.length) → (∀ n ∈ V.AP, (fs (AF W.dir ks n)).isSome = true ∧ n ≤ C) → V.AP.Nodup → Out W.dir D.files fs → fs (BB W.dir) = none → V.check = ck → Q V.AP fs →
     Ce.Kt R b0 σ := by
 intro m
 have N8 : W.dir.size ≤ 32 := by simp [CE] at hd; exact hd.2
 induction m with
 | zero =>
   intro σ fs V hm Qu hco h JT JY qq Va uG FB C4 hck hq
   have hr := h.rd
   have hx := h.ext
   obtain ⟨p, c, hc, hl, HF⟩ := hr.AP
   have aE : V.AP = [] := List.eq_nil_of_length_eq_zero hm
   have qu := JT.aI
   refine Ce.HQ ⟨_, AD (hx _ _ t0) rfl, b, 0, rfl, p, _, c, hl, fun hh => by omega, fun _ => ⟨_, AD (hx _ _ t0) rfl, b, 0, rfl, V.opn, hr.opn, by unfold AN; omega, ?_⟩⟩
   have e : ((V.opn : Int) + 1) = ((V.opn + 1 : Nat) : Int) := by omega
   rw [e]
   refine h.st (i := 0 + 4) (W' := { V with opn := V.opn + 1 }) (by omega) rfl (fun p n c => rfl) fun σ1 h1 => ?_
   refine ⟨_, AD (h1.ext _ _ t0) rfl, b, 0, rfl, ?_⟩
   refine h1.st (i := 0 + 5) (x := 0) (W' := { V with opn := V.opn + 1, size := 0 }) (by omega) rfl (fun p n c => rfl) fun σ2 h2 => ?_
   refine Ap σ2 fs _ h2 Qu ⟨aE, hck, aE ▸ hq⟩ ⟨?_, by rw [aE]; rfl, ⟨by simp only; omega, by simp only; omega, fun x hx => by cases hx⟩, (fun x hx => by cases hx), fun _ => rfl, fun f h0 hf => ?_, (fun x hx => by cases hx), (fun x hx => by cases hx), fun _ => by simp [An]⟩ FB C4
   · simp only [Qu, hco]; exact JT
   · simp only [Qu, hco] at hf; exact qq f hf
 | succ m ih =>
   intro σ fs V hm Qu hco h JT JY qq Va uG FB C4 hck hq
   have hr := h.rd
   have hx := h.ext
   obtain ⟨p, c, hc, hl, HF⟩ := hr.AP
   obtain ⟨n0, l, Kx⟩ : ∃ n0 l, V.AP = n0 :: l := by
     cases hs : V.AP with
     | nil => rw [hs] at hm; cases hm
     | cons a l => exact ⟨a, l, rfl⟩
   have Fb : (Iq V.AP)[0]? = some ((n0 : Nat) : Int) := by rw [Iq, Kx]; rfl
   obtain ⟨b50, o50, hp, AK5⟩ := HF.at Fb
   obtain ⟨zn, uW⟩ := Va n0 (by rw [Kx]; simp)
   obtain ⟨f, hf⟩ := Option.isSome_iff_exists.1 zn
   have AEs : σ.ld ⟨b, 0 + 1, none⟩ = some (.string W.dir) := by rw [← Qu]; exact hr.dir
   have Jb : Ae (AF W.dir ks n0) = true := E3 hd (.inr rfl) (by omega)
   refine Ce.HQ ⟨_, AD (hx _ _ t0) rfl, b, 0, rfl, p, _, c, hl, fun _ => ⟨_, AD (hx _ _ t0) rfl, b, 0, rfl, _, hr.ptr, _, AD (hx _ _ t0) rfl, _, AD (hx _ _ t0) rfl, b, 0, rfl, p, _, c, hl, b50, o50, hp, by omega, n0, by simpa using AK5, ?_⟩, fun hh => by omega⟩
   refine DH (kind := ks) (dir := W.dir) AEs N8 (.inr rfl) (by omega) (ht.mono hx) fun σ1 BJ => ⟨_, rfl, Kp.CM BJ, ?_⟩
   refine Pd (h.mono BJ) rfl Jb hf ⟨fun σ2 h2 => ⟨_, rfl, Ia ?_⟩, fun ha σ2 gs hg Ms => ⟨_, rfl, Lx (KH ha σ2 gs (JT.lO qq hg) Ms ⟨V.AP, fs, hq, fun s hs => hg.U0 hs⟩)⟩⟩
   obtain ⟨p2, c2, UE, SF, AEt⟩ := h2.rd.AP
   refine ⟨_, AD (h2.ext _ _ t0) rfl, _, AD (h2.ext _ _ t0) rfl, b, 0, rfl, p2, _, c2, SF, by omega, b, 0, rfl, ?_⟩
   refine h2.cut (l := l) (by rw [Kx]; rfl) (fun p' c' uV => ?_) fun σ3 h3 => ?_
   · rw [SF] at uV
     cases uV
     refine ⟨?_, fun ρ ho => ?_⟩
     · unfold Dp
       cases p2 with
       | none => split <;> rfl
       | some a =>
         split
         · rfl
         · simp [DI, Addr.add]
     · have hlen : V.AP.length = l.length + 1 := by rw [Kx]; rfl
       obtain ⟨h1, h0, h4⟩ := ho
       refine ⟨by simp [Iq]; omega, by omega, ?_⟩
       rcases h4 with ⟨_, e, _⟩ | ⟨bb, oo, arr, T, rfl, hb, gy, EU, Hv⟩
       · omega
       · by_cases rD : c2 = 1
         · have SY : l = [] := List.eq_nil_of_length_eq_zero (by omega)
           subst SY rD
           exact .inr ⟨bb, oo, arr, T, by simp [Dp], hb, by simp; omega, by omega, by simp [Iq]; omega⟩
         · refine .inr ⟨bb, oo + 1, arr, T, by simp [Dp, rD, DB], hb, by omega, by omega, ?_⟩
           have e : V.AP.length - 1 = l.length := by omega
           rw [Kx] at Hv
           have := congrArg (List.drop 1) Hv
           rw [List.drop_take, List.drop_drop] at this
           simp only [Iq, List.map_cons, List.drop_succ_cons, List.drop_zero, List.length_cons] at this
           rw [hlen]
           simp only [Iq]
           rw [← this]
           congr 1
   · have Ad : ∀ k, AF W.dir ks n0 ≠ AF W.dir kc k := fun k e => BF e.symm
     have PD : n0 ∉ l ∧ l.Nodup := by rw [Kx] at uG; exact List.nodup_cons.1 uG
     refine ih σ3 _ { V with AP := l } (by rw [Kx] at hm; simpa using hm) Qu hco h3 (JT.lN (Ad _)) JY (fun f hf => qq f (by rwa [Av (Ad _).symm] at hf)) (fun k hk => ?_) PD.2 (FB.trans (Out.del C7)) ((Av (Bi (.inr rfl))).trans C4) hck (hQ n0 l fs (Kx ▸ hq))
     have ng := Va k (by rw [Kx]; simp [show k ∈ l from hk])
     refine ⟨?_, ng.2⟩
     rw [Av]
     · exact ng.1
     · intro e
       have := Eg (by omega) (by omega) e
       exact PD.1 (this ▸ hk)
theorem fu {b0 b1 : Nat} {p : Option Addr} {n c : Nat} (h : Aj σ d b D W τ) (ht : Tb τ) (t0 : τ b0 = some (.cells #[.pointer (some ⟨b, 0, none⟩)] 158 (0, 0))) (t1 : τ b1 = some (.cells #[.slice p n c] 165 (0, 0)))
   (hx : Jd τ p n keep) (hk : Good keep) (hlen : (AU keep).length ≤ 4194304) (EB : D.up = true) (Hi : D.cnt < 67108864) (hfew : OW D) (hd : CE W.dir = true) (Ap : A7 D.files D.cnt W rc sg safe) (C4 : D.files (BB W.dir) = none)
   (hR : AEp d b D W τ rc sg safe keep (fun σ' => R (.returned (.tuple #[])) σ') (fun σ' => R (.panicked (bM 60)) σ')) : Spec prog 136 #[.pointer (some ⟨b0, 0, none⟩), .pointer (some ⟨b1, 0, none⟩)] σ R := by
 have hr := h.rd
 have Ru := h.ext
 have N8 : W.dir.size ≤ 32 := by simp [CE] at hd; exact hd.2
 have yU := Ap.opn
 have Jb : Ae (AF W.dir kc W.opn) = true := E3 hd (.inl rfl) (by omega)
 refine Ce.start ⟨_, AD (Ru _ _ t0) rfl, _, AD (Ru _ _ t0) rfl, _, AD (Ru _ _ t0) rfl, b, 0, rfl, W.opn, hr.opn, p, n, c, AD (Ru _ _ t1) rfl, ?_⟩
 refine DH (kind := kc) hr.dir N8 (.inl rfl) (by omega) (ht.mono Ru) fun σ1 BJ => ⟨_, rfl, Kp.CM BJ, ?_⟩
 obtain ⟨τw, S, q, cc, T, Ms, Nu, U4⟩ := (h.mono BJ).opened
 have AK6 : Ext τ τw := U4.trans (Ext.Cp _ _)
 have JT := Ap.laid (keep := keep) (by omega) hk
 have cl : ∀ {σ' : Hp} {D' : Dk}, Ai σ' d D' τw → Aj σ' d b D' W τ := fun h' => (Aj.close h' Nu).FC U4
 refine Mu Ms Nu.qx EB Hi hfew hd Jb (hx.mono AK6) hk hlen C4 (Bi (.inl rfl)).symm ⟨fun σ2 h2 => ?_, fun ha σ2 gs' gs hgs hg AK7 => ?_⟩
 · have h2 := cl h2
   have SY : laid D.files W.dir (AF W.dir kc W.opn) (AU keep) (AF W.dir kc W.opn) = some ⟨AU keep, (AU keep).length⟩ := by simp [laid]
   have yb : ∀ f, laid D.files W.dir (AF W.dir kc W.opn) (AU keep) (AF W.dir kc W.opn) = some f → f.GD = f.data.length := fun f hf => by rw [SY] at hf; cases hf; rfl
   have Rt : ∀ s, s ≠ AF W.dir kc W.opn → s ≠ BB W.dir → laid D.files W.dir (AF W.dir kc W.opn) (AU keep) s = D.files s := fun s e1 e2 => by simp [laid, e1, e2]
   have FB : Out W.dir D.files (laid D.files W.dir (AF W.dir kc W.opn) (AU keep)) := Out.laid (.inl rfl) (by omega) (by omega)
   have Xm : laid D.files W.dir (AF W.dir kc W.opn) (AU keep) (BB W.dir) = none := by simp [laid, Bi (dir := W.dir) (kind := kc) (a := W.opn) (.inl rfl)]
   have bad : D.armed = true → ∀ σ' gs, G2 gs W.dir (D.cnt + 1) keep → Ai σ' d ⟨gs, false, false, D.cnt + 1⟩ τ → (∀ s, (gs s).isSome = true → (D.files s).isSome = true ∨ s = AF W.dir kc W.opn ∨ s = BB W.dir) → R (.panicked (bM 60)) σ' := fun ha σ' gs ho yc hsu => hR.bad ha σ' _ keep yc rfl rfl ⟨rfl, hsu⟩ ho (.inl rfl)
   let Q : List Nat → Fs → Prop := fun l fs => ∀ s, (fs s).isSome = true → s = AF W.dir kc W.opn ∨ ((D.files s).isSome = true ∧ (0 < W.check → s ≠ AF W.dir kc W.check) ∧ ∀ n ∈ W.AP, n ∈ l ∨ s ≠ AF W.dir ks n)
   have hQ : ∀ n l fs, Q (n :: l) fs → Q l (BD fs (AF W.dir ks n) none) := fun n l fs h s hs => by
     by_cases e : s = AF W.dir ks n
     · subst e; rw [C1] at hs; cases hs
     · rw [Av e] at hs
       refine (h s hs).imp id fun ⟨g1, g2, g3⟩ => ⟨g1, g2, fun k hk => ?_⟩
       rcases g3 k hk with g | g
       · rcases List.mem_cons.1 g with rfl | g
         · exact .inr e
         · exact .inl g
       · exact .inr g
   have hQ0 : ∀ fs, (∀ s, (fs s).isSome = true → s = AF W.dir kc W.opn ∨ ((D.files s).isSome = true ∧ (0 < W.check → s ≠ AF W.dir kc W.check))) → Q W.AP fs := fun fs h s hs => (h s hs).imp id fun ⟨g1, g2⟩ => ⟨g1, g2, fun n hn => .inl hn⟩
   have lP : ∀ s, (laid D.files W.dir (AF W.dir kc W.opn) (AU keep) s).isSome = true → s = AF W.dir kc W.opn ∨ (D.files s).isSome = true := fun s hs => by
     by_cases e1 : s = AF W.dir kc W.opn
     · exact .inl e1
     · by_cases e2 : s = BB W.dir
       · subst e2; rw [Xm] at hs; cases hs
       · rw [Rt s e1 e2] at hs; exact .inr hs
   have fin : ∀ (σ' : Hp) (fs : Fs), Aj σ' d b ⟨fs, true, D.armed, D.cnt + 1⟩ W τ → Shape fs W.dir (D.cnt + 1) W.opn keep [] [] → (∀ f, fs (AF W.dir kc W.opn) = some f → f.GD = f.data.length) → (∀ k ∈ W.AP, (fs (AF W.dir ks k)).isSome = true ∧ k ≤ D.cnt + 1) → Out W.dir D.files fs → fs (BB W.dir) = none → Q W.AP fs → Ce.JZ R b0 σ' := by
     intro σ' fs hl Rn qq Va ho hn oB
     have Ij := hl.rd
     refine Ce.CP ⟨_, AD (hl.ext _ _ t0) rfl, _, AD (hl.ext _ _ t0) rfl, b, 0, rfl, W.opn, Ij.opn, b, 0, rfl, ?_⟩
     refine hl.st (i := 0 + 2) (W' := { W with check := W.opn }) (by omega) rfl (fun p n c => rfl) fun σ5 h5 => ?_
     refine AEq (ck := W.opn) (Q := Q) hQ (D := D) (fs := fs) (W := W) (keep := keep) (armed := D.armed) hd (by omega) ht t0 ho (fun σ6 fs6 W6 a1 a2 a3 a4 a5 a6 => hR.ok σ6 _ W6 a1 rfl rfl rfl a2 ⟨a3.1, a3.2.1, fun s hs => (a3.2.2 s hs).imp id fun ⟨g1, g2, g3⟩ => ⟨g1, g2, fun n hn => (g3 n hn).elim (fun h => by cases h) id⟩⟩ a4 a5 a6) (fun ha σ' gs ho yc ⟨l, fs2, hq2, aJ⟩ => bad ha σ' gs ho yc fun s hs => (hq2 s (aJ s hs)).elim (fun e => .inr (.inl e)) fun g => .inl g.1) _ σ5 fs { W with check := W.opn } rfl rfl rfl h5 Rn (by simp only; omega) qq Va ?_ ho hn rfl oB
     have : W.AP.Pairwise (· < ·) := by rw [Ap.AP, List.pairwise_map]; exact Ap.sh.Jf
     exact this.imp fun h => Nat.ne_of_lt h
   have HV : ∀ k ∈ W.AP, (laid D.files W.dir (AF W.dir kc W.opn) (AU keep) (AF W.dir ks k)).isSome = true ∧ k ≤ D.cnt + 1 := fun k DR => by
     rw [Ap.AP] at DR
     obtain ⟨x, hx, rfl⟩ := List.mem_map.1 DR
     obtain ⟨i, hi⟩ := List.getElem?_of_mem hx
     have := (Ap.sh.gt x hx).2
     exact ⟨by rw [Rt _ BF.symm (Bi (.inr rfl)).symm]; exact (Ap.sh.file i x hi).U0, by omega⟩
   refine ⟨rfl, _, AD (h2.ext _ _ t0) rfl, b, 0, rfl, W.check, h2.rd.check, fun JY => ?_, fun hz => ?_⟩
   · have yd : AF W.dir kc W.check ≠ AF W.dir kc W.opn := fun e => by
       have := Eg (by omega) (by omega) e; omega
     obtain ⟨f, hf⟩ := Option.isSome_iff_exists.1 (Ap.sh.PE (by omega)).U0
     refine ⟨_, AD (h2.ext _ _ t0) rfl, b, 0, rfl, _, h2.rd.ptr, _, AD (h2.ext _ _ t0) rfl, _, AD (h2.ext _ _ t0) rfl, b, 0, rfl, W.check, h2.rd.check, ?_⟩
     refine DH (kind := kc) h2.rd.dir N8 (.inl rfl) (by omega) (ht.mono h2.ext) fun σ3 DJ => ⟨_, rfl, Kp.CM DJ, ?_⟩
     refine Pd (h2.mono DJ) rfl (E3 hd (.inl rfl) (by omega)) (f := f) (by show laid D.files W.dir _ _ _ = _; rw [Rt _ yd (Bi (.inl rfl)).symm]; exact hf) ⟨fun σ4 h4 => ⟨_, rfl, Ia ?_⟩, fun ha σ4 gs hg AK8 => ⟨_, rfl, Lx (bad ha σ4 gs (JT.lO yb hg) AK8 fun s hs => (lP s (hg.U0 hs)).elim (fun e => .inr (.inl e)) .inl)⟩⟩
     refine fin σ4 _ h4 (JT.lN yd) (fun f hf => yb f ((Av yd.symm).symm.trans hf)) (fun k DR => ?_) (FB.trans (Out.del C7)) ((Av (Bi (.inl rfl))).trans Xm) (hQ0 _ fun s hs => ?_)
     · rw [Av BF.symm]
       exact HV k DR
     · by_cases e : s = AF W.dir kc W.check
       · subst e; rw [C1] at hs; cases hs
       · rw [Av e] at hs
         exact (lP s hs).imp id fun g => ⟨g, fun _ => e⟩
   · exact fin σ2 _ h2 JT yb HV FB Xm (hQ0 _ fun s hs => (lP s hs).imp id fun g => ⟨g, fun h0 => by omega⟩)
 · have Vf := Ap.fresh (cnt' := D.cnt + 1) (by omega) hgs
   obtain ⟨told, g1, g2, g3⟩ := Vf.dF hg
   exact hR.bad ha σ2 _ told (cl AK7).fX rfl rfl ⟨rfl, fun s hs => by
     by_cases e : s = BB W.dir
     · exact .inr (.inr e)
     · have := hg.U0 hs
       rw [hgs s e] at this
       exact .inl this⟩ g1 (.inr ⟨g2, g3⟩)
theorem fv {p : Option Addr} {n c : Nat} (h : Aj σ d b D W τ) (ht : Tb τ) (hx : Jd τ p n keep) (h8 : ∀ r ∈ keep, E7 r) (EB : D.up = true) (Hi : D.cnt < 67108864) (hd : CE W.dir = true) (Ap : A7 D.files D.cnt W rc sg safe) (C4 : D.files (BB W.dir) = none)
   (lE : ¬ Mo keep → ∀ σ', Aj σ' d b D W τ → R (.returned (.int .i64 70)) σ')
   (hR : Mo keep → (AU keep).length ≤ 4194304 ∧ AEp d b D W τ rc sg safe keep (fun σ' => R (.returned (.int .i64 0)) σ') (fun σ' => R (.returned (.int .i64 60)) σ')) (hfew : OW D := by refine .inl ?_; first | omega | (dsimp only [dk]; omega) | (dsimp only; omega)) : Spec prog 67 #[.pointer (some ⟨b, 0, none⟩), .slice p n c] σ R := by
 have gw : keep.length = n := hx.1
 refine Fy.start fun b2 G8 b3 Ur => ?_
 obtain ⟨τ2, h2, x2, t2⟩ := h.box (o := .cells #[.pointer (some ⟨b, 0, none⟩)] 158 (0, 0)) G8
 obtain ⟨τ3, h3, x3, t3⟩ := h2.box (o := .cells #[.slice p n c] 165 (0, 0)) Ur
 have Ns := x2.trans x3
 refine ⟨p, n, c, AD (h3.ext _ _ t3) rfl, ?_⟩
 have DJ := hx.mono Ns
 suffices H : ∀ m k : Nat, n - k = m → k ≤ n → Mo (keep.take k) → Fy.Ni R b2 b3 p n c n k _ from H n 0 rfl (Nat.zero_le _) (fun r hr => by simp at hr)
 intro m
 induction m with
 | zero =>
   intro k hm hk hs
   rw [List.take_of_length_le (by omega)] at hs
   refine Fy.D6 ⟨fun hh => by omega, fun _ => KL AK4 ?_⟩
   obtain ⟨hl, hRc⟩ := hR hs
   exact fu h3 (ht.mono Ns) (x3 _ _ t2) t3 DJ (fun r hr => ⟨hs r hr, h8 r hr⟩) hl EB Hi hfew hd Ap C4 ⟨fun σ' D' W' a1 a2 a3 a4 a5 a6 a7 a8 a9 => .inl ⟨rfl, _, rfl, hRc.ok σ' D' W' (a1.FC Ns) a2 a3 a4 a5 a6 a7 a8 a9⟩, fun ha σ' D' told a1 a2 a3 a4 a5 a6 => .inr ⟨60, rfl, _, rfl, hRc.bad ha σ' D' told (a1.FC Ns) a2 a3 a4 a5 a6⟩⟩
 | succ m ih =>
   intro k hm hk hs
   obtain ⟨x, SE⟩ : ∃ x, keep[k]? = some x := ⟨_, List.getElem?_eq_getElem (by omega)⟩
   obtain ⟨D7, GQ, Jn, n12, c12, rfl, hl, _, HF⟩ := (DJ.mono h3.ext).at SE
   have ARy : x.length = n12 := HF.1
   have aQ := hx.big
   refine Fy.D6 ⟨fun _ => ⟨D7, GQ, rfl, by omega, Jn, n12, c12, by simpa using hl, fun hh => lE (fun Ho => ?_) _ (h3.FC Ns), fun hh => ⟨by unfold AN; omega, ih (k + 1) (by omega) (by omega) ?_⟩⟩, fun hh => by omega⟩
   · have := Ho x (List.mem_of_getElem? SE); omega
   · rw [AQ SE]
     intro r hr
     rcases List.mem_append.1 hr with hr | hr
     · exact hs r hr
     · simp at hr; subst hr; omega
theorem SG (h : Aj σ d b D W τ) (hR : R (.returned (.int .i64 (W.AP.length : Nat))) σ) : Spec prog 66 #[.pointer (some ⟨b, 0, none⟩)] σ R := by
 obtain ⟨p, c, hc, hl, HF⟩ := h.rd.AP
 exact IH.start ⟨b, 0, rfl, p, _, c, hl, hR⟩
end
end TwW
end
section
namespace TwW
open Go Tw Go.RowKit Go.Proofs.Tryz
theorem GM.at1 {σ : Hp} {p : Option Addr} {n k : Nat} {L : List Value} {v : Value} (h : GM 1 σ p n L) (hk : L[k]? = some v) : ∃ b o, p = some ⟨b, o, none⟩ ∧ σ.ld ⟨b, o + k * 1, none⟩ = some v := by
 obtain ⟨h1, _, h2⟩ := h
 have Ag := (List.getElem?_eq_some_iff.1 hk).1
 rcases h2 with h2 | ⟨b, o, hp, hl⟩
 · simp at h1; omega
 · refine ⟨b, o, hp, ?_⟩
   rw [Nat.mul_one]
   exact hl.get hk
abbrev rE (σ : Hp) (p : Option Addr) (n : Nat) (bs : List Bool) : Prop := GM 1 σ p n (bs.map .bool)
theorem rE.at {σ : Hp} {p : Option Addr} {n k : Nat} {L : List Bool} {s : Bool} (h : rE σ p n L) (hk : L[k]? = some s) : ∃ b o, p = some ⟨b, o, none⟩ ∧ σ.ld ⟨b, o + k * 1, none⟩ = some (.bool s) := by
 obtain ⟨h1, _, h2⟩ := h
 have Ag := (List.getElem?_eq_some_iff.1 hk).1
 rcases h2 with h2 | ⟨b, o, hp, hl⟩
 · simp at h1; omega
 · refine ⟨b, o, hp, ?_⟩
   rw [Nat.mul_one]
   exact hl.get (by rw [List.getElem?_map, hk]; rfl)
section
variable {σ τ : Hp} {d : Nat} {D : Dk} {R : Rr}
theorem Ai.upS (h : Ai σ d D τ) (hR : R (.returned (.bool D.up)) σ) : Spec prog 91 #[.pointer (some ⟨d, 0, none⟩)] σ R := let ⟨S, g, _⟩ := h; cn g hR
end
section
variable {fs : Fs} {dir : ByteArray} {cnt : Nat}
theorem G2.AEu (h : ∀ s, (fs s).isSome = true → numOf dir kc s = 0 ∧ numOf dir ks s = 0) : Xd fs dir cnt [] true :=
 ⟨0, [], [], [], ⟨fun h0 => absurd h0 (by omega), fun _ => rfl, fun s hs => by rw [(h s hs).1]; omega, Nat.zero_le _, fun x hx => (by cases hx), List.Pairwise.nil, fun s hs Ag => (by rw [(h s hs).2] at Ag; omega), fun k x hx => (by simp at hx), fun _ => rfl, EL, Good.nil, fun x hx => (by cases hx), fun a ha => (by cases ha)⟩, rfl, ⟨fun f h0 => absurd h0 (by omega), fun k x hx => (by simp at hx)⟩, fun _ => rfl⟩
end
end TwW
end
section
namespace Tw
open Go
variable [Ht]
def Q0 (s : ByteArray) : List Value := s.data.toList.map fun b => .int .u8 b.toNat
theorem lQ {s : ByteArray} : (Q0 s).length = s.size := by simp [Q0]
theorem lR {s : ByteArray} : CN (Q0 s) := fun u hu => by obtain ⟨x, _, rfl⟩ := List.mem_map.1 hu; rfl
section append
variable {P : Program} {T E ty : TypeId} {bs : Nat} {σ : Hp} {p : Option Addr} {n c m : Nat} {cs ys : List Value} {Φ : Value → Hp → Prop}
theorem Q1 {str : ByteArray} (w : World) (size : Nat) : (Builtin.firstCells size str.size (.string str)).run P w = .ok (Q0 str).toArray w := by
 have hx : (Array.map (fun b : UInt8 => Value.int IntKind.u8 (b.toNat : Int)) str.data).extract 0 str.size = (Q0 str).toArray := by
   have hs : str.size = (Array.map (fun b : UInt8 => Value.int IntKind.u8 (b.toNat : Int)) str.data).size := by rw [Array.size_map]; rfl
   rw [hs, Array.extract_size]
   apply Array.ext'
   simp [Q0]
 have Ay : Array.map (fun b : UInt8 => Value.int IntKind.u8 (b.toNat : Int)) str.data = (Q0 str).toArray := by apply Array.ext'; simp [Q0]
 simp [Builtin.firstCells, Ay]
theorem dM [h : Jk P T E 1 bs] {U : TypeId} {str : ByteArray} (hU : P.underlying U = some .string) (AZ : Own 1 σ p n c cs) (hm : str.size = m) (Hn : Q0 str = ys) (hb : (n + m) * bs ≤ 140737488355328)
   (hΦ : ∀ p' c' σ', Own 1 σ' p' (n + m) c' (cs ++ ys) → Ext (σ.del p) (σ'.del p') → ((p' = p ∧ c' = c ∧ n + m ≤ c) ∨ (c < n + m ∧ Ext σ σ' ∧ ∀ a, p' = some a → σ a.block = none)) → Φ (.slice p' (n + m) c') σ') :
   AJ P (Builtin.append_ #[T, U] ty #[.slice p n c, .string str]) σ Φ := by
 obtain ⟨ht, ⟨i, z, hi, hz, Rn, rfl, ic⟩, JY, N6⟩ := h
 have h1 : CN ys := Hn ▸ lR
 have U1 : ys.length = m * 1 := by rw [← Hn, ← hm, Nat.mul_one]; exact lQ
 have h62 : n + m ≤ 140737488355328 := Nat.le_trans (Nat.le_mul_of_pos_right _ N6) hb
 intro w F hs hF
 have hf := Q1 (P := P) (str := str) w 1
 rw [Hn, hm] at hf
 have Vd := fun w' : World => Q1 (P := P) (str := str) w' 1
 rw [Hn, hm] at Vd
 have Em := fun w' (hw : Sat σ w') => Hw (P := P) (d := c) w' hw AZ.rd
 have hlen : (cs ++ ys).length = (n + m) * 1 := by rw [List.length_append, AZ.1, U1, Nat.add_mul]
 by_cases DX : n + m ≤ c
 · -- there is room
   rcases AZ.2.2 with ⟨hp, hn, hc⟩ | ⟨b, o, arr, T', rfl, hblk, gy, EU, Hv⟩
   · subst hp hn hc
     have hm : m = 0 := by omega
     subst hm
     have Hn : ys = [] := List.eq_nil_of_length_eq_zero (by simpa using U1)
     have Hv : cs = [] := List.eq_nil_of_length_eq_zero (by simpa using AZ.1)
     subst Hn Hv
     refine ⟨.slice none 0 0, w, σ, ?_, hΦ none 0 σ Own.nil (Ext.refl _) (.inl ⟨rfl, rfl, DX⟩), hs, fun b hb => ⟨(hF b hb).2, rfl⟩, .same rfl rfl rfl, rfl, Nat.le_refl _⟩
     simp [Builtin.append_, run_underlying ht, run_underlying hU, Rn, hm, Go.sizeOf, typeInfo, hi, Builtin.lenOf, hf]
   · have hw := hs _ _ hblk
     have dq : o + n * 1 + 0 + ys.length ≤ arr.size := by
       rw [U1]
       have : (n + m) * 1 ≤ c * 1 := Nat.mul_le_mul_right _ DX
       rw [Nat.add_mul] at this
       omega
     have Kr := Dg (P := P) b (o + n * 1) T' ys 0 arr w hw dq h1
     simp only [Nat.add_zero, Nat.mul_one] at Kr
     refine ⟨.slice (some ⟨b, o, none⟩) (n + m) c, w.setRow b (DU arr (o + n) ys), σ.set b (.cells (DU arr (o + n) ys) T' (0, 0)), ?_, hΦ _ _ _ ⟨hlen, by omega, .inr ⟨b, o, _, T', rfl, Hp.AA _ _ _, DX, by rw [De]; exact EU, ?_⟩⟩ (by rw [Hp.Bg]; exact Ext.refl _) (.inl ⟨rfl, rfl, DX⟩), ?_⟩
     · simp [Builtin.append_, run_underlying ht, run_underlying hU, Rn, hm, Go.sizeOf, typeInfo, hi, Builtin.lenOf, DX, hf, DB, Kr]
     · refine List.ext_getElem? fun j => ?_
       rw [List.getElem?_take]
       simp only [List.getElem?_drop, Array.getElem?_toList]
       rw [PN _ _ _ _ (by omega), List.getElem?_append]
       have e1 : cs.length = n * 1 := AZ.1
       have e2 : ys.length = m * 1 := U1
       have e3 : (n + m) * 1 = n * 1 + m * 1 := Nat.add_mul ..
       by_cases UA : j < cs.length
       · rw [if_pos (by omega), if_neg (by omega), if_pos UA, ← Hv, List.getElem?_take, if_pos (by omega)]
         simp
       · rw [if_neg UA]
         by_cases my : j < (n + m) * 1
         · rw [if_pos my, if_pos (by omega), show o + j - (o + n) = j - cs.length by omega]
         · rw [if_neg my, List.getElem?_eq_none (by omega)]
     · refine ⟨fun k u hk => ?_, fun k hk => ?_, .same rfl rfl rfl, rfl, by simp⟩
       · by_cases C3 : k = b
         · subst C3; rw [Hp.AA] at hk; cases hk; exact setRow_heap w k arr _ T' (0, 0) hw
         · rw [Hp.AH C3] at hk; rw [setRow_other _ _ _ _ C3]; exact hs k u hk
       · have C3 : k ≠ b := fun h => by have := (hF k hk).2; rw [h, hblk] at this; cases this
         exact ⟨by rw [Hp.AH C3]; exact (hF k hk).2, setRow_other _ _ _ _ C3⟩
 · -- it AAs
   have sF : Builtin.nextslicecap (n + m) c * i.bytes ≤ 281474976710656 := growslice_fits (by omega) hb
   have hgc := grownCap_ge w (n + m) c E
   have Ho : Sat σ w.drew := hs
   have Co : (Builtin.append_ #[T, U] ty #[.slice p n c, .string str]).run P w =
       .ok (.slice (some ⟨w.heap.size, 0, none⟩) (n + m) (grownCap w (n + m) c E))
         (w.drew.alloc (.cells (cs.toArray ++ ys.toArray ++ Builtin.zeroCells z.cells (grownCap w (n + m) c E - (n + m))) E)) := by
     have dr : ¬ (9223372036854775807 < ((n : Int) + (m : Int))) := by omega
     have dt : ¬ (281474976710656 < Builtin.nextslicecap (n + m) c * i.bytes) := by omega
     simp [Builtin.append_, run_underlying ht, run_underlying hU, Rn, hm, Go.sizeOf, typeInfo, zeroValue, hi, hz, Builtin.lenOf, DX, dr, dt, Question.forced, Vd, Em _ Ho, newRow, grownCap]
     congr 2
     apply Array.ext'
     simp [List.append_assoc]
   refine ⟨_, _, σ.set w.heap.size _, Co, hΦ _ _ _ ⟨hlen, by omega, .inr ⟨w.heap.size, 0, _, E, rfl, Hp.AA _ _ _, hgc, ?_, ?_⟩⟩ ?_ (.inr ⟨by omega, Ext.set (DM hs), fun a ha => by cases ha; exact DM hs⟩), Fin.alloc hs hF _ rfl ⟨rfl, rfl, fun _ => ⟨1, rfl⟩⟩ rfl⟩
   · simp only [Array.size_append, List.size_toArray, size_zeroCells, ic, AZ.1, U1, ← Nat.add_mul]
     have : n + m + (grownCap w (n + m) c E - (n + m)) = grownCap w (n + m) c E := by omega
     rw [this]; omega
   · simp only [Array.toList_append, List.drop_zero]
     rw [← hlen]
     exact List.take_left
   · rw [Hp.Il (DM hs)]
     exact Ext.F9 σ p
end append
end Tw
end
section
namespace TwW
open Go Tw Go.RowKit Go.Proofs.Tryz
def Nw (s : ByteArray) : List Int := s.data.toList.map fun b => (b.toNat : Int)
theorem Dy {s : ByteArray} : (Nw s).length = s.size := by simp [Nw]
theorem rF {s : ByteArray} : E7 (Nw s) := fun a ha => by
 obtain ⟨x, _, rfl⟩ := List.mem_map.1 ha
 have := x.toNat_lt; omega
theorem Xo {s : ByteArray} : Q0 s = (Nw s).map (.int .u8) := by simp [Q0, Nw]
theorem fw {s : ByteArray} : strOfNums (Nw s) = s := by
 rw [Nw, XY]
theorem Kj {xs : List Int} (h : E7 xs) : Nw (strOfNums xs) = xs := by
 rw [Nw, strOfNums_data, List.map_map]
 conv => rhs; rw [← List.map_id xs]
 refine List.map_congr_left fun a ha => ?_
 have := h a ha
 simp only [Function.comp, id]
 rw [UInt8.toNat_ofNat']
 omega
theorem CF {xs : List Int} : (strOfNums xs).size = xs.length := by
 have := congrArg List.length (strOfNums_data xs)
 simpa using this
def Cl (k : ByteArray) (d : List Int) (v : Nat) : List Int := (uv k.size ++ Nw k) ++ uv v ++ uv d.length ++ d
section
variable {σ : Hp} {R : Rr}
theorem rG {p : Option Addr} {n c : Nat} {xs : List Int} (hr : By .u8 σ p n xs) : YF prog (convert 84 9 (.slice p n c)) σ (.string (strOfNums xs)) := fun w hs => by
 have h1 := underlying84
 have h2 := underlying9
 by_cases hn : n = 0
 · subst hn
   have hx : xs = [] := List.eq_nil_of_length_eq_zero hr.1
   subst hx
   rw [run_convert_bytes_string w 84 9 _ p 0 c h1 underlying5 h2]
   cases p <;> simp [Conv.bytesToString, loadCells] <;> rfl
 · obtain ⟨x0, aF⟩ := hr.ex (k := 0) (by omega)
   obtain ⟨b, o, rfl, _⟩ := hr.at aF
   refine run_convert_bytes_arg w 84 _ h1 underlying5 b o n c xs hr.1 (fun i hi => ?_) 9 h2
   obtain ⟨x, hx⟩ := hr.ex hi
   obtain ⟨b', o', he, hl⟩ := hr.at hx
   cases he
   rw [List.getD_eq_getElem?_getD, hx]
   simpa using hs.ld hl
theorem fy {s : ByteArray} {Φ : Value → Hp → Prop} (h : ∀ b o c, σ b = none → (∀ ρ : Hp, ρ b = some o → By .u8 ρ (some ⟨b, 0, none⟩) s.size (Nw s)) → s.size ≤ c → Φ (.slice (some ⟨b, 0, none⟩) s.size c) (σ.set b o)) (hs : s.size ≤ 4611686018427387904) :
   AJ prog (convert 9 84 (.string s)) σ Φ := fun w F Ve hF => by
 have hb := DM Ve
 refine ⟨_, _, σ.set w.heap.size _, run_bytes_of_string w 9 84 5 s underlying9 underlying84 underlying5, h _ _ _ hb (fun ρ hρ => By.Jt ⟨by simp [Dy], by omega, .inr ⟨_, 0, rfl, Dz.of fun j v hj => ?_⟩⟩) ?_, Fin.alloc Ve hF _ rfl ⟨rfl, rfl, fun _ => ⟨1, rfl⟩⟩ rfl⟩
 · refine AD hρ ?_
   have Ag : j < s.data.size := by
     have := (List.getElem?_eq_some_iff.1 hj).1
     simpa [Nw] using this
   rw [Nat.zero_add, bytesRow_at s _ j Ag, ← hj]
   simp [Nw, Array.getElem?_eq_getElem Ag]
 · exact grownCap_ge w s.size 0 5
theorem GW {p : Option Addr} {n c : Nat} {xs : List Int} {s : ByteArray} (hr : By .u8 σ p n xs) (hn : n ≤ 1048576) (hs : s.size ≤ 1048576)
   (h : ∀ p' n' c' σ', AS .u8 (σ.new σ') p' n' c' (xs ++ uv s.size ++ Nw s) → Ext σ σ' → R (.returned (.slice p' n' c')) σ') : Spec prog 60 #[.slice p n c, .string s] σ R := by
 refine LN.start fun x8 h8 => ?_
 have e8 : x8 = (s.size : Int) := by rw [h8]; simp [IntKind.wrap, IntKind.bits, IntKind.signed]; omega
 subst e8
 refine DG hr (by omega) (by omega) fun p' n' c' σ1 ho BJ => ⟨p', n', c', rfl, ?_⟩
 have hq : ∀ a, p' = some a → σ a.block = none := fun a ha => by
   have h2 := Own.block ho a ha
   cases hh : (σ.new σ1) a.block with
   | none => exact absurd hh h2
   | some o => exact (AO.1 hh).1
 have hl : (xs ++ uv s.size).length = n' := by have := ho.1; simpa using this
 have lM := BV (x := s.size) (by omega)
 have Rs : xs.length = n := hr.1
 rw [List.length_append] at hl
 refine dM underlying9 (Own.mono (Ext.Ah _ _) ho) rfl Xo (by omega) fun p2 c2 σ2 Bs Ay _ => ⟨p2, _, c2, rfl, ?_⟩
 have G8 := Bt hq Ay BJ
 refine h p2 _ c2 σ2 ?_ (CX hq Ay BJ)
 have := Own.CO Bs G8
 simpa [AS] using this
theorem C8 {p : Option Addr} {n c : Nat} {xs : List Int} (h : AS .u8 σ p n c xs) : xs.length = n := by have := h.1; simpa using this
theorem Lf {k : ByteArray} {p : Option Addr} {n c v : Nat} {d : List Int} (hr : By .u8 σ p n d) (h8 : E7 d) (hk : k.size ≤ 262144) (hd : n ≤ 262144) (hv : v < 18446744073709551616)
   (h : ∀ p' n' c' σ', AS .u8 (σ.new σ') p' n' c' (Cl k d v) → Ext σ σ' → R (.returned (.slice p' n' c')) σ') : Spec prog 64 #[.string k, .agg #[.slice p n c, .int .u64 v]] σ R := by
 have hdl : d.length = n := hr.1
 have AK9 := BV (x := k.size) (by omega)
 have qf := BV (x := v) hv
 refine TL.start ⟨_, rG hr, GW (xs := []) Fj.nil (by omega) (by omega) fun p6 n6 c6 σ1 Fo BJ => ⟨p6, n6, c6, rfl, BJ, ?_⟩⟩
 have SY := C8 Fo
 rw [List.nil_append] at Fo SY
 simp only [List.length_append, Dy] at SY
 refine DG (AS.rd (Own.mono (Ext.Ah _ _) Fo)) (by omega) hv fun p9 n9 c9 σ2 Bs Ay => ⟨p9, n9, c9, rfl, Ay, ?_⟩
 have SF := C8 Bs
 simp only [List.length_append, Dy] at SF
 refine GW (AS.rd (Own.mono (Ext.Ah _ _) Bs)) (by omega) (by rw [CF]; omega) fun p3 n3 c3 σ3 Dd DJ => ⟨p3, n3, c3, rfl, DJ, ?_⟩
 rw [CF, Kj h8] at Dd
 exact h p3 n3 c3 σ3 (Own.mono (Ext.CR (BJ.trans Ay)) Dd) (BJ.trans (Ay.trans DJ))
theorem dN {p : Option Addr} {n c i : Nat} {bs rest : List Int} {s : ByteArray} (hr : By .u8 σ p n bs) (h8 : E7 bs) (hc : n ≤ c) (hs : s.size ≤ 1048576) (hi : i ≤ n) (hd : bs.drop i = uv s.size ++ (Nw s ++ rest))
   (h : R (.returned (.tuple #[.string s, .int .i64 ((i + (uv s.size).length + s.size : Nat) : Int), .int .i64 0])) σ) : Spec prog 115 #[.slice p n c, .int .i64 i] σ R := by
 have e7 : bs.length = n := hr.1
 have FW := hr.big
 have dw : I6 bs i s.size := ⟨by omega, _, hd⟩
 refine QS.start (Kh hr h8 hi ⟨fun BQ => (BQ s.size dw).elim, fun v hv => ?_⟩)
 obtain rfl := hv.uniq dw
 have hlen : i + (uv s.size).length + s.size ≤ n := by
   have := congrArg List.length hd
   simp only [List.length_drop, List.length_append, Dy] at this
   have := Qj s.size
   omega
 refine ⟨_, _, _, rfl, fun hh => absurd rfl hh, fun _ => ⟨by unfold AN; omega, fun NA h25 => ?_⟩⟩
 have e25 : NA = ((n - (i + (uv s.size).length) : Nat) : Int) := by rw [h25]; simp [IntKind.wrap, IntKind.bits, IntKind.signed]; omega
 refine ⟨fun hh => by omega, fun _ HP h31 => ?_⟩
 have e31 : HP = (s.size : Int) := by rw [h31]; simp [IntKind.wrap, IntKind.bits, IntKind.signed]; omega
 subst e31
 have e1 : Int.toNat (((i + (uv s.size).length : Nat) : Int) + (s.size : Int)) - Int.toNat ((i + (uv s.size).length : Nat) : Int) = s.size := by omega
 dsimp only
 rw [e1, Int.toNat_natCast]
 refine ⟨by unfold AN; omega, by omega, F1 (By.sub hr (by omega) hc) ⟨_, rfl, fun J6 h37 => ?_⟩⟩
 have e37 : J6 = (s.size : Int) := by rw [h37]; simp [IntKind.wrap, IntKind.bits, IntKind.signed]; omega
 subst e37
 have e2 : (bs.drop (i + (uv s.size).length)).take s.size = Nw s := by
   rw [← List.drop_drop, hd, List.drop_left, List.take_append_of_le_length (by rw [Dy]; omega), List.take_of_length_le (by rw [Dy]; omega)]
 rw [e2, fw]
 refine ⟨by unfold AN; omega, ?_⟩
 have e3 : ((i + (uv s.size).length : Nat) : Int) + (s.size : Int) = ((i + (uv s.size).length + s.size : Nat) : Int) := by omega
 rw [e3]; exact h
def FI (s : ByteArray) : Bool := decide (0 < s.size) && decide (s.size ≤ 64)
theorem IZ {s : ByteArray} : (ByteArray.toList s == ByteArray.toList (ByteArray.mk #[])) = decide (s.size = 0) := by
 rw [ByteArray.toList_eq, ByteArray.toList_eq]
 by_cases h : s.size = 0
 · have : s = ⟨#[]⟩ := ByteArray.ext (Array.eq_empty_of_size_eq_zero h)
   subst this; rfl
 · rw [decide_eq_false h]
   simp only [beq_eq_false_iff_ne]
   intro e
   apply h
   have := congrArg List.length e
   simpa using this
theorem Q2 {s : ByteArray} (h : R (.returned (.bool (FI s))) σ) : Spec prog 94 #[.string s] σ R := by
 refine WJ.start ⟨fun h0 => ?_, fun h0 => ?_⟩
 · rw [IZ, decide_eq_false_iff_not] at h0
   have e : FI s = decide (((s.size : Nat) : Int) ≤ 64) := by
     simp only [FI, decide_eq_true (show 0 < s.size by omega), Bool.true_and]
     exact decide_eq_decide.2 (by omega)
   rwa [e] at h
 · rw [IZ, decide_eq_true_eq] at h0
   have e : FI s = false := by simp [FI, h0]
   rwa [e] at h
end
end TwW
end
section
theorem Tw.Hp.AM {σ : Tw.Hp} {b k : Nat} {o : Go.Obj} (h : (σ.set b o) k = none) : k ≠ b ∧ σ k = none := by
 have Ad : k ≠ b := fun e => by rw [e, Tw.Hp.AA] at h; cases h
 exact ⟨Ad, by rw [Tw.Hp.AH Ad] at h; exact h⟩
namespace ye
open Go Go.MapKept Tw
variable [Ht]
section
variable {P : Program} {σ : Hp}
class MpI (P : Program) (T : TypeId) (K V : outParam TypeId) : Prop where
 Y9 : P.underlying T = some (.map K V)
 key : P.underlying K = some (.int .i64)
def A2 (σ : Hp) (b : Nat) (l : List MapEntry) (clock : Nat) : Prop := σ b = some (.map l.toArray clock) ∧ Stamped l.toArray clock ∧ ∀ x ∈ l, IsKey (.int .i64) x.key
theorem A2.mono {σ σ' : Hp} {b : Nat} {l : List MapEntry} {clock : Nat} (h : A2 σ b l clock) (hx : Ext σ σ') : A2 σ' b l clock := ⟨hx _ _ h.1, h.2⟩
theorem A2.loc {σ σ' : Hp} {b : Nat} {l : List MapEntry} {clock : Nat} (h : A2 σ b l clock) (hx : σ' b = σ b) : A2 σ' b l clock := ⟨hx.trans h.1, h.2⟩
theorem A2.nodup {σ : Hp} {b : Nat} {l : List MapEntry} {clock : Nat} (h : A2 σ b l clock) : (l.map (·.key)).Nodup := h.2.1.2.2
theorem A2.Vm {σ : Hp} {b : Nat} {l : List MapEntry} {clock : Nat} (h : A2 σ b l clock) : (l.map (·.born)).Nodup := h.2.1.2.1
theorem FL {s : Int} {l : List MapEntry} (hk : ∀ x ∈ l, IsKey (.int .i64) x.key) :
   (Instr.findNow (.int .i64) (.int .i64 s) l 0 = some none ∧ ∀ x ∈ l, x.key ≠ .int .i64 s) ∨ ∃ l1 e l2, l = l1 ++ e :: l2 ∧ e.key = .int .i64 s ∧ Instr.findNow (.int .i64) (.int .i64 s) l 0 = some (some (l1.length, e.val)) := by
 rcases findNow_spec (d := .int .i64) (k := .int .i64 s) rfl l 0 hk with h | ⟨j, e, h1, h2, h3⟩
 · exact .inl h
 · obtain ⟨hj, rfl⟩ := List.getElem?_eq_some_iff.1 h2
   refine .inr ⟨l.take j, l[j], l.drop (j + 1), ?_, h3, ?_⟩
   · rw [List.getElem_cons_drop, List.take_append_drop]
   · rw [h1]; simp [Nat.min_eq_left (Nat.le_of_lt hj)]
section
variable {T K V ty : TypeId} {b clock : Nat} {l : List MapEntry} {s : Int}
theorem NO [t : MpI P T K V] (hm : A2 σ b l clock) {z : Value} (hz : ∀ w, (zeroValue V).run P w = .ok z w) {Q : Value → Prop}
   (h0 : (∀ x ∈ l, x.key ≠ .int .i64 s) → Q z) (h1 : ∀ l1 e l2, l = l1 ++ e :: l2 → e.key = .int .i64 s → Q e.val) : ∃ v, Q v ∧ YF P (Instr.lookup T (.map (some b)) (.int .i64 s) false) σ v := by
 rcases FL (s := s) hm.2.2 with ⟨hf, hn⟩ | ⟨l1, e, l2, hl, he, hf⟩
 · refine ⟨z, h0 hn, fun w hs => ?_⟩
   have := hs _ _ hm.1
   simp [Instr.lookup, run_underlying t.Y9, run_getObj_map this, run_checkKey t.key (k := .int .i64 s) rfl, run_findKey t.key hf, hz, Result.andThen]
 · refine ⟨e.val, h1 l1 e l2 hl he, fun w hs => ?_⟩
   have := hs _ _ hm.1
   simp [Instr.lookup, run_underlying t.Y9, run_getObj_map this, run_checkKey t.key (k := .int .i64 s) rfl, run_findKey t.key hf, Result.andThen]
theorem Io [t : MpI P T K V] (hm : A2 σ b l clock) {z : Value} (hz : ∀ w, (zeroValue V).run P w = .ok z w) {Φ : Value → Hp → Prop}
   (h0 : (∀ x ∈ l, x.key ≠ .int .i64 s) → Φ z σ) (h1 : ∀ l1 e l2, l = l1 ++ e :: l2 → e.key = .int .i64 s → Φ e.val σ) : AJ P (Instr.lookup T (.map (some b)) (.int .i64 s) false) σ Φ := by
 obtain ⟨v, hq, hy⟩ := NO (T := T) (K := K) (s := s) (Q := fun v => Φ v σ) hm hz h0 h1
 exact AJ.pu hy hq
abbrev Cj (s : Int) (v : Value) (n : Nat) : MapEntry := { key := .int .i64 s, val := v, born := n }
theorem EE [t : MpI P T K V] (hm : A2 σ b l clock) {v : Value} {Φ : Unit → Hp → Prop}
   (h0 : (∀ x ∈ l, x.key ≠ .int .i64 s) → ∀ σ', σ' = σ.set b (.map (l ++ [Cj s v clock]).toArray (clock + 1)) → A2 σ' b (l ++ [Cj s v clock]) (clock + 1) → Φ () σ')
   (h1 : ∀ l1 e l2, l = l1 ++ e :: l2 → e.key = .int .i64 s → ∀ σ', σ' = σ.set b (.map (l1 ++ Cj s v e.born :: l2).toArray clock) → A2 σ' b (l1 ++ Cj s v e.born :: l2) clock → Φ () σ') :
   AJ P (Instr.mapUpdate T (.map (some b)) (.int .i64 s) v) σ Φ := by
 obtain ⟨hb, Kr, hk⟩ := hm
 rcases FL (s := s) hk with ⟨hf, hn⟩ | ⟨l1, e, l2, hl, he, hf⟩
 · have Vn : (l ++ [Cj s v clock]).toArray = l.toArray.push (Cj s v clock) := by simp
   refine AJ.obj (v := ()) (o' := .map (l ++ [Cj s v clock]).toArray (clock + 1)) hb (fun w hs => ⟨w, .inl rfl, ?_⟩) (h0 hn _ rfl ⟨Hp.AA _ _ _, ?_, ?_⟩)
   · have := hs _ _ hb
     rw [Vn]
     simp only [Instr.mapUpdate, Sem.run_bind, run_underlying t.Y9, run_getObj_map this, run_checkKey t.key (k := .int .i64 s) rfl, run_findKey t.key hf, Result.andThen_ok]
     simp [setObj, Sem.run, this, ChangeMaps.setBlock]
   · rw [Vn]; exact stamped_push Kr (by simpa using hn)
   · intro x hx
     rcases List.mem_append.1 hx with hx | hx
     · exact hk x hx
     · rw [List.mem_singleton] at hx; subst hx; rfl
 · subst hl
   have R0 : (l1 ++ Cj s v e.born :: l2).toArray = (l1 ++ e :: l2).toArray.modify l1.length (fun e => { e with key := .int .i64 s, val := v }) := by
     rw [← Array.toList_inj]
     apply List.ext_getElem?
     intro j
     simp only [Array.getElem?_toList, Array.getElem?_modify, List.getElem?_toArray]
     by_cases hj : l1.length = j
     · subst hj; simp
     · rw [if_neg hj]
       rcases Nat.lt_or_ge j l1.length with h | h
       · rw [List.getElem?_append_left h, List.getElem?_append_left h]
       · have : ∃ k, j = l1.length + (k + 1) := ⟨j - l1.length - 1, by omega⟩
         obtain ⟨k, rfl⟩ := this
         simp [List.getElem?_append_right]
   have Fb : (l1 ++ e :: l2).toArray[l1.length]? = some e := by simp
   refine AJ.obj (v := ()) (o' := .map (l1 ++ Cj s v e.born :: l2).toArray clock) hb (fun w hs => ⟨w, .inl rfl, ?_⟩) (h1 l1 e l2 rfl he _ rfl ⟨Hp.AA _ _ _, ?_, ?_⟩)
   · have := hs _ _ hb
     rw [R0]
     simp only [Instr.mapUpdate, Sem.run_bind, run_underlying t.Y9, run_getObj_map this, run_checkKey t.key (k := .int .i64 s) rfl, run_findKey t.key hf, Result.andThen_ok, Fb, Option.map_some, Option.getD_some, he,
       run_keyThatStays (d := .int .i64) (k := .int .i64 s) rfl]
     simp [setObj, Sem.run, this, ChangeMaps.setBlock]
   · rw [R0]; exact stamped_modify Kr _ _ (fun _ _ => rfl) (fun e' _ he' => by rw [Fb] at he'; cases he'; exact he.symm)
   · intro x hx
     rcases List.mem_append.1 hx with hx | hx
     · exact hk x (List.mem_append_left _ hx)
     · rcases List.mem_cons.1 hx with rfl | hx
       · rfl
       · exact hk x (List.mem_append_right _ (List.mem_cons_of_mem _ hx))
theorem H0 [t : MpI P T K V] (hm : A2 σ b l clock) {Φ : Value → Hp → Prop} (h : ∀ i o, σ i = none → Cq (σ.set i o) i b l l clock → Φ (.pointer (some ⟨i, 0, none⟩)) (σ.set i o)) : AJ P (Instr.range T (.map (some b))) σ Φ :=
 AJ.new (v := fun i => .pointer (some ⟨i, 0, none⟩)) (o := .mapIter (some b) clock #[] clock) (fun w hs => by
   have := hs _ _ hm.1
   simp [Instr.range, run_underlying t.Y9, run_getObj_map this, Result.andThen]) fun i hi => h i _ hi ⟨#[], clock, Hp.AA _ _ _, Nat.le_refl _, by simp [leftOf, List.filter_eq_self.2]⟩
theorem Jw (hm : A2 σ b l clock) {i : Nat} {L : List MapEntry} (hi : Cq σ i b l L clock) {Φ : Value → Hp → Prop}
   (h0 : L = [] → Φ (.tuple #[.bool false]) σ)
   (h1 : ∀ e ∈ L, e ∈ l → ∀ o, (∀ τ, τ i = some o → Cq τ i b l (L.filter fun x => x.born != e.born) clock) →
     (∀ τ, τ i = some o → τ b = σ b → ∀ {Ψ : Value → Hp → Prop}, Ψ (.tuple #[e.key, e.val]) τ → AJ P (Instr.entry (.pointer (some ⟨i, 0, none⟩))) τ Ψ) → Φ (.tuple #[.bool true, e.key, e.val]) (σ.set i o)) :
   AJ P (Instr.next (.pointer (some ⟨i, 0, none⟩)) false ty) σ Φ := by
 obtain ⟨seen, c0, hi, hc, rfl⟩ := hi
 obtain ⟨hb, Kr, hk⟩ := hm
 have hold : ∀ x ∈ l.toArray.toList, x.born < clock := Kr.1
 intro w F hs hF
 rcases run_next_at (P := P) w ty i b clock c0 seen l.toArray clock (hs _ _ hi) (hs _ _ hb) hold hc with ⟨h, Co⟩ | ⟨e, he, w1, VS, Co⟩
 · exact ⟨_, w, σ, Co, h0 (List.eq_nil_of_length_eq_zero (by simpa using h)), hs, fun k hk => ⟨(hF k hk).2, rfl⟩, .same rfl rfl rfl, rfl, Nat.le_refl _⟩
 · have zm := (mem_left he).1
   have h2 := h1 e he (by simpa using zm) (.mapIter (some b) clock (seen.push e.born) clock) (fun τ hτ => ⟨_, _, hτ, Nat.le_refl _, Sc.symm⟩) (fun τ hτ vV Ψ hΨ => AJ.pu (fun w' Ho => run_entry_at w' i b clock seen l.toArray clock e (Ho _ _ hτ) (Ho _ _ (vV.trans hb)) zm Kr.2.1) hΨ)
   have Ag : i < w.heap.size := (Array.getElem?_eq_some_iff.1 (hs _ _ hi)).1
   have DL : w1.heap = w.heap := by rcases VS with rfl | rfl <;> rfl
   refine ⟨_, _, _, Co, h2, fun k u hk => ?_, fun k hk => ?_, ?_, ?_, ?_⟩
   · simp only [ChangeMaps.setBlock, DL]
     by_cases C3 : k = i
     · subst C3; rw [Hp.AA] at hk; cases hk; simp [Ag]
     · rw [Hp.AH C3] at hk; simp [Ne.symm C3, hs k u hk]
   · have C3 : k ≠ i := fun e => by have := (hF k hk).2; rw [e, hi] at this; cases this
     refine ⟨by rw [Hp.AH C3]; exact (hF k hk).2, ?_⟩
     simp [ChangeMaps.setBlock, DL, Ne.symm C3]
   · rcases VS with rfl | rfl
     · exact .same rfl rfl rfl
     · exact ⟨rfl, rfl, fun _ => ⟨1, rfl⟩⟩
   · rcases VS with rfl | rfl <;> rfl
   · simp [ChangeMaps.setBlock, DL]
end
end
end ye
end
section
namespace TwW
open Go Tw Go.RowKit Go.Proofs.Tryz
abbrev Lb := ByteArray × ByteArray
def JU (_ : Hp) (vs : List Value) (x : Lb) : Prop := vs = [.string x.1, .string x.2]
theorem JU.mono : Oz JU := fun _ _ _ _ _ h => h
abbrev Pf := Fj 2 JU
structure Sm where
 ls : List Lb
 t : Int
 v : Int
def Mw (σ : Hp) (vs : List Value) (s : Sm) : Prop := ∃ p n c, vs = [.slice p n c, .int .i64 s.t, .int .u64 s.v] ∧ Pf σ p n s.ls
theorem Mw.mono : Oz Mw := fun _ _ _ _ hx ⟨p, n, c, hv, hr⟩ => ⟨p, n, c, hv, hr.mono JU.mono hx⟩
abbrev Jh := Fj 3 Mw
section
variable {σ : Hp} {R : Rr}
theorem Pf.at {p : Option Addr} {n i : Nat} {ls : List Lb} {x : Lb} (hr : Pf σ p n ls) (hx : ls[i]? = some x) : ∃ b o, p = some ⟨b, o, none⟩ ∧ Dz σ b (o + i * 2) [.string x.1, .string x.2] := by
 obtain ⟨b, o, vs, hp, rfl, hl⟩ := Fj.idx hr hx
 exact ⟨b, o, hp, hl⟩
theorem Jh.at {p : Option Addr} {n i : Nat} {ss : List Sm} {s : Sm} (hr : Jh σ p n ss) (hx : ss[i]? = some s) : ∃ b o q k c, p = some ⟨b, o, none⟩ ∧ Dz σ b (o + i * 3) [.slice q k c, .int .i64 s.t, .int .u64 s.v] ∧ Pf σ q k s.ls := by
 obtain ⟨b, o, vs, hp, ⟨q, k, c, rfl, hq⟩, hl⟩ := Fj.idx hr hx
 exact ⟨b, o, q, k, c, hp, hl, hq⟩
theorem rH {s t : ByteArray} : (s.toList == t.toList) = decide (s = t) := by
 rw [ByteArray.toList_eq, ByteArray.toList_eq]
 by_cases h : s = t
 · subst h; simp
 · rw [decide_eq_false h, beq_eq_false_iff_ne]
   exact fun e => h (ByteArray.ext (Array.toList_inj.1 e))
theorem HW {α : Type} {xs : List α} {k : Nat} {y : α} (hy : xs[k]? = some y) : xs.drop k = y :: xs.drop (k + 1) := by
 obtain ⟨h, rfl⟩ := List.getElem?_eq_some_iff.1 hy
 exact List.drop_eq_getElem_cons h
def A8 : List Lb → ByteArray → ByteArray
 | [], _ => ⟨#[]⟩
 | x :: l, k => if x.1 = k then x.2 else A8 l k
theorem Fh {p : Option Addr} {n c : Nat} {ls : List Lb} {k : ByteArray} (hr : Pf σ p n ls) (h : R (.returned (.string (A8 ls k))) σ) : Spec prog 21 #[.slice p n c, .string k] σ R := by
 refine IC.start ?_
 suffices H : ∀ d i : Nat, n - i = d → i ≤ n → A8 ls k = A8 (ls.drop i) k → IC.Ni R k p n c n i σ from H n 0 rfl (Nat.zero_le _) rfl
 intro d
 induction d with
 | zero =>
   intro i hd hi he
   refine IC.D6 ⟨fun Ag => by omega, fun _ => ?_⟩
   rw [List.drop_of_length_le (by rw [hr.1]; omega)] at he
   rw [he] at h; exact h
 | succ d ih =>
   intro i hd hi he
   refine IC.D6 ⟨fun _ => ?_, fun hh => by omega⟩
   have JQ : i < n := by omega
   obtain ⟨x, hx⟩ := hr.ex JQ
   obtain ⟨b, o, rfl, hl⟩ := Pf.at hr hx
   rw [HW hx, A8] at he
   refine ⟨b, o, rfl, by omega, x.1, x.2, by simpa using hl, fun _ => ⟨fun hk => ?_, fun hk => ⟨Af JQ hr.big, ih (i + 1) (by omega) (by omega) ?_⟩⟩⟩
   · rw [rH, decide_eq_true_eq] at hk
     rw [if_pos hk] at he
     rw [he] at h; exact h
   · rw [rH, decide_eq_false_iff_not] at hk
     rwa [if_neg hk] at he
theorem U6 {s : ByteArray} {ok : UInt8 → Bool} {pt : Int → Prop} {G : Bool → Prop}
   (dx : G true → pt s.size) (OA : ∀ (k : Nat) (u : UInt8), k < s.size → s.data[Int.toNat (k : Int)]? = some u → AN ((k : Int) + 1) → (ok u = true → pt ((k : Int) + 1)) → (ok u = false → G false) → pt k)
   (h : G (s.data.toList.all ok)) (hb : s.size ≤ 4611686018427387904) : pt 0 := by
 have EU : s.data.toList.length = s.size := rfl
 suffices H : ∀ d k : Nat, s.size - k = d → k ≤ s.size → (s.data.toList.take k).all ok = true → pt k from H s.size 0 rfl (Nat.zero_le _) rfl
 intro d
 induction d with
 | zero =>
   intro k hd hk Ek
   rw [List.take_of_length_le (by omega)] at Ek
   rw [Ek] at h
   have : k = s.size := by omega
   rw [this]; exact dx h
 | succ d ih =>
   intro k hd hk Ek
   have DR : k < s.size := by omega
   obtain ⟨u, hu⟩ : ∃ u, s.data.toList[k]? = some u := ⟨_, List.getElem?_eq_getElem (by omega)⟩
   refine OA k u DR (by simpa using hu) (by unfold AN; omega) (fun hc => ih (k + 1) (by omega) (by omega) (by rw [AQ hu, List.all_append, Ek]; simpa using hc)) fun hc => ?_
   have : s.data.toList.all ok = false := by
     rw [List.all_eq_false]
     exact ⟨u, List.mem_of_getElem? hu, by simp [hc]⟩
   rwa [this] at h
def tch (u : UInt8) : Bool := decide ((97 ≤ u.toNat ∧ u.toNat ≤ 122) ∨ (48 ≤ u.toNat ∧ u.toNat ≤ 57) ∨ u.toNat = 45)
def TX (s : ByteArray) : Bool := decide (0 < s.size) && decide (s.size ≤ 32) && s.data.toList.all tch
theorem Xp {s : ByteArray} (h : R (.returned (.bool (TX s))) σ) : Spec prog 191 #[.string s] σ R := by
 refine EH.start ⟨fun h0 => ?_, fun h0 => ⟨fun h1 => ?_, fun h1 => ?_⟩⟩
 · rw [IZ, decide_eq_true_eq] at h0
   simpa [TX, h0] using h
 · have : ¬ s.size ≤ 32 := by omega
   simpa [TX, this] using h
 · rw [IZ, decide_eq_false_iff_not] at h0
   refine U6 (s := s) (pt := fun k => EH.As R s k σ) (ok := tch) (G := fun t => R (.returned (.bool t)) σ) (fun g => EH.BO ⟨fun Ag => by omega, fun _ => g⟩) (fun k u hk hu hi good bad => ?_) ?_ (by omega)
   · simp only [tch, decide_eq_true_eq, decide_eq_false_iff_not] at good bad
     refine EH.BO ⟨fun Ag => ⟨u, by omega, hu, ?_⟩, fun Fb => by omega⟩
     clear h
     generalize u.toNat = n at good bad
     repeat' (first | refine ⟨fun _ => ?_, fun _ => ?_⟩ | exact ⟨hi, good (by omega)⟩ | exact bad (by omega))
   · have e : TX s = s.data.toList.all tch := by simp [TX, show 0 < s.size by omega, show s.size ≤ 32 by omega]
     rwa [e] at h
def dgt (u : UInt8) : Bool := decide (48 ≤ u.toNat ∧ u.toNat ≤ 57)
def nch (u : UInt8) : Bool := decide (u.toNat = 95 ∨ (48 ≤ u.toNat ∧ u.toNat ≤ 57) ∨ (65 ≤ u.toNat ∧ u.toNat ≤ 90) ∨ (97 ≤ u.toNat ∧ u.toNat ≤ 122))
def U7 (s : ByteArray) : Bool := decide (0 < s.size) && decide (s.size ≤ 64) && !(s.data.toList.head?.any dgt) && s.data.toList.all nch
theorem Q3 {s : ByteArray} (h : R (.returned (.bool (U7 s))) σ) : Spec prog 306 #[.string s] σ R := by
 have EU : s.data.toList.length = s.size := rfl
 refine FR.start ⟨fun h0 => ?_, fun h0 => ⟨fun h1 => ?_, fun h1 => ?_⟩⟩
 · rw [IZ, decide_eq_true_eq] at h0
   simpa [U7, h0] using h
 · have : ¬ s.size ≤ 64 := by omega
   simpa [U7, this] using h
 · rw [IZ, decide_eq_false_iff_not] at h0
   obtain ⟨u, hu⟩ : ∃ u, s.data.toList[0]? = some u := ⟨_, List.getElem?_eq_getElem (by omega)⟩
   have Ys : s.data[Int.toNat (0 : Int)]? = some u := by simpa using hu
   have hh : s.data.toList.head? = some u := by rw [← hu]; cases s.data.toList <;> rfl
   have rest : dgt u = false → FR.As R s 0 σ := fun hd => by
     have e : U7 s = s.data.toList.all nch := by simp [U7, show 0 < s.size by omega, show s.size ≤ 64 by omega, hh, hd]
     rw [e] at h
     refine U6 (s := s) (pt := fun k => FR.As R s k σ) (ok := nch) (G := fun t => R (.returned (.bool t)) σ) (fun g => FR.BO ⟨fun Ag => by omega, fun _ => g⟩) (fun k u hk hu hi good bad => ?_) h (by omega)
     simp only [nch, decide_eq_true_eq, decide_eq_false_iff_not] at good bad
     refine FR.BO ⟨fun Ag => ⟨u, by omega, hu, ?_⟩, fun Fb => by omega⟩
     clear h
     generalize u.toNat = n at good bad
     repeat' (first | refine ⟨fun _ => ?_, fun _ => ?_⟩ | exact ⟨hi, good (by omega)⟩ | exact bad (by omega))
   simp only [dgt, decide_eq_false_iff_not] at rest
   refine ⟨u, by omega, Ys, fun h2 => ⟨u, by omega, Ys, fun h3 => ?_, fun h3 => rest (by omega)⟩, fun h2 => rest (by omega)⟩
   have : dgt u = true := by simp [dgt]; omega
   simpa [U7, hh, this] using h
def vl : Nat → Nat → Nat → List UInt8 → Bool
 | 0, _, _, [] => true
 | _ + 1, _, _, [] => false
 | 0, _, _, c :: r =>
   if c.toNat < 128 then vl 0 128 191 r
   else if 194 ≤ c.toNat ∧ c.toNat ≤ 223 then vl 1 128 191 r
   else if 224 ≤ c.toNat ∧ c.toNat ≤ 239 then (if c.toNat = 224 then vl 2 160 191 r else if c.toNat = 237 then vl 2 128 159 r else vl 2 128 191 r)
   else if 240 ≤ c.toNat ∧ c.toNat ≤ 244 then (if c.toNat = 240 then vl 3 144 191 r else if c.toNat = 244 then vl 3 128 143 r else vl 3 128 191 r)
   else false
 | m + 1, lo, hi, c :: r => if c.toNat < lo ∨ hi < c.toNat then false else vl m 128 191 r
def SH (s : ByteArray) : Bool := vl 0 128 191 s.data.toList
theorem vl0 (l : List UInt8) (a b c d : Nat) : vl 0 a b l = vl 0 c d l := by cases l <;> rfl
theorem PG {s : ByteArray} (hb : s.size ≤ 4611686018427387904) (h : R (.returned (.bool (SH s))) σ) : Spec prog 307 #[.string s] σ R := by
 have EU : s.data.toList.length = s.size := rfl
 refine BL.start ?_
 suffices H : ∀ d : Nat, (∀ k : Nat, s.size - k = d → k ≤ s.size → SH s = vl 0 128 191 (s.data.toList.drop k) → BL.CC R s k σ) ∧
     (∀ (k m lo hi : Nat), s.size - k = d → k ≤ s.size → SH s = vl m lo hi (s.data.toList.drop k) → m ≤ 3 → BL.om R s k m lo hi σ) from (H s.size).1 0 (by omega) (by omega) rfl
 intro d
 induction d with
 | zero =>
   have A : ∀ k : Nat, s.size - k = 0 → k ≤ s.size → SH s = vl 0 128 191 (s.data.toList.drop k) → BL.CC R s k σ := fun k hd hk he => by
     refine BL.BS ⟨fun _ => ?_, fun Ad => by omega⟩
     rw [List.drop_of_length_le (by omega)] at he
     rw [he] at h; exact h
   refine ⟨A, fun k m lo hi hd hk he hm => BL.cD ⟨fun h0 => A k hd hk ?_, fun h0 => ⟨fun _ => ?_, fun Ad => by omega⟩⟩⟩
   · have : m = 0 := by omega
     subst this; rw [he]; exact vl0 _ _ _ _ _
   · obtain ⟨m', rfl⟩ : ∃ m', m = m' + 1 := ⟨m - 1, by omega⟩
     rw [List.drop_of_length_le (by omega)] at he
     rw [he] at h; exact h
 | succ d ih =>
   have A : ∀ k : Nat, s.size - k = d + 1 → k ≤ s.size → SH s = vl 0 128 191 (s.data.toList.drop k) → BL.CC R s k σ := fun k hd hk he => by
     have DR : k < s.size := by omega
     obtain ⟨u, hu⟩ : ∃ u, s.data.toList[k]? = some u := ⟨_, List.getElem?_eq_getElem (by omega)⟩
     have Ys : s.data[Int.toNat (k : Int)]? = some u := by simpa using hu
     have hi : AN ((k : Int) + 1) := by unfold AN; omega
     rw [HW hu, vl] at he
     have st : ∀ (m lo hi : Nat), m ≤ 3 → SH s = vl m lo hi (s.data.toList.drop (k + 1)) → BL.Ev R s k m lo hi σ := fun m lo hh hm he => BL.oq ⟨hi, ih.2 (k + 1) m lo hh (by omega) (by omega) he hm⟩
     have nx : SH s = vl 0 128 191 (s.data.toList.drop (k + 1)) → BL.CC R s ((k : Int) + 1) σ := fun he => ih.1 (k + 1) (by omega) (by omega) he
     have no : SH s = false → R (.returned (.bool false)) σ := fun e => by rw [e] at h; exact h
     refine BL.BS ⟨fun Ad => by omega, fun _ => ⟨u, by omega, Ys, ?_⟩⟩
     generalize s.data.toList.drop (k + 1) = r at he st nx
     clear ih h hu Ys
     generalize u.toNat = n at he
     repeat' (first | refine ⟨fun _ => ?_, fun _ => ?_⟩ | refine ⟨hi, nx ?_⟩ | refine st 1 128 191 (by omega) ?_ | refine st 2 160 191 (by omega) ?_ | refine st 2 128 159 (by omega) ?_ | refine st 2 128 191 (by omega) ?_ | refine st 3 144 191 (by omega) ?_ | refine st 3 128 143 (by omega) ?_ | refine st 3 128 191 (by omega) ?_ | refine no ?_)
     all_goals first | (exfalso; clear he; omega) | (rw [he]; repeat' (first | rfl | rw [if_pos (by omega)] | rw [if_neg (by omega)]))
   refine ⟨A, fun k m lo hi hd hk he hm => BL.cD ⟨fun h0 => A k hd hk ?_, fun h0 => ⟨fun Ad => by omega, fun _ => ?_⟩⟩⟩
   · have : m = 0 := by omega
     subst this; rw [he]; exact vl0 _ _ _ _ _
   · obtain ⟨m', rfl⟩ : ∃ m', m = m' + 1 := ⟨m - 1, by omega⟩
     have DR : k < s.size := by omega
     obtain ⟨u, hu⟩ : ∃ u, s.data.toList[k]? = some u := ⟨_, List.getElem?_eq_getElem (by omega)⟩
     have Ys : s.data[Int.toNat (k : Int)]? = some u := by simpa using hu
     rw [HW hu, vl] at he
     refine ⟨u, by omega, Ys, fun h1 => ?_, fun h1 => ⟨u, by omega, Ys, fun h2 => ?_, fun h2 => ⟨by unfold AN; omega, by unfold AN; omega, ?_⟩⟩⟩
     · rw [if_pos (by omega)] at he
       rw [he] at h; exact h
     · rw [if_pos (by omega)] at he
       rw [he] at h; exact h
     · rw [if_neg (by omega)] at he
       have := ih.2 (k + 1) m' 128 191 (by omega) (by omega) he (by omega)
       have e1 : ((m' + 1 : Nat) : Int) - 1 = (m' : Nat) := by omega
       rw [e1]; exact this
end
end TwW
end
section
namespace TwW
open Go Tw Go.RowKit Go.Proofs.Tryz
section
variable {σ : Hp} {R : Rr}
def sle (a b : ByteArray) : Bool := Op.bytesLess a.toList b.toList || a.toList == b.toList
theorem yf {x y : Operand} {a b : ByteArray} {T : TypeId} : YF prog (do eqGuard .leq T x y (.string a) (.string b); binOp .leq T (.string a) (.string b)) σ (.bool (sle a b)) := fun w _ => by
 simp [eqGuard, binOp, Op.stringOp, sle]
def Oi : Option ByteArray → List Lb → Int
 | _, [] => 0
 | pv, x :: l => if U7 x.1 = false then 31 else if x.2.size = 0 ∨ 256 < x.2.size ∨ SH x.2 = false then 32 else if pv.any (sle x.1 ·) = true then 33 else Oi (some x.1) l
def aR (ls : List Lb) : Int := if 16 < ls.length then 30 else Oi none ls
theorem PH {p : Option Addr} {n c : Nat} {ls : List Lb} (hr : Pf σ p n ls) (h : R (.returned (.int .i64 (aR ls))) σ) : Spec prog 267 #[.slice p n c] σ R := by
 have hn : ls.length = n := hr.1
 refine Ee.start ⟨fun h1 => ?_, fun h1 => ?_⟩
 · rw [aR, if_pos (by omega)] at h; exact h
 rw [aR, if_neg (by omega)] at h
 let pv : Nat → Option ByteArray := fun i => if i = 0 then none else (ls[i - 1]?).map (·.1)
 suffices H : ∀ d i : Nat, n - i = d → i ≤ n → Oi none ls = Oi (pv i) (ls.drop i) → Ee.ek R p n c p n c n i σ from H n 0 rfl (Nat.zero_le _) rfl
 intro d
 induction d with
 | zero =>
   intro i hd hi he
   refine Ee.cY ⟨fun Ag => by omega, fun _ => ?_⟩
   rw [List.drop_of_length_le (by omega)] at he
   rw [he] at h; exact h
 | succ d ih =>
   intro i hd hi he
   have JQ : i < n := by omega
   obtain ⟨x, hx⟩ := hr.ex JQ
   obtain ⟨b, o, rfl, hl⟩ := Pf.at hr hx
   rw [HW hx, Oi] at he
   have out : ∀ e : Int, Oi none ls = e → R (.returned (.int .i64 e)) σ := fun e h1 => h1 ▸ h
   refine Ee.cY ⟨fun _ => ?_, fun hh => by omega⟩
   refine ⟨b, o, rfl, by omega, x.1, x.2, by simpa using hl, fun _ => Q3 ⟨_, rfl, fun h1 => out _ ?_, fun h1 => ?_⟩⟩
   · rw [he, if_pos h1]
   rw [if_neg (by simp [h1])] at he
   rw [IZ]
   refine ⟨fun h2 => out _ ?_, fun h2 => ⟨fun h3 => out _ ?_, fun h3 => PG (by omega) ⟨_, rfl, fun h4 => out _ ?_, fun h4 => ?_⟩⟩⟩
   · rw [he, if_pos (.inl (by simpa using h2))]
   · rw [he, if_pos (.inr (.inl (by omega)))]
   · rw [he, if_pos (.inr (.inr h4))]
   rw [if_neg (by rw [decide_eq_false_iff_not] at h2; simp [h2, h4]; omega)] at he
   have nx : pv (i + 1) = some x.1 := by simp [pv, hx]
   have go : (pv i).any (sle x.1 ·) = false → Ee.ek R (aD b o) n c (aD b o) n c n ((i : Int) + 1) σ := fun h5 => by
     rw [if_neg (by simp [h5]), ← nx] at he
     exact ih (i + 1) (by omega) (by omega) he
   refine ⟨fun h5 => ?_, fun h5 => ⟨Af JQ hr.big, go ?_⟩⟩
   · obtain ⟨y, hy⟩ := hr.ex (k := i - 1) (by omega)
     obtain ⟨b', o', hp, S5⟩ := Pf.at hr hy
     cases hp
     have e1 : ((i : Int) - 1).toNat = i - 1 := by omega
     have hpv : pv i = some y.1 := by simp [pv, hy, show i ≠ 0 by omega]
     refine ⟨by have := hr.big; unfold AN; omega, b, o, rfl, by omega, y.1, by rw [e1]; exact S5.1, _, yf, fun h6 => out _ ?_, fun h6 => ⟨Af JQ hr.big, go ?_⟩⟩
     · rw [he, if_pos (by rw [hpv]; exact h6)]
     · rw [hpv]; exact h6
   · have : i = 0 := by omega
     simp [pv, this]
theorem TY : ∀ {ls : List Lb} {pv : Option ByteArray}, Oi pv ls = 0 → ∀ x ∈ ls, U7 x.1 = true ∧ 0 < x.2.size ∧ x.2.size ≤ 256 ∧ SH x.2 = true
 | [], _, _, _, hx => by cases hx
 | y :: l, pv, h, x, hx => by
   rw [Oi] at h
   split at h
   · cases h
   split at h
   · cases h
   split at h
   · cases h
   rename_i h1 h2 h3
   rcases List.mem_cons.1 hx with rfl | hx
   · simp only [not_or, Bool.not_eq_false] at h1 h2
     exact ⟨h1, by omega, by omega, h2.2.2⟩
   · exact TY h x hx
def G3 (ls : List Lb) : Prop := ls.length ≤ 16 ∧ ∀ x ∈ ls, x.1.size ≤ 256 ∧ x.2.size ≤ 256
theorem G3.of {ls : List Lb} (h : aR ls = 0) : G3 ls := by
 unfold aR at h
 split at h
 · cases h
 · refine ⟨by omega, fun x hx => ?_⟩
   obtain ⟨h1, _, h2, _⟩ := TY h x hx
   simp [U7] at h1
   exact ⟨by omega, h2⟩
def SI (b : Int) (s : Sm) : Int := if aR s.ls ≠ 0 ∨ s.ls.length = 0 ∨ b < s.ls.length then 152 else if s.t < -1099511627776 ∨ 1099511627776 < s.t then 153 else 0
def Ic (b : Int) : List Sm → Int
 | [] => 0
 | s :: l => if SI b s ≠ 0 then SI b s else Ic b l
def GX (ten : ByteArray) (b c : Int) (ss : List Sm) : Int := if TX ten = false then 150 else if ss.length = 0 ∨ c < ss.length ∨ 256 < ss.length then 151 else Ic b ss
theorem TZ {b : Int} : ∀ {ss : List Sm}, Ic b ss = 0 → ∀ s ∈ ss, SI b s = 0
 | [], _, _, hs => by cases hs
 | y :: l, h, s, hs => by
   rw [Ic] at h
   split at h
   · rename_i h1; exact absurd h h1
   · rename_i h1
     rcases List.mem_cons.1 hs with rfl | hs
     · exact Decidable.byContradiction h1
     · exact TZ h s hs
theorem Oj {b : Int} : ∀ ss : List Sm, Ic b ss = 0 ∨ Ic b ss = 152 ∨ Ic b ss = 153
 | [] => .inl rfl
 | y :: l => by
   rw [Ic]
   split
   · unfold SI
     split
     · exact .inr (.inl rfl)
     · split
       · exact .inr (.inr rfl)
       · exact .inl rfl
   · exact Oj l
theorem aS {b : Int} {s : Sm} (h : SI b s = 0) : G3 s.ls := by
 unfold SI at h
 split at h
 · cases h
 · rename_i h1
   exact .of (Decidable.byContradiction fun h2 => h1 (.inl h2))
theorem AEy : Enters prog 266 := fun args w => call266 args w
theorem AEz : Enters prog 268 := fun args w => call268 args w
theorem Nx {ten : ByteArray} {p : Option Addr} {n cc : Nat} {ss : List Sm} {a b c : Int} {d : Bool} (hr : Jh σ p n ss) (h : ∀ i : Int, R (.returned (.tuple #[.int .i64 i, .int .i64 (GX ten b c ss)])) σ) :
   Spec prog 104 #[.string ten, .slice p n cc, .agg #[.int .i64 a, .int .i64 b, .int .i64 c, .bool d]] σ R := by
 have hn : ss.length = n := hr.1
 have out : ∀ (i e : Int), GX ten b c ss = e → R (.returned (.tuple #[.int .i64 i, .int .i64 e])) σ := fun i e h1 => h1 ▸ h i
 refine Spec.drop (B6.start fun _ => Xp ⟨_, rfl, fun h1 => .mk (.refl _) (out _ _ ?_), fun h1 => ?_⟩)
 · rw [GX, if_pos h1]
 have e0 : GX ten b c ss = if ss.length = 0 ∨ c < ss.length ∨ 256 < ss.length then 151 else Ic b ss := by rw [GX, if_neg (by simp [h1])]
 refine ⟨fun h2 => .mk (.refl _) (out _ _ ?_), fun h2 => ⟨fun h3 => .mk (.refl _) (out _ _ ?_), fun h3 => ⟨fun h4 => .mk (.refl _) (out _ _ ?_), fun h4 => ?_⟩⟩⟩
 · rw [e0, if_pos (.inl (by omega))]
 · rw [e0, if_pos (.inr (.inl (by omega)))]
 · rw [e0, if_pos (.inr (.inr (by omega)))]
 rw [if_neg (by omega)] at e0
 refine OH.start fun b1 PA b4 fE => ⟨_, _, _, rfl, ?_⟩
 obtain ⟨n41, yh⟩ := Hp.AM fE
 generalize Mx : Hp.set (Hp.set σ b1 _) b4 _ = σ1
 have hx : Ext σ σ1 := by rw [← Mx]; exact (Ext.set PA).trans (.set fE)
 have l1 : σ1 b1 = some (.cells #[.int .i64 a, .int .i64 b, .int .i64 c, .bool d] 28 (0, 0)) := by rw [← Mx, Hp.AH (Ne.symm n41), Hp.AA]
 have l4 : σ1 b4 = some (.cells #[(.func (.func 266) #[] #[(.pointer (aD b1 0))]), (.func (.func 268) #[] #[])] 268 (0, 0)) := by rw [← Mx, Hp.AA]
 have fz : Jh σ1 p n ss := hr.mono Mw.mono hx
 clear Mx fE yh hr
 suffices H : ∀ d i : Nat, n - i = d → i ≤ n → Ic b ss = Ic b (ss.drop i) → B6.Ui (Drop R) (aD b4 0) 2 2 p n cc n i σ1 from H n 0 rfl (Nat.zero_le _) rfl
 intro d
 induction d with
 | zero =>
   intro i hd hi he
   refine B6.MY ⟨fun Ag => by omega, fun _ => .mk hx (out _ _ ?_)⟩
   rw [e0, he, List.drop_of_length_le (by omega)]; rfl
 | succ d ih =>
   intro i hd hi he
   have JQ : i < n := by omega
   have Ro : n - (i + 1) = d := by omega
   obtain ⟨s, hs⟩ := fz.ex JQ
   obtain ⟨b0, o, q, k, cq, rfl, hl, hq⟩ := Jh.at fz hs
   have hk : s.ls.length = k := hq.1
   rw [HW hs, Ic] at he
   refine B6.MY ⟨fun _ => ⟨b0, o, rfl, by omega, q, k, cq, s.t, s.v, by simpa using hl, fun _ => ?_⟩, fun hh => by omega⟩
   have bad : ∀ x : Int, SI b s = x → x ≠ 0 → Drop R (.returned (.tuple #[.int .i64 i, .int .i64 x])) σ1 := fun x aF Ad => .mk hx (out _ _ (by rw [e0, he, aF, if_pos Ad]))
   refine B6.I1 ⟨fun _ => ⟨b4, 0, rfl, by omega, _, AD (o := 0) l4 rfl, 266, #[], _, rfl, AEy, ?_⟩, fun hh => by omega⟩
   refine LP.start fun _ => PH hq ⟨_, rfl, ?_⟩
   have Z3 : aR s.ls ≠ 0 ∨ s.ls.length = 0 ∨ b < s.ls.length → ∃ x : Int, Value.int .i64 152 = .int .i64 x ∧ Br (x ≠ 0) (Drop R (.returned (.tuple #[.int .i64 i, .int .i64 x])) σ1) (AN ((0 : Int) + 1) ∧ B6.No (Drop R) (aD b4 0) 2 2 i q k cq s.t s.v (aD b0 o) n cc n i (aD b4 0) 2 2 (2 : Nat) ((0 : Int) + 1) σ1) := fun hc =>
     ⟨152, rfl, fun _ => bad _ (by rw [SI, if_pos hc]) (by decide), fun hh => absurd (by decide) hh⟩
   refine ⟨fun h5 => Z3 (.inl h5), fun h5 => ⟨fun h6 => Z3 (.inr (.inl (by omega))), fun h6 => ⟨b, AD (o := 1) l1 rfl, fun h7 => Z3 (.inr (.inr (by omega))), fun h7 => ⟨0, rfl, fun hh => absurd rfl hh, fun _ => ⟨by unfold AN; omega, ?_⟩⟩⟩⟩⟩
   refine B6.I1 ⟨fun _ => ⟨b4, 0, rfl, by omega, _, AD (o := 1) l4 rfl, 268, #[], _, rfl, AEz, ?_⟩, fun hh => by omega⟩
   have e1 : SI b s = if s.t < -1099511627776 ∨ 1099511627776 < s.t then 153 else 0 := by rw [SI, if_neg (by simp only [not_or]; exact ⟨h5, by omega, by omega⟩)]
   refine LY.start fun _ => ⟨fun h8 => ⟨153, rfl, fun _ => bad _ ?_ (by decide), fun hh => absurd (by decide) hh⟩, fun h8 => ⟨fun h9 => ⟨153, rfl, fun _ => bad _ ?_ (by decide), fun hh => absurd (by decide) hh⟩, fun h9 => ⟨0, rfl, fun hh => absurd rfl hh, fun _ => ⟨by unfold AN; omega, ?_⟩⟩⟩⟩
   · rw [e1, if_pos (.inl (by omega))]
   · rw [e1, if_pos (.inr (by omega))]
   refine B6.I1 ⟨fun hh => absurd hh (by decide), fun _ => ⟨Af JQ fz.big, ih (i + 1) Ro JQ ?_⟩⟩
   rw [if_neg (by rw [e1, if_neg (by omega)]; simp)] at he
   exact he
theorem JU.one (σ : Hp) (vs : List Value) (x : Lb) (h : JU σ vs x) : CN vs := by
 rw [h]
 intro u hu
 simp only [List.mem_cons, List.not_mem_nil, or_false] at hu
 rcases hu with rfl | rfl <;> rfl
theorem Ta {σ1 : Hp} {q : Option Addr} {j c b : Nat} {ls : List Lb} {ty : TypeId} {Φ : Value → Hp → Prop} (ht : Pf σ1 q j ls) (hb : j ≤ 1000000000)
   (hΦ : ∀ p' c' σ', BA 2 JU (σ1.new σ') p' j c' ls → Ext σ1 σ' → Φ (.slice p' j c') σ') (hn : σ1 b = none) :
   AJ prog (Builtin.append_ #[22, 22] ty #[.slice (some ⟨b, 0, none⟩) 0 0, .slice q j c]) (σ1.set b (.cells #[] 61 (0, 0))) Φ := by
 obtain ⟨h1, cs, h2, h3⟩ := ht
 refine ER Own.empty (h2.mono (.set hn)) (Ch.oK JU.one h3 (by decide)) (by omega) fun p' c' σ' AZ EK => ?_
 have hq : ∀ a : Addr, (some (⟨b, 0, none⟩ : Addr)) = some a → σ1 a.block = none := fun a ha => by cases ha; exact hn
 rw [Nat.zero_add] at AZ ⊢
 rw [List.nil_append] at AZ
 exact hΦ p' c' σ' ⟨h1, cs, Own.CO AZ (Bt hq EK (.set hn)), h3⟩ (CX hq EK (.set hn))
theorem Xq {q : Option Addr} {j c : Nat} {ls : List Lb} {t v : Int} (ht : Pf σ q j ls) (hb : j ≤ 1000000000)
   (h : ∀ p' c' σ', BA 2 JU (σ.new σ') p' j c' ls → Ext σ σ' → R (.returned (.agg #[.slice p' j c', .int .i64 t, .int .u64 v])) σ') : Spec prog 53 #[.agg #[.slice q j c, .int .i64 t, .int .u64 v]] σ R :=
 JH.start fun _ _ b3 Ur => Ta ht hb (fun p' c' σ' ho hx => ⟨_, _, _, rfl, h p' c' σ' ho hx⟩) Ur
def Tc (x : Lb) : List Int := uv x.1.size ++ Nw x.1 ++ (uv x.2.size ++ Nw x.2)
def yi (ls : List Lb) : List Int := uv ls.length ++ ls.flatMap Tc
def AE0 (h c : Int) : Int := IntKind.u32.wrap (Go.bits .xor .u32 h (IntKind.u32.wrap c) * 16777619)
def AE1 (bs : List Int) : Int := bs.foldl AE0 2166136261
def Xr (ls : List Lb) : Int := AE1 (yi ls)
theorem gA {p : Option Addr} {n c : Nat} {xs : List Int} (hr : By .u8 σ p n xs) (h : R (.returned (.int .u32 (AE1 xs))) σ) : Spec prog 56 #[.slice p n c] σ R := by
 refine Dt.start ?_
 suffices H : ∀ d k : Nat, n - k = d → k ≤ n → Dt.A5 R ((xs.take k).foldl AE0 2166136261) p n c n k σ from H n 0 rfl (Nat.zero_le _)
 intro d
 induction d with
 | zero =>
   intro k hd hk
   refine Dt.AW ⟨fun Ag => by omega, fun _ => ?_⟩
   rw [List.take_of_length_le (by rw [hr.1]; omega)]; exact h
 | succ d ih =>
   intro k hd hk
   have DR : k < n := by omega
   obtain ⟨y, hy⟩ := hr.ex DR
   obtain ⟨b, o, rfl, hl⟩ := hr.at hy
   refine Dt.AW ⟨fun _ => ⟨b, o, rfl, by omega, y, by simpa using hl, fun FF h14 MQ h15 Nc fN => ⟨Af DR hr.big, ?_⟩⟩, fun hh => by omega⟩
   have := ih (k + 1) (by omega) (by omega)
   rw [AQ hy, List.foldl_append, List.foldl_cons, List.foldl_nil] at this
   subst h14 h15 fN
   exact this
theorem gB {x : Lb} (h : x.1.size ≤ 256 ∧ x.2.size ≤ 256) : (Tc x).length ≤ 532 := by
 have h1 := BV (x := x.1.size) (by omega)
 have h2 := BV (x := x.2.size) (by omega)
 simp only [Tc, List.length_append, Dy]
 omega
theorem lS {ls : List Lb} (h : ∀ x ∈ ls, x.1.size ≤ 256 ∧ x.2.size ≤ 256) : (ls.flatMap Tc).length ≤ ls.length * 532 := by
 induction ls with
 | nil => simp
 | cons x l ih =>
   have := ih fun y hy => h y (List.mem_cons_of_mem _ hy)
   have := gB (h x (by simp))
   rw [List.flatMap_cons, List.length_append, List.length_cons]
   omega
theorem U8 {p : Option Addr} {n c : Nat} {ls : List Lb} (hr : Pf σ p n ls) (hs : G3 ls) (h : ∀ p' n' c' σ', AS .u8 (σ.new σ') p' n' c' (yi ls) → Ext σ σ' → R (.returned (.slice p' n' c')) σ') : Spec prog 57 #[.slice p n c] σ R := by
 have hn : ls.length = n := hr.1
 have fN := hs.1
 refine Ew.start fun x8 h8 => ?_
 have e8 : x8 = (n : Int) := by rw [h8]; simp [IntKind.wrap, IntKind.bits, IntKind.signed]; omega
 subst e8
 refine DG Fj.nil (by omega) (by omega) fun p1 n1 c1 σ1 Fo BJ => ⟨p1, n1, c1, rfl, ?_⟩
 rw [List.nil_append] at Fo
 suffices H : ∀ d k : Nat, ∀ p3 n3 c3 σ3, n - k = d → k ≤ n → AS .u8 (σ.new σ3) p3 n3 c3 (uv n ++ (ls.take k).flatMap Tc) → Ext σ σ3 → Ew.A5 R p3 n3 c3 p n c n k σ3 from H n 0 p1 n1 c1 σ1 rfl (Nat.zero_le _) (by simpa using Fo) BJ
 intro d
 induction d with
 | zero =>
   intro k p3 n3 c3 σ3 hd hk ho hx
   refine Ew.AW ⟨fun Ag => by omega, fun _ => h p3 n3 c3 σ3 ?_ hx⟩
   rw [List.take_of_length_le (by omega)] at ho
   rw [yi, hn]; exact ho
 | succ d ih =>
   intro k p3 n3 c3 σ3 hd hk ho hx
   have DR : k < n := by omega
   obtain ⟨y, hy⟩ := hr.ex DR
   obtain ⟨b, o, rfl, hl⟩ := Pf.at hr hy
   have qq := hs.2 y (List.mem_of_getElem? hy)
   have hl3 := C8 ho
   have lM := BV (x := n) (by omega)
   have XG := lS (ls := ls.take k) fun x hx => hs.2 x (List.mem_of_mem_take hx)
   rw [List.length_append] at hl3
   rw [List.length_take] at XG
   have h3b : n3 ≤ 9000 := by omega
   refine Ew.AW ⟨fun _ => ⟨b, o, rfl, by omega, y.1, y.2, by simpa using hl.mono hx, fun _ => ?_⟩, fun hh => by omega⟩
   refine GW (AS.rd (Own.mono (Ext.Ah _ _) ho)) (by omega) (by omega) fun p4 n4 c4 σ4 Pc Lc => ⟨p4, n4, c4, rfl, ?_⟩
   have hl4 := C8 Pc
   have hu1 := BV (x := y.1.size) (by omega)
   simp only [List.length_append, Dy] at hl4
   refine GW (AS.rd (Own.mono (Ext.Ah _ _) Pc)) (by omega) (by omega) fun p5 n5 c5 σ5 iN Oc => ⟨p5, n5, c5, rfl, Af DR hr.big, ?_⟩
   refine ih (k + 1) p5 n5 c5 σ5 (by omega) (by omega) ?_ (hx.trans (Lc.trans Oc))
   have := Own.mono (Ext.CR (hx.trans Lc)) iN
   rw [AQ hy, List.flatMap_append]
   simpa [Tc, AS] using this
theorem gC {p : Option Addr} {n c : Nat} {ls : List Lb} (hr : Pf σ p n ls) (hs : G3 ls) (h : R (.returned (.int .u32 (Xr ls))) σ) : Spec prog 24 #[.slice p n c] σ R :=
 Spec.drop (QN.start (U8 hr hs fun p' n' c' σ' ho hx => ⟨_, _, _, rfl, gA (AS.rd (Own.mono (Ext.Ah _ _) ho)) ⟨_, rfl, .mk hx h⟩⟩))
end
end TwW
end
section
namespace TwW
open Go Tw Go.Proofs.Tryz
structure Mem where
 id : Int
 state : Int
 B4 : List Int
def E4 (σ : Hp) (vs : List Value) (m : Mem) : Prop := ∃ p n c, vs = [.int .i64 m.id, .int .i64 m.state, .slice p n c] ∧ By .u32 σ p n m.B4
theorem E4.mono : Oz E4 := fun _ _ _ _ h ⟨p, n, c, hv, hr⟩ => ⟨p, n, c, hv, hr.mono h⟩
abbrev PI := Fj 3 E4
abbrev Ji := BA 3 E4
theorem PI.Q4 {σ σ' : Hp} (h : Ext σ σ') {p : Option Addr} {n : Nat} {ms : List Mem} (hr : PI σ p n ms) : PI σ' p n ms := Fj.mono E4.mono h hr
theorem PI.at' {σ : Hp} {p : Option Addr} {n i : Nat} {ms : List Mem} {m : Mem} (hr : PI σ p n ms) (hx : ms[i]? = some m) :
   ∃ b o q k c, p = some ⟨b, o, none⟩ ∧ Dz σ b (o + i * 3) [.int .i64 m.id, .int .i64 m.state, .slice q k c] ∧ By .u32 σ q k m.B4 := by
 obtain ⟨b, o, vs, hp, ⟨q, k, c, rfl, hq⟩, hl⟩ := Fj.idx hr hx
 exact ⟨b, o, q, k, c, hp, hl, hq⟩
theorem Q5 {a b : Int} {p : Option Addr} {n c : Nat} : CN [.int .i64 a, .int .i64 b, .slice p n c] := by
 intro u hu
 simp only [List.mem_cons, List.not_mem_nil, or_false] at hu
 rcases hu with rfl | rfl | rfl <;> rfl
end TwW
end
section
namespace TwW
open Go Tw Go.Proofs.Tryz
def EN (xs : List Int) : Prop := xs.Pairwise (· < ·)
instance (xs : List Int) : Decidable (EN xs) := inferInstanceAs (Decidable (xs.Pairwise (· < ·)))
theorem gD {xs : List Int} {k : Nat} {y : Int} (hk : 0 < k) (hy : xs[k - 1]? = some y) : xs.take k = xs.take (k - 1) ++ [y] := by
 have := AQ hy
 rwa [Nat.sub_add_cancel hk] at this
theorem Kk {xs : List Int} {k : Nat} {x y : Int} (hk : 0 < k) (hy : xs[k - 1]? = some y) (hx : xs[k]? = some x) (h : EN (xs.take k)) (hl : y < x) : EN (xs.take (k + 1)) := by
 unfold EN at *
 rw [AQ hx, List.pairwise_append]
 refine ⟨h, by simp, fun a ha b hb => ?_⟩
 simp only [List.mem_singleton] at hb
 subst hb
 rw [gD hk hy] at ha h
 rw [List.pairwise_append] at h
 simp only [List.mem_append, List.mem_singleton] at ha
 rcases ha with ha | rfl
 · have := h.2.2 a ha y (by simp); omega
 · exact hl
theorem Xs {xs : List Int} {k : Nat} {x y : Int} (hk : 0 < k) (hy : xs[k - 1]? = some y) (hx : xs[k]? = some x) (hl : x ≤ y) : ¬ EN xs := fun h => by
 have h1 := (List.pairwise_iff_getElem.1 h) (k - 1) k (List.getElem?_eq_some_iff.1 hy).1 (List.getElem?_eq_some_iff.1 hx).1 (by omega)
 rw [(List.getElem?_eq_some_iff.1 hy).2, (List.getElem?_eq_some_iff.1 hx).2] at h1
 omega
theorem I8 {xs : List Int} (h : xs.length ≤ 1) : EN xs := by
 match xs, h with
 | [], _ => simp [EN]
 | [x], _ => simp [EN]
theorem U9 {R : Rr} {σ : Hp} {p : Option Addr} {n c : Nat} {xs : List Int} (hr : By .u32 σ p n xs) (h : R (.returned (.bool (decide (EN xs)))) σ) :
   Spec prog 118 #[.slice p n c] σ R := by
 refine CD.start ?_
 suffices H : ∀ d k : Nat, n - k = d → 0 < k → EN (xs.take k) → CD.JZ R p n c k σ from H (n - 1) 1 rfl (by omega) (I8 (by simp; omega))
 intro d
 induction d with
 | zero =>
   intro k hd hk BQ
   refine CD.CP ⟨fun Ag => by omega, fun _ => ?_⟩
   rw [List.take_of_length_le (by rw [hr.1]; omega)] at BQ
   simpa [BQ] using h
 | succ d ih =>
   intro k hd hk BQ
   refine CD.CP ⟨fun Ag => ?_, fun Fb => by omega⟩
   have DR : k < n := by omega
   obtain ⟨x, hx⟩ := hr.ex DR
   obtain ⟨y, hy⟩ := hr.ex (k := k - 1) (by omega)
   obtain ⟨b, o, rfl, hl⟩ := hr.at hx
   obtain ⟨b', o', he, S5⟩ := hr.at hy
   cases he
   have e : ((k : Int) - 1) = ((k - 1 : Nat) : Int) := by omega
   have hb := hr.big
   refine ⟨b, o, rfl, by omega, x, by simpa using hl, by unfold AN; omega, by omega, y, by rw [e]; simpa using S5, fun hle => ?_, fun hgt => ⟨Af DR hr.big, ih (k + 1) (by omega) (by omega) (Kk hk hy hx BQ (by omega))⟩⟩
   simpa [Xs hk hy hx hle] using h
theorem VA {R : Rr} {σ : Hp} {p : Option Addr} {n c : Nat} {xs : List Int} (hr : By .i64 σ p n xs) (h : R (.returned (.bool (decide (EN xs)))) σ) :
   Spec prog 119 #[.slice p n c] σ R := by
 refine DN.start ?_
 suffices H : ∀ d k : Nat, n - k = d → 0 < k → EN (xs.take k) → DN.JZ R p n c k σ from H (n - 1) 1 rfl (by omega) (I8 (by simp; omega))
 intro d
 induction d with
 | zero =>
   intro k hd hk BQ
   refine DN.CP ⟨fun Ag => by omega, fun _ => ?_⟩
   rw [List.take_of_length_le (by rw [hr.1]; omega)] at BQ
   simpa [BQ] using h
 | succ d ih =>
   intro k hd hk BQ
   refine DN.CP ⟨fun Ag => ?_, fun Fb => by omega⟩
   have DR : k < n := by omega
   obtain ⟨x, hx⟩ := hr.ex DR
   obtain ⟨y, hy⟩ := hr.ex (k := k - 1) (by omega)
   obtain ⟨b, o, rfl, hl⟩ := hr.at hx
   obtain ⟨b', o', he, S5⟩ := hr.at hy
   cases he
   have e : ((k : Int) - 1) = ((k - 1 : Nat) : Int) := by omega
   have hb := hr.big
   refine ⟨b, o, rfl, by omega, x, by simpa using hl, by unfold AN; omega, by omega, y, by rw [e]; simpa using S5, fun hle => ?_, fun hgt => ⟨Af DR hr.big, ih (k + 1) (by omega) (by omega) (Kk hk hy hx BQ (by omega))⟩⟩
   simpa [Xs hk hy hx hle] using h
def nk (m : Mem) : Prop := 0 ≤ m.id ∧ m.id < 16 ∧ 1 ≤ m.state ∧ m.state ≤ 3 ∧ 1 ≤ m.B4.length ∧ m.B4.length ≤ 64 ∧ EN m.B4
instance (m : Mem) : Decidable (nk m) := by unfold nk; infer_instance
def ids (ms : List Mem) : List Int := ms.map Mem.id
def LA (ms : List Mem) : Prop := (∀ m ∈ ms, nk m) ∧ EN (ids ms)
instance (ms : List Mem) : Decidable (LA ms) := by unfold LA; infer_instance
def PE (ms : List Mem) : Int := if LA ms then 0 else 130
theorem dO {R : Rr} {σ : Hp} {x : Int} (h : R (.returned (.bool (decide (0 ≤ x ∧ x < 16)))) σ) : Spec prog 117 #[.int .i64 x] σ R := by
 refine bu.start ⟨fun h0 => by simpa [h0] using h, fun h0 => by simpa [h0] using h⟩
end TwW
end
section
namespace TwW
open Go Tw Go.Proofs.Tryz
def Small (ms : List Mem) : Prop := ms.length ≤ 3518437208883 ∧ ∀ m ∈ ms, m.B4.length ≤ 35184372088832
theorem Lz {R : Rr} {σ : Hp} {e : Int} {p : Option Addr} {n c : Nat} {ms : List Mem} (hr : PI σ p n ms) (hs : Small ms) (h : R (.returned (.int .i64 (PE ms))) σ) :
   Spec prog 54 #[.agg #[.int .u64 e, .slice p n c]] σ R := by
 refine Spec.drop (Gp.start ?_)
 have hlen : n ≤ 3518437208883 := by have := hs.1; have := hr.1; omega
 have bad : ¬ LA ms → ∀ σ', Ext σ σ' → Drop R (.returned (.int .i64 130)) σ' := fun hn σ' hx => .mk hx (by simpa [PE, hn] using h)
 suffices H : ∀ d k : Nat, ∀ p3 c3 σ', n - k = d → k ≤ n → (∀ m ∈ ms.take k, nk m) → Ext σ σ' → AS .i64 (σ.new σ') p3 k c3 (ids (ms.take k)) → Gp.A5 (Drop R) p3 k c3 p n c n k σ' from fun _ => H n 0 _ _ _ rfl (by omega) (by simp) (.refl σ) AS.nil
 intro d
 induction d with
 | zero =>
   intro k p3 c3 σ' hd hk ho hx AZ
   refine Gp.AW ⟨fun Ag => by omega, fun _ => VA (AZ.rd.mono (Ext.Ah σ σ')) ⟨_, rfl, ?_, ?_⟩⟩
   all_goals rw [List.take_of_length_le (by rw [hr.1]; omega)] at ho ⊢
   · intro hf
     exact bad (fun Ap => by simp [Ap.2] at hf) _ hx
   · intro ht
     have : LA ms := ⟨ho, by simpa using ht⟩
     exact .mk hx (by simpa [PE, this] using h)
 | succ d ih =>
   intro k p3 c3 σ' hd hk ho hx AZ
   refine Gp.AW ⟨fun Ag => ?_, fun Fb => by omega⟩
   have DR : k < n := by omega
   obtain ⟨m, hm⟩ := hr.ex DR
   obtain ⟨b, o, q, j, c', rfl, hl, ht⟩ := hr.at' hm
   have Cf : m ∈ ms := List.mem_of_getElem? hm
   have hlj := ht.1
   refine ⟨b, o, rfl, by omega, m.id, m.state, q, j, c', by simpa using hl.mono hx, fun _ Kc lT => ?_⟩
   refine AS.Hy hx AZ (by omega) (fun p' c2 σ2 Bs Ay _ => ⟨p', k + 1, c2, rfl, dO ⟨_, rfl, ?_, ?_⟩⟩) lT
   · intro hf
     exact bad (fun Ap => by have := Ap.1 m Cf; simp [nk] at this hf; omega) _ Ay
   intro yj
   refine ⟨fun h1 => bad (fun Ap => by have := Ap.1 m Cf; simp [nk] at this; omega) _ Ay, fun h1 => ⟨fun h2 => bad (fun Ap => by have := Ap.1 m Cf; simp [nk] at this; omega) _ Ay, fun h2 => ⟨fun h3 => bad (fun Ap => by have := Ap.1 m Cf; simp [nk] at this; omega) _ Ay, fun h3 => ⟨fun h4 => bad (fun Ap => by have := Ap.1 m Cf; simp [nk] at this; omega) _ Ay, fun h4 => ?_⟩⟩⟩⟩
   refine U9 (ht.mono Ay) ⟨_, rfl, fun hf => bad (fun Ap => by have := Ap.1 m Cf; simp [nk] at this hf; exact hf this.2.2.2.2.2.2) _ Ay, fun XF => ⟨Af DR hr.big, ih (k + 1) _ _ _ (by omega) (by omega) ?_ Ay ?_⟩⟩
   · intro m' ME
     rw [List.take_add_one, hm] at ME
     simp only [Option.toList, List.mem_append, List.mem_singleton] at ME
     rcases ME with ME | rfl
     · exact ho m' ME
     · simp at yj XF
       exact ⟨by omega, by omega, by omega, by omega, by omega, by omega, XF⟩
   · have : ids (ms.take (k + 1)) = ids (ms.take k) ++ [m.id] := by simp [ids, List.take_add_one, hm]
     rw [this]; exact Bs
end TwW
end
section
namespace TwW
open Go Tw Go.Proofs.Tryz
theorem aT {σ σ1 : Hp} {q : Option Addr} {j c : Nat} {xs : List Int} {T Et ty : TypeId} {bs : Nat} [Jk prog T Et 1 bs] {Φ : Value → Hp → Prop} (hx : Ext σ σ1) (ht : By .u32 σ1 q j xs) (hb : j * bs ≤ 140737488355328)
   (hΦ : ∀ p' c' σ', AS .u32 (σ1.new σ') p' j c' xs → Ext σ1 σ' → Φ (.slice p' j c') σ') {b : Nat} (hn : σ1 b = none) :
   AJ prog (Builtin.append_ #[T, T] ty #[.slice (some ⟨b, 0, none⟩) 0 0, .slice q j c]) (σ1.set b (.cells #[] Et (0, 0))) Φ := by
 refine ER Own.empty ((GM.of_map ht).mono (.set hn)) CN.Cn (by rw [Nat.zero_add]; exact hb) fun p' c' σ' AZ EK => ?_
 have hq : ∀ a : Addr, (some (⟨b, 0, none⟩ : Addr)) = some a → σ1 a.block = none := fun a ha => by cases ha; exact hn
 rw [Nat.zero_add] at AZ ⊢
 exact hΦ p' c' σ' (Own.CO AZ (Bt hq EK (.set hn))) (CX hq EK (.set hn))
theorem Q6 {R : Rr} {σ : Hp} {e : Int} {p : Option Addr} {n c : Nat} {ms : List Mem} (hr : PI σ p n ms) (hs : Small ms)
   (h : ∀ p' c' σ', Ji (σ.new σ') p' n c' ms → Ext σ σ' → R (.returned (.agg #[.int .u64 e, .slice p' n c'])) σ') : Spec prog 186 #[.agg #[.int .u64 e, .slice p n c]] σ R := by
 refine IN.start ?_
 have hlen : n ≤ 3518437208883 := by have := hs.1; have := hr.1; omega
 suffices H : ∀ d k : Nat, ∀ p3 c3 σ', n - k = d → k ≤ n → Ext σ σ' → Ji (σ.new σ') p3 k c3 (ms.take k) → IN.A5 R 0 none 0 0 e p3 k c3 p n c n k σ' from fun _ _ _ => H n 0 _ _ _ rfl (by omega) (.refl σ) BA.nil
 intro d
 induction d with
 | zero =>
   intro k p3 c3 σ' hd hk hx AZ
   refine IN.AW ⟨fun Ag => by omega, fun _ => ?_⟩
   rw [List.take_of_length_le (by rw [hr.1]; omega)] at AZ
   have : k = n := by omega
   subst this
   exact h _ _ _ AZ hx
 | succ d ih =>
   intro k p3 c3 σ' hd hk hx AZ
   refine IN.AW ⟨fun Ag => ?_, fun Fb => by omega⟩
   have DR : k < n := by omega
   obtain ⟨m, hm⟩ := hr.ex DR
   obtain ⟨b, o, q, j, c', rfl, hl, ht⟩ := hr.at' hm
   have Cf : m ∈ ms := List.mem_of_getElem? hm
   have hlj := ht.1
   have hsj := hs.2 m Cf
   refine ⟨b, o, rfl, by omega, m.id, m.state, q, j, c', by simpa using hl.mono hx, fun _ Kc lT => ?_⟩
   refine aT hx (ht.mono hx) (by omega) (fun q' j' σ1 hq BJ => ⟨q', j, j', rfl, fun QI lU => ?_⟩) lT
   have lV : Ji (σ.new σ1) p3 k c3 (ms.take k) := AZ.mono E4.mono (Ext.BH BJ)
   have dP : ∀ a, p3 = some a → σ' a.block ≠ none := fun a ha => by
     have := AZ.block a ha
     cases hh : (σ.new σ') a.block with
     | none => exact absurd hh this
     | some oo => rw [(AO.1 hh).2]; simp
   have CV : Ext (σ'.new σ1) ((σ.new σ1).del p3) := Ext.Hx hx dP
   have he : E4 ((σ.new σ1).del p3) [.int .i64 m.id, .int .i64 m.state, .slice q' j j'] m := ⟨q', j, j', rfl, hq.rd.mono CV⟩
   refine BA.Hy E4.mono (hx.trans BJ) lV rfl Q5 he (by omega) (fun p' c2 σ2 Bs Ay => ⟨p', k + 1, c2, rfl, Af DR hr.big, ih (k + 1) _ _ _ (by omega) (by omega) Ay ?_⟩) lU
   rw [List.take_add_one, hm]; exact Bs
def place (ms : List Mem) (x : Int) : Int := match ms.findIdx? (fun m => decide (m.id = x)) with | some k => k | none => -1
theorem Q7 {ms : List Mem} {x : Int} (h : ∀ m ∈ ms, m.id ≠ x) : place ms x = -1 := by
 unfold place
 rw [List.findIdx?_eq_none_iff.2 (by simpa using h)]
theorem Q8 {ms : List Mem} {x : Int} {k : Nat} {m : Mem} (hm : ms[k]? = some m) (he : m.id = x) (h : ∀ m ∈ ms.take k, m.id ≠ x) : place ms x = k := by
 unfold place
 have Ag := (List.getElem?_eq_some_iff.1 hm).1
 have heq := (List.getElem?_eq_some_iff.1 hm).2
 rw [(List.findIdx?_eq_some_iff_getElem (i := k)).2 ⟨Ag, by rw [heq]; simpa using he, fun j hj => ?_⟩]
 have := h ms[j] (List.mem_iff_getElem.2 ⟨j, by simp; omega, by simp⟩)
 simpa using this
theorem Q9 : Enters prog 261 := fun args w => Go.Proofs.Tryz.call261 args w
theorem Xt {R : Rr} {σ : Hp} {e x : Int} {p : Option Addr} {n c : Nat} {ms : List Mem} (hr : PI σ p n ms) (h : R (.returned (.int .i64 (place ms x))) σ) :
   Spec prog 187 #[.agg #[.int .u64 e, .slice p n c], .int .i64 x] σ R := by
 refine Spec.drop (OP.start fun _ b3 Ur => ?_)
 have hx : Ext σ (σ.set b3 (.cells #[.int .i64 x] 3 (0, 0))) := .set Ur
 have Ij := hr.Q4 hx
 have oI : Hp.ld (σ.set b3 (.cells #[.int .i64 x] 3 (0, 0))) ⟨b3, 0, none⟩ = some (.int .i64 x) := by simp [Hp.ld, Hp.AA]
 dsimp only
 generalize hσ : (σ.set b3 (.cells #[.int .i64 x] 3 (0, 0))) = σ1 at *
 refine BN.start ?_
 suffices H : ∀ d k : Nat, n - k = d → k ≤ n → (∀ m ∈ ms.take k, m.id ≠ x) → BN.Ni (AB (Drop R) fun v σ1 => ∃ x8 : Int, v = .int .i64 x8 ∧ Drop R (.returned (.int .i64 x8)) σ1) p n c (.func (.func 261) #[] #[.pointer (some ⟨b3, 0, none⟩)]) n k σ1 from H n 0 rfl (by omega) (by simp)
 intro d
 induction d with
 | zero =>
   intro k hd hk BQ
   refine BN.D6 ⟨fun Ag => by omega, fun _ => ⟨_, rfl, .mk hx ?_⟩⟩
   rw [List.take_of_length_le (by rw [hr.1]; omega)] at BQ
   rw [← Q7 BQ]; exact h
 | succ d ih =>
   intro k hd hk BQ
   refine BN.D6 ⟨fun Ag => ?_, fun Fb => by omega⟩
   have DR : k < n := by omega
   obtain ⟨m, hm⟩ := Ij.ex DR
   obtain ⟨b, o, q, j, c', rfl, hl, ht⟩ := Ij.at' hm
   refine ⟨b, o, rfl, by omega, m.id, m.state, q, j, c', by simpa using hl, _, _, _, rfl, Q9, ?_⟩
   refine LW.start fun _ => ⟨x, oI, _, rfl, fun yj => ⟨_, rfl, .mk hx ?_⟩, fun hf => ⟨Af DR hr.big, ih (k + 1) (by omega) (by omega) ?_⟩⟩
   · have he : m.id = x := by simpa using yj
     rw [← Q8 hm he BQ]; exact h
   · have Ad : m.id ≠ x := by simpa using hf
     intro m' ME
     rw [List.take_add_one, hm] at ME
     simp only [Option.toList, List.mem_append, List.mem_singleton] at ME
     rcases ME with ME | rfl
     · exact BQ m' ME
     · exact Ad
theorem KN (ms : List Mem) (x : Int) : (place ms x = -1 ∧ ∀ m ∈ ms, m.id ≠ x) ∨ ∃ k m, place ms x = (k : Nat) ∧ ms[k]? = some m ∧ m.id = x ∧ ∀ m ∈ ms.take k, m.id ≠ x := by
 unfold place
 cases hf : ms.findIdx? (fun m => decide (m.id = x)) with
 | none => exact .inl ⟨rfl, by simpa using hf⟩
 | some k =>
   obtain ⟨hk, he, BQ⟩ := List.findIdx?_eq_some_iff_getElem.1 hf
   refine .inr ⟨k, ms[k], rfl, List.getElem?_eq_getElem hk, by simpa using he, fun m hm => ?_⟩
   obtain ⟨j, hj, rfl⟩ := List.mem_iff_getElem.1 hm
   have T7 : j < k := by simp at hj; omega
   have := BQ j T7
   simpa using this
end TwW
end
section
namespace TwW
open Go Tw Go.Proofs.Tryz
theorem lW (w : World) : (Go.sizeOf 70).run prog w = .ok 1 w := Go.Proofs.Tryz.sizeOf70 w
theorem gE {R : Rr} {σ : Hp} {x y : Int} (h : R (.returned (.bool (decide (x < y)))) σ) : Spec prog 328 #[.int .u32 x, .int .u32 y] σ R := by
 refine JI.start (Dr.start ⟨_, rfl, fun ht => ?_, fun _ => h⟩)
 simp at ht
def Asc (ys : List Int) (i : Nat) (p : Nat → Prop) : Prop := ∀ a b x y, a < b → b < i → p b → ys[a]? = some x → ys[b]? = some y → x ≤ y
theorem RA {R : Rr} {σ : Hp} {p : Option Addr} {n c : Nat} {xs : List Int} {Q : Int → Prop} (hQ : ∀ x ∈ xs, Q x) (ho : AS .u32 σ p n c xs)
   (h : ∀ σ' ys, (∀ y ∈ ys, Q y) → AS .u32 σ' p n c ys → Ext (σ.del p) (σ'.del p) → Asc ys n (fun _ => True) → R (.returned (.tuple #[])) σ') : Spec prog 322 #[.slice p n c, .int .i64 0, .int .i64 n] σ R := by
 have hb := ho.rd.big
 refine AL.start ⟨by unfold AN; omega, ?_⟩
 suffices H : ∀ d i : Nat, ∀ σ' ys, (∀ y ∈ ys, Q y) → n - i = d → 0 < i → AS .u32 σ' p n c ys → Ext (σ.del p) (σ'.del p) → Asc ys (min i n) (fun _ => True) → AL.Zm R p n c 0 n i σ' from
   H (n - 1) 1 σ xs hQ rfl (by omega) ho (Ext.refl _) (fun a b x y ff JW _ _ _ => by omega)
 intro d
 induction d with
 | zero =>
   intro i σ' ys hq hd hi AZ hx hs
   refine AL.Lq ⟨fun Ag => by omega, fun _ => h σ' ys hq AZ hx ?_⟩
   rwa [Nat.min_eq_right (by omega)] at hs
 | succ d ih =>
   intro i σ' ys hq hd hi AZ hx hs
   have CV : i < n := by omega
   rw [Nat.min_eq_left (by omega)] at hs
   refine AL.Lq ⟨fun _ => ?_, fun Fb => by omega⟩
   suffices H2 : ∀ j : Nat, ∀ σ' ys, (∀ y ∈ ys, Q y) → j ≤ i → AS .u32 σ' p n c ys → Ext (σ.del p) (σ'.del p) → Asc ys (i + 1) (fun b => b ≠ j) → AL.GO R p n c 0 n i j σ' from
     H2 i σ' ys hq (Nat.le_refl _) AZ hx (fun a b x y ff JW Ad => hs a b x y ff (by omega) trivial)
   intro j
   induction j with
   | zero =>
     intro σ' ys hq _ AZ hx hs
     refine AL.GP ⟨fun Ag => by omega, fun _ => ⟨Af CV hb, ih (i + 1) σ' ys hq (by omega) (by omega) AZ hx ?_⟩⟩
     rw [Nat.min_eq_left (by omega)]
     exact fun a b x y ff JW _ => hs a b x y ff JW (by omega)
   | succ j ihj =>
     intro σ' ys hq YZ AZ hx hs
     refine AL.GP ⟨fun _ => ?_, fun Fb => by omega⟩
     obtain ⟨x, hxv⟩ := AZ.rd.ex (k := j + 1) (by omega)
     obtain ⟨y, hyv⟩ := AZ.rd.ex (k := j) (by omega)
     have AOh := AZ.rd.1
     obtain ⟨b, o, hp, hl⟩ := AZ.rd.at hxv
     obtain ⟨b', o', hp', S5⟩ := AZ.rd.at hyv
     rw [hp] at hp'; cases hp'
     have e : ((j + 1 : Nat) : Int) - 1 = (j : Nat) := by omega
     have SU : ¬ x < y → Asc ys (min (i + 1) n) (fun _ => True) := by
       intro hf
       have Fb : y ≤ x := by omega
       rw [Nat.min_eq_left (by omega)]
       intro a b' u v ff hbi _ hu hv
       by_cases PA : b' = j + 1
       · subst PA
         rw [hxv] at hv; cases hv
         by_cases ha : a = j
         · subst ha; rw [hyv] at hu; cases hu; exact Fb
         · have := hs a j u y (by omega) (by omega) (by omega) hu hyv
           omega
       · exact hs a b' u v ff (by omega) PA hu hv
     refine ⟨b, o, hp, by omega, x, by simpa using hl, by unfold AN; omega, by omega, y, by rw [e]; simpa using S5, gE ⟨_, rfl, fun ht => ?swap, fun hf => ⟨Af CV hb, by rw [MN hp]; exact ih (i + 1) σ' ys hq (by omega) (by omega) AZ hx (SU (by simpa using hf))⟩⟩⟩
     case swap =>
       have Ag : x < y := by simpa using ht
       refine ⟨by unfold AN; omega, by unfold AN; omega, by omega, y, by rw [e]; simpa using S5, by omega, x, by simpa using hl, by omega, ?_⟩
       suffices H3 : ∀ σ2, AS .u32 σ2 p n c (ys.set (j + 1) y) → Ext (σ'.del p) (σ2.del p) → ((0 : Int) ≤ ((j + 1 : Nat) : Int) - 1 ∧ ((j + 1 : Nat) : Int) - 1 < ((n : Nat) : Int)) ∧ AJ prog (Instr.storeAt 70 (.pointer (some ⟨b, (o + Int.toNat (((j + 1 : Nat) : Int) - 1) * 1), none⟩)) (.int .u32 x)) σ2 (fun _ A0 => AN (((j + 1 : Nat) : Int) - 1) ∧ AL.GO R (some ⟨b, o, none⟩) n c 0 n i (((j + 1 : Nat) : Int) - 1) A0) by
         obtain ⟨b1, o1, hp1, lX⟩ := AS.ZA AZ (P := prog) (T := 70) (i := j + 1) (v := y) (by omega) lW H3
         rw [hp] at hp1; cases hp1
         simpa [In] using lX
       intro σ2 Ol Ay
       refine ⟨by omega, ?_⟩
       suffices H4 : ∀ σ3, AS .u32 σ3 p n c ((ys.set (j + 1) y).set j x) → Ext (σ2.del p) (σ3.del p) → AN (((j + 1 : Nat) : Int) - 1) ∧ AL.GO R (some ⟨b, o, none⟩) n c 0 n i (((j + 1 : Nat) : Int) - 1) σ3 by
         obtain ⟨b3, o3, ni, AE2⟩ := AS.ZA Ol (P := prog) (T := 70) (i := j) (v := x) (by omega) lW H4
         rw [hp] at ni; cases ni
         rw [e]; simpa [e] using AE2
       intro σ3 Td DJ
       have dummy : True := trivial
       · · refine ⟨by unfold AN; omega, ?_⟩
           rw [e, show (some (⟨b, o, none⟩ : Addr)) = p from hp.symm]
           have hq3 : ∀ z ∈ (ys.set (j + 1) y).set j x, Q z := fun z hz => by
             rcases List.mem_or_eq_of_mem_set hz with hz | rfl
             · rcases List.mem_or_eq_of_mem_set hz with hz | rfl
               · exact hq z hz
               · exact hq z (List.mem_of_getElem? hyv)
             · exact hq z (List.mem_of_getElem? hxv)
           refine ihj σ3 _ hq3 (by omega) Td ((hx.trans Ay).trans DJ) ?_
           intro a b' u v ff hbi Ad hu hv
           rw [List.getElem?_set, List.getElem?_set] at hu hv
           simp only [List.length_set] at hu hv
           have fact := fun a b u v h1 h2 h3 h4 h5 => hs a b u v h1 h2 h3 h4 h5
           by_cases PA : b' = j + 1
           · subst PA
             rw [if_neg (by omega), if_pos rfl, if_pos (by omega)] at hv
             cases hv
             by_cases ha : a = j
             · subst ha
               rw [if_pos rfl, if_pos (by omega)] at hu
               cases hu; omega
             · rw [if_neg (by omega), if_neg (by omega)] at hu
               exact fact a j u y (by omega) (by omega) (by omega) hu hyv
           · rw [if_neg (by omega), if_neg (by omega)] at hv
             by_cases ha : a = j
             · subst ha
               rw [if_pos rfl, if_pos (by omega)] at hu
               cases hu
               exact fact (a + 1) b' x v (by omega) (by omega) (by omega) hxv hv
             · rw [if_neg (by omega)] at hu
               by_cases ha1 : a = j + 1
               · subst ha1
                 rw [if_pos rfl, if_pos (by omega)] at hu
                 cases hu
                 exact fact j b' y v (by omega) (by omega) (by omega) hyv hv
               · rw [if_neg (by omega)] at hu
                 exact fact a b' u v ff (by omega) (by omega) hu hv
end TwW
end
section
namespace TwW
open Go Tw Go.Proofs.Tryz
theorem lY {R : Rr} {σ : Hp} {p : Option Addr} {n c : Nat} {xs : List Int} (hr : By .u8 σ p n xs) (h : ∀ x, 0 ≤ x ∧ x < 4294967296 → R (.returned (.int .u32 x)) σ) : Spec prog 56 #[.slice p n c] σ R := by
 refine Dt.start ?_
 suffices H : ∀ d k : Nat, ∀ x : Int, 0 ≤ x ∧ x < 4294967296 → n - k = d → k ≤ n → Dt.A5 R x p n c n k σ from H n 0 _ (by decide) rfl (by omega)
 intro d
 induction d with
 | zero =>
   intro k x hx hd hk
   exact Dt.AW ⟨fun Ag => by omega, fun _ => h x hx⟩
 | succ d ih =>
   intro k x hx hd hk
   refine Dt.AW ⟨fun Ag => ?_, fun Fb => by omega⟩
   obtain ⟨y, hy⟩ := hr.ex (k := k) (by omega)
   obtain ⟨b, o, rfl, hl⟩ := hr.at hy
   exact ⟨b, o, rfl, by omega, y, by simpa using hl, fun _ _ _ _ Nc qX => ⟨Af (by omega) hr.big, ih (k + 1) Nc (by rw [qX]; simp [IntKind.wrap, IntKind.bits, IntKind.signed]; omega) (by omega) (by omega)⟩⟩
end TwW
end
section
set_option maxRecDepth 100000
noncomputable section
namespace TwW
open Go Tw Go.Proofs.Tryz
variable [Ht] {R : Rr} {σ : Hp}

namespace B2
def K0 := f305.body.getD .skip
def K1 := cl K0
def K2 := cr K0
def K3 := cl K2
def K4 := cr K2
def K5 := cl K4
def K6 := cl K5
def K7 := cl K6
def K8 := cl K7
def K9 := cr K7
def Lp := cl K9
def TD := cl Lp
def MS := cr Lp
def QM := cl MS
def Zl := cl QM
def eP := cr QM
def TE := cr MS
def OE := cr K9
def Yf := cl OE
def UX := cl Yf
def TF := cr Yf
def hY := cl TF
def bz := cl hY
def Yg := cr hY
def eQ := cr TF
def WL := cr OE
def WM := cl WL
def WN := cl WM
def WO := cr WM
def WQ := cl WO
def jW := cl WQ
def hZ := cr WQ
def Yh := cr WO
def cA := cr WL
def iA := cl cA
def iB := cr cA
abbrev gl (R : Rr) : Gl := Gl.fn prog 305 134 R
def Ni (R : Rr) (p0 : Option Addr) (n0 c0 : Nat) (x1 x2 x3 : Int) (t8 t9 : Bool) (σ : Hp) : Prop := ∀ (J : Env), At (gl R) [.code K8, .code K9, .inBlock 1, .inLoop K6, .inBlock 0] (Ge J [(0, (.slice p0 n0 c0)), (1, (.int .i64 x1)), (2, (.int .i64 x2)), (3, (.int .i64 x3)), (8, (.bool t8)), (9, (.bool t9))]) [] σ
def QO (R : Rr) (p0 : Option Addr) (n0 c0 : Nat) (x1 x2 x3 : Int) (t8 t9 : Bool) (Dc : Int) (σ : Hp) : Prop := ∀ (J : Env), At (gl R) [.code iA, .code iB, .inBlock 1, .inLoop K6, .inBlock 0] (Ge J [(0, (.slice p0 n0 c0)), (1, (.int .i64 x1)), (2, (.int .i64 x2)), (3, (.int .i64 x3)), (8, (.bool t8)), (9, (.bool t9)), (10, (.int .i64 Dc))]) [] σ
theorem start {R : Rr} {p0 : Option Addr} {n0 c0 : Nat} {x1 x2 x3 : Int} {σ : Hp} (h : Ni R p0 n0 c0 x1 x2 x3 true true σ) : Spec prog 305 #[(.slice p0 n0 c0), (.int .i64 x1), (.int .i64 x2), (.int .i64 x3)] σ R := by
 refine Spec.Jp (fn := f305) (c := K0) func305 (by kernel_rfl) (Nat.le_of_ble_eq_true (by kernel_rfl)) (fun e he => ?_)
 refine At.oG (l := [(0, (.slice p0 n0 c0)), (1, (.int .i64 x1)), (2, (.int .i64 x2)), (3, (.int .i64 x3))]) ⟨he 0, he 1, he 2, he 3, trivial⟩ (fun J => ?_)
 show At (gl R) _ _ _ _
 refine At.s K1 K2 ?_
 refine At.rg 0 [0] ?_
 refine Seq.u 8 (.bool true) (Seq.done ?_)
 refine At.s K3 K4 ?_
 refine At.rg 1 [0] ?_
 refine Seq.u 9 (.bool true) (Seq.done ?_)
 refine At.b 0 K5 ?_
 refine At.loop (x := K6) (by kernel_rfl) ?_
 refine At.b 1 K7 ?_
 refine At.s K8 K9 ?_
 exact At.v [(0, (.slice p0 n0 c0)), (1, (.int .i64 x1)), (2, (.int .i64 x2)), (3, (.int .i64 x3)), (8, (.bool true)), (9, (.bool true))] (h _)
theorem D6 {R : Rr} {p0 : Option Addr} {n0 c0 : Nat} {x1 x2 x3 : Int} {t8 t9 : Bool} {σ : Hp} (h : AN (x2 - x1) ∧ (((x2 - x1) : Int) ≤ 12 → Spec prog 322 #[(.slice p0 n0 c0), (.int .i64 x1), (.int .i64 x2)] σ (AB R (fun v σ1 => v = (.tuple #[]) ∧ R (.returned (.tuple #[])) σ1))) ∧ (¬ (((x2 - x1) : Int) ≤ 12) → ((x3 : Int) = 0 → Spec prog 323 #[(.slice p0 n0 c0), (.int .i64 x1), (.int .i64 x2)] σ (AB R (fun v σ1 => v = (.tuple #[]) ∧ R (.returned (.tuple #[])) σ1))) ∧ (¬ ((x3 : Int) = 0) → (t8 = false → Spec prog 324 #[(.slice p0 n0 c0), (.int .i64 x1), (.int .i64 x2)] σ (AB R (fun v σ1 => v = (.tuple #[]) ∧ AN (x3 - 1) ∧ QO R p0 n0 c0 x1 x2 ((x3 - 1)) t8 t9 ((x2 - x1)) σ1))) ∧ (t8 = true → QO R p0 n0 c0 x1 x2 x3 t8 t9 ((x2 - x1)) σ)))) : Ni R p0 n0 c0 x1 x2 x3 t8 t9 σ := by
 intro J
 show At (gl R) _ _ _ _
 refine At.rg 2 [0, 1, 2, 3] ?_
 refine Seq.us [(19, .int .i64 x2), (20, .int .i64 x1)] ?_
 obtain ⟨hi, h⟩ := h
 refine Seq.z 21 (.binOp .sub 3 (.tmp 19) (.tmp 20) 3) 3 (.int .i64 (x2 - x1)) (Y.oC hi rfl rfl) ?_
 refine Seq.u 10 (.int .i64 (x2 - x1)) (Seq.done ?_)
 refine At.s Lp OE (At.s TD MS ?_)
 refine At.rg 3 [0, 1] ?_
 refine Seq.us [(22, .int .i64 (x2 - x1)), (23, .bool (decide (((x2 - x1) : Int) ≤ 12)))] (Seq.done ?_)
 cases hb : (decide (((x2 - x1) : Int) ≤ 12)) with
 | true =>
  replace h := h.1 (of_decide_eq_true hb)
  refine At.cT 23 QM TE ?_
  refine At.s Zl eP ?_
  refine At.rg 4 [0, 1, 2, 3] ?_
  refine Seq.us [(24, .slice p0 n0 c0), (25, .int .i64 x1), (26, .int .i64 x2)] ?_
  refine Seq.o ?_
  refine AV.cl (some 27) call322 (h.cont fun v σ1 h2 => ?_); replace h := h2; clear h2
  obtain ⟨rfl, h⟩ := h
  refine Seq.done ?_
  exact At.rt [] [] func305 rfl h
 | false =>
  replace h := h.2 (of_decide_eq_false hb)
  refine At.cF 23 QM TE ?_
  refine At.skip ?_
  refine At.s Yf WL (At.s UX TF ?_)
  refine At.rg 5 [0, 1] ?_
  refine Seq.us [(28, .int .i64 x3), (29, .bool (decide ((x3 : Int) = 0)))] (Seq.done ?_)
  cases hb : (decide ((x3 : Int) = 0)) with
  | true =>
   replace h := h.1 (of_decide_eq_true hb)
   refine At.cT 29 hY eQ ?_
   refine At.s bz Yg ?_
   refine At.rg 6 [0, 1, 2, 3] ?_
   refine Seq.us [(30, .slice p0 n0 c0), (31, .int .i64 x1), (32, .int .i64 x2)] ?_
   refine Seq.o ?_
   refine AV.cl (some 33) call323 (h.cont fun v σ1 h2 => ?_); replace h := h2; clear h2
   obtain ⟨rfl, h⟩ := h
   refine Seq.done ?_
   exact At.rt [] [] func305 rfl h
  | false =>
   replace h := h.2 (of_decide_eq_false hb)
   refine At.cF 29 hY eQ ?_
   refine At.skip ?_
   refine At.s WM cA (At.s WN WO ?_)
   refine At.rg 7 [0, 1] ?_
   refine Seq.us [(34, .bool t8), (35, .bool (!t8))] (Seq.done ?_)
   cases hb : (!t8) with
   | true =>
    replace h := h.1 (Tw.nt hb)
    refine At.cT 35 WQ Yh ?_
    refine At.s jW hZ ?_
    refine At.rg 8 [0, 1, 2, 3] ?_
    refine Seq.us [(36, .slice p0 n0 c0), (37, .int .i64 x1), (38, .int .i64 x2)] ?_
    refine Seq.o ?_
    refine AV.cl (some 39) call324 (h.cont fun v σ1 h2 => ?_); replace h := h2; clear h2
    obtain ⟨rfl, h⟩ := h
    refine Seq.done ?_
    refine At.rg 9 [0, 1, 2] ?_
    refine Seq.u 40 (.int .i64 x3) ?_
    obtain ⟨hi, h⟩ := h
    refine Seq.z 41 (.binOp .sub 3 (.tmp 40) (.const (.int .i64 1)) 3) 3 (.int .i64 (x3 - 1)) (Y.oC hi rfl rfl) ?_
    refine Seq.u 3 (.int .i64 (x3 - 1)) (Seq.done ?_)
    refine At.s iA iB ?_
    exact At.v [(0, (.slice p0 n0 c0)), (1, (.int .i64 x1)), (2, (.int .i64 x2)), (3, (.int .i64 (x3 - 1))), (8, (.bool t8)), (9, (.bool t9)), (10, (.int .i64 (x2 - x1)))] (h _)
   | false =>
    replace h := h.2 (Tw.nf hb)
    refine At.cF 35 WQ Yh ?_
    refine At.skip ?_
    refine At.s iA iB ?_
    exact At.v [(0, (.slice p0 n0 c0)), (1, (.int .i64 x1)), (2, (.int .i64 x2)), (3, (.int .i64 x3)), (8, (.bool t8)), (9, (.bool t9)), (10, (.int .i64 (x2 - x1)))] (h _)
end B2
end TwW
end
end
section
namespace TwW
open Go Tw Go.Proofs.Tryz
set_option maxRecDepth 100000 in
theorem lZ {R : Rr} {σ : Hp} {n : Nat} (hn : n < 256) (h : ∀ x, R (.returned (.int .i64 x)) σ) : Spec prog 113 #[.int .u64 n] σ R := by
 refine LZ.start (DP.start ⟨fun h1 => by omega, fun _ => DP.Fc ⟨fun h1 => by omega, fun _ => DP.Iv ⟨fun h1 => by omega, fun _ => DP.qB fun x hx => ?_⟩⟩⟩)
 have : x = (n : Int) := by rw [hx]; simp [IntKind.wrap, IntKind.bits, IntKind.signed]; omega
 subst this
 refine ⟨_, by omega, Array.getElem?_eq_getElem (by show Int.toNat (n : Int) < 256; omega), fun QL rI => ⟨?_, _, rfl, h _⟩⟩
 generalize hu : UInt8.toNat _ = u at rI
 have hu2 : u < 256 := by rw [← hu]; exact UInt8.toNat_lt _
 rw [rI, IntKind.wrap_i64]
 unfold AN
 omega
theorem gF {R : Rr} {σ : Hp} {p : Option Addr} {n c : Nat} {xs : List Int} {Q : Int → Prop} (hQ : ∀ x ∈ xs, Q x) (ho : AS .u32 σ p n c xs) (hn : n ≤ 12)
   (h : ∀ σ' ys, (∀ y ∈ ys, Q y) → AS .u32 σ' p n c ys → Ext (σ.del p) (σ'.del p) → Asc ys n (fun _ => True) → R (.returned (.tuple #[])) σ') : Spec prog 264 #[.slice p n c] σ R := by
 refine Gy.start fun x8 Rp => ?_
 have : x8 = (n : Int) := by rw [Rp]; simp [IntKind.wrap, IntKind.bits, IntKind.signed]; omega
 subst this
 refine lZ (by omega) fun x => ⟨x, rfl, B2.start (B2.D6 ⟨by unfold AN; omega, fun _ => ?_, fun hgt => by omega⟩)⟩
 refine RA hQ ho fun σ' ys h0 h1 h2 h3 => ⟨rfl, rfl, h σ' ys h0 h1 h2 h3⟩
theorem la {xs : List Int} (h : EN xs) {a b : Nat} {x y : Int} (ff : a < b) (hx : xs[a]? = some x) (hy : xs[b]? = some y) : x < y := by
 unfold EN at h
 have := (List.pairwise_iff_getElem (R := ((· < ·) : Int → Int → Prop))).1 h a b (List.getElem?_eq_some_iff.1 hx).1 (List.getElem?_eq_some_iff.1 hy).1 ff
 rwa [(List.getElem?_eq_some_iff.1 hx).2, (List.getElem?_eq_some_iff.1 hy).2] at this
theorem yk : ∀ z w, (zeroValue 70).run prog w = .ok z w → CN z.cells.toList := fun z w h => by
 rw [show (zeroValue 70).run prog w = _ from Go.Proofs.Tryz.zeroValue70 w] at h
 cases h
 intro u hu
 simp [Value.cells] at hu
 subst hu; rfl
theorem VB {R : Rr} {σ : Hp} {p : Option Addr} {n c : Nat} {xs : List Int} {Q : Int → Prop} (hQ : ∀ x ∈ xs, Q x) (ho : AS .u32 σ p n c xs) (hs : Asc xs n (fun _ => True)) (uW : 0 < n)
   (h : ∀ σ' m ys, (∀ y ∈ ys, Q y) → AS .u32 σ' p m c ys → Ext (σ.del p) (σ'.del p) → EN ys → 0 < m → m ≤ n → R (.returned (.slice p m c)) σ') : Spec prog 265 #[.slice p n c] σ R := by
 have hb := ho.rd.big
 have Rs := ho.rd.1
 refine AY.start ⟨fun Ag => h σ n xs hQ ho (Ext.refl _) (I8 (by omega)) uW (Nat.le_refl _), fun Fb => ?_⟩
 suffices H : ∀ d k : Nat, n - k = d → 0 < k → k ≤ n → EN (xs.take k) → AY.As R p n c k σ from H (n - 1) 1 rfl (by omega) (by omega) (I8 (by simp; omega))
 intro d
 induction d with
 | zero =>
   intro k hd hk Pn XF
   refine AY.BO ⟨fun Ag => by omega, fun _ => h σ n xs hQ ho (Ext.refl _) ?_ uW (Nat.le_refl _)⟩
   rwa [List.take_of_length_le (by omega)] at XF
 | succ d ih =>
   intro k hd hk Pn XF
   refine AY.BO ⟨fun Ag => ?_, fun Fb => by omega⟩
   have DR : k < n := by omega
   obtain ⟨x, hx⟩ := ho.rd.ex DR
   obtain ⟨y, hy⟩ := ho.rd.ex (k := k - 1) (by omega)
   obtain ⟨b, o, hp, hl⟩ := ho.rd.at hx
   obtain ⟨b', o', he, S5⟩ := ho.rd.at hy
   rw [hp] at he; cases he
   have e : ((k : Int) - 1) = ((k - 1 : Nat) : Int) := by omega
   have hyx : y ≤ x := hs (k - 1) k y x (by omega) DR trivial hy hx
   refine ⟨b, o, hp, by omega, x, by simpa using hl, by unfold AN; omega, by omega, y, by rw [e]; simpa using S5, fun heq => ⟨by omega, ?_⟩, fun Ad => ⟨Af DR hb, by rw [MN hp]; exact ih (k + 1) (by omega) (by omega) (by omega) (Kk hk hy hx XF (by omega))⟩⟩
   rw [MN hp]
   have yB : n ≤ c := ho.room.1
   suffices H2 : ∀ d2 i j : Nat, ∀ σ' zs, (∀ z ∈ zs, Q z) → n - i = d2 → i ≤ n → 0 < j → j < i → k < i → AS .u32 σ' p n c zs → Ext (σ.del p) (σ'.del p) → (∀ a, i ≤ a + 1 → zs[a]? = xs[a]?) → EN (zs.take j) → zs[j - 1]? = xs[i - 1]? →
       AY.Wa R p n c j (Dp p k c 1) (n - k) (c - k) ((i - k : Nat) : Int) σ' by
     have := H2 (n - (k + 1)) (k + 1) k σ xs hQ rfl (by omega) hk (by omega) (by omega) ho (Ext.refl _) (fun _ _ => rfl) XF (by rw [hy, show k + 1 - 1 = k by omega, hx]; simp; omega)
     simpa using this
   intro d2
   induction d2 with
   | zero =>
     intro i j σ' zs ym SD CV hj0 YZ hki AZ fG hag hrj JR
     refine AY.I0 ⟨fun Ag => by omega, fun _ => ⟨by omega, ?_⟩⟩
     obtain ⟨_, L, hC, hL⟩ := AZ.room
     refine dv (s := 1) (j := j) (L := L) (by simpa using hC) (by simp; omega) yk fun σ2 ws hws yn Ay => ⟨by omega, ?_⟩
     refine h σ2 j (zs.take j) (fun z hz => ym z (List.mem_of_mem_take hz)) ?_ (fG.trans Ay) hrj hj0 (by omega)
     have := yn.own (n := j) (by omega) (by omega)
     have hLl : L.length = c * 1 := hC.1
     suffices he : List.take (j * 1) (over L (j * 1) ws) = (zs.take j).map (.int .u32) by
       show Own 1 σ2 p j c ((zs.take j).map (.int .u32))
       rw [← he]; exact this
     unfold over
     rw [List.append_assoc, List.take_append_of_le_length (by simp; omega), List.take_take, Nat.min_self]
     rw [List.map_take, ← hL, List.take_take, Nat.mul_one, Nat.mul_one, Nat.min_eq_left (by omega)]
   | succ d2 rJ =>
     intro i j σ' zs ym SD CV hj0 YZ hki AZ fG hag hrj JR
     have hzl := AZ.rd.1
     refine AY.I0 ⟨fun Ag => ?_, fun Fb => by omega⟩
     have JQ : i < n := by omega
     obtain ⟨u, hu⟩ := AZ.rd.ex JQ
     obtain ⟨v, hv⟩ := AZ.rd.ex (k := i - 1) (by omega)
     obtain ⟨b1, o1, rK, SY⟩ := AZ.rd.at hu
     obtain ⟨b2, o2, XS, SF⟩ := AZ.rd.at hv
     rw [hp] at rK XS; cases rK; cases XS
     have huo : xs[i]? = some u := by rw [← hag i (by omega)]; exact hu
     have hvo : xs[i - 1]? = some v := by rw [← hag (i - 1) (by omega)]; exact hv
     have hvu : v ≤ u := hs (i - 1) i v u (by omega) JQ trivial hvo huo
     have dI : Dp p k c 1 = some ⟨b, o + k, none⟩ := by rw [hp]; simp [Dp, show c ≠ k by omega, MH]
     have e1 : o + k + (i - k) = o + i := by omega
     have e2 : ((i - k : Nat) : Int) - 1 = ((i - 1 - k : Nat) : Int) := by omega
     have e3 : o + k + (i - 1 - k) = o + (i - 1) := by omega
     have qn : Hp.ld σ' ⟨b, o + k + Int.toNat ((i - k : Nat) : Int) * 1, none⟩ = some (.int .u32 u) := by
       rw [Int.toNat_natCast, Nat.mul_one, e1]; simpa using SY
     have hlv : Hp.ld σ' ⟨b, o + k + Int.toNat (((i - k : Nat) : Int) - 1) * 1, none⟩ = some (.int .u32 v) := by
       rw [e2, Int.toNat_natCast, Nat.mul_one, e3]; simpa using SF
     refine ⟨b, o + k, dI, by omega, u, qn, by unfold AN; omega, by omega, v, hlv, fun Ad => ⟨by omega, u, qn, b, o, hp, by omega, ?_⟩, fun heq => AY.cV ⟨by unfold AN; omega, ?_⟩⟩
     · suffices H3 : ∀ σ2, AS .u32 σ2 p n c (zs.set j u) → Ext (σ'.del p) (σ2.del p) → AN ((j : Int) + 1) ∧ AY.pQ R (some ⟨b, o, none⟩) n c ((j : Int) + 1) (some ⟨b, o + k, none⟩) (n - k) (c - k) ((i - k : Nat) : Int) σ2 by
         obtain ⟨b3, o3, ni, lX⟩ := AS.ZA AZ (P := prog) (T := 70) (i := j) (v := u) (by omega) lW H3
         rw [hp] at ni; cases ni
         simpa using lX
       intro σ2 Ol Ay
       refine ⟨by unfold AN; omega, AY.cV ⟨by unfold AN; omega, ?_⟩⟩
       rw [← hp, ← dI]
       have ALE : ∀ z ∈ zs.set j u, Q z := fun z hz => by
         rcases List.mem_or_eq_of_mem_set hz with hz | rfl
         · exact ym z hz
         · exact ym z (List.mem_of_getElem? hu)
       have := rJ (i + 1) (j + 1) σ2 (zs.set j u) ALE (by omega) (by omega) (by omega) (by omega) (by omega) Ol (fG.trans Ay) (fun a ha => by rw [List.getElem?_set_ne (by omega)]; exact hag a (by omega)) ?_ ?_
       · have e4 : ((i + 1 - k : Nat) : Int) = ((i - k : Nat) : Int) + 1 := by omega
         rw [e4] at this; exact this
       · have hvj : (zs.set j u)[j - 1]? = some v := by rw [List.getElem?_set_ne (by omega), JR, hvo]
         have huj : (zs.set j u)[j]? = some u := by rw [List.getElem?_set_self (by omega)]
         refine Kk hj0 hvj huj ?_ (by omega)
         rw [List.take_set_of_le (by omega)]; exact hrj
       · rw [show j + 1 - 1 = j by omega, show i + 1 - 1 = i by omega, List.getElem?_set_self (by omega), huo]
     · rw [MN dI]
       have := rJ (i + 1) j σ' zs ym (by omega) (by omega) hj0 (by omega) (by omega) AZ fG (fun a ha => hag a (by omega)) hrj (by rw [JR, hvo, show i + 1 - 1 = i by omega, huo]; simp; omega)
       have e4 : ((i + 1 - k : Nat) : Int) = ((i - k : Nat) : Int) + 1 := by omega
       rw [e4] at this; exact this
end TwW
end
section
namespace TwW
open Go Tw Go.Proofs.Tryz
theorem Ext.lg {σ σ1 σ2 : Hp} {p : Option Addr} (h0 : Ext σ σ1) (hp : ∀ a, p = some a → σ a.block = none) (hx : Ext (σ1.del p) (σ2.del p)) : Ext σ σ2 := fun b o hb => by
 have h1 := h0 b o hb
 exact (A3.1 (hx b o (A3.2 ⟨fun a ha he => (by rw [he, hp a ha] at hb; cases hb), h1⟩))).2
theorem Xu {R : Rr} {σ : Hp} {x : Nat} (hx : x < 16)
   (h : ∀ p n c σ' ys, (∀ y ∈ ys, 0 ≤ y ∧ y < 4294967296) → By .u32 (σ.new σ') p n ys → Ext σ σ' → EN ys → 0 < n → n ≤ 4 → R (.returned (.slice p n c)) σ') : Spec prog 189 #[.int .i64 x] σ R := by
 refine Ft.start ?_
 suffices H : ∀ d k : Nat, ∀ p c σ' ys, (∀ y ∈ ys, 0 ≤ y ∧ y < 4294967296) → 4 - k = d → k ≤ 4 → Ext σ σ' → AS .u32 (σ.new σ') p k c ys → Ft.CC R x p k c k σ' from H 4 0 none 0 σ [] (by simp) rfl (by omega) (.refl σ) AS.nil
 intro d
 induction d with
 | zero =>
   intro k p c σ' ys hq hd hk EK AZ
   have hk4 : k = 4 := by omega
   subst hk4
   refine Ft.BS ⟨fun Ag => by omega, fun _ => ?_⟩
   have oJ := AZ.Dh
   refine gF hq (Own.mono (Ext.Ah σ σ') AZ) (by omega) fun σ2 zs ym Ol Ay ALF => ⟨rfl, ?_⟩
   refine VB ym Ol ALF (by omega) fun σ3 m ws hqw Td DJ XF hm hm4 => ⟨_, _, _, rfl, h _ _ _ _ ws hqw (AS.rd (Own.CO Td oJ)) ?_ XF hm hm4⟩
   exact Ext.lg EK oJ (Ay.trans DJ)
 | succ d ih =>
   intro k p c σ' ys hq hd hk EK AZ
   refine Ft.BS ⟨fun _ Ed ALG => ?_, fun Fb => by omega⟩
   have nj : Ed = (x : Int) := by rw [ALG]; simp [IntKind.wrap, IntKind.bits, IntKind.signed]; omega
   subst nj
   have aE : By .u8 σ' none 0 [] := Fj.nil
   refine DG aE (by omega) (by omega) fun p1 n1 c1 σ1 Fo rK => ⟨_, _, _, rfl, ?_⟩
   have SY := Fo.rd.1
   have := BV (x := x) (by omega)
   simp only [List.nil_append] at SY
   refine DG (Fo.rd.mono (Ext.Ah _ _)) (by omega) (by omega) fun p2 n2 c2 σ2 Bs XS => ⟨_, _, _, rfl, ?_⟩
   refine lY (Bs.rd.mono (Ext.Ah _ _)) fun t ht => ⟨t, rfl, fun Kc lT => ?_⟩
   refine AS.Hy ((EK.trans rK).trans XS) (Own.mono (Ext.BH (rK.trans XS)) AZ) (by omega) (fun p3 c3 σ3 Dd he3 _ => ⟨_, _, _, rfl, fun x8 Rp => ?_⟩) lT
   have h8 : x8 = ((k + 1 : Nat) : Int) := by rw [Rp]; simp [IntKind.wrap, IntKind.bits, IntKind.signed]; omega
   subst h8
   exact ih (k + 1) p3 c3 σ3 _ (fun y hy => by
     rcases List.mem_append.1 hy with hy | hy
     · exact hq y hy
     · simp at hy; subst hy; exact ht) (by omega) (by omega) he3 Dd
end TwW
end
section
namespace TwW
open Go Tw Go.Proofs.Tryz
theorem E4.one (σ : Hp) (vs : List Value) (m : Mem) (h : E4 σ vs m) : CN vs := by
 obtain ⟨p, n, c, rfl, _⟩ := h
 exact Q5
theorem lh {L vs : List Value} {i n : Nat} (hl : (n + 1) * 3 ≤ L.length) (hi : i ≤ n) (hv : vs.length = 3) :
   List.take ((n + 1) * 3) (over (over L ((i + 1) * 3) ((L.take (n * 3)).drop (i * 3))) (i * 3) vs) = (L.take (n * 3)).take (i * 3) ++ vs ++ (L.take (n * 3)).drop (i * 3) := by
 have hd : ((L.take (n * 3)).drop (i * 3)).length = n * 3 - i * 3 := by simp; omega
 refine List.ext_getElem? fun k => ?_
 unfold over
 rw [List.getElem?_take, List.take_take, Nat.min_eq_left (by omega)]
 have ht : ∀ M : List Value, (n + 1) * 3 ≤ M.length → (M.take (i * 3)).length = i * 3 := fun M h => by rw [List.length_take]; omega
 have hM : (List.take ((i + 1) * 3) L ++ List.drop (i * 3) (List.take (n * 3) L) ++ List.drop ((i + 1) * 3 + (List.drop (i * 3) (List.take (n * 3) L)).length) L).length = L.length := by
   simp only [List.length_append, List.length_take, List.length_drop]; omega
 by_cases hk : k < (n + 1) * 3
 · rw [if_pos hk]
   by_cases h1 : k < i * 3
   · rw [List.append_assoc, List.getElem?_append_left (by rw [ht _ (by omega)]; omega), List.getElem?_take, if_pos h1, List.append_assoc, List.getElem?_append_left (by rw [List.length_take]; omega), List.getElem?_take, if_pos (by omega),
       List.append_assoc, List.getElem?_append_left (by rw [List.length_take]; omega), List.getElem?_take, if_pos h1]
   · by_cases h2 : k < i * 3 + 3
     · rw [List.append_assoc, List.getElem?_append_right (by rw [ht _ (by omega)]; omega), ht _ (by omega), List.getElem?_append_left (by omega),
         List.append_assoc, List.getElem?_append_right (by rw [List.length_take]; omega), List.length_take, Nat.min_eq_left (by omega), List.getElem?_append_left (by omega)]
     · rw [List.getElem?_append_right (by rw [List.length_append, ht _ (by omega)]; omega), List.length_append, ht _ (by omega), hv, List.getElem?_drop, show i * 3 + 3 + (k - (i * 3 + 3)) = k by omega,
         List.append_assoc, List.getElem?_append_right (by rw [List.length_take]; omega), List.length_take, Nat.min_eq_left (by omega), List.getElem?_append_left (by omega),
         List.getElem?_append_right (by rw [List.length_append, List.length_take]; omega), List.length_append, List.length_take, Nat.min_eq_left (by omega), hv, show (i + 1) * 3 = i * 3 + 3 by omega]
 · rw [if_neg hk, eq_comm, List.getElem?_eq_none]
   simp only [List.length_append, List.length_take, List.length_drop]; omega
end TwW
namespace TwW
open Go Tw Go.Proofs.Tryz
theorem yo (args : Array Value) (w : World) : (callFunc 262 args).run prog w = ((Extern.SlicesOverlaps.overlaps #[39, 39] #[4] args).run prog w).andThen (fun v w => .ok (.value v) w) :=
 run_callFunc_extern Go.Proofs.Tryz.func262 (by kernel_rfl) (by kernel_rfl) (by kernel_rfl) (e := Extern.SlicesOverlaps.overlaps #[39, 39] #[4]) (by kernel_rfl) args w
theorem gG {L cs vs rest : List Value} {i n : Nat} (hl : (n + 1) * 3 ≤ L.length) (hi : i ≤ n) (hv : vs.length = 3) (hc : L.take (i * 3) = cs) (hr : rest.length = (n - i) * 3) :
   List.take ((n + 1) * 3) (over (over L (i * 3) vs) ((i + 1) * 3) rest) = cs ++ vs ++ rest := by
 have jL : cs.length = i * 3 := by rw [← hc, List.length_take]; omega
 have h1 : (over L (i * 3) vs).length = L.length := N7 (by omega)
 have h2 : List.take ((i + 1) * 3) (over L (i * 3) vs) = cs ++ vs := by
   unfold over
   rw [hc, List.take_append_of_le_length (by rw [List.length_append]; omega), List.take_of_length_le (by rw [List.length_append]; omega)]
 generalize over L (i * 3) vs = M at *
 unfold over
 rw [h2, List.take_append_of_le_length (by simp only [List.length_append]; omega), List.take_of_length_le (by simp only [List.length_append]; omega)]
theorem Xv {R : Rr} {σ : Hp} {p : Option Addr} {n c i bv : Nat} {ms : List Mem} {vs : List Value} {Tv : TypeId} {x : Mem} (ho : Ji σ p n c ms) (hi : i ≤ n) (hn : n ≤ 1048576)
   (hv : σ bv = some (.cells vs.toArray Tv (0, 0))) (hpv : ∀ a, p = some a → a.block ≠ bv) (he : E4 (σ.del p) vs x)
   (h : ∀ p' c' σ', Ji σ' p' (n + 1) c' (ms.take i ++ [x] ++ ms.drop i) → Ext (σ.del p) (σ'.del p') → R (.returned (.slice p' (n + 1) c')) σ') :
   Spec prog 188 #[.slice p n c, .int .i64 i, .slice (some ⟨bv, 0, none⟩) 1 1] σ R := by
 obtain ⟨hlen, cs, AZ, uY⟩ := ho
 obtain ⟨gy, L, hC, hL⟩ := AZ.room
 have hb := AZ.2.1
 have jL := AZ.1
 have hLl := hC.1
 have hvl : vs.length = 3 := by obtain ⟨q, k, c, rfl, _⟩ := he; rfl
 have hv1 : CN vs := E4.one _ _ _ he
 have hvr : ∀ σ' : Hp, σ' bv = some (.cells vs.toArray Tv (0, 0)) → GM 3 σ' (some ⟨bv, 0, none⟩) 1 vs := fun σ' h => ⟨by rw [hvl], by omega, .inr ⟨bv, 0, rfl, Dz.of fun j v hj => by simp [Hp.ld, h, hj]⟩⟩
 have hvd : (σ.del p) bv = some (.cells vs.toArray Tv (0, 0)) := A3.2 ⟨fun a ha he => hpv a ha he.symm, hv⟩
 have fin : ∀ p' c' σ' cells, Own 3 σ' p' (n + 1) c' cells → cells = cs.take (i * 3) ++ vs ++ cs.drop (i * 3) → Ext (σ.del p) (σ'.del p') → R (.returned (.slice p' (n + 1) c')) σ' := by
   rintro p' c' σ' _ lj rfl hx
   refine h p' c' σ' ⟨by simp only [List.length_append, List.length_take, List.length_drop, List.length_singleton]; omega, _, lj, ?_⟩ hx
   exact (((uY.take i).append (Ch.one hvl he)).append (uY.drop i)).mono E4.mono hx
 refine Fu.start ⟨by omega, fun h0 => by omega, fun _ => ⟨fun dx => ?_, fun vM => ⟨by unfold AN; omega, fun DX => ?_, fun DX => ?_⟩⟩⟩
 · -- at the end
   have CV : i = n := by omega
   refine ER AZ (hvr σ hv) hv1 (by omega) fun p' c' σ' Em Cm => ⟨p', n + 1, c', rfl, fin p' c' σ' _ Em ?_ Cm⟩
   rw [CV, ← jL, List.take_length, List.drop_length, List.append_nil]
 · -- no room
   refine ⟨by omega, by unfold AN; omega, by unfold AN; omega, ?_⟩
   have e1 : (((n : Nat) : Int) + ((1 : Nat) : Int)) - (i : Int) = ((n + 1 - i : Nat) : Int) := by omega
   have e2 : (((n : Nat) : Int) + 1) - (i : Int) = ((n + 1 - i : Nat) : Int) := by omega
   simp only [Int.toNat_natCast, e1, e2]
   refine UC Go.Proofs.Tryz.underlying3 (AZ.take hi) (by omega) (by omega) fun p' c' L' σ1 hC1 fQ hL1 BJ iU hf => ?_
   have CV : i + (n + 1 - i) = n + 1 := by omega
   rw [CV] at fQ ⊢
   refine ⟨p', n + 1, c', rfl, by omega, ?_⟩
   refine MI (k := 1) hC1 (by omega) (by omega) (hvr σ1 (BJ _ _ hv)) hv1 fun σ2 yn Ay => ⟨_, rfl, by unfold AN; omega, by omega, by omega, ?_⟩
   have e3 : Int.toNat ((i : Int) + ((1 : Nat) : Int)) = i + 1 := by omega
   have e4 : Int.toNat ((i : Int) + 1) = i + 1 := by omega
   simp only [e3, e4]
   have aA : Ext σ σ2 := (iU.trans Ay).trans (Ext.F9 _ _)
   have HF := (hC.rd (i := i) (n := n - i) (by omega) (by omega)).mono aA
   have Jc : (L.drop (i * 3)).take ((n - i) * 3) = cs.drop (i * 3) := by
     rw [← hL, List.drop_take]; congr 1; omega
   rw [Jc] at HF
   have Ro : CN (cs.drop (i * 3)) := fun u hu => uY.oK E4.one (by decide) u (List.mem_of_mem_drop hu)
   refine MI (k := n - i) yn (by omega) (by omega) HF Ro fun σ3 hC3 DJ => ⟨_, rfl, ?_⟩
   have Td := hC3.own (n := n + 1) (by omega) (by omega)
   have SY : (n + 1) * 3 ≤ L'.length := by rw [hC1.1]; exact Nat.mul_le_mul_right 3 fQ
   have hdl : (cs.drop (i * 3)).length = (n - i) * 3 := by rw [List.length_drop, jL]; omega
   rw [gG SY hi hvl hL1 hdl] at Td
   refine fin p' c' σ3 _ Td rfl ?_
   exact (Ext.F9 σ p).trans ((iU.trans Ay).trans DJ)
 · -- room
   have yp : n + 1 ≤ c := by omega
   refine ⟨by unfold AN; omega, by omega, by unfold AN; omega, by omega, ?_⟩
   have e3 : Int.toNat ((i : Int) + ((1 : Nat) : Int)) = i + 1 := by omega
   have e4 : Int.toNat ((i : Int) + 1) = i + 1 := by omega
   have e5 : Int.toNat ((n : Int) + ((1 : Nat) : Int)) = n + 1 := by omega
   have e6 : Int.toNat ((n : Int) + 1) = n + 1 := by omega
   simp only [e3, e4, e5, e6, Int.toNat_natCast]
   refine ⟨false, ?_, fun _ => ⟨by unfold AN; omega, by omega, by omega, ?_⟩, fun hf => by cases hf⟩
   · rcases hC.2 with ⟨_, hc0⟩ | ⟨b, o, arr, T, rfl, hblk, EU, _⟩
     · omega
     · have Rn : ∃ o', Dp (some ⟨b, o, none⟩) (i + 1) c 3 = some ⟨b, o', none⟩ := by
         unfold Dp
         split
         · exact ⟨o, rfl⟩
         · exact ⟨o + (i + 1) * 3, by simp [MH]⟩
       obtain ⟨o', Rn⟩ := Rn
       exact Vi (T := 39) (tR := 4) Go.Proofs.Tryz.func262 (yo _) rfl Rn hv hblk (fun e => hpv _ rfl e.symm) (by omega)
   · have HF := hC.rd (i := i) (n := n - i) (by omega) (by omega)
     have Jc : (L.drop (i * 3)).take ((n - i) * 3) = (L.take (n * 3)).drop (i * 3) := by
       rw [List.drop_take]; congr 1; omega
     rw [Jc] at HF
     have Ro : CN ((L.take (n * 3)).drop (i * 3)) := by
       rw [hL]; exact fun u hu => uY.oK E4.one (by decide) u (List.mem_of_mem_drop hu)
     refine MI (k := n - i) hC (by omega) (by omega) HF Ro fun σ1 hC1 BJ => ⟨_, rfl, by omega, ?_⟩
     have hv2 : σ1 bv = some (.cells vs.toArray Tv (0, 0)) := Ext.F9 _ _ _ _ (BJ _ _ hvd)
     refine MI (k := 1) hC1 (by omega) (by omega) (hvr σ1 hv2) hv1 fun σ2 yn Ay => ⟨_, rfl, ?_⟩
     have Ol := yn.own (n := n + 1) (by omega) (by omega)
     rw [lh (by rw [hLl]; exact Nat.mul_le_mul_right 3 yp) hi hvl, hL] at Ol
     exact fin p c σ2 _ Ol rfl (BJ.trans Ay)
end TwW
end
section
namespace TwW
open Go Tw Go.Proofs.Tryz
theorem Hp.set_comm {σ : Hp} {a b : Nat} {o u : Obj} (h : a ≠ b) : (σ.set a o).set b u = (σ.set b u).set a o := by
 funext k
 simp only [Hp.set]
 by_cases h1 : k = a
 · subst h1; simp [h]
 · simp [h1]
theorem Ac {σ : Hp} {b o : Nat} {cs : Array Value} {t : TypeId} {v : Value} (h : cs[o]? = some v) : Hp.ld (σ.set b (.cells cs t (0, 0))) ⟨b, o, none⟩ = some v := by
 simp [Hp.ld, Hp.AA, h]
theorem Te : ∀ (xs : List Int) (N : Nat) (a : Int), EN xs → (∀ x ∈ xs, a ≤ x ∧ x < a + N) → xs.length ≤ N
 | [], _, _, _, _ => Nat.zero_le _
 | x :: xs, 0, a, _, h => by have := h x (List.mem_cons_self ..); omega
 | x :: xs, N + 1, a, hr, h => by
   have hx := h x (List.mem_cons_self ..)
   unfold EN at hr
   rw [List.pairwise_cons] at hr
   have := Te xs N (a + 1) hr.2 (fun y hy => by have h1 := h y (List.mem_cons_of_mem _ hy); have h2 := hr.1 y hy; push_cast at h1; omega)
   simp; omega
theorem LA.len {ms : List Mem} (h : LA ms) : ms.length ≤ 16 := by
 have := Te (ids ms) 16 0 h.2 (fun x hx => by
   obtain ⟨m, hm, rfl⟩ := List.mem_map.1 hx
   have := h.1 m hm
   exact ⟨this.1, by have := this.2.1; omega⟩)
 simpa [ids] using this
theorem LA.small {ms : List Mem} (h : LA ms) : Small ms := ⟨by have := h.len; omega, fun m hm => by have := (h.1 m hm).2.2.2.2.2.1; omega⟩
def lk (ms : List Mem) (x code : Int) (EO : List Mem) : Prop :=
 (place ms x ≠ -1 ∧ code = 131) ∨ (place ms x = -1 ∧ code = 0 ∧ ∃ i t, i ≤ ms.length ∧ (∀ m ∈ ms.take i, m.id < x) ∧ (∀ m, ms[i]? = some m → ¬ m.id < x) ∧ EN t ∧ 1 ≤ t.length ∧ t.length ≤ 4 ∧ (∀ y ∈ t, 0 ≤ y ∧ y < 4294967296) ∧ EO = ms.take i ++ [⟨x, 1, t⟩] ++ ms.drop i)
def Xw (f t : Int) (ms : List Mem) (x code : Int) (EO : List Mem) : Prop :=
 (place ms x = -1 ∧ code = 131) ∨ ∃ (k : Nat) (m : Mem), place ms x = k ∧ ms[k]? = some m ∧ ((m.state ≠ f ∧ code = 132) ∨ (m.state = f ∧ code = 0 ∧ EO = ms.set k { m with state := t }))
abbrev cell (τ : Hp) (b : Nat) (e : Int) (p : Option Addr) (n c : Nat) : Hp := τ.set b (.cells #[.int .u64 e, .slice p n c] 41 (0, 0))
def yq (f : Nat) (C : List Mem → Int → Int → List Mem → Prop) : Prop := ∀ (R : Rr) (τ : Hp) (b : Nat) (e x : Int) (p : Option Addr) (n c : Nat) (ms : List Mem), Ji τ p n c ms → τ b = none → LA ms → 0 ≤ x → x < 16 →
 (∀ code EO, C ms x code EO → code ≠ 0 → R (.returned (.int .i64 code)) (cell τ b e p n c)) →
 (∀ p' n' c' τ' EO, C ms x 0 EO → Ji τ' p' n' c' EO → Ext (τ.del p) (τ'.del p') → τ' b = none → R (.returned (.int .i64 0)) (cell τ' b e p' n' c')) →
 Spec prog f #[.agg #[.pointer (some ⟨b, 0, none⟩), .int .i64 x, .int .i64 (place ms x)]] (cell τ b e p n c) R
theorem AE5 (w : World) : (Go.sizeOf 39).run prog w = .ok 1 w := Go.Proofs.Tryz.sizeOf39 w
theorem Xx (w : World) : (Go.sizeOf 3).run prog w = .ok 1 w := Go.Proofs.Tryz.sizeOf3 w
theorem aU {τ : Hp} {b : Nat} {e : Int} {p q : Option Addr} {n c m d : Nat} {Φ : Unit → Hp → Prop} (h : Φ () (cell τ b e q m d)) :
   AJ prog (Instr.storeAt 39 (.pointer (some ⟨b, 0 + 1, none⟩)) (.slice q m d)) (cell τ b e p n c) Φ := by
 refine AJ.store AE5 (Hp.AA _ _ _) rfl (by simp) (by simp [Value.cells, Value.oneCell']) ?_
 simp only [cell, Hp.set_set]
 exact h
theorem ll {ms : List Mem} {k : Nat} {m : Mem} (h : ms[k]? = some m) : k < ms.length := (List.getElem?_eq_some_iff.1 h).1
theorem Ji.state {τ : Hp} {p : Option Addr} {n c k : Nat} {ms : List Mem} {m : Mem} {t : Int} {Ψ : Hp → Prop} (ho : Ji τ p n c ms) (hm : ms[k]? = some m)
   (h : ∀ τ', Ji τ' p n c (ms.set k { m with state := t }) → Ext (τ.del p) (τ'.del p) → Ψ τ') :
   ∃ b o, p = some ⟨b, o, none⟩ ∧ AJ prog (Instr.storeAt 3 (.pointer (some ⟨b, o + k * 3 + 1, none⟩)) (.int .i64 t)) τ (fun _ => Ψ) := by
 obtain ⟨hlen, cs, AZ, uY⟩ := ho
 have hk : k < n := by rw [← hlen]; exact (List.getElem?_eq_some_iff.1 hm).1
 have AOj := AZ
 obtain ⟨h1, h0, h2⟩ := AZ
 rcases h2 with ⟨_, hn, _⟩ | ⟨b, o, arr, T', rfl, hblk, gy, EU, Hv⟩
 · omega
 · have hle : (k + 1) * 3 ≤ c * 3 := by omega
   refine ⟨b, o, rfl, AJ.store Xx hblk rfl (by omega) (by simp [Value.cells, Value.oneCell']) (h _ ⟨by simp [hlen], cs.set (k * 3 + 1) (.int .i64 t), ⟨by simpa using h1, h0, .inr ⟨b, o, _, T', rfl, Hp.AA _ _ _, gy, by rw [De]; exact EU, ?_⟩⟩, ?_⟩ (by rw [Hp.Bg]; exact Ext.refl _))⟩
   · show ((DU arr (o + k * 3 + 1) [.int .i64 t]).toList.drop o).take (n * 3) = _
     rw [show o + k * 3 + 1 = o + (k * 3 + 1) by omega, Pu (by simp; omega) (by omega), Hv]
     unfold over
     rw [List.set_eq_take_append_cons_drop, if_pos (by omega)]
     simp
   · rw [Hp.Bg]
     refine ⟨by simp [uY.1], fun i y hy => ?_⟩
     rw [List.getElem?_set] at hy
     have yQ : k < ms.length := by omega
     obtain ⟨q, j, d, hv, hq⟩ := uY.2 k m hm
     by_cases hik : k = i
     · subst hik
       rw [if_pos rfl, if_pos yQ] at hy
       cases hy
       refine ⟨q, j, d, ?_, hq⟩
       have hd : (cs.drop (k * 3)).take 3 = [.int .i64 m.id, .int .i64 m.state, .slice q j d] := hv
       have : ((cs.set (k * 3 + 1) (.int .i64 t)).drop (k * 3)).take 3 = ((cs.drop (k * 3)).take 3).set 1 (.int .i64 t) := by
         rw [List.drop_set, if_neg (by omega), List.take_set]
         congr 1; omega
       rw [this, hd]; rfl
     · rw [if_neg hik] at hy
       have := uY.2 i y hy
       have he : ((cs.set (k * 3 + 1) (.int .i64 t)).drop (i * 3)).take 3 = (cs.drop (i * 3)).take 3 := by
         rw [List.drop_set]
         split
         · rfl
         · rw [List.take_set_of_le (by omega)]
       rw [he]; exact this
theorem gH (f t : Int) : ∀ (R : Rr) (τ : Hp) (b : Nat) (e x : Int) (p : Option Addr) (n c : Nat) (ms : List Mem), Ji τ p n c ms → τ b = none →
 (∀ code EO, Xw f t ms x code EO → code ≠ 0 → R (.returned (.int .i64 code)) (cell τ b e p n c)) →
 (∀ τ' EO, Xw f t ms x 0 EO → Ji τ' p n c EO → Ext (τ.del p) (τ'.del p) → τ' b = none → R (.returned (.int .i64 0)) (cell τ' b e p n c)) →
 Spec prog 190 #[.agg #[.pointer (some ⟨b, 0, none⟩), .int .i64 x, .int .i64 (place ms x)], .int .i64 f, .int .i64 t] (cell τ b e p n c) R := by
 intro R τ b e x p n c ms ho hb Ql Ap
 refine IP.start fun _ => ⟨fun Ag => ?_, fun Fb => ?_⟩
 · rcases KN ms x with ⟨h1, _⟩ | ⟨k, m, hk, _⟩
   · exact Ql 131 ms (.inl ⟨h1, rfl⟩) (by decide)
   · omega
 · rcases KN ms x with ⟨h1, _⟩ | ⟨k, m, hk, hm, hid, BQ⟩
   · omega
   · have hx : Ext τ (cell τ b e p n c) := .set hb
     obtain ⟨b2, o2, q, j, d, hp, hl, _⟩ := PI.at' (BA.rd E4.mono ho) hm
     have hl := hl.mono hx
     have Pn : k < n := by rw [← ho.1]; exact (List.getElem?_eq_some_iff.1 hm).1
     rw [hk]
     refine ⟨b, 0, rfl, p, n, c, Ac rfl, b2, o2, hp, by omega, m.state, by simpa using hl.2.1, fun Ad => ?_, fun heq => ?_⟩
     · exact Ql 132 ms (.inr ⟨k, m, hk, hm, .inl ⟨Ad, rfl⟩⟩) (by decide)
     · refine ⟨p, n, c, Ac rfl, b2, o2, hp, by omega, ?_⟩
       simp only [Int.toNat_natCast]
       refine AJ.B5 hb ?_
       obtain ⟨b3, o3, ni, lX⟩ := Ji.state ho hm (t := t) (Ψ := fun τ' => τ' b = none → R (.returned (.int .i64 0)) (cell τ' b e p n c)) (fun τ' Em Cm hn => Ap τ' _ (.inr ⟨k, m, hk, hm, .inr ⟨by omega, rfl, rfl⟩⟩) Em Cm hn)
       rw [hp] at ni; cases ni
       exact lX
theorem Xy : yq 102 (Xw 1 2) := fun R τ b e x p n c ms ho hb _ _ _ Ql Ap =>
 Fq.start fun _ => (gH 1 2 _ τ b e x p n c ms ho hb (fun code EO hc Ad => ⟨_, rfl, Ql code EO hc Ad⟩) fun τ' EO hc Em hx hn => ⟨_, rfl, Ap p n c τ' EO hc Em hx hn⟩)
theorem E4.mk {σ : Hp} {p : Option Addr} {n c : Nat} {x s : Int} {t : List Int} (h : By .u32 σ p n t) : E4 σ [.int .i64 x, .int .i64 s, .slice p n c] ⟨x, s, t⟩ := ⟨p, n, c, rfl, h⟩
theorem rL : yq 101 lk := fun R τ b e x p n c ms ho hb hms aF qX Ql Ap => by
 have hlen := hms.len
 have hn := ho.1
 have HF := BA.rd E4.mono ho
 have hxc : Ext τ (cell τ b e p n c) := .set hb
 obtain ⟨x, rfl⟩ : ∃ y : Nat, x = y := ⟨x.toNat, by omega⟩
 refine C0.start fun _ => ⟨fun Fb => Ql 131 ms (.inl ⟨by omega, rfl⟩) (by decide), fun Ag => ?_⟩
 have uZ : place ms x = -1 := by rcases KN ms x with ⟨h1, _⟩ | ⟨k, m, hk, _⟩ <;> omega
 rw [uZ]
 have fin : ∀ i : Nat, i ≤ n → (∀ m ∈ ms.take i, m.id < x) → (∀ m, ms[i]? = some m → ¬ m.id < x) →
     ∃ Rk : Option Addr, ∃ n37 : Nat, ∃ c37 : Nat, Hp.ld (cell τ b e p n c) ⟨b, (0 + 1), none⟩ = some (.slice Rk n37 c37) ∧ Spec prog 189 #[(.int .i64 x)] (cell τ b e p n c) (AB R (fun v σ1 => ∃ Ua : Option Addr, ∃ n43 : Nat, ∃ VT : Nat, v = (.slice Ua n43 VT) ∧ Kp [b] (cell τ b e p n c) σ1 ∧ ∀ We : Nat, σ1 We = none → Spec prog 188 #[(.slice Rk n37 c37), (.int .i64 i), (.slice (some ⟨We, 0, none⟩) 1 1)] (Hp.set σ1 We (.cells #[(.int .i64 x), (.int .i64 1), (.slice Ua n43 VT)] 196 (0, 0))) (AB R (fun MU Az => ∃ cU : Option Addr, ∃ n46 : Nat, ∃ c46 : Nat, MU = (.slice cU n46 c46) ∧ AJ prog (Instr.storeAt 39 (.pointer (some ⟨b, (0 + 1), none⟩)) (.slice cU n46 c46)) Az (fun _ A0 => R (.returned (.int .i64 0)) A0))))) := by
   intro i hi Rt hhi
   refine ⟨p, n, c, Ac rfl, Spec.B5 hb (Xu (by omega) fun q j d τ1 t hq4 ht BJ XF hj0 hj4 Qy => ⟨q, j, d, rfl, fun k hk u hu => ?_, fun b2 G8 => ?_⟩)⟩
   · simp only [List.mem_singleton] at hk
     subst hk
     simp only [cell, Hp.AA] at hu ⊢; exact hu
   · have Ad : b2 ≠ b := fun h => by rw [h, Hp.AA] at G8; cases G8
     have AE6 : τ1 b2 = none := by rw [Hp.AH Ad] at G8; exact G8
     rw [Hp.set_comm (Ne.symm Ad)]
     have Ay : Ext τ1 (τ1.set b2 (.cells #[.int .i64 x, .int .i64 1, .slice q j d] 196 (0, 0))) := .set AE6
     have Fo : Ji (τ1.set b2 (.cells #[.int .i64 x, .int .i64 1, .slice q j d] 196 (0, 0))) p n c ms := ho.mono E4.mono (BJ.trans Ay)
     have dP : ∀ a, p = some a → τ a.block ≠ none := ho.block
     refine Spec.B5 (Hp.BC (Ne.symm Ad) Qy) ?_
     refine Xv (vs := [.int .i64 x, .int .i64 1, .slice q j d]) (x := ⟨x, 1, t⟩) Fo hi (by omega) (Hp.AA _ _ _) (fun a ha h => dP a ha (Aw BJ (h ▸ AE6))) (E4.mk ?_) fun p' c' τ2 Bs U4 PD => ⟨p', n + 1, c', rfl, aU ?_⟩
     · exact ht.mono ((Ext.oH dP).trans (Ay.del p))
     · refine Ap p' (n + 1) c' τ2 _ (.inr ⟨uZ, rfl, i, t, by omega, Rt, hhi, XF, by have := ht.1; omega, by have := ht.1; omega, hq4, rfl⟩) Bs ?_ PD
       exact ((BJ.trans Ay).del p).trans U4
 suffices H : ∀ d i : Nat, n - i = d → i ≤ n → (∀ m ∈ ms.take i, m.id < x) → C0.As R (some ⟨b, 0, none⟩) x (-1) i (cell τ b e p n c) from H n 0 rfl (by omega) (by simp)
 intro d
 induction d with
 | zero =>
   intro i hd hi Rt
   exact C0.BO ⟨b, 0, rfl, p, n, c, Ac rfl, fun Ag => by omega, fun _ => fin i hi Rt (fun m hm => by have := ll hm; omega)⟩
 | succ d ih =>
   intro i hd hi Rt
   obtain ⟨m, hm⟩ := HF.ex (k := i) (by omega)
   obtain ⟨b2, o2, q, j, d2, hp, hl, _⟩ := PI.at' HF hm
   have hl := hl.mono hxc
   refine C0.BO ⟨b, 0, rfl, p, n, c, Ac rfl, fun _ => ⟨p, n, c, Ac rfl, b2, o2, hp, by omega, m.id, by simpa using hl.1, fun Ag => ⟨by unfold AN; omega, ih (i + 1) (by omega) (by omega) ?_⟩, fun Fb => fin i hi Rt (fun m' ME => by rw [hm] at ME; cases ME; exact Fb)⟩, fun Fb => by omega⟩
   intro m' ME
   rw [List.take_add_one, hm] at ME
   simp only [Option.toList, List.mem_append, List.mem_singleton] at ME
   rcases ME with ME | rfl
   · exact Rt m' ME
   · exact Ag
end TwW
end
section
namespace TwW
open Go Tw Go.Proofs.Tryz
abbrev F3 (e : Int) (p : Option Addr) (n c : Nat) : Value := .agg #[.int .u64 e, .slice p n c]
abbrev Om : Int := 18446744073709551615
def Fit (ms : List Mem) (e x : Int) : Prop := LA ms ∧ e ≠ Om ∧ 0 ≤ x ∧ x < 16
instance (ms : List Mem) (e x : Int) : Decidable (Fit ms e x) := by unfold Fit; infer_instance
theorem yr (w : World) : (Go.sizeOf 41).run prog w = .ok 2 w := Go.Proofs.Tryz.sizeOf41 w
theorem My {f : Nat} {C : List Mem → Int → Int → List Mem → Prop} (hby : yq f C) (Jr : Enters prog f) {R : Rr} {σ : Hp} {e x : Int} {p : Option Addr} {n c : Nat} {ms : List Mem} (hr : PI σ p n ms) (hs : Small ms) (he : 0 ≤ e ∧ e ≤ Om)
   (bad : ¬ Fit ms e x → R (.returned (.tuple #[F3 0 none 0 0, .int .i64 130])) σ)
   (err : Fit ms e x → ∀ code EO, C ms x code EO → code ≠ 0 → R (.returned (.tuple #[F3 0 none 0 0, .int .i64 code])) σ)
   (ok : Fit ms e x → ∀ p' n' c' σ' EO, C ms x 0 EO → PI σ' p' n' EO → Ext σ σ' → R (.returned (.tuple #[F3 (e + 1) p' n' c', .int .i64 0])) σ') :
   Spec prog 100 #[F3 e p n c, .int .i64 x, .func (.func f) #[] #[]] σ R := by
 refine Spec.drop (MT.start fun _ _ => (Lz hr hs ⟨_, rfl, fun Ad => ?_, fun heq => ⟨fun h1 => ?_, fun h1 => dO ⟨_, rfl, fun hf => ?_, fun ht => ?_⟩⟩⟩))
 · exact .mk (.refl σ) (bad fun h => Ad (by simp [PE, h.1]))
 · exact .mk (.refl σ) (bad fun h => h.2.1 h1)
 · exact .mk (.refl σ) (bad fun h => by simp at hf; have := h.2.2; omega)
 · have Ap : LA ms := Decidable.byContradiction fun hn => heq (by simp [PE, hn])
   have hx : 0 ≤ x ∧ x < 16 := by simpa using ht
   have dq : Fit ms e x := ⟨Ap, h1, hx⟩
   refine Q6 hr hs fun p1 c1 τ ho BJ => ⟨e, p1, n, c1, rfl, fun b hb => ?_⟩
   refine AJ.store yr (Hp.AA _ _ _) rfl (by simp) (by simp [Value.cells, Value.oneCell']) ?_
   rw [Hp.set_set]
   refine ⟨e, Ac rfl, fun Gm RB => ?_⟩
   have h28 : Gm = e + 1 := by rw [RB]; simp [IntKind.wrap, IntKind.bits, IntKind.signed]; simp [Om] at h1 he; omega
   subst h28
   refine AJ.store Z4 (Hp.AA _ _ _) rfl (by simp [De]) (by simp [Value.cells, Value.oneCell']) ?_
   rw [Hp.set_set]
   have FD : (τ.set b (.cells (DU (DU #[.int .u64 0, .slice none 0 0] 0 (Value.agg #[.int .u64 e, .slice p1 n c1]).cells.toList) 0 (Value.int .u64 (e + 1)).cells.toList) 41 (0, 0))) = cell τ b (e + 1) p1 n c1 := by
     simp [cell, DU, Value.cells]
   rw [FD]
   have oJ : ∀ a, p1 = some a → σ a.block = none := let ⟨_, _, h, _⟩ := ho; h.Dh
   have Fo : Ji τ p1 n c1 ms := ho.mono E4.mono (Ext.Ah σ τ)
   have hxc : Ext σ (cell τ b (e + 1) p1 n c1) := BJ.trans (.set hb)
   refine Xt (hr.Q4 hxc) ⟨_, rfl, f, #[], #[], rfl, Jr, ?_⟩
   refine hby _ τ b (e + 1) x p1 n c1 ms Fo hb Ap hx.1 hx.2 (fun code EO hC Ad => ⟨_, rfl, fun _ => .mk hxc (err dq code EO hC Ad), fun h0 => absurd Ad h0⟩) fun p' n' c' τ' EO hC Em Cm hn => ⟨_, rfl, fun h0 => absurd rfl h0, fun _ => ⟨e + 1, p', n', c', ⟨Ac rfl, Ac rfl, trivial⟩, ?_⟩⟩
   have Ns : Ext σ τ' := CX oJ Cm BJ
   exact .mk (.refl _) (ok dq p' n' c' _ EO hC ((BA.rd E4.mono Em).mono E4.mono (.set hn)) (Ns.trans (.set hn)))
theorem yt : Enters prog 101 := fun args w => Go.Proofs.Tryz.call101 args w
theorem aV : Enters prog 102 := fun args w => Go.Proofs.Tryz.call102 args w
section
variable {R : Rr} {σ : Hp} {e x : Int} {p : Option Addr} {n c : Nat} {ms : List Mem}
def ChR (C : List Mem → Int → Int → List Mem → Prop) (ms : List Mem) (e x : Int) (σ : Hp) (Φ : Int → Option Addr → Nat → Nat → Int → Hp → Prop) : Prop :=
 (¬ Fit ms e x → Φ 0 none 0 0 130 σ) ∧ (Fit ms e x → ∀ code EO, C ms x code EO → code ≠ 0 → Φ 0 none 0 0 code σ) ∧
 (Fit ms e x → ∀ p' n' c' σ' EO, C ms x 0 EO → PI σ' p' n' EO → Ext σ σ' → Φ (e + 1) p' n' c' 0 σ')
theorem aW (hr : PI σ p n ms) (hs : Small ms) (he : 0 ≤ e ∧ e ≤ Om) (h : ChR lk ms e x σ fun e' p' n' c' code σ' => R (.returned (.tuple #[F3 e' p' n' c', .int .i64 code])) σ') : Spec prog 45 #[F3 e p n c, .int .i64 x] σ R :=
 TM.start fun _ _ => (My rL yt hr hs he (fun hb => ⟨_, _, _, _, _, rfl, h.1 hb⟩) (fun hf code EO hC Ad => ⟨_, _, _, _, _, rfl, h.2.1 hf code EO hC Ad⟩) fun hf p' n' c' σ' EO hC Ij hx => ⟨_, _, _, _, _, rfl, h.2.2 hf p' n' c' σ' EO hC Ij hx⟩)
theorem RC (hr : PI σ p n ms) (hs : Small ms) (he : 0 ≤ e ∧ e ≤ Om) (h : ChR (Xw 1 2) ms e x σ fun e' p' n' c' code σ' => R (.returned (.tuple #[F3 e' p' n' c', .int .i64 code])) σ') : Spec prog 46 #[F3 e p n c, .int .i64 x] σ R :=
 LJ.start fun _ _ => (My Xy aV hr hs he (fun hb => ⟨_, _, _, _, _, rfl, h.1 hb⟩) (fun hf code EO hC Ad => ⟨_, _, _, _, _, rfl, h.2.1 hf code EO hC Ad⟩) fun hf p' n' c' σ' EO hC Ij hx => ⟨_, _, _, _, _, rfl, h.2.2 hf p' n' c' σ' EO hC Ij hx⟩)
end
end TwW
end
section
namespace Go.Proofs
open Go.Shelf
def Tryz.Xz : Go.Shelf.Ren := ⟨fun | 189 => 48 | 125 => 113 | 257 => 112 | 128 => 210 | 129 => 211 | 294 => 201 | 295 => 202 | 296 => 203 | 297 => 204 | 298 => 205 | 299 => 206 | 216 => 207 | 300 => 208 | 301 => 209 | 328 => 272 | 329 => 273 | 330 => 274 | 331 => 275 | 332 => 276 | 215 => 214 | 343 => 309 | n => n, fun | 28 => 26 | 3 => 3 | 46 => 205 | 0 => 0 | 51 => 70 | 53 => 23 | 4 => 4 | 183 => 280 | 182 => 279 | 131 => 151 | 5 => 5 | 9 => 9 | 218 => 325 | 222 => 328 | 228 => 351 | 229 => 352 | n => n, fun | n => n⟩
theorem Tryz.dQ : Go.Proofs.Lays.n189 Tryz.prog Tryz.Xz := {
 mixed := by kernel_rfl
 f125 := Tryz.func113.trans (congrArg some (by kernel_rfl))
 f128 := Tryz.func210.trans (congrArg some (by kernel_rfl))
 f129 := Tryz.func211.trans (congrArg some (by kernel_rfl))
 f189 := Tryz.func48.trans (congrArg some (by kernel_rfl))
 f215 := Tryz.func214.trans (congrArg some (by kernel_rfl))
 f216 := Tryz.func207.trans (congrArg some (by kernel_rfl))
 f257 := Tryz.func112.trans (congrArg some (by kernel_rfl))
 f294 := Tryz.func201.trans (congrArg some (by kernel_rfl))
 f295 := Tryz.func202.trans (congrArg some (by kernel_rfl))
 f296 := Tryz.func203.trans (congrArg some (by kernel_rfl))
 f297 := Tryz.func204.trans (congrArg some (by kernel_rfl))
 f298 := Tryz.func205.trans (congrArg some (by kernel_rfl))
 f299 := Tryz.func206.trans (congrArg some (by kernel_rfl))
 f300 := Tryz.func208.trans (congrArg some (by kernel_rfl))
 f301 := Tryz.func209.trans (congrArg some (by kernel_rfl))
 f328 := Tryz.func272.trans (congrArg some (by kernel_rfl))
 f329 := Tryz.func273.trans (congrArg some (by kernel_rfl))
 f330 := Tryz.func274.trans (congrArg some (by kernel_rfl))
 f331 := Tryz.func275.trans (congrArg some (by kernel_rfl))
 f332 := Tryz.func276.trans (congrArg some (by kernel_rfl))
 f343 := Tryz.func309.trans (congrArg some (by kernel_rfl))
 t0 := Tryz.underlying0
 a0 := Tryz.isAgg0
 z0 := Tryz.sizeOf0
 v0 := Tryz.zeroValue0
 t3 := Tryz.underlying3
 a3 := Tryz.isAgg3
 z3 := Tryz.sizeOf3
 v3 := Tryz.zeroValue3
 t4 := Tryz.underlying4
 a4 := Tryz.isAgg4
 z4 := Tryz.sizeOf4
 v4 := Tryz.zeroValue4
 t5 := Tryz.underlying5
 a5 := Tryz.isAgg5
 z5 := Tryz.sizeOf5
 v5 := Tryz.zeroValue5
 t9 := Tryz.underlying9
 a9 := Tryz.isAgg9
 z9 := Tryz.sizeOf9
 v9 := Tryz.zeroValue9
 t28 := Tryz.underlying26
 a28 := Tryz.isAgg26
 z28 := Tryz.sizeOf26
 v28 := Tryz.zeroValue26
 t46 := Tryz.underlying205
 a46 := Tryz.isAgg205
 z46 := Tryz.sizeOf205
 v46 := Tryz.zeroValue205
 t51 := Tryz.underlying70
 a51 := Tryz.isAgg70
 z51 := Tryz.sizeOf70
 v51 := Tryz.zeroValue70
 t53 := Tryz.underlying23
 a53 := Tryz.isAgg23
 z53 := Tryz.sizeOf23
 v53 := Tryz.zeroValue23
 t131 := Tryz.underlying151
 a131 := Tryz.isAgg151
 z131 := Tryz.sizeOf151
 v131 := Tryz.zeroValue151
 t182 := Tryz.underlying279
 a182 := Tryz.isAgg279
 z182 := Tryz.sizeOf279
 v182 := Tryz.zeroValue279
 t183 := Tryz.underlying280
 a183 := Tryz.isAgg280
 z183 := Tryz.sizeOf280
 v183 := Tryz.zeroValue280
 t218 := Tryz.underlying325
 a218 := Tryz.isAgg325
 z218 := Tryz.sizeOf325
 v218 := Tryz.zeroValue325
 t222 := Tryz.underlying328
 a222 := Tryz.isAgg328
 z222 := Tryz.sizeOf328
 v222 := Tryz.zeroValue328
 t228 := Tryz.underlying351
 a228 := Tryz.isAgg351
 z228 := Tryz.sizeOf351
 v228 := Tryz.zeroValue351
 t229 := Tryz.underlying352
 a229 := Tryz.isAgg352
 z229 := Tryz.sizeOf352
 v229 := Tryz.zeroValue352 }
open Go.Sort Go.RowKit in
theorem Tryz.slices_Sort_int (DI off cap : Nat) (zs : List Int) (w : World) (hH : Holds (Value.int .i64) w DI off zs.toArray) (hblk : DI < w.heap.size) (EU : zs.length < 4611686018427387904) :
   Calls Tryz.prog 48 #[.slice (some ⟨DI, off, none⟩) zs.length cap] w fun e w' =>
     e = .returned (.tuple #[]) ∧ ∃ n os, w' = grow (putRow (Value.int .i64) (Sort.ahead w n) DI off (zs.mergeSort fun x y => decide (x ≤ y)).toArray) os := Any.slices_Sort_int Tryz.dQ DI off cap zs w hH hblk EU
def Tryz.SJ : Go.Shelf.Ren := ⟨fun | 20 => 49 | n => n, fun | 22 => 26 | 3 => 3 | 4 => 4 | 0 => 0 | n => n, fun | n => n⟩
theorem Tryz.Tf : Go.Proofs.Lays2.n20 Tryz.prog Tryz.SJ := {
 mixed := by kernel_rfl
 f20 := Tryz.func49.trans (congrArg some (by kernel_rfl))
 t0 := Tryz.underlying0
 a0 := Tryz.isAgg0
 z0 := Tryz.sizeOf0
 v0 := Tryz.zeroValue0
 t3 := Tryz.underlying3
 a3 := Tryz.isAgg3
 z3 := Tryz.sizeOf3
 v3 := Tryz.zeroValue3
 t4 := Tryz.underlying4
 a4 := Tryz.isAgg4
 z4 := Tryz.sizeOf4
 v4 := Tryz.zeroValue4
 t22 := Tryz.underlying26
 a22 := Tryz.isAgg26
 z22 := Tryz.sizeOf26
 v22 := Tryz.zeroValue26
 i3 := by kernel_rfl }
open Go.RowKit Go.Lib Go.Sort in
theorem Tryz.slices_Compact_int (DI off cap : Nat) (zs : List Int) (w : World) (hH : Holds (Value.int .i64) w DI off zs.toArray) (EU : zs.length ≤ 9223372036854775807) (yB : zs.length ≤ cap) :
   Calls Tryz.prog 49 #[.slice (some ⟨DI, off, none⟩) zs.length cap] w fun e w' => e = .returned (.slice (some ⟨DI, off, none⟩) (Lib.compact zs).length cap) ∧ ∃ q, w' = putRow (Value.int .i64) (Sort.ahead w q) DI off (Lib.compact zs ++ List.replicate (zs.length - (Lib.compact zs).length) 0).toArray := Any.slices_Compact_int Tryz.Tf DI off cap zs w hH EU yB
open Go.RowKit Go.Lib Go.Sort in
theorem Tryz.slices_Compact_int_empty (a : Option Addr) (cap : Nat) (w : World) :
   Calls Tryz.prog 49 #[.slice a 0 cap] w fun e w' => e = .returned (.slice a 0 cap) ∧ w' = w := Any.slices_Compact_int_empty Tryz.Tf a cap w
open Go.RowKit Go.Sort in
theorem Tryz.slices_Sort_int_none (p : Option Addr) (cap : Nat) (w : World) :
   Calls Tryz.prog 48 #[.slice p 0 cap] w fun e w' => e = .returned (.tuple #[]) ∧ w' = w := Any.slices_Sort_int_none Tryz.dQ p cap w
def Tryz.VC : Go.Shelf.Ren := ⟨fun | 6 => 120 | 15 => 113 | 14 => 212 | 28 => 210 | 29 => 211 | 20 => 277 | 21 => 278 | 22 => 279 | 23 => 280 | 24 => 281 | 25 => 282 | 26 => 283 | 27 => 284 | 46 => 310 | 47 => 273 | 48 => 274 | 49 => 311 | 50 => 312 | 57 => 331 | n => n, fun | 22 => 213 | 24 => 215 | 25 => 220 | 3 => 3 | 39 => 205 | 0 => 0 | 53 => 70 | 55 => 23 | 4 => 4 | 46 => 280 | 45 => 279 | 50 => 151 | 5 => 5 | 9 => 9 | 66 => 325 | 70 => 328 | 76 => 351 | 77 => 352 | n => n, fun | n => n⟩
theorem Tryz.X0 : Go.Proofs.SlLaysF0.n6 Tryz.prog Tryz.VC := {
 mixed := by kernel_rfl
 f6 := ⟨Tryz.f120.name, by decide, Tryz.func120.trans (congrArg some (by kernel_rfl))⟩
 f14 := ⟨Tryz.f212.name, by decide, Tryz.func212.trans (congrArg some (by kernel_rfl))⟩
 f15 := Tryz.func113.trans (congrArg some (by kernel_rfl))
 f20 := ⟨Tryz.f277.name, by decide, Tryz.func277.trans (congrArg some (by kernel_rfl))⟩
 f21 := ⟨Tryz.f278.name, by decide, Tryz.func278.trans (congrArg some (by kernel_rfl))⟩
 f22 := ⟨Tryz.f279.name, by decide, Tryz.func279.trans (congrArg some (by kernel_rfl))⟩
 f23 := ⟨Tryz.f280.name, by decide, Tryz.func280.trans (congrArg some (by kernel_rfl))⟩
 f24 := ⟨Tryz.f281.name, by decide, Tryz.func281.trans (congrArg some (by kernel_rfl))⟩
 f25 := ⟨Tryz.f282.name, by decide, Tryz.func282.trans (congrArg some (by kernel_rfl))⟩
 f26 := ⟨Tryz.f283.name, by decide, Tryz.func283.trans (congrArg some (by kernel_rfl))⟩
 f27 := ⟨Tryz.f284.name, by decide, Tryz.func284.trans (congrArg some (by kernel_rfl))⟩
 f28 := Tryz.func210.trans (congrArg some (by kernel_rfl))
 f29 := Tryz.func211.trans (congrArg some (by kernel_rfl))
 f46 := ⟨Tryz.f310.name, by decide, Tryz.func310.trans (congrArg some (by kernel_rfl))⟩
 f47 := Tryz.func273.trans (congrArg some (by kernel_rfl))
 f48 := Tryz.func274.trans (congrArg some (by kernel_rfl))
 f49 := ⟨Tryz.f311.name, by decide, Tryz.func311.trans (congrArg some (by kernel_rfl))⟩
 f50 := ⟨Tryz.f312.name, by decide, Tryz.func312.trans (congrArg some (by kernel_rfl))⟩
 f57 := ⟨Tryz.f331.name, by decide, Tryz.func331.trans (congrArg some (by kernel_rfl))⟩
 t0 := Tryz.underlying0
 a0 := Tryz.isAgg0
 z0 := Tryz.sizeOf0
 v0 := Tryz.zeroValue0
 t3 := Tryz.underlying3
 a3 := Tryz.isAgg3
 z3 := Tryz.sizeOf3
 v3 := Tryz.zeroValue3
 t4 := Tryz.underlying4
 a4 := Tryz.isAgg4
 z4 := Tryz.sizeOf4
 v4 := Tryz.zeroValue4
 t5 := Tryz.underlying5
 a5 := Tryz.isAgg5
 z5 := Tryz.sizeOf5
 v5 := Tryz.zeroValue5
 t9 := Tryz.underlying9
 a9 := Tryz.isAgg9
 z9 := Tryz.sizeOf9
 v9 := Tryz.zeroValue9
 t22 := Tryz.underlying213
 a22 := Tryz.isAgg213
 z22 := Tryz.sizeOf213
 v22 := Tryz.zeroValue213
 t25 := Tryz.underlying220
 a25 := Tryz.isAgg220
 z25 := Tryz.sizeOf220
 v25 := Tryz.zeroValue220
 t39 := Tryz.underlying205
 a39 := Tryz.isAgg205
 z39 := Tryz.sizeOf205
 v39 := Tryz.zeroValue205
 t45 := Tryz.underlying279
 a45 := Tryz.isAgg279
 z45 := Tryz.sizeOf279
 v45 := Tryz.zeroValue279
 t46 := Tryz.underlying280
 a46 := Tryz.isAgg280
 z46 := Tryz.sizeOf280
 v46 := Tryz.zeroValue280
 t50 := Tryz.underlying151
 a50 := Tryz.isAgg151
 z50 := Tryz.sizeOf151
 v50 := Tryz.zeroValue151
 t53 := Tryz.underlying70
 a53 := Tryz.isAgg70
 z53 := Tryz.sizeOf70
 v53 := Tryz.zeroValue70
 t55 := Tryz.underlying23
 a55 := Tryz.isAgg23
 z55 := Tryz.sizeOf23
 v55 := Tryz.zeroValue23
 t66 := Tryz.underlying325
 a66 := Tryz.isAgg325
 z66 := Tryz.sizeOf325
 v66 := Tryz.zeroValue325
 t70 := Tryz.underlying328
 a70 := Tryz.isAgg328
 z70 := Tryz.sizeOf328
 v70 := Tryz.zeroValue328
 t76 := Tryz.underlying351
 a76 := Tryz.isAgg351
 z76 := Tryz.sizeOf351
 v76 := Tryz.zeroValue351
 t77 := Tryz.underlying352
 a77 := Tryz.isAgg352
 z77 := Tryz.sizeOf352
 v77 := Tryz.zeroValue352 }
end Go.Proofs
end
section
namespace Tw
open Go
theorem Spec.grown {P : Program} {f : FuncId} {args : Array Value} {R : Rr} (h : @Spec ⟨True⟩ P f args (fun _ => none) R) (w : World) :
   Calls P f args w (fun e w' => (∃ σ, R e σ) ∧ ∃ q os, w' = { w with heap := w.heap ++ os, drawn := w.drawn + q }) := by
 refine (h w (fun b => b < w.heap.size) (fun b o hb => by cases hb) (fun b hb => ⟨hb, rfl⟩)).mono ?_
 rintro e w' ⟨σ, hr, hf⟩
 refine ⟨⟨σ, hr⟩, ?_⟩
 obtain ⟨h1, h2, h30⟩ := @Fin.os ⟨True⟩ _ _ _ _ hf
 have hfp := @Fin.CU ⟨True⟩ _ _ _ _ hf
 have hfg := @Fin.grow ⟨True⟩ _ _ _ _ hf
 have hfo := @Fin.out ⟨True⟩ _ _ _ _ hf
 obtain ⟨q, h3⟩ := h30 trivial
 refine ⟨q, w'.heap.extract w.heap.size w'.heap.size, ?_⟩
 have hh : w'.heap = w.heap ++ w'.heap.extract w.heap.size w'.heap.size := by
   apply Array.ext_getElem?
   intro i
   rw [Array.getElem?_append]
   split
   · rename_i hi
     exact (hfp i hi).2
   · rename_i hi
     rw [Array.getElem?_extract]
     have := hfg
     split
     · congr 1; omega
     · rename_i h2
       exact Array.getElem?_eq_none (by omega)
 cases w with
 | mk heap tape drawn os output =>
   cases w' with
   | mk AOl AOm ALK os' AHn =>
     have h4 := hfo
     simp only at h1 h2 h3 h4 hh ⊢
     subst h1 h2 h3 h4
     rw [← hh]
end Tw
end
section
namespace TwW
open Go Tw Go.Proofs.Tryz
abbrev F4 := Int × Int
def encS (x : F4) : List Value := [.int .u32 x.1, .int .i64 x.2]
def dR (x y : F4) : Int := if x.1 < y.1 then -1 else if y.1 < x.1 then 1 else if x.2 < y.2 then -1 else if y.2 < x.2 then 1 else 0
theorem gI [Ht] {R : Rr} {σ : Hp} {x y : Int} (h : R (.returned (.int .i64 (if x < y then -1 else if y < x then 1 else 0))) σ) : Spec prog 123 #[.int .u32 x, .int .u32 y] σ R := by
 refine Gt.start (Dr.start ⟨_, rfl, Dr.start ⟨_, rfl, fun ht => by simp at ht, fun _ => ⟨fun ht => by simp at ht, fun _ => ⟨fun h1 => ?_, fun h1 => ⟨fun h2 => ?_, fun h2 => ?_⟩⟩⟩⟩⟩)
 · simpa [h1] using h
 · simpa [h1, h2] using h
 · simpa [h1, h2] using h
theorem gJ [Ht] {R : Rr} {σ : Hp} {x y : Int} (h : R (.returned (.int .i64 (if x < y then -1 else if y < x then 1 else 0))) σ) : Spec prog 124 #[.int .i64 x, .int .i64 y] σ R := by
 refine cmp_Compare_int.start (cmp_isNaN_int.start ⟨_, rfl, cmp_isNaN_int.start ⟨_, rfl, fun ht => by simp at ht, fun _ => ⟨fun ht => by simp at ht, fun _ => ⟨fun h1 => ?_, fun h1 => ⟨fun h2 => ?_, fun h2 => ?_⟩⟩⟩⟩⟩)
 · simpa [h1] using h
 · simpa [h1, h2] using h
 · simpa [h1, h2] using h
theorem VD [Ht] {R : Rr} {σ : Hp} {x y : F4} (h : ∀ σ', R (.returned (.int .i64 (dR x y))) σ') : Spec prog 121 #[.agg #[.int .u32 x.1, .int .i64 x.2], .agg #[.int .u32 y.1, .int .i64 y.2]] σ R := by
 refine LG.start fun _ _ => (gI ⟨_, rfl, gJ ⟨_, rfl, fun b hb => ?_⟩⟩)
 generalize hu : (if x.1 < y.1 then (-1 : Int) else if y.1 < x.1 then 1 else 0) = u
 generalize hv : (if x.2 < y.2 then (-1 : Int) else if y.2 < x.2 then 1 else 0) = v
 have yd : dR x y = if u = 0 then v else u := by
   unfold dR
   rw [← hu, ← hv]
   by_cases h1 : x.1 < y.1
   · simp [h1]
   · by_cases h2 : y.1 < x.1
     · simp [h1, h2]
     · simp [h1, h2]
 refine Gs.start (Gs.AW ⟨fun _ => ⟨b, 0, rfl, by omega, u, by simp [Hp.ld, Hp.AA], fun h0 => ⟨_, rfl, ?_⟩, fun h0 => ⟨by unfold AN; omega, Gs.AW ⟨fun _ => ⟨b, 0, rfl, by omega, v, by simp [Hp.ld, Hp.AA], fun h1 => ⟨_, rfl, ?_⟩, fun h1 => ⟨by unfold AN; omega, Gs.AW ⟨fun h2 => by omega, fun _ => ⟨_, rfl, ?_⟩⟩⟩⟩, fun h2 => by omega⟩⟩⟩, fun h2 => by omega⟩)
 · have := h (σ.set b (.cells #[.int .i64 u, .int .i64 v] 3 (0, 0)))
   rw [yd, if_neg h0] at this; exact this
 · have h0 : u = 0 := Decidable.byContradiction h0
   have := h (σ.set b (.cells #[.int .i64 u, .int .i64 v] 3 (0, 0)))
   rw [yd, if_pos h0] at this; exact this
 · have h0 : u = 0 := Decidable.byContradiction h0
   have h1 : v = 0 := Decidable.byContradiction h1
   have := h (σ.set b (.cells #[.int .i64 u, .int .i64 v] 3 (0, 0)))
   rw [yd, if_pos h0] at this
   simpa [h1] using this
theorem SK (x y : F4) (W : World) : Calls prog 121 #[.agg (encS x).toArray, .agg (encS y).toArray] W fun e w' => e = .returned (.int .i64 (dR x y)) ∧ ∃ q os, w' = Sort.grow (W.drewN q) os :=
 (Spec.grown (@VD ⟨True⟩ (fun e _ => e = .returned (.int .i64 (dR x y))) _ _ _ fun _ => rfl) W).mono fun e w' ⟨⟨_, he⟩, q, os, hw⟩ => ⟨he, q, os, hw⟩
theorem ltS (x y : F4) : Proofs.ltOf dR x y = decide (x.1 < y.1 ∨ (x.1 = y.1 ∧ x.2 < y.2)) := by
 unfold Proofs.ltOf dR
 by_cases h1 : x.1 < y.1
 · simp [h1]
 · by_cases h2 : y.1 < x.1
   · simp [h1, h2]; omega
   · by_cases h3 : x.2 < y.2
     · simp [h1, h2, h3]; omega
     · by_cases h4 : y.2 < x.2
       · simp [h1, h2, h3, h4]
       · simp [h1, h2, h3, h4]
theorem ALL : Sort.SWO (Proofs.ltOf dR) where
 irrefl x := by rw [ltS]; simp
 trans x y z h1 h2 := by rw [ltS] at *; simp at *; omega
 ntrans x y z h1 h2 := by rw [ltS] at *; simp at *; omega
theorem ALM (x y : F4) (h1 : Proofs.ltOf dR x y = false) (h2 : Proofs.ltOf dR y x = false) : x = y := by
 rw [ltS] at *
 simp at h1 h2
 exact Prod.ext (by omega) (by omega)
def sorted (xs : List F4) : List F4 := xs.mergeSort fun x y => !(Proofs.ltOf dR) y x
theorem Dm (xs : List F4) : (sorted xs).length = xs.length := List.length_mergeSort _
theorem RD {α : Type} {enc : α → List Value} {k : Nat} (hk : ∀ x, (enc x).length = k) (h0 : 0 < k) : ∀ (xs : List α) (j : Nat), (xs.flatMap enc)[j]? = (xs[j / k]?).bind fun x => (enc x)[j % k]?
 | [], j => by simp
 | x :: xs, j => by
   rw [List.flatMap_cons, List.getElem?_append, hk]
   by_cases hj : j < k
   · rw [if_pos hj, Nat.div_eq_of_lt hj, Nat.mod_eq_of_lt hj]; simp
   · rw [if_neg hj, RD hk h0 xs, show j / k = (j - k) / k + 1 by rw [← Nat.add_div_right _ h0]; congr 1; omega, show (j - k) % k = j % k by rw [Nat.mod_eq_sub_mod (by omega : j ≥ k)]]
     simp
theorem Kl {α : Type} {enc : α → List Value} {k : Nat} (hk : ∀ x, (enc x).length = k) : ∀ (xs : List α), (xs.flatMap enc).length = xs.length * k
 | [] => by simp
 | x :: xs => by rw [List.flatMap_cons, List.length_append, Kl hk xs, hk, List.length_cons, Nat.add_mul]; omega
theorem Tg (d : List F4) (j : Nat) (hj : j < d.length * 2) : (d.flatMap encS)[j]? = some (Sort.flatK encS 2 d.toArray)[j]! := by
 rw [RD (k := 2) (fun _ => rfl) (by decide), Sort.get_flatK _ _ _ _ (by simpa using hj)]
 have Ag : j / 2 < d.length := by omega
 rw [List.getElem?_eq_getElem Ag]
 have h2 : j % 2 < (encS d[j / 2]).length := Nat.mod_lt _ (by decide)
 simp only [Option.bind_some]
 rw [List.getElem?_eq_getElem h2]
 have e1 : d.toArray[j / 2]! = d[j / 2] := by simp [Ag]
 rw [e1, getElem!_pos (encS d[j / 2]) (j % 2) h2]
theorem gK {σ : Hp} {w : World} (hs : Sat σ w) {b o m d : Nat} {cs : List Value} (h : Own 2 σ (some ⟨b, o, none⟩) m d cs) (hm : m ≠ 0) :
   ∃ arr T, σ b = some (.cells arr T (0, 0)) ∧ w.heap[b]? = some (.cells arr T (0, 0)) ∧ m ≤ d ∧ o + d * 2 ≤ arr.size ∧ (arr.toList.drop o).take (m * 2) = cs := by
 rcases h.2.2 with ⟨h1, h2, _⟩ | ⟨b', o', arr, T, hp, hb, cu, EU, Hv⟩
 · exact absurd h2 hm
 · cases hp
   exact ⟨arr, T, hb, hs _ _ hb, cu, EU, Hv⟩
theorem RE {R : Rr} {σ : Hp} {q : Option Addr} {m d : Nat} {xs : List F4} (ho : Own 2 σ q m d (xs.flatMap encS)) (hm : xs.length = m) (EU : m < 4611686018427387904)
   (h : ∀ σ', Own 2 σ' q m d ((sorted xs).flatMap encS) → Ext (σ.del q) (σ'.del q) → R (.returned (.tuple #[])) σ') : Spec prog 120 #[.slice q m d, .func (.func 121) #[] #[]] σ R := by
 intro w F hs hF
 by_cases Ml : m = 0
 · subst Ml
   have hx : xs = [] := List.eq_nil_of_length_eq_zero hm
   subst hx
   have Hj := Proofs.AnyF.slices_SortFunc_none Proofs.Tryz.X0 q d (.func (.func 121) #[] #[]) w
   change Calls prog 120 _ _ _ at Hj
   refine Hj.mono ?_
   rintro e w' ⟨rfl, rfl⟩
   exact ⟨σ, h σ (by simpa [sorted] using ho) (Ext.refl _), hs, fun b hb => ⟨(hF b hb).2, rfl⟩, .same rfl rfl rfl, rfl, Nat.le_refl _⟩
 · obtain ⟨b, o, rfl⟩ : ∃ b o, q = some ⟨b, o, none⟩ := by
     rcases ho.2.2 with ⟨_, h2, _⟩ | ⟨b', o', arr, T, hp, _⟩
     · exact absurd h2 Ml
     · exact ⟨b', o', hp⟩
   obtain ⟨arr, T, hb, hw, cu, Oy, Hv⟩ := gK hs ho Ml
   have AE7 : (Sort.flatK encS 2 xs.toArray).size = m * 2 := by simp [hm]
   have O8 : ∀ j, j < m * 2 → arr[o + j]? = some (Sort.flatK encS 2 xs.toArray)[j]! := fun j hj => by
     rw [← Tg xs j (by omega), ← Hv, List.getElem?_take, if_pos hj, List.getElem?_drop, Array.getElem?_toList]
   have hH : Sort.HoldsK encS 2 w b o xs.toArray := fun j hj => by
     rw [AE7] at hj
     refine ⟨?_, by simp [World.frozen?, hw]⟩
     simp only [World.cell?, hw, id]
     simpa using O8 j hj
   have hblk : b < w.heap.size := (Array.getElem?_eq_some_iff.1 hw).1
   have eg : ∀ args w, (callFunc 121 args).run prog w = .ok (.enter 121 args) w := fun args w => Proofs.Tryz.call121 args w
   have ALN : Proofs.CmpLays prog 121 #[] encS 2 dR b o xs.toArray.size w := fun _ _ _ _ x y => SK x y _
   have Hj := Proofs.AnyQ.slices_SortFunc_total Proofs.Tryz.X0 2 Proofs.Tryz.isAgg215 Proofs.Tryz.sizeOf215 encS (fun _ => rfl) (fun x v hv => by simp [encS] at hv; rcases hv with rfl | rfl <;> rfl) dR ALL 121 #[] b o d xs.toArray w eg ALN hH hblk (by simpa [hm] using EU) ALM
   change Calls prog 120 _ _ _ at Hj
   rw [show xs.toArray.size = m by simpa using hm] at Hj
   rw [show (xs.toArray.toList.mergeSort fun x y => !Proofs.ltOf dR y x) = sorted xs from rfl] at Hj
   refine Hj.mono ?_
   rintro e w' ⟨rfl, n, os, rfl⟩
   let F2 := Sort.flatK encS 2 (sorted xs).toArray
   have hF2 : F2.size = m * 2 := by simp [F2, Dm, hm]
   have DL : ∀ k, (Proofs.sortWorldK encS 2 w b o n (sorted xs).toArray os).heap[k]? = if k < w.heap.size then (if b = k then (w.heap[k]?).map (Sort.onCells (Sort.putCells id o F2)) else w.heap[k]?) else os[k - w.heap.size]? := fun k => by
     simp only [Proofs.sortWorldK, Sort.grow, Sort.putRowK, Sort.putRow, Sort.mapBlock, Sort.ahead, Array.getElem?_append, Array.size_modify, Array.getElem?_modify]
     rfl
   refine ⟨σ.set b (.cells (Sort.putCells id o F2 arr) T (0, 0)), h _ ⟨by rw [Kl (k := 2) (fun _ => rfl), Dm, hm], by omega, .inr ⟨b, o, _, T, rfl, Hp.AA _ _ _, cu, by simpa [Sort.putCells] using Oy, ?_⟩⟩ (by rw [Hp.Bg]; exact Ext.refl _), ?_⟩
   · refine List.ext_getElem? fun j => ?_
     rw [List.getElem?_take]
     by_cases hj : j < m * 2
     · rw [if_pos hj, List.getElem?_drop, Array.getElem?_toList, E0, if_pos (by omega), Tg _ _ (by rw [Dm]; omega), O8 j hj]
       simp [F2]
     · rw [if_neg hj, List.getElem?_eq_none (by rw [Kl (k := 2) (fun _ => rfl), Dm]; omega)]
   · refine ⟨fun k u hk => ?_, fun k hk => ?_, ⟨rfl, rfl, fun _ => ⟨n, rfl⟩⟩, rfl, by simp [Proofs.sortWorldK, Sort.grow, Sort.putRowK, Sort.putRow, Sort.mapBlock, Sort.ahead]⟩
     · rw [DL]
       by_cases C3 : k = b
       · subst C3
         rw [Hp.AA] at hk; cases hk
         rw [if_pos hblk, if_pos rfl, hw]; rfl
       · rw [Hp.AH C3] at hk
         have := hs k u hk
         rw [if_pos (Array.getElem?_eq_some_iff.1 this).1, if_neg (Ne.symm C3)]; exact this
     · have C3 : k ≠ b := fun e => by have := (hF k hk).2; rw [e, hb] at this; cases this
       refine ⟨by rw [Hp.AH C3]; exact (hF k hk).2, ?_⟩
       rw [DL, if_pos (hF k hk).1, if_neg (Ne.symm C3)]
end TwW
end
section
namespace TwW
open Go Tw Go.Proofs.Tryz
def Km (m : Mem) : List F4 := if m.state = 2 then m.B4.map (fun t => (t, m.id)) else []
def Bd (ms : List Mem) : List F4 := ms.flatMap Km
theorem X1 (m : Mem) (N : Nat) (h : m.B4.length ≤ N) : (Km m).length ≤ N := by
 unfold Km; split <;> simp; exact h
theorem Kn : ∀ (ms : List Mem) (N : Nat), (∀ m ∈ ms, m.B4.length ≤ N) → (Bd ms).length ≤ ms.length * N
 | [], N, _ => by simp [Bd]
 | m :: ms, N, h => by
   have h1 := Kn ms N (fun x hx => h x (List.mem_cons_of_mem _ hx))
   have h2 := X1 m N (h m (List.mem_cons_self ..))
   simp only [Bd, List.flatMap_cons, List.length_append, List.length_cons, Nat.add_mul] at *
   omega
theorem RF {ms : List Mem} {i : Nat} {m : Mem} (h : ms[i]? = some m) : Bd (ms.take (i + 1)) = Bd (ms.take i) ++ Km m := by
 simp [Bd, List.take_add_one, h]
abbrev c5 (τ : Hp) (b : Nat) (q : Option Addr) (m d : Nat) : Hp := τ.set b (.cells #[.slice q m d] 213 (0, 0))
theorem rM (w : World) : (Go.sizeOf 213).run prog w = .ok 1 w := Go.Proofs.Tryz.sizeOf213 w
def KO (_ : Hp) (vs : List Value) (x : F4) : Prop := vs = encS x
theorem KO.mono : Oz KO := fun _ _ _ _ _ h => h
theorem rN {σ : Hp} : ∀ {xs : List F4}, Ch 2 KO σ (xs.flatMap encS) xs := fun {xs} => by
 refine ⟨Kl (k := 2) (fun _ => rfl) xs, fun i x hx => ?_⟩
 show _ = encS x
 refine List.ext_getElem? fun j => ?_
 rw [List.getElem?_take]
 by_cases hj : j < 2
 · rw [if_pos hj, List.getElem?_drop, RD (k := 2) (fun _ => rfl) (by decide), show (i * 2 + j) / 2 = i by omega, show (i * 2 + j) % 2 = j by omega, hx]; rfl
 · rw [if_neg hj, List.getElem?_eq_none (by show 2 ≤ j; omega)]
theorem gL {x : F4} : CN (encS x) := by
 intro u hu
 simp [encS] at hu
 rcases hu with rfl | rfl <;> rfl
theorem X2 {R : Rr} {σ : Hp} {e hash : Int} {p : Option Addr} {n c : Nat} {ms : List Mem} (hr : PI σ p n ms) (Ap : LA ms)
   (h : ∀ b5 D8 q m d τ k, τ b5 = none → τ D8 = none → b5 ≠ D8 → Ext σ τ → Fj 2 KO (σ.new τ) q m (sorted (Bd ms)) → k ≤ m → (∀ s ∈ (sorted (Bd ms)).take k, s.1 < hash) → (∀ s, (sorted (Bd ms))[k]? = some s → ¬ s.1 < hash) →
     R (.returned (.func (.func 125) #[] #[.pointer (some ⟨b5, 0, none⟩), .pointer (some ⟨D8, 0, none⟩)])) ((c5 τ b5 q m d).set D8 (.cells #[.int .i64 k] 3 (0, 0)))) :
   Spec prog 55 #[F3 e p n c, .int .u32 hash] σ R := by
 have hn : ms.length = n := hr.1
 have hlen := Ap.len
 refine BE.start fun _ b5 XJ => ?_
 have AE8 : ∀ q m d τ, m = (Bd ms).length → τ b5 = none → Ext σ τ → Own 2 (σ.new τ) q m d ((Bd ms).flatMap encS) → ∃ Rk : Option Addr, ∃ n37 : Nat, ∃ c37 : Nat, Hp.ld (c5 τ b5 q m d) ⟨b5, 0, none⟩ = some (.slice Rk n37 c37) ∧ Spec prog 120 #[(.slice Rk n37 c37), (.func (.func 121) #[] #[])] (c5 τ b5 q m d) (AB R (fun v σ1 => v = (.tuple #[]) ∧ ∀ D8 : Nat, σ1 D8 = none → AJ prog (Instr.storeAt 3 (.pointer (some ⟨D8, 0, none⟩)) (.int .i64 0)) (Hp.set σ1 D8 (.cells #[(.int .i64 0)] 3 (0, 0))) (fun _ Az => BE.FA R hash b5 D8 Az))) := by
   intro q m d τ hm hb hx ho
   refine ⟨q, m, d, Ac rfl, Spec.B5 hb ?_⟩
   have FW : m ≤ 1024 := by
     have h1 := Kn ms 64 (fun x hx => (Ap.1 x hx).2.2.2.2.2.1)
     omega
   refine RE (ho.mono (Ext.Ah σ τ)) hm.symm (by omega) fun τ' Em Cm Jj => ⟨rfl, fun D8 AE9 => ?_⟩
   obtain ⟨Ad, ua⟩ := Hp.AM AE9
   refine AJ.store Xx (Hp.AA _ _ _) rfl (by simp) (by simp [Value.cells, Value.oneCell']) ?_
   rw [Hp.set_set]
   have fG : Ext σ τ' := CX ho.Dh Cm hx
   have hL : (sorted (Bd ms)).length = m := by rw [Dm, hm]
   have MA : Fj 2 KO (σ.new τ') q m (sorted (Bd ms)) := ⟨hL, _, (Own.CO Em (Bt ho.Dh Cm hx)).rd, rN⟩
   have HF : Fj 2 KO τ' q m (sorted (Bd ms)) := MA.mono KO.mono (Ext.Ah σ τ')
   suffices H : ∀ g k, m - k = g → k ≤ m → (∀ s ∈ (sorted (Bd ms)).take k, s.1 < hash) → BE.FA R hash b5 D8 ((c5 τ' b5 q m d).set D8 (.cells #[.int .i64 k] 3 (0, 0))) from by
     have := H m 0 rfl (by omega) (by simp)
     simpa [DU, Value.cells] using this
   intro g
   induction g with
   | zero =>
     intro k hg hk Rt
     refine BE.I2 ⟨k, Ac rfl, q, m, d, by rw [Hp.set_comm Ad.symm]; exact Ac rfl, fun Ag => by omega, fun _ => ?_⟩
     exact h b5 D8 q m d τ' k Jj ua Ad.symm fG MA hk Rt (fun s hs => by have := (List.getElem?_eq_some_iff.1 hs).1; omega)
   | succ g ih =>
     intro k hg hk Rt
     obtain ⟨s, hs⟩ := HF.ex (k := k) (by omega)
     obtain ⟨b, o, vs, hq, hv, hl⟩ := Fj.idx HF hs
     have hv : vs = encS s := hv
     subst hv
     have Ns : Ext τ' ((c5 τ' b5 q m d).set D8 (.cells #[.int .i64 k] 3 (0, 0))) := (Ext.set Jj).trans (.set AE9)
     refine BE.I2 ⟨k, Ac rfl, q, m, d, by rw [Hp.set_comm Ad.symm]; exact Ac rfl, fun Ag => ⟨q, m, d, by rw [Hp.set_comm Ad.symm]; exact Ac rfl, k, Ac rfl, b, o, hq, by omega, s.1, by simpa using Ns.ld hl.1, fun ht => ⟨k, Ac rfl, by unfold AN; omega, ?_⟩, fun ht => ?_⟩, fun Fb => by omega⟩
     · refine AJ.store Xx (Hp.AA _ _ _) rfl (by simp) (by simp [Value.cells, Value.oneCell']) ?_
       rw [Hp.set_set]
       have := ih (k + 1) (by omega) (by omega) (fun s' Ho => by
         rw [List.take_add_one, hs] at Ho
         simp only [Option.toList, List.mem_append, List.mem_singleton] at Ho
         rcases Ho with Ho | rfl
         · exact Rt s' Ho
         · exact ht)
       simpa [DU, Value.cells] using this
     · exact h b5 D8 q m d τ' k Jj ua Ad.symm fG MA hk Rt (fun s' Ho => by rw [hs] at Ho; cases Ho; exact ht)
 suffices H : ∀ g i : Nat, ∀ q m d τ, n - i = g → i ≤ n → m = (Bd (ms.take i)).length → τ b5 = none → Ext σ τ → Own 2 (σ.new τ) q m d ((Bd (ms.take i)).flatMap encS) → BE.A5 R hash b5 p n c n i (c5 τ b5 q m d) from
   H n 0 none 0 0 σ rfl (by omega) rfl XJ (.refl σ) .nil
 intro g
 induction g with
 | zero =>
   intro i q m d τ hg hi hm hb hx ho
   refine BE.AW ⟨fun Ag => by omega, fun _ => ?_⟩
   rw [List.take_of_length_le (by omega)] at hm ho
   exact AE8 q m d τ hm hb hx ho
 | succ g ih =>
   intro i q m d τ hg hi hm hb hx ho
   refine BE.AW ⟨fun Ag => ?_, fun Fb => by omega⟩
   obtain ⟨mm, gM⟩ := hr.ex (k := i) (by omega)
   obtain ⟨b, o, q1, j, d1, rfl, hl, ht⟩ := hr.at' gM
   have Cf : mm ∈ ms := List.mem_of_getElem? gM
   have gN := Ap.1 mm Cf
   have hj : mm.B4.length = j := ht.1
   have ASL : j ≤ 64 := by rw [← hj]; exact gN.2.2.2.2.2.1
   have O9 : (Bd (ms.take i)).length ≤ i * 64 := by
     have h1 := Kn (ms.take i) 64 (fun x hx => (Ap.1 x (List.mem_of_mem_take hx)).2.2.2.2.2.1)
     rw [List.length_take] at h1
     have : min i ms.length * 64 ≤ i * 64 := Nat.mul_le_mul_right _ (Nat.min_le_left ..)
     omega
   refine ⟨b, o, rfl, by omega, mm.id, mm.state, q1, j, d1, by simpa using hl.mono (hx.trans (.set hb)), fun _ => ?_⟩
   suffices H2 : ∀ g2 k : Nat, ∀ q m d τ, j - k = g2 → k ≤ j → m = (Bd (ms.take i) ++ (if mm.state = 2 then (mm.B4.take k).map (fun t => (t, mm.id)) else [])).length → τ b5 = none → Ext σ τ → Own 2 (σ.new τ) q m d ((Bd (ms.take i) ++ (if mm.state = 2 then (mm.B4.take k).map (fun t => (t, mm.id)) else [])).flatMap encS) →
       BE.GR R hash b5 mm.id mm.state q1 j d1 (some ⟨b, o, none⟩) n c n i q1 j d1 j k (c5 τ b5 q m d) from
     H2 j 0 q m d τ rfl (by omega) (by simpa using hm) hb hx (by simpa using ho)
   intro g2
   induction g2 with
   | zero =>
     intro k q m d τ hg2 hk hm hb hx ho
     refine BE.Ff ⟨fun Ag => by omega, fun _ => ⟨by unfold AN; omega, ih (i + 1) q m d τ (by omega) (by omega) ?_ hb hx ?_⟩⟩
     all_goals rw [List.take_of_length_le (by omega : mm.B4.length ≤ k)] at *
     · rw [RF gM]; exact hm
     · rw [RF gM]; exact ho
   | succ g2 rJ =>
     intro k q m d τ hg2 hk hm hb hx ho
     obtain ⟨t, Ly⟩ := ht.ex (k := k) (by omega)
     obtain ⟨b2, o2, rfl, SF⟩ := ht.at Ly
     refine BE.Ff ⟨fun _ => ⟨b2, o2, rfl, by omega, t, by simpa using (hx.trans (.set hb)).ld SF, fun h2 => ?_, fun h2 => ?_⟩, fun Fb => by omega⟩
     · refine ⟨q, m, d, Ac rfl, fun Ym gO => ?_⟩
       obtain ⟨Ad, AFA⟩ := Hp.AM gO
       rw [Hp.set_comm Ad.symm]
       rw [if_pos h2] at hm ho
       have AOn : m ≤ 2048 := by rw [hm]; simp; omega
       refine AJ.B5 (Hp.BC Ad.symm hb) (Im (m := 1) (ys := encS (t, mm.id)) hx ho rfl gL (by omega) (fun q' d' τ' Em Cm _ Jj => ⟨q', m + 1, d', rfl, ?_⟩) AFA)
       refine AJ.store rM (Hp.AA _ _ _) rfl (by simp) (by simp [Value.cells, Value.oneCell']) ?_
       rw [Hp.set_set]
       have e1 : mm.B4.take (k + 1) = mm.B4.take k ++ [t] := AQ Ly
       have := rJ (k + 1) q' (m + 1) d' τ' (by omega) (by omega) (by rw [if_pos h2, e1, hm]; simp; omega) Jj Cm (by
         rw [if_pos h2, e1, List.map_append, ← List.append_assoc, List.flatMap_append]
         simpa using Em)
       refine BE.MZ ⟨by unfold AN; omega, ?_⟩
       simpa [DU, Value.cells] using this
     · rw [if_neg h2] at hm ho
       exact BE.MZ ⟨by unfold AN; omega, rJ (k + 1) q m d τ (by omega) (by omega) (by rw [if_neg h2]; exact hm) hb hx (by rw [if_neg h2]; exact ho)⟩
end TwW
end
section
namespace TwW
open Go Tw Go.Proofs.Tryz
def SL (ms : List Mem) (hash : Int) : List F4 := (sorted (Bd ms)).dropWhile (fun s => decide (s.1 < hash)) ++ (sorted (Bd ms)).takeWhile (fun s => decide (s.1 < hash))
def dd : List Int → List Int → List Int
 | acc, [] => acc
 | acc, x :: xs => if x ∈ acc then dd acc xs else dd (acc ++ [x]) xs
def round (ms : List Mem) (hash : Int) : List Int := dd [] ((SL ms hash).map Prod.snd)
theorem aX : ∀ (xs acc : List Int), ∃ E, dd acc xs = acc ++ E
 | [], acc => ⟨[], by simp [dd]⟩
 | x :: xs, acc => by
   unfold dd
   split
   · exact aX xs acc
   · obtain ⟨E, hE⟩ := aX xs (acc ++ [x])
     exact ⟨x :: E, by rw [hE]; simp⟩
theorem aY : ∀ (xs ys acc : List Int), dd acc (xs ++ ys) = dd (dd acc xs) ys
 | [], ys, acc => rfl
 | x :: xs, ys, acc => by
   simp only [List.cons_append, dd]
   split <;> exact aY xs ys _
theorem aZ : ∀ (xs acc : List Int) (y : Int), y ∈ dd acc xs ↔ y ∈ acc ∨ y ∈ xs
 | [], acc, y => by simp [dd]
 | x :: xs, acc, y => by
   unfold dd
   split
   · rename_i h
     rw [aZ xs acc y, List.mem_cons]
     constructor
     · rintro (h1 | h1)
       · exact .inl h1
       · exact .inr (.inr h1)
     · rintro (h1 | rfl | h1)
       · exact .inl h1
       · exact .inl h
       · exact .inr h1
   · rw [aZ xs _ y]; simp [or_assoc]
theorem RG : ∀ (xs acc : List Int), acc.Nodup → (dd acc xs).Nodup
 | [], acc, h => h
 | x :: xs, acc, h => by
   unfold dd
   split
   · exact RG xs acc h
   · rename_i hx
     refine RG xs _ ?_
     rw [List.nodup_append]
     exact ⟨h, by simp, fun a ha b hb => by simp at hb; subst hb; exact fun e => hx (e ▸ ha)⟩
theorem ad {xs : List F4} {x : F4} : x ∈ sorted xs ↔ x ∈ xs := (List.mergeSort_perm xs _).mem_iff
theorem X3 {ms : List Mem} {hash : Int} {s : F4} : s ∈ SL ms hash ↔ s ∈ Bd ms := by
 unfold SL
 rw [List.mem_append, or_comm, ← List.mem_append, List.takeWhile_append_dropWhile, ad]
def kd (hash t : Int) : Int := (t - hash) % 4294967296
def nn (t : Int) : Prop := 0 ≤ t ∧ t < 4294967296
def better (hash : Int) (b : Option F4) (s : F4) : Option F4 :=
 match b with
 | none => some s
 | some u => if kd hash s.1 < kd hash u.1 then some s else some u
def pick (hash : Int) (xs : List F4) : Option F4 := xs.foldl (better hash) none
theorem Ie : ∀ (A B : List Int), A.Nodup → (∀ x ∈ A, x ∈ B) → A.length ≤ B.length
 | [], B, _, _ => Nat.zero_le _
 | a :: A, B, hn, h => by
   rw [List.nodup_cons] at hn
   have ha := h a (List.mem_cons_self ..)
   have := Ie A (B.erase a) hn.2 (fun x hx => (List.mem_erase_of_ne (fun (e : x = a) => hn.1 (by rw [← e]; exact hx))).2 (h x (List.mem_cons_of_mem _ hx)))
   rw [List.length_erase_of_mem ha] at this
   have hb : 0 < B.length := List.length_pos_of_mem ha
   simp; omega
theorem Mz {A B : List Int} (ha : A.Nodup) (hb : B.Nodup) (h : ∀ x, x ∈ A ↔ x ∈ B) : A.length = B.length :=
 Nat.le_antisymm (Ie A B ha fun x hx => (h x).1 hx) (Ie B A hb fun x hx => (h x).2 hx)
def B8 (ms : List Mem) : List Int := (ms.filter fun m => decide (m.state = 2)).map Mem.id
theorem lq {ms : List Mem} (Ap : LA ms) (x : Int) : x ∈ (Bd ms).map Prod.snd ↔ x ∈ B8 ms := by
 unfold Bd B8
 simp only [List.mem_map, List.mem_flatMap, List.mem_filter, decide_eq_true_eq]
 constructor
 · rintro ⟨s, ⟨m, hm, hs⟩, rfl⟩
   unfold Km at hs
   split at hs
   · rename_i h2
     obtain ⟨t, ht, rfl⟩ := List.mem_map.1 hs
     exact ⟨m, ⟨hm, h2⟩, rfl⟩
   · cases hs
 · rintro ⟨m, ⟨hm, h2⟩, rfl⟩
   have h1 := (Ap.1 m hm).2.2.2.2.1
   cases hto : m.B4 with
   | nil => rw [hto] at h1; simp at h1
   | cons t ts => exact ⟨(t, m.id), ⟨m, hm, by unfold Km; rw [if_pos h2, hto]; simp⟩, rfl⟩
theorem L0 {xs : List Int} (h : EN xs) : xs.Nodup := List.Pairwise.imp (fun {a b} (ff : a < b) => by omega) h
theorem gP {ms : List Mem} {hash x : Int} (Ap : LA ms) : x ∈ round ms hash ↔ x ∈ B8 ms := by
 unfold round
 rw [aZ, ← lq Ap]
 simp only [List.not_mem_nil, false_or, List.mem_map]
 constructor
 · rintro ⟨s, hs, rfl⟩; exact ⟨s, X3.1 hs, rfl⟩
 · rintro ⟨s, hs, rfl⟩; exact ⟨s, X3.2 hs, rfl⟩
theorem On (ms : List Mem) (hash : Int) : (round ms hash).Nodup := RG _ _ List.nodup_nil
theorem Th {ms : List Mem} {hash : Int} (Ap : LA ms) : (round ms hash).length = (B8 ms).length :=
 Mz (On ms hash) ((L0 Ap.2).sublist ((List.filter_sublist).map _)) fun x => gP Ap
end TwW
end
section
namespace TwW
open Go Tw Go.Proofs.Tryz
theorem ae {R : Rr} {σ : Hp} {p : Option Addr} {n c : Nat} {x : Int} {xs : List Int} (hr : By .i64 σ p n xs) (h : ∀ i : Int, (0 ≤ i ↔ x ∈ xs) → R (.returned (.int .i64 i)) σ) :
   Spec prog 114 #[.slice p n c, .int .i64 x] σ R := by
 refine slices_Index_int.start ?_
 suffices H : ∀ d k : Nat, n - k = d → k ≤ n → x ∉ xs.take k → slices_Index_int.Ni R p n c x n k σ from H n 0 rfl (Nat.zero_le _) (by simp)
 intro d
 induction d with
 | zero =>
   intro k hd hk BQ
   refine slices_Index_int.D6 ⟨fun Ag => by omega, fun _ => h (-1) ?_⟩
   rw [List.take_of_length_le (by rw [hr.1]; omega)] at BQ
   exact ⟨fun h => absurd h (by decide), fun h => absurd h BQ⟩
 | succ d ih =>
   intro k hd hk BQ
   obtain ⟨y, hy⟩ := hr.ex (k := k) (by omega)
   obtain ⟨b, o, rfl, hl⟩ := hr.at hy
   refine slices_Index_int.D6 ⟨fun _ => ⟨b, o, rfl, by omega, y, by simpa using hl, fun he => h k ⟨fun _ => ?_, fun _ => by omega⟩, fun Ad => ⟨Af (by omega) hr.big, ih (k + 1) (by omega) (by omega) ?_⟩⟩, fun Fb => by omega⟩
   · rw [show x = y by omega]; exact List.mem_of_getElem? hy
   · rw [Fa hy]
     rintro (h1 | h1)
     · exact BQ h1
     · exact Ad (by omega)
theorem Hk {R : Rr} {σ : Hp} {p : Option Addr} {n c : Nat} {x : Int} {xs : List Int} (hr : By .i64 σ p n xs) (h : R (.returned (.bool (decide (x ∈ xs)))) σ) :
   Spec prog 50 #[.slice p n c, .int .i64 x] σ R :=
 slices_Contains_int.start (ae hr fun i hi => ⟨i, rfl, by dsimp only; rw [show decide (0 ≤ i) = decide (x ∈ xs) by by_cases hx : x ∈ xs <;> simp [hx, hi]]; exact h⟩)
abbrev NH (b5 b6 b7 b8 D l : Nat) (rf : Int) (o6 : Value) (o7 : Int) (q : Option Addr) (n d : Nat) (lo : Loop) : List (Nat × Obj) :=
 [(l, .loop lo), (D, .deferred (some [])), (b8, .cells #[.slice q n d] 26 (0, 0)), (b7, .cells #[.int .i64 o7] 67 (0, 0)), (b6, .cells #[o6] 26 (0, 0)), (b5, .cells #[.int .i64 rf] 3 (0, 0))]
theorem KQ {B : Hp} {b5 b6 b7 b8 D l : Nat} {rf : Int} {o6 : Value} {o7 : Int} {q : Option Addr} {n d : Nat} {lo lo' : Loop} : (AX B (NH b5 b6 b7 b8 D l rf o6 o7 q n d lo)).set l (.loop lo') = AX B (NH b5 b6 b7 b8 D l rf o6 o7 q n d lo') := Hp.set_set
theorem Pg (w : World) : (Go.sizeOf 26).run prog w = .ok 1 w := Go.Proofs.Tryz.sizeOf26 w
theorem af (w : World) : (Go.sizeOf 67).run prog w = .ok 1 w := Go.Proofs.Tryz.sizeOf67 w
section
variable {b5 b6 b7 b8 D l : Nat}
def Nd (b5 b6 b7 b8 D l : Nat) : Prop := [l, D, b8, b7, b6, b5].Nodup
def X4 (b5 b6 b7 b8 D l : Nat) (B : Hp) : Prop := ∀ b ∈ [l, D, b8, b7, b6, b5], B b = none
theorem Ti {R2 : Rr} {σ B : Hp} {r0 : Loop} {n k0 d : Nat} {q : Option Addr} {out : List Int} (hn : Nd b5 b6 b7 b8 D l)
   (ready : n ≠ k0 → R2 (.returned (.bool true)) (AX B (NH b5 b6 b7 b8 D l k0 (.slice none 0 0) 0 q n d (lp r0 .ready none))))
   (stop : n = k0 → R2 (.returned (.bool false)) (AX B (NH b5 b6 b7 b8 D l k0 (.slice q n d) 0 q n d (lp r0 .done (some .ret))))) :
   DS.pF R2 l r0 b5 b6 b7 b8 (AX B (NH b5 b6 b7 b8 D l k0 (.slice none 0 0) 0 q n d (lp r0 .busy none))) := by
 refine DS.pH ⟨q, n, d, Hq (i := 2) hn rfl rfl, k0, Hq (i := 5) hn rfl rfl, fun he => ⟨q, n, d, Hq (i := 2) hn rfl rfl, ?_⟩, fun Ad => ⟨B3 (i := 0) hn rfl, ?_⟩⟩
 · refine AJ.Bz (i := 4) (c := #[.slice none 0 0]) Pg hn rfl rfl rfl rfl rfl ?_
   refine AJ.Bz (i := 3) (c := #[.int .i64 0]) af hn rfl rfl rfl rfl rfl ?_
   refine ⟨B3 (i := 0) hn rfl, ?_⟩
   have Kr := stop (by omega)
   rw [← KQ (lo := lp r0 .busy none)] at Kr
   exact Kr
 · have cN := ready (by omega)
   rw [← KQ (lo := lp r0 .busy none)] at cN
   exact cN
theorem ag {R2 : Rr} {σ B : Hp} {r0 : Loop} {n k0 d : Nat} {q : Option Addr} {out : List Int} {x : Int} (hn : Nd b5 b6 b7 b8 D l) (Ep : X4 b5 b6 b7 b8 D l B) (hx : Ext σ B) (ho : AS .i64 (σ.new B) q n d out) (hnk : n < k0) (hk5 : k0 ≤ 5)
   (ready : ∀ q' n' d' B' KR, KR = (if x ∈ out then out else out ++ [x]) → n' = KR.length → n' < k0 → X4 b5 b6 b7 b8 D l B' → Ext σ B' → AS .i64 (σ.new B') q' n' d' KR → Ext ((σ.new B).del q) ((σ.new B').del q') → R2 (.returned (.bool true)) (AX B' (NH b5 b6 b7 b8 D l k0 (.slice none 0 0) 0 q' n' d' (lp r0 .ready none))))
   (stop : ∀ q' d' B' KR, KR = (if x ∈ out then out else out ++ [x]) → k0 = KR.length → X4 b5 b6 b7 b8 D l B' → Ext σ B' → AS .i64 (σ.new B') q' k0 d' KR → R2 (.returned (.bool false)) (AX B' (NH b5 b6 b7 b8 D l k0 (.slice q' k0 d') 0 q' k0 d' (lp r0 .done (some .ret))))) :
   DS.As R2 l r0 b5 b6 b7 b8 x (AX B (NH b5 b6 b7 b8 D l k0 (.slice none 0 0) 0 q n d (lp r0 .ready none))) := by
 have hol : out.length = n := ho.rd.1
 have AOp : ∀ lo o6 o7 q n d, HL (NH b5 b6 b7 b8 D l k0 o6 o7 q n d lo) B := fun _ _ _ _ _ _ => Ep
 refine DS.BO ⟨B3 (i := 0) hn rfl, ?_⟩
 rw [show Hp.set (AX B (NH b5 b6 b7 b8 D l k0 (.slice none 0 0) 0 q n d (lp r0 .ready none))) l (.loop (lp r0 .busy none)) = AX B (NH b5 b6 b7 b8 D l k0 (.slice none 0 0) 0 q n d (lp r0 .busy none)) from KQ]
 change ∃ OJ : Option Addr, ∃ n25 : Nat, ∃ ND : Nat, Hp.ld (AX B (NH b5 b6 b7 b8 D l k0 (.slice none 0 0) 0 q n d (lp r0 .busy none))) ⟨b8, 0, none⟩ = some (.slice OJ n25 ND) ∧ Spec prog 50 #[.slice OJ n25 ND, .int .i64 x] (AX B (NH b5 b6 b7 b8 D l k0 (.slice none 0 0) 0 q n d (lp r0 .busy none))) _
 have Qd : Ext B (AX B (NH b5 b6 b7 b8 D l k0 (.slice none 0 0) 0 q n d (lp r0 .busy none))) := HL.ext (hn : (names (NH b5 b6 b7 b8 D l k0 (.slice none 0 0) 0 q n d (lp r0 .busy none))).Nodup) Ep
 refine ⟨q, n, d, Hq (i := 2) hn rfl rfl, Hk (ho.rd.mono ((Ext.Ah σ B).trans Qd)) ⟨_, rfl, fun hf => ?_, fun ht => ?_⟩⟩
 · have hnx : x ∉ out := by simpa using hf
   refine ⟨q, n, d, Hq (i := 2) hn rfl rfl, fun Jm rO => ?_⟩
   obtain ⟨MF, hB⟩ := Bu rO
   rw [DC MF]
   refine AJ.B9 hn (HL.set (L := NH b5 b6 b7 b8 D l k0 (.slice none 0 0) 0 q n d (lp r0 .busy none)) Ep MF) (AS.Hy hx ho (by omega) (fun q' d' B' Em Cm iU Tj => ⟨q', n + 1, d', rfl, ?_⟩) hB)
   refine AJ.Bz (i := 2) (c := #[.slice q n d]) Pg hn rfl rfl rfl rfl rfl ?_
   have hlen : (out ++ [x]).length = n + 1 := by simp [hol]
   refine Ti (σ := σ) (out := out) hn (fun Ad => ready q' (n + 1) d' B' (out ++ [x]) (by rw [if_neg hnx]) hlen.symm (by omega) Tj Cm Em iU) fun he => ?_
   subst he
   exact stop q' d' B' (out ++ [x]) (by rw [if_neg hnx]) hlen.symm Tj Cm Em
 · have U4 : x ∈ out := by simpa using ht
   refine Ti (σ := σ) (out := out) hn (fun Ad => ready q n d B out (by rw [if_pos U4]) hol.symm hnk Ep hx ho (.refl _)) fun he => by omega
end
theorem ub : ∀ (L : List F4) (k : Nat) (hash : Int), (∀ s ∈ L.take k, s.1 < hash) → (∀ s, L[k]? = some s → ¬ s.1 < hash) → L.takeWhile (fun s => decide (s.1 < hash)) = L.take k ∧ L.dropWhile (fun s => decide (s.1 < hash)) = L.drop k
 | [], k, hash, _, _ => by simp
 | x :: L, 0, hash, _, h2 => by
   have := h2 x rfl
   simp [List.takeWhile, List.dropWhile, decide_eq_false this]
 | x :: L, k + 1, hash, h1, h2 => by
   have hx : x.1 < hash := h1 x (by simp)
   have ih := ub L k hash (fun s hs => h1 s (by simp [hs])) (fun s hs => h2 s (by simpa using hs))
   simp [List.takeWhile, List.dropWhile, decide_eq_true hx, ih.1, ih.2]
theorem lr {ms : List Mem} {hash : Int} {k m j : Nat} (hm : (sorted (Bd ms)).length = m) (hk : k ≤ m) (h1 : ∀ s ∈ (sorted (Bd ms)).take k, s.1 < hash) (h2 : ∀ s, (sorted (Bd ms))[k]? = some s → ¬ s.1 < hash) (hj : j < m) :
   (SL ms hash)[j]? = (sorted (Bd ms))[(k + j) % m]? := by
 obtain ⟨e1, e2⟩ := ub _ k hash h1 h2
 unfold SL
 rw [e1, e2, List.getElem?_append, List.length_drop, hm]
 by_cases UA : j < m - k
 · rw [if_pos UA, List.getElem?_drop, Nat.mod_eq_of_lt (by omega)]
 · rw [if_neg UA, List.getElem?_take, if_pos (by omega), show (k + j) % m = j - (m - k) by rw [Nat.mod_eq_sub_mod (by omega), Nat.mod_eq_of_lt (by omega)]; omega]
theorem lu {ms : List Mem} {hash : Int} : (SL ms hash).length = (Bd ms).length := by
 unfold SL
 rw [List.length_append, Nat.add_comm, ← List.length_append, List.takeWhile_append_dropWhile, Dm]
theorem VE {R : Rr} {σ0 : Hp} {Hf c5 l k m d : Nat} {q : Option Addr} {ms : List Mem} {hash : Int} {I : Nat → Hp → Prop} {S : Hp → Prop}
   (hm : (sorted (Bd ms)).length = m) (hm9 : m ≤ 1024) (hk : k ≤ m) (h1 : ∀ s ∈ (sorted (Bd ms)).take k, s.1 < hash) (h2 : ∀ s, (sorted (Bd ms))[k]? = some s → ¬ s.1 < hash)
   (hI : ∀ j σ, I j σ → Hp.ld σ ⟨c5, 0, none⟩ = some (.slice q m d) ∧ Hp.ld σ ⟨Hf, 0, none⟩ = some (.int .i64 k) ∧ Fj 2 KO σ q m (sorted (Bd ms)))
   (OA : ∀ j σ s, I j σ → (SL ms hash)[j]? = some s → Hz prog l #[.int .i64 s.2] σ (fun e σ' => (e = .returned (.bool true) ∧ I (j + 1) σ') ∨ (e = .returned (.bool false) ∧ S σ')))
   (dx : ∀ σ, I m σ → R (.returned (.tuple #[])) σ) (AFC : ∀ σ, S σ → R (.returned (.tuple #[])) σ) (h0 : I 0 σ0) :
   Spec prog 125 #[.func (.yield l) #[] #[], .pointer (some ⟨c5, 0, none⟩), .pointer (some ⟨Hf, 0, none⟩)] σ0 R := by
 refine EJ.start ⟨q, m, d, (hI 0 σ0 h0).1, ?_⟩
 suffices H : ∀ g j : Nat, ∀ σ, m - j = g → j ≤ m → I j σ → EJ.pt5 R (.func (.yield l) #[] #[]) c5 Hf m j σ from H m 0 σ0 rfl (by omega) h0
 intro g
 induction g with
 | zero =>
   intro j σ hg hj hi
   obtain rfl : j = m := by omega
   exact EJ.kN ⟨fun Ag => by omega, fun _ => dx σ hi⟩
 | succ g ih =>
   intro j σ hg hj hi
   obtain ⟨f1, f2, f3⟩ := hI j σ hi
   have hjm : j < m := by omega
   have R0 : (k + j) % m < m := Nat.mod_lt _ (by omega)
   obtain ⟨s, hs⟩ := f3.ex R0
   obtain ⟨b, o, vs, hq, hv, hl⟩ := Fj.idx f3 hs
   have hv : vs = encS s := hv
   subst hv
   have Hv : (SL ms hash)[j]? = some s := by rw [lr hm hk h1 h2 hjm]; exact hs
   refine EJ.kN ⟨fun _ => ⟨q, m, d, f1, k, f2, by unfold AN; omega, q, m, d, f1, by omega, fun Ix ALO => ?_⟩, fun Fb => by omega⟩
   have h17 : Ix = (((k + j) % m : Nat) : Int) := by
     rw [ALO, Int.tmod_eq_emod_of_nonneg (by omega), Int.natCast_emod, Int.natCast_add]
   subst h17
   refine ⟨b, o, hq, by omega, s.2, by rw [Int.toNat_natCast]; exact hl.2.1, l, rfl, (OA j σ s hi Hv).mono fun e σ' he => ?_⟩
   rcases he with ⟨rfl, JQ⟩ | ⟨rfl, Ho⟩
   · exact ⟨true, rfl, fun h => (by cases h), fun _ => ⟨by unfold AN; omega, ih (j + 1) σ' (by omega) (by omega) JQ⟩⟩
   · exact ⟨false, rfl, fun _ => AFC σ' Ho, fun h => by cases h⟩
end TwW
end
section
namespace TwW
open Go Tw Go.RowKit Go.Proofs.Tryz
structure Part where
 s : Sm
 rs : List Int
def Dn (σ : Hp) (vs : List Value) (x : Part × Nat) : Prop := ∃ p n c q m d, vs = [.slice p n c, .int .i64 x.1.s.t, .int .u64 x.1.s.v, .slice q m d, .map (some x.2)] ∧ Pf σ p n x.1.s.ls ∧ By .i64 σ q m x.1.rs
theorem Dn.mono : Oz Dn := fun _ _ _ _ hx ⟨p, n, c, q, m, d, hv, h1, h2⟩ => ⟨p, n, c, q, m, d, hv, h1.mono JU.mono hx, h2.mono hx⟩
abbrev Ci := List (Int × Int)
def C9 : Ci → Int → Int
 | [], _ => 0
 | (a, b) :: l, x => if a = x then b else C9 l x
def Hl : Ci → Int → Int → Ci
 | [], x, y => [(x, y)]
 | (a, b) :: l, x, y => if a = x then (x, y) :: l else (a, b) :: Hl l x y
def C2 (x : Int) : Bool := decide (x = 1 ∨ x = 2)
def VF (f : Ci) : Nat := (f.filter fun x => C2 x.2).length
theorem RH {f : Ci} {x : Int} (h : ∀ a ∈ f, a.1 ≠ x) : C9 f x = 0 := by
 induction f with
 | nil => rfl
 | cons a f ih => rw [C9, if_neg (h a (by simp))]; exact ih fun b hb => h b (List.mem_cons_of_mem _ hb)
theorem gQ {f1 f2 : Ci} {x y : Int} (h : ∀ a ∈ f1, a.1 ≠ x) : C9 (f1 ++ (x, y) :: f2) x = y := by
 induction f1 with
 | nil => simp [C9]
 | cons a f ih => rw [List.cons_append, C9, if_neg (h a (by simp))]; exact ih fun b hb => h b (List.mem_cons_of_mem _ hb)
theorem Tk {f : Ci} {x y : Int} (h : ∀ a ∈ f, a.1 ≠ x) : Hl f x y = f ++ [(x, y)] := by
 induction f with
 | nil => rfl
 | cons a f ih => rw [Hl, if_neg (h a (by simp)), ih fun b hb => h b (List.mem_cons_of_mem _ hb)]; rfl
theorem X5 {f1 f2 : Ci} {x y z : Int} (h : ∀ a ∈ f1, a.1 ≠ x) : Hl (f1 ++ (x, z) :: f2) x y = f1 ++ (x, y) :: f2 := by
 induction f1 with
 | nil => simp [Hl]
 | cons a f ih => rw [List.cons_append, Hl, if_neg (h a (by simp)), ih fun b hb => h b (List.mem_cons_of_mem _ hb)]; rfl
def I9 (x : Int × Int) (n : Nat) : MapEntry := { key := .int .i64 x.1, val := .int .i64 x.2, born := n }
def EZ (σ : Hp) (m : Nat) (f : Ci) : Prop := ∃ (bs : List Nat) (clock : Nat), bs.length = f.length ∧ ye.A2 σ m (List.zipWith I9 f bs) clock
instance : ye.MpI prog 127 3 3 := ⟨underlying127, underlying3⟩
theorem AFD : ∀ w, (zeroValue 3).run prog w = .ok (.int .i64 0) w := fun w => by
 have h : prog.info? 3 = some t3 := by kernel_rfl
 simp [zeroValue, typeInfo, h]
 rfl
section
variable {σ σ' τ : Hp} {R : Rr}
theorem EZ.mono {m : Nat} {f : Ci} (h : EZ σ m f) (hx : Ext σ σ') : EZ σ' m f := let ⟨bs, c, h1, h2⟩ := h; ⟨bs, c, h1, h2.mono hx⟩
theorem EZ.loc {m : Nat} {f : Ci} (h : EZ σ m f) (hx : σ' m = σ m) : EZ σ' m f := let ⟨bs, c, h1, h2⟩ := h; ⟨bs, c, h1, h2.loc hx⟩
theorem EZ.known {m : Nat} {f : Ci} (h : EZ σ m f) : σ m ≠ none := let ⟨bs, c, h1, h2⟩ := h; by rw [h2.1]; simp
theorem Ph {f : Ci} {bs : List Nat} (h : bs.length = f.length) {a : Int × Int} (ha : a ∈ f) : ∃ e ∈ List.zipWith I9 f bs, e.key = .int .i64 a.1 := by
 obtain ⟨i, hi⟩ := List.mem_iff_getElem?.1 ha
 have Ag := (List.getElem?_eq_some_iff.1 hi).1
 refine ⟨I9 a (bs[i]'(by omega)), List.mem_iff_getElem?.2 ⟨i, ?_⟩, rfl⟩
 rw [List.getElem?_zipWith, hi, List.getElem?_eq_getElem (by omega)]
theorem Tl {f : Ci} {bs : List Nat} {l1 l2 : List MapEntry} {e : MapEntry} {x : Int} (h : bs.length = f.length) (hl : List.zipWith I9 f bs = l1 ++ e :: l2) (hk : e.key = .int .i64 x) :
   ∃ f1 y f2 b1 b b2, f = f1 ++ (x, y) :: f2 ∧ bs = b1 ++ b :: b2 ∧ b1.length = f1.length ∧ l1 = List.zipWith I9 f1 b1 ∧ l2 = List.zipWith I9 f2 b2 ∧ e = I9 (x, y) b := by
 induction l1 generalizing f bs with
 | nil =>
   cases f with
   | nil => simp at hl
   | cons a f =>
     cases bs with
     | nil => simp at h
     | cons b bs =>
       simp only [List.zipWith_cons_cons, List.nil_append, List.cons.injEq] at hl
       obtain ⟨rfl, rfl⟩ := hl
       have : a.1 = x := by simpa [I9] using hk
       subst this
       exact ⟨[], a.2, f, [], b, bs, rfl, rfl, rfl, rfl, rfl, rfl⟩
 | cons a l1 ih =>
   cases f with
   | nil => simp at hl
   | cons a' f =>
     cases bs with
     | nil => simp at h
     | cons b' bs =>
       simp only [List.zipWith_cons_cons, List.cons_append, List.cons.injEq] at hl
       obtain ⟨rfl, hl⟩ := hl
       obtain ⟨f1, y, f2, b1, b, b2, rfl, rfl, h3, rfl, rfl, rfl⟩ := ih (by simpa using h) hl
       exact ⟨a' :: f1, y, f2, b' :: b1, b, b2, rfl, rfl, by simp [h3], rfl, rfl, rfl⟩
theorem Oo {f1 f2 : Ci} {b1 b2 : List Nat} {b : Nat} {x y : Int} (hb : b1.length = f1.length) (hn : ((List.zipWith I9 (f1 ++ (x, y) :: f2) (b1 ++ b :: b2)).map (·.key)).Nodup) : ∀ a ∈ f1, a.1 ≠ x := fun a ha he => by
 rw [List.zipWith_append (by omega), List.map_append, List.zipWith_cons_cons, List.map_cons, List.nodup_append] at hn
 obtain ⟨e, h1, h2⟩ := Ph hb ha
 exact hn.2.2 _ (List.mem_map.2 ⟨e, h1, h2⟩) _ (by simp [I9]; exact .inl rfl) (by rw [he])
theorem EZ.look {m : Nat} {f : Ci} {x : Int} {Φ : Value → Hp → Prop} (h : EZ σ m f) (hΦ : Φ (.int .i64 (C9 f x)) σ) : AJ prog (Instr.lookup 127 (.map (some m)) (.int .i64 x) false) σ Φ := by
 obtain ⟨bs, clock, hb, hm⟩ := h
 refine ye.Io hm AFD (fun BQ => ?_) fun l1 e l2 hl he => ?_
 · rwa [RH] at hΦ
   intro a ha yu
   obtain ⟨e, h1, h2⟩ := Ph hb ha
   exact BQ e h1 (by rw [h2, yu])
 · obtain ⟨f1, y, f2, b1, b, b2, rfl, rfl, h3, rfl, rfl, rfl⟩ := Tl hb hl he
   rwa [gQ (Oo h3 hm.nodup)] at hΦ
theorem EZ.put {m : Nat} {f : Ci} {x y : Int} {Φ : Unit → Hp → Prop} (h : EZ σ m f) (hΦ : ∀ o, EZ (σ.set m o) m (Hl f x y) → Φ () (σ.set m o)) : AJ prog (Instr.mapUpdate 127 (.map (some m)) (.int .i64 x) (.int .i64 y)) σ Φ := by
 obtain ⟨bs, clock, hb, hm⟩ := h
 refine ye.EE hm (fun BQ σ' hσ ME => ?_) fun l1 e l2 hl he σ' hσ ME => ?_
 · subst hσ
   refine hΦ _ ⟨bs ++ [clock], clock + 1, ?_, ?_⟩
   · rw [Tk]
     · simp [hb]
     · intro a ha yu
       obtain ⟨e, h1, h2⟩ := Ph hb ha
       exact BQ e h1 (by rw [h2, yu])
   · rw [Tk, List.zipWith_append hb.symm]
     · exact ME
     · intro a ha yu
       obtain ⟨e, h1, h2⟩ := Ph hb ha
       exact BQ e h1 (by rw [h2, yu])
 · obtain ⟨f1, z, f2, b1, b, b2, rfl, rfl, h3, rfl, rfl, rfl⟩ := Tl hb hl he
   have hf := Oo h3 hm.nodup
   subst hσ
   refine hΦ _ ⟨b1 ++ b :: b2, clock, ?_, ?_⟩
   · rw [X5 hf]; simpa using hb
   · rw [X5 hf, List.zipWith_append h3.symm]
     exact ME
theorem lv {α : Type} {l : List α} (h : l.Nodup) {i j : Nat} {x : α} (hi : l[i]? = some x) (hj : l[j]? = some x) : i = j := by
 obtain ⟨h1, XD⟩ := List.getElem?_eq_some_iff.1 hi
 obtain ⟨h2, fD⟩ := List.getElem?_eq_some_iff.1 hj
 have := List.pairwise_iff_getElem.1 h
 rcases Nat.lt_trichotomy i j with hl | hl | hl
 · exact absurd (XD.trans fD.symm) (this i j h1 h2 hl)
 · exact hl
 · exact absurd (fD.trans XD.symm) (this j i h2 h1 hl)
structure L1 (σ : Hp) (pb : Nat) (E : Int) (Q : Int) (ps : List Part) (ms : List Nat) : Prop where
 cell : ∃ p n c, σ pb = some (.cells #[.int .u64 E, .int .i64 Q, .slice p n c] 126 (0, 0)) ∧ Fj 5 Dn σ p n (ps.zip ms)
 len : ps.length = ms.length
 uc : ps.length ≤ 256
 small : ∀ x ∈ ps, G3 x.s.ls
 rep : ∀ x ∈ ps, x.rs.length ≤ 5
theorem L1.mono {pb : Nat} {E Q : Int} {ps : List Part} {ms : List Nat} (h : L1 σ pb E Q ps ms) (hx : Ext σ σ') : L1 σ' pb E Q ps ms :=
 let ⟨⟨p, n, c, h1, h2⟩, h3, h4, h5, h6⟩ := h; ⟨⟨p, n, c, hx _ _ h1, h2.mono Dn.mono hx⟩, h3, h4, h5, h6⟩
structure Be (σ : Hp) (pb : Nat) (E : Int) (Q : Int) (ps : List Part) (ms : List Nat) (fs : List Ci) (τ : Hp) : Prop where
 row : L1 (σ.off ms) pb E Q ps ms
 nodup : ms.Nodup
 len : ms.length = fs.length
 X6 : ∀ (i m : Nat) (f : Ci), ms[i]? = some m → fs[i]? = some f → EZ σ m f
 ext : Ext τ (σ.off ms)
variable {pb : Nat} {E Q : Int} {ps : List Part} {ms : List Nat} {fs : List Ci}
theorem Be.at (h : Be σ pb E Q ps ms fs τ) : L1 σ pb E Q ps ms := h.row.mono (Ext.Cp _ _)
theorem Be.known (h : Be σ pb E Q ps ms fs τ) : ∀ m ∈ ms, σ m ≠ none := fun m hm => by
 obtain ⟨i, hi⟩ := List.mem_iff_getElem?.1 hm
 have Ag := (List.getElem?_eq_some_iff.1 hi).1
 exact (h.X6 i m _ hi (List.getElem?_eq_getElem (by rw [← h.len]; exact Ag))).known
theorem Be.grow (h : Be σ pb E Q ps ms fs τ) (hx : Ext σ σ') : ∃ τ', Be σ' pb E Q ps ms fs τ' ∧ Ext τ τ' ∧ Ext (σ.new σ') τ' :=
 ⟨σ'.off ms, ⟨h.row.mono (hx.off ms), h.nodup, h.len, fun i m f hm hf => (h.X6 i m f hm hf).mono hx, .refl _⟩, h.ext.trans (hx.off ms), fun k o hk => Hp.AG.2 ⟨fun DR => by
   have h1 := (AO.1 hk).1
   exact h.known k DR h1, (AO.1 hk).2⟩⟩
theorem Be.FC {τ' : Hp} (h : Be σ pb E Q ps ms fs τ) (hx : Ext τ' τ) : Be σ pb E Q ps ms fs τ' := ⟨h.row, h.nodup, h.len, h.X6, hx.trans h.ext⟩
theorem Be.mono (h : Be σ pb E Q ps ms fs τ) (hx : Ext σ σ') : Be σ' pb E Q ps ms fs τ := let ⟨_, h1, h2, _⟩ := h.grow hx; h1.FC h2
theorem Be.up (h : Be σ pb E Q ps ms fs τ) : Ext τ σ := h.ext.trans (Ext.Cp _ _)
theorem Be.Ah {σ0 : Hp} (h : Be (σ0.new σ) pb E Q ps ms fs (fun _ => none)) (hx : Ext σ0 σ) : Be σ pb E Q ps ms fs σ0 :=
 ⟨h.row.mono ((Ext.Ah _ _).off ms), h.nodup, h.len, fun i m f hm hf => (h.X6 i m f hm hf).mono (Ext.Ah _ _), fun k o hk => Hp.AG.2 ⟨fun DR => h.known k DR (by
   cases hh : (σ0.new σ) k with
   | none => rfl
   | some u => have := (AO.1 hh).1; rw [hk] at this; cases this), hx _ _ hk⟩⟩
theorem Be.set {i m x y : Nat} {f f' : Ci} {o : Obj} (h : Be σ pb E Q ps ms fs τ) (hm : ms[i]? = some m) (hf : EZ (σ.set m o) m f') : Be (σ.set m o) pb E Q ps ms (fs.set i f') τ := by
 have Cf : m ∈ ms := List.mem_of_getElem? hm
 have Ag := (List.getElem?_eq_some_iff.1 hm).1
 have e : (σ.set m o).off ms = σ.off ms := Hp.GN Cf
 refine ⟨by rw [e]; exact h.row, h.nodup, by simp [h.len], fun j m' g hj hg => ?_, by rw [e]; exact h.ext⟩
 by_cases hij : i = j
 · subst hij
   rw [hm] at hj; cases hj
   rw [List.getElem?_set_self (by rw [← h.len]; exact Ag)] at hg
   cases hg; exact hf
 · rw [List.getElem?_set_ne hij] at hg
   have Ad : m' ≠ m := fun e => by
     subst e
     exact hij (lv h.nodup hm hj)
   exact (h.X6 j m' g hj hg).loc (Hp.AH Ad)
def Db (nd : Int) (x : Part) : Bool := decide (nd ∈ x.rs)
theorem Dn.at {p : Option Addr} {n i : Nat} {L : List (Part × Nat)} {x : Part × Nat} (hr : Fj 5 Dn σ p n L) (hx : L[i]? = some x) : ∃ b o p1 n1 c1 q m d, p = some ⟨b, o, none⟩ ∧ Dz σ b (o + i * 5) [.slice p1 n1 c1, .int .i64 x.1.s.t, .int .u64 x.1.s.v, .slice q m d, .map (some x.2)] ∧ Pf σ p1 n1 x.1.s.ls ∧ By .i64 σ q m x.1.rs := by
 obtain ⟨b, o, vs, hp, ⟨p1, n1, c1, q, m, d, rfl, h1, h2⟩, hl⟩ := Fj.idx hr hx
 exact ⟨b, o, p1, n1, c1, q, m, d, hp, hl, h1, h2⟩
theorem Mw.one (σ : Hp) (vs : List Value) (x : Sm) (h : Mw σ vs x) : CN vs := by
 obtain ⟨p, n, c, rfl, _⟩ := h
 intro u hu
 simp only [List.mem_cons, List.not_mem_nil, or_false] at hu
 rcases hu with rfl | rfl | rfl <;> rfl
theorem X7 {nd : Int} (h : L1 σ pb E Q ps ms) (hR : ∀ p n c σ', BA 3 Mw (σ.new σ') p n c ((ps.filter (Db nd)).map (·.s)) → Ext σ σ' → R (.returned (.tuple #[.slice p n c, .int .u64 E])) σ') :
   Spec prog 20 #[.pointer (some ⟨pb, 0, none⟩), .int .i64 nd] σ R := by
 obtain ⟨p, n, c, hc, hr⟩ := h.cell
 have hn : ps.length = n := by have := hr.1; rw [List.length_zip, ← h.len, Nat.min_self] at this; exact this
 have hfew := h.uc
 refine A9.start ⟨pb, 0, rfl, p, n, c, AD hc rfl, ?_⟩
 suffices H : ∀ d i : Nat, ∀ p6 n6 c6 σ6, n - i = d → i ≤ n → BA 3 Mw (σ.new σ6) p6 n6 c6 (((ps.take i).filter (Db nd)).map (·.s)) → Ext σ σ6 → A9.A5 R (aD pb 0) nd p6 n6 c6 p n c n i σ6 from H n 0 none 0 0 σ rfl (Nat.zero_le _) BA.nil (.refl σ)
 intro d
 induction d with
 | zero =>
   intro i p6 n6 c6 σ6 hd hi ho hx
   refine A9.AW ⟨fun Ag => by omega, fun _ => ⟨pb, 0, rfl, E, AD (hx _ _ hc) rfl, hR p6 n6 c6 σ6 ?_ hx⟩⟩
   rw [List.take_of_length_le (by omega)] at ho; exact ho
 | succ d ih =>
   intro i p6 n6 c6 σ6 hd hi ho hx
   have JQ : i < n := by omega
   obtain ⟨x, lx⟩ := hr.ex JQ
   obtain ⟨ly, Qd⟩ := List.getElem?_zip_eq_some.1 lx
   obtain ⟨b, o, p1, n1, c1, q, m, d1, rfl, hl, h1, h2⟩ := Dn.at hr lx
   have MC := h.small x.1 (List.mem_of_getElem? ly)
   have SY : x.1.s.ls.length = n1 := h1.1
   have fN := MC.1
   have nq : n6 ≤ 256 := by
     have := ho.1
     simp only [List.length_map] at this
     have h9 := List.length_filter_le (Db nd) (ps.take i)
     rw [List.length_take] at h9
     omega
   refine A9.AW ⟨fun _ => ⟨b, o, rfl, by omega, p1, n1, c1, x.1.s.t, x.1.s.v, q, m, d1, x.2, by simpa using hl.mono hx, fun _ => Hk (h2.mono hx) ⟨_, rfl, fun CV => ?_, fun CV => ?_⟩⟩, fun hh => by omega⟩
   · refine Xq (h1.mono JU.mono hx) (by omega) fun q' j' σ1 hq BJ => ⟨q', n1, j', _, _, rfl, fun PZ Uv => ?_⟩
     have lV : BA 3 Mw (σ.new σ1) p6 n6 c6 (((ps.take i).filter (Db nd)).map (·.s)) := ho.mono Mw.mono (Ext.BH BJ)
     have dP : ∀ a, p6 = some a → σ6 a.block ≠ none := fun a ha => by
       have := ho.block a ha
       cases hh : (σ.new σ6) a.block with
       | none => exact absurd hh this
       | some oo => rw [(AO.1 hh).2]; simp
     have ALP : Ext (σ6.new σ1) ((σ.new σ1).del p6) := Ext.Hx hx dP
     have he : Mw ((σ.new σ1).del p6) [.slice q' n1 j', .int .i64 x.1.s.t, .int .u64 x.1.s.v] x.1.s := ⟨q', n1, j', rfl, (hq.rd JU.mono).mono JU.mono ALP⟩
     refine BA.Hy Mw.mono (hx.trans BJ) lV rfl (Mw.one _ _ _ he) he (by omega) (fun p' c2 σ2 Bs Ay => ⟨p', n6 + 1, c2, rfl, A9.Ff ⟨Af JQ hr.big, ih (i + 1) _ _ _ _ (by omega) (by omega) ?_ Ay⟩⟩) Uv
     rw [AQ ly, List.filter_append, List.map_append]
     have : Db nd x.1 = true := CV
     simpa [this] using Bs
   · refine A9.Ff ⟨Af JQ hr.big, ih (i + 1) _ _ _ _ (by omega) (by omega) ?_ hx⟩
     rw [AQ ly, List.filter_append, List.map_append]
     have : Db nd x.1 = false := CV
     simpa [this] using ho
theorem RI {x : Int} (h : R (.returned (.bool (C2 x))) σ) : Spec prog 51 #[.int .i64 x] σ R := by
 refine IJ.start ⟨fun h1 => ?_, fun h1 => ?_⟩
 · simpa [C2, h1] using h
 · simpa [C2, h1] using h
def G4 (nd : Int) : List Part → List Ci → List Int → List Ci
 | [], fs, _ => fs
 | _, [], _ => []
 | x :: ps, f :: fs, ys => if Db nd x then (if C2 (C9 f nd) then f else Hl f nd (ys.headD 0)) :: G4 nd ps fs ys.tail else f :: G4 nd ps fs ys
def KS (nd : Int) (ps : List Part) (fs : List Ci) (ys : List Int) : List Ci := if (ps.filter (Db nd)).length = ys.length then G4 nd ps fs ys else fs
theorem ah {ys : List Int} {k : Nat} {y : Int} (h : ys[k]? = some y) : (ys.drop k).headD 0 = y := by rw [HW h]; rfl
theorem Ny {nd : Int} {q : Option Addr} {n2 c2 : Nat} {ys : List Int} (h : Be σ pb E Q ps ms fs τ) (hy : By .i64 τ q n2 ys)
   (hR : ∀ σ', Be σ' pb E Q ps ms (KS nd ps fs ys) τ → R (.returned (.tuple #[])) σ') : Spec prog 15 #[.pointer (some ⟨pb, 0, none⟩), .int .i64 nd, .slice q n2 c2] σ R := by
 have U1 : ys.length = n2 := hy.1
 refine Ak.start (X7 h.at fun wv n14 wx σ1 ho BJ => ⟨wv, n14, wx, E, rfl, fun Ad => ?_, fun heq => ?_⟩)
 · refine hR σ1 ?_
   have := ho.1
   rw [List.length_map] at this
   rw [KS, if_neg (by omega)]
   exact h.mono BJ
 have Hi : (ps.filter (Db nd)).length = ys.length := by have := ho.1; rw [List.length_map] at this; omega
 rw [KS, if_pos Hi] at hR
 obtain ⟨p, n, c, hc, hr⟩ := h.row.cell
 have hn : ps.length = n := by have := hr.1; rw [List.length_zip, ← h.row.len, Nat.min_self] at this; exact this
 have rD := h.row.len
 have SY := h.len
 have hfew := h.row.uc
 refine ⟨pb, 0, rfl, p, n, c, AD (BJ _ _ (Ext.Cp _ _ _ _ hc)) rfl, ?_⟩
 have hU1 := h.mono BJ
 suffices H : ∀ d i k : Nat, ∀ (σ2 : Hp) (gs : List Ci), n - i = d → i ≤ n → k = ((ps.take i).filter (Db nd)).length → Be σ2 pb E Q ps ms gs τ → Fj 5 Dn (σ2.off ms) p n (ps.zip ms) → gs.drop i = fs.drop i → G4 nd ps fs ys = gs.take i ++ G4 nd (ps.drop i) (fs.drop i) (ys.drop k) →
     Ak.Kt R nd q n2 c2 k p n c n i σ2 from H n 0 0 σ1 fs rfl (Nat.zero_le _) rfl hU1 (hr.mono Dn.mono (BJ.off ms)) rfl rfl
 intro d
 induction d with
 | zero =>
   intro i k σ2 gs hd hi hk hU UB hg ht
   refine Ak.HQ ⟨fun Ag => by omega, fun _ => hR σ2 ?_⟩
   have hgl := hU.len
   rw [List.take_of_length_le (by omega), List.drop_of_length_le (l := fs) (by omega), List.drop_of_length_le (l := ps) (by omega)] at ht
   rw [ht]; simpa [G4] using hU
 | succ d ih =>
   intro i k σ2 gs hd hi hk hU UB hg ht
   have JQ : i < n := by omega
   have hgl := hU.len
   obtain ⟨x, lx⟩ := UB.ex JQ
   obtain ⟨ly, Qd⟩ := List.getElem?_zip_eq_some.1 lx
   obtain ⟨b, o, p1, n1, c1, q1, m, d1, rfl, hl, h1, h2⟩ := Dn.at UB lx
   have EB : Ext (σ2.off ms) σ2 := Ext.Cp _ _
   obtain ⟨f, hf⟩ : ∃ f, fs[i]? = some f := ⟨_, List.getElem?_eq_getElem (by omega)⟩
   have hgf : gs[i]? = some f := by
     have := congrArg List.head? hg
     rw [List.head?_drop, List.head?_drop] at this
     rw [this, hf]
   rw [HW ly, HW hf] at ht
   have hg1 : gs.drop (i + 1) = fs.drop (i + 1) := by
     have := congrArg List.tail hg
     simpa [List.tail_drop] using this
   have next : ∀ (j : Nat) (σ3 : Hp) (g' : Ci), j = ((ps.take (i + 1)).filter (Db nd)).length → Be σ3 pb E Q ps ms (gs.set i g') τ → σ3.off ms = σ2.off ms → G4 nd ps fs ys = gs.take i ++ g' :: G4 nd (ps.drop (i + 1)) (fs.drop (i + 1)) (ys.drop j) → Ak.QP R nd q n2 c2 j (aD b o) n c n i σ3 := fun j σ3 g' hj hU3 he ht3 =>
     Ak.Ub ⟨Af JQ hr.big, ih (i + 1) j σ3 _ (by omega) (by omega) hj hU3 (by rw [he]; exact UB) (by rw [List.drop_set_of_lt (by omega)]; exact hg1) (by
       rw [ht3, List.take_add_one, List.getElem?_set_self (by omega), List.take_set_of_le (by omega)]
       simp)⟩
   have Jz : gs.set i f = gs := by
     obtain ⟨h8, h9⟩ := List.getElem?_eq_some_iff.1 hgf
     rw [← h9]; exact List.set_getElem_self h8
   have AOr : k ≤ 256 := by
     have h9 := List.length_filter_le (Db nd) (ps.take i)
     rw [List.length_take] at h9
     omega
   refine Ak.HQ ⟨fun _ => ⟨b, o, rfl, by omega, p1, n1, c1, x.1.s.t, x.1.s.v, q1, m, d1, x.2, by simpa using hl.mono EB, fun _ => Hk (h2.mono EB) ⟨_, rfl, fun CV => ?_, fun CV => ?_⟩⟩, fun hh => by omega⟩
   · have CV : Db nd x.1 = false := CV
     rw [G4, if_neg (by simp [CV])] at ht
     refine next k σ2 f ?_ (by rw [Jz]; exact hU) rfl ht
     rw [AQ ly, List.filter_append, List.length_append, ← hk]; simp [CV]
   · have CV : Db nd x.1 = true := CV
     rw [G4, if_pos CV, List.tail_drop] at ht
     have gR := hU.X6 i x.2 f Qd hgf
     have hk1 : k + 1 = ((ps.take (i + 1)).filter (Db nd)).length := by
       rw [AQ ly, List.filter_append, List.length_append, ← hk]; simp [CV]
     refine gR.look ⟨_, rfl, RI ⟨_, rfl, fun KZ => ?_, fun KZ => ?_⟩⟩
     · have Ag : k < n2 := by
         have h9 : ((ps.take (i + 1)).filter (Db nd)).length ≤ (ps.filter (Db nd)).length := List.Sublist.length_le ((List.take_sublist _ _).filter _)
         omega
       obtain ⟨y, hyk⟩ := hy.ex Ag
       obtain ⟨cI, jj, rfl, ALR⟩ := hy.at hyk
       refine ⟨cI, jj, rfl, by omega, y, by simpa using hU.up.ld ALR, gR.put fun ob ALS => ?_⟩
       rw [if_neg (by simp [KZ]), ah hyk] at ht
       refine Ak.cb ⟨by unfold AN; omega, ?_⟩
       exact next (k + 1) _ _ hk1 (hU.set (x := 0) (y := 0) (f := []) Qd ALS) (Hp.GN (List.mem_of_getElem? Qd)) ht
     · rw [if_pos KZ] at ht
       refine Ak.cb ⟨by unfold AN; omega, ?_⟩
       exact next (k + 1) σ2 f hk1 (by rw [Jz]; exact hU) rfl ht
end
end TwW
end
section
namespace TwW
open Go Tw Go.RowKit Go.Proofs.Tryz
instance : sI prog 159 9 156 := ⟨underlying159, underlying9⟩
theorem yw : ∀ w, (zeroValue 156).run prog w = .ok (.agg #[.slice none 0 0, .int .u64 0]) w := fun w => by
 have h : prog.info? 156 = some t156 := by kernel_rfl
 simp [zeroValue, typeInfo, h]
 rfl
structure CJ where
 key : ByteArray
 p : Option Addr
 n : Nat
 c : Nat
 data : List Int
 lz : Nat
 born : Nat
def CJ.Cj (r : CJ) : MapEntry := Tw.Cj r.key (.agg #[.slice r.p r.n r.c, .int .u64 r.lz]) r.born
structure CJ.Ok (ρ : Hp) (r : CJ) : Prop where
 cap : r.n ≤ r.c
 rd : By .u8 ρ r.p r.n r.data
 uL : E7 r.data
 small : r.n ≤ 65536
 key : FI r.key = true
 lz : r.lz < 18446744073709551616
theorem CJ.Ok.mono {ρ ρ' : Hp} {r : CJ} (h : r.Ok ρ) (hx : Ext ρ ρ') : r.Ok ρ' := ⟨h.cap, h.rd.mono hx, h.uL, h.small, h.key, h.lz⟩
abbrev yx := List Int × Nat
def CG (rows : List CJ) (k : ByteArray) : Option yx := (rows.find? fun r => decide (r.key = k)).map fun r => (r.data, r.lz)
def DW (rows : List CJ) (k : ByteArray) : yx := (CG rows k).getD ([], 0)
abbrev BR (rows : List CJ) : List ByteArray := rows.map (·.key)
theorem G5 {r : CJ} {rows : List CJ} {k : ByteArray} : CG (r :: rows) k = if r.key = k then some (r.data, r.lz) else CG rows k := by
 unfold CG
 rw [List.find?_cons]
 by_cases h : r.key = k <;> simp [h]
theorem JA {rows : List CJ} {k : ByteArray} (h : k ∉ BR rows) : CG rows k = none := by
 induction rows with
 | nil => rfl
 | cons r rows ih =>
   simp only [BR, List.map_cons, List.mem_cons, not_or] at h
   rw [G5, if_neg (fun e => h.1 e.symm)]; exact ih h.2
theorem M0 {r1 r2 : List CJ} {k : ByteArray} : CG (r1 ++ r2) k = (CG r1 k).or (CG r2 k) := by
 induction r1 with
 | nil => simp [CG]
 | cons r r1 ih =>
   rw [List.cons_append, G5, G5, ih]
   by_cases h : r.key = k <;> simp [h]
theorem Ko {r1 r2 : List CJ} {r : CJ} (hn : (BR (r1 ++ r :: r2)).Nodup) (k : ByteArray) : CG (r1 ++ r :: r2) k = if r.key = k then some (r.data, r.lz) else (CG r1 k).or (CG r2 k) := by
 rw [M0, G5]
 by_cases h : r.key = k
 · rw [if_pos h, if_pos h]
   have : k ∉ BR r1 := by
     rw [BR, List.map_append, List.nodup_append] at hn
     intro hk
     exact hn.2.2 k hk k (by simp [h]) rfl
   rw [JA this]; rfl
 · rw [if_neg h, if_neg h]
theorem gS {rows : List CJ} {k : ByteArray} (hn : (BR rows).Nodup) (hk : k ∈ BR rows) : ∃ r ∈ rows, r.key = k ∧ CG rows k = some (r.data, r.lz) := by
 obtain ⟨r, hr, rfl⟩ := List.mem_map.1 hk
 obtain ⟨r1, r2, rfl⟩ := List.append_of_mem hr
 exact ⟨r, hr, rfl, by rw [Ko hn, if_pos rfl]⟩
theorem KT {rows : List CJ} {l1 l2 : List MapEntry} {e : MapEntry} (h : rows.map CJ.Cj = l1 ++ e :: l2) : ∃ r1 r r2, rows = r1 ++ r :: r2 ∧ r1.map CJ.Cj = l1 ∧ r.Cj = e ∧ r2.map CJ.Cj = l2 := by
 obtain ⟨r1, t, h1, h2, h3⟩ := List.map_eq_append_iff.1 h
 obtain ⟨r, r2, h4, h5, h6⟩ := List.map_eq_cons_iff.1 h3
 exact ⟨r1, r, r2, by rw [h1, h4], h2, h5, h6⟩
structure iQ (ρ : Hp) (b d s m clock : Nat) (rows : List CJ) (τ : Hp) : Prop where
 cell : ρ s = some (.cells #[.pointer (some ⟨b, 0, none⟩), .pointer (some ⟨d, 0, none⟩), .map (some m)] 161 (0, 0))
 map : A2 ρ m (rows.map CJ.Cj) clock
 row : ∀ r ∈ rows, r.Ok (ρ.off [m])
 ext : Ext τ (ρ.off [m])
def Hm (σ : Hp) (d b s : Nat) (D : Dk) (W : Wl) (rows : List CJ) (τ : Hp) : Prop := ∃ ρ m clock, Aj σ d b D W ρ ∧ iQ ρ b d s m clock rows τ
section
variable {σ σ' τ τ' ρ ρ' : Hp} {d b s m clock : Nat} {D : Dk} {W : Wl} {rows : List CJ} {R : Rr}
theorem iQ.mono (h : iQ ρ b d s m clock rows τ) (hx : Ext ρ ρ') : iQ ρ' b d s m clock rows τ := ⟨hx _ _ h.cell, h.map.mono hx, fun r hr => (h.row r hr).mono (hx.off [m]), h.ext.trans (hx.off [m])⟩
theorem iQ.nodup (h : iQ ρ b d s m clock rows τ) : (BR rows).Nodup := by
 have := h.map.nodup
 rw [List.map_map] at this
 have e : (rows.map ((fun e : MapEntry => e.key) ∘ CJ.Cj)) = (BR rows).map Value.string := by rw [BR, List.map_map]; rfl
 rw [e, List.Nodup, List.pairwise_map] at this
 exact this.imp fun Ad e => Ad (by rw [e])
theorem iQ.ne (h : iQ ρ b d s m clock rows τ) : s ≠ m := fun e => by
 have h1 := h.cell
 rw [e, h.map.1] at h1; cases h1
theorem iQ.up (h : iQ ρ b d s m clock rows τ) : Ext τ ρ := h.ext.trans (Ext.Cp _ _)
theorem Hm.ext (h : Hm σ d b s D W rows τ) : Ext τ σ := let ⟨ρ, m, cl, h1, h2⟩ := h; h2.up.trans h1.ext
theorem Hm.nodup (h : Hm σ d b s D W rows τ) : (BR rows).Nodup := let ⟨ρ, m, cl, h1, h2⟩ := h; h2.nodup
theorem Hm.FC (h : Hm σ d b s D W rows τ) (hx : Ext τ' τ) : Hm σ d b s D W rows τ' := let ⟨ρ, m, cl, h1, h2⟩ := h; ⟨ρ, m, cl, h1, h2.cell, h2.map, h2.row, hx.trans h2.ext⟩
theorem Hm.grow (h : Hm σ d b s D W rows τ) (hx : Ext σ σ') : ∃ τ', Hm σ' d b s D W rows τ' ∧ Ext τ τ' ∧ Ext (σ.new σ') τ' := by
 obtain ⟨ρ, m, cl, h1, h2⟩ := h
 obtain ⟨ρ1, h3, x3, x3n⟩ := h1.grow hx
 have h4 := h2.mono x3
 refine ⟨ρ1.off [m], ⟨ρ1, m, cl, h3, h4.cell, h4.map, h4.row, Ext.refl _⟩, h4.ext, fun k o hk => Hp.AG.2 ⟨?_, x3n k o hk⟩⟩
 have h5 := (AO.1 hk).1
 have h6 := h1.ext _ _ h2.map.1
 simp only [List.mem_singleton]
 intro e
 rw [e, h6] at h5; cases h5
theorem Hm.mono (h : Hm σ d b s D W rows τ) (hx : Ext σ σ') : Hm σ' d b s D W rows τ := let ⟨_, h1, h2, _⟩ := h.grow hx; h1.FC h2
theorem Hm.box {k : Nat} {o : Obj} (h : Hm σ d b s D W rows τ) (hk : σ k = none) : ∃ τ', Hm (σ.set k o) d b s D W rows τ' ∧ Ext τ τ' ∧ τ' k = some o := by
 obtain ⟨τ', h1, h2, h3⟩ := h.grow (.set hk (o := o))
 exact ⟨τ', h1, h2, h3 k o (AO.2 ⟨hk, Hp.AA _ _ _⟩)⟩
theorem ai {r : CJ} (h : iQ ρ b d s m clock rows τ) (hr : r ∈ rows) : CG rows r.key = some (r.data, r.lz) := by
 obtain ⟨r1, r2, rfl⟩ := List.append_of_mem hr
 rw [Ko h.nodup, if_pos rfl]
theorem Hm.look {k : ByteArray} {Φ : Value → Hp → Prop} {mm : Option Nat} (h : Hm σ d b s D W rows τ) (hm : σ.ld ⟨s, 0 + 2, none⟩ = some (.map mm))
   (hΦ : ∀ p n c, n ≤ c → n ≤ 65536 → E7 (DW rows k).1 → (DW rows k).2 < 18446744073709551616 → By .u8 σ p n (DW rows k).1 → Φ (.agg #[.slice p n c, .int .u64 (DW rows k).2]) σ) : AJ prog (Instr.lookup 159 (.map mm) (.string k) false) σ Φ := by
 obtain ⟨ρ, m, cl, h1, h2⟩ := h
 have hx := h1.ext
 rw [AD (hx _ _ h2.cell) rfl] at hm
 cases hm
 refine Io (h2.map.mono hx) yw (fun BQ => ?_) fun l1 e l2 hl he => ?_
 · have e : DW rows k = ([], 0) := by
     have hk : k ∉ BR rows := fun hk => by
       obtain ⟨r, hr, rfl⟩ := List.mem_map.1 hk
       exact BQ r.Cj (List.mem_map.2 ⟨r, hr, rfl⟩) rfl
     rw [DW, JA hk]; rfl
   have := hΦ none 0 0 (Nat.le_refl _) (by omega)
   rw [e] at this
   exact this (fun a ha => by cases ha) (by omega) Fj.nil
 · obtain ⟨r1, r, r2, CL, _, rfl, _⟩ := KT hl
   have hr : r ∈ rows := by simp [CL]
   have hk : r.key = k := by simpa [CJ.Cj] using he
   have hg : DW rows k = (r.data, r.lz) := by rw [DW, ← hk, ai h2 hr]; rfl
   have Ap := h2.row r hr
   have := hΦ r.p r.n r.c Ap.cap Ap.small
   rw [hg] at this
   exact this Ap.uL Ap.lz (Ap.rd.mono ((Ext.Cp _ _).trans hx))
theorem Hm.put {k : ByteArray} {p : Option Addr} {n c v : Nat} {data : List Int} {Φ : Unit → Hp → Prop} {mm : Option Nat} (h : Hm σ d b s D W rows τ) (hm : σ.ld ⟨s, 0 + 2, none⟩ = some (.map mm)) (hc : n ≤ c) (hr : By .u8 τ p n data) (h8 : E7 data) (hn : n ≤ 65536) (hk : FI k = true) (hv : v < 18446744073709551616)
   (hΦ : ∀ σ' rows', Hm σ' d b s D W rows' τ → (∀ k', CG rows' k' = if k = k' then some (data, v) else CG rows k') → (∀ x, x ∈ BR rows' ↔ x = k ∨ x ∈ BR rows) → Φ () σ') : AJ prog (Instr.mapUpdate 159 (.map mm) (.string k) (.agg #[.slice p n c, .int .u64 v])) σ Φ := by
 obtain ⟨ρ, m, cl, h1, h2⟩ := h
 have hx := h1.ext
 rw [AD (hx _ _ h2.cell) rfl] at hm
 cases hm
 have FD : ∀ o, Aj (σ.set m o) d b D W ((ρ.off [m]).set m o) := fun o => by
   have := (h1.fp h2.map.1).lK (k := m) (o := o) (Hp.UG (by simp))
   have e : (σ.off [m]).set m o = σ.set m o := by
     funext i
     by_cases hi : i = m
     · rw [hi, Hp.AA, Hp.AA]
     · rw [Hp.AH hi, Hp.AH hi, Hp.ES (by simpa using hi)]
   rwa [e] at this
 have Ep : ∀ o, ((ρ.off [m]).set m o).off [m] = ρ.off [m] := fun o => by
   funext i
   by_cases hi : i = m <;> simp [Hp.off, Hp.set, hi]
 have C4 : ∀ bn, (⟨k, p, n, c, data, v, bn⟩ : CJ).Ok (ρ.off [m]) := fun bn => ⟨hc, hr.mono h2.ext, h8, hn, hk, hv⟩
 refine EE (h2.map.mono hx) (fun BQ σ' Rz ME => ?_) fun l1 e l2 hl he σ' Rz ME => ?_
 · have Pn : k ∉ BR rows := fun DR => by
     obtain ⟨r, hr, rfl⟩ := List.mem_map.1 DR
     exact BQ r.Cj (List.mem_map.2 ⟨r, hr, rfl⟩) rfl
   refine hΦ σ' (rows ++ [⟨k, p, n, c, data, v, cl⟩]) ⟨(ρ.off [m]).set m (.map (rows.map CJ.Cj ++ [Tw.Cj k (.agg #[.slice p n c, .int .u64 v]) cl]).toArray (cl + 1)), m, cl + 1, Rz ▸ FD _, ?_, ?_, ?_, ?_⟩ (fun k' => ?_) (fun x => by simp [BR, or_comm])
   · rw [Hp.AH h2.ne, Hp.ES (by simpa using h2.ne)]; exact h2.cell
   · rw [List.map_append]
     exact ⟨Hp.AA _ _ _, ME.2⟩
   · intro r hr
     rw [Ep]
     rcases List.mem_append.1 hr with hr | hr
     · exact h2.row r hr
     · simp at hr; subst hr; exact C4 _
   · rw [Ep]; exact h2.ext
   · rw [M0, G5]
     by_cases dS : k = k'
     · subst dS
       rw [if_pos rfl, if_pos rfl, JA Pn]; rfl
     · rw [if_neg dS, if_neg dS]
       simp [CG]
 · obtain ⟨r1, r, r2, CL, e1, rfl, e2⟩ := KT hl
   have DR : r.key = k := by simpa [CJ.Cj] using he
   have uG := h2.nodup
   have dS : BR (r1 ++ ⟨k, p, n, c, data, v, r.born⟩ :: r2) = BR rows := by rw [CL]; simp [BR, DR]
   refine hΦ σ' (r1 ++ ⟨k, p, n, c, data, v, r.born⟩ :: r2) ⟨(ρ.off [m]).set m (.map (l1 ++ Tw.Cj k (.agg #[.slice p n c, .int .u64 v]) r.Cj.born :: l2).toArray cl), m, cl, Rz ▸ FD _, ?_, ?_, ?_, ?_⟩ (fun k' => ?_) (fun x => ?_)
   · rw [Hp.AH h2.ne, Hp.ES (by simpa using h2.ne)]; exact h2.cell
   · rw [List.map_append, List.map_cons, e1, e2]
     exact ⟨Hp.AA _ _ _, ME.2⟩
   · intro r' Ij
     rw [Ep]
     rcases List.mem_append.1 Ij with Ij | Ij
     · exact h2.row r' (by simp [CL, Ij])
     · rcases List.mem_cons.1 Ij with rfl | Ij
       · exact C4 _
       · exact h2.row r' (by simp [CL, Ij])
   · rw [Ep]; exact h2.ext
   · rw [Ko (by rw [dS]; exact uG), CL, Ko (CL ▸ uG), DR]
     by_cases e : k = k' <;> simp [e]
   · rw [dS]
     constructor
     · exact .inr
     · rintro (rfl | h)
       · rw [CL]; simp [BR, DR]
       · exact h
end
end TwW
end
section
namespace TwW
open Go Tw Go.RowKit Go.Proofs.Tryz
def Rv : ByteArray := ⟨#[107, 118]⟩
theorem aj : CE Rv = true := by decide
abbrev Rec := ByteArray × List Int × Nat
abbrev M1 (t : Rec) : List Int := Cl t.1 t.2.1 t.2.2
def X8 (ts : List Rec) : Prop := ∀ t ∈ ts, FI t.1 = true ∧ E7 t.2.1 ∧ t.2.1.length ≤ 65536 ∧ 0 < t.2.2 ∧ t.2.2 < 18446744073709551616
def FY (ts : List Rec) (k : ByteArray) : Option yx := ts.foldl (fun a t => if t.1 = k then some t.2 else a) none
theorem Oq {ts : List Rec} {t : Rec} {k : ByteArray} : FY (ts ++ [t]) k = if t.1 = k then some t.2 else FY ts k := by simp [FY]
theorem VG {k : ByteArray} {d : List Int} {v : Nat} (h : E7 d) (hk : k.size < 18446744073709551616) (hd : d.length < 18446744073709551616) (hv : v < 18446744073709551616) : E7 (Cl k d v) := by
 unfold Cl
 exact Bc (Bc (Bc (Bc (Nt 9 _ (by omega)) rF) (Nt 9 _ (by omega))) (Nt 9 _ (by omega))) h
section
variable {σ σ' τ τ' ρ ρ' : Hp} {d b s m clock : Nat} {D : Dk} {W : Wl} {rows : List CJ} {R : Rr}
theorem Hm.rd (h : Hm σ d b s D W rows τ) : σ.ld ⟨s, 0, none⟩ = some (.pointer (some ⟨b, 0, none⟩)) ∧ σ.ld ⟨s, 0 + 1, none⟩ = some (.pointer (some ⟨d, 0, none⟩)) ∧ ∃ m, σ.ld ⟨s, 0 + 2, none⟩ = some (.map (some m)) := by
 obtain ⟨ρ, m, cl, h1, h2⟩ := h
 have := h1.ext _ _ h2.cell
 exact ⟨AD this rfl, AD this rfl, m, AD this rfl⟩
theorem Hm.fX (h : Hm σ d b s D W rows τ) : Ai σ d D τ := let ⟨ρ, m, cl, h1, h2⟩ := h; h1.fX.FC h2.up
theorem X9 {k : ByteArray} (h : Hm σ d b s D W rows τ) (hu : D.up = true) (hk0 : FI k = false → R (.returned (.tuple #[.slice none 0 0, .int .u64 0, .int .i64 120])) σ)
   (hk : FI k = true → ∀ p n c σ', AS .u8 (σ.new σ') p n c (DW rows k).1 → Ext σ σ' → R (.returned (.tuple #[.slice p n c, .int .u64 (DW rows k).2, .int .i64 0])) σ') : Spec prog 39 #[.pointer (some ⟨s, 0, none⟩), .string k] σ R := by
 obtain ⟨l0, l1, m, l2⟩ := h.rd
 refine Me.start (Q2 ⟨_, rfl, fun hf => hk0 hf, fun ht => ⟨s, 0, rfl, _, l1, h.fX.upS ⟨_, rfl, fun hh => (by rw [hu] at hh; cases hh), fun _ => ⟨_, l2, h.look l2 fun p n c hc hn h8 hv hr => ⟨p, n, c, _, rfl, fun _ pa rP => ?_⟩⟩⟩⟩⟩)
 refine ER Own.empty ((GM.of_map hr).mono (.set rP)) CN.Cn (by omega) fun p' c' σ' AZ EK => ?_
 have hq : ∀ a : Addr, (some (⟨pa, 0, none⟩ : Addr)) = some a → σ a.block = none := fun a ha => by cases ha; exact rP
 refine ⟨p', 0 + n, c', rfl, ?_⟩
 rw [Nat.zero_add] at AZ ⊢
 exact hk ht p' n c' σ' (Own.CO AZ (Bt hq EK (.set rP))) (CX hq EK (.set rP))
theorem ak {p : Option Addr} {n c v : Nat} {k : ByteArray} {GY : List Int} (h : Hm σ d b s D W rows τ) (hr : By .u8 σ p n (Cl k GY v)) (hc : n ≤ c) (hk : FI k = true) (h8 : E7 GY) (hd : GY.length ≤ 65536) (hv0 : 0 < v) (hv : v < 18446744073709551616)
   (hR : ∀ σ' rows', Hm σ' d b s D W rows' τ → (∀ k', CG rows' k' = if k = k' then some (GY, v) else CG rows k') → (∀ x, x ∈ BR rows' ↔ x = k ∨ x ∈ BR rows) → R (.returned (.bool true)) σ') : Spec prog 96 #[.pointer (some ⟨s, 0, none⟩), .slice p n c] σ R := by
 have Xa : k.size ≤ 64 := by simp [FI] at hk; exact hk.2
 have h8r : E7 (Cl k GY v) := VG h8 (by omega) (by omega) hv
 have hlen : (Cl k GY v).length = n := hr.1
 have SF : (Cl k GY v).length = (uv k.size).length + k.size + (uv v).length + (uv GY.length).length + GY.length := by simp [Cl, Dy]; omega
 have e0 : (Cl k GY v).drop 0 = uv k.size ++ (Nw k ++ (uv v ++ uv GY.length ++ GY)) := by simp [Cl]
 have e1 : (Cl k GY v).drop (0 + (uv k.size).length + k.size) = uv v ++ (uv GY.length ++ GY) := by
   have : Cl k GY v = (uv k.size ++ Nw k) ++ (uv v ++ (uv GY.length ++ GY)) := by simp [Cl]
   rw [this, List.drop_left' (by simp [Dy])]
 have e2 : (Cl k GY v).drop (0 + (uv k.size).length + k.size + (uv v).length) = uv (strOfNums GY).size ++ (Nw (strOfNums GY) ++ []) := by
   have : Cl k GY v = (uv k.size ++ Nw k ++ uv v) ++ (uv GY.length ++ GY) := by simp [Cl]
   rw [this, List.drop_left' (by simp only [List.length_append, Dy]; omega), CF, Kj h8, List.append_nil]
 have dw : I6 (Cl k GY v) (0 + (uv k.size).length + k.size) v := ⟨hv, _, e1⟩
 refine J8.start (dN (i := 0) hr h8r hc (by omega) (Nat.zero_le _) e0 ⟨_, _, _, rfl, fun hh => absurd rfl hh, fun _ => ?_⟩)
 refine Kh hr h8r (by omega) ⟨fun BQ => (BQ v dw).elim, fun v' oD => ?_⟩
 obtain rfl := oD.uniq dw
 refine ⟨_, _, _, rfl, fun hh => absurd rfl hh, fun _ => ?_⟩
 refine dN hr h8r hc (by rw [CF]; omega) (by omega) e2 ⟨_, _, _, rfl, fun hh => absurd rfl hh, fun _ => ⟨fun hh => ?_, fun _ => ?_⟩⟩
 · rw [CF] at hh; exact absurd (by omega) hh
 · refine Q2 ⟨_, rfl, fun hh => (by rw [hk] at hh; cases hh), fun _ => ⟨fun hh => by omega, fun _ => ?_⟩⟩
   obtain ⟨l0, l1, m, l2⟩ := h.rd
   refine ⟨s, 0, rfl, _, l2, fy (fun b1 o c1 PA HF iP => ⟨_, _, _, rfl, ?_⟩) (by rw [CF]; omega)⟩
   obtain ⟨τ1, h1, x1, t1⟩ := h.box (o := o) PA
   have l2' := (Ext.set PA (o := o)).ld l2
   have AFF := HF τ1 t1
   rw [CF, Kj h8] at AFF
   rw [CF] at iP ⊢
   exact h1.put l2' iP AFF h8 hd hk hv fun σ2 rows' h2 hl dS => hR σ2 rows' (h2.FC x1) hl dS
end
end TwW
end
section
namespace TwW
open Go Tw Go.RowKit Go.Proofs.Tryz
section
variable {σ σ' τ τ' ρ ρ' : Hp} {d b s m clock : Nat} {D : Dk} {W : Wl} {rows : List CJ} {R : Rr}
theorem VH {ts : List Rec} {w : Bool} (h : Ai σ d D τ) (ht : Tb τ) (EB : D.up = true) (Kz : D.armed = false) (hc : D.cnt < 67108864) (ho : Xd D.files Rv D.cnt (ts.map M1) w) (hg : X8 ts) (FW : ts.length ≤ 4194304)
   (hR : ∀ s b σ' W rows FG cnt', Hm σ' d b s (dk FG cnt') W rows τ → (∀ k, CG rows k = FY ts k) → (∀ x, x ∈ BR rows → ∃ t ∈ ts, t.1 = x) → W.dir = Rv → (∃ rc sg, A7 FG cnt' W rc sg 0 ∧ rc ++ An sg = ts.map M1) → FG (BB Rv) = none → D.cnt ≤ cnt' → cnt' ≤ D.cnt + 1 → Sub D.files FG → (w = true → cnt' = D.cnt) → R (.returned (.tuple #[.pointer (some ⟨s, 0, none⟩), .int .i64 0])) σ') (hfew : OW D := by refine .inl ?_; first | omega | (dsimp only [dk]; omega) | (dsimp only; omega)) :
   Spec prog 41 #[.pointer (some ⟨d, 0, none⟩)] σ R := by
 refine MP.start (ft (told := ts.map M1) h ht EB Kz aj hc ho (by simpa using FW) (fun b σ1 W1 rc1 sg1 ρ1 p1 n1 c1 fs1 AFG h1 x1 r1 e1 ok1 lD ASW ALU ALV k1a k1b k1c => ⟨_, _, _, _, _, rfl, fun hh => absurd rfl hh, fun _ => HM fun m hm => ⟨m, rfl, fun s hs => ?_⟩⟩) (hfew := hfew))
 obtain ⟨ρ2, h2, x2, t2⟩ := h1.box (o := .map #[] 0) hm
 obtain ⟨ρ3, h3, x3, t3⟩ := h2.box (o := .cells #[.pointer (some ⟨b, 0, none⟩), .pointer (some ⟨d, 0, none⟩), .map (some m)] 161 (0, 0)) hs
 have Qy : (ts.map M1).length = n1 := r1.1
 rw [List.length_map] at Qy
 have yQ : iQ ρ3 b d s m 0 [] ρ1 := ⟨t3, ⟨x3 _ _ t2, (A2.fresh (σ := σ1) (b := m)).2⟩, fun r hr => (by cases hr), fun k o hk => Hp.AG.2 ⟨fun e => (by
   simp only [List.mem_singleton] at e
   have := h1.ext _ _ hk
   rw [e, hm] at this; cases this), x3 _ _ (x2 _ _ hk)⟩⟩
 suffices H : ∀ (j k : Nat) (σ : Hp) (rows : List CJ), n1 - k = j → k ≤ n1 → Hm σ d b s (dk fs1 AFG) W1 rows ρ1 → (∀ x, CG rows x = FY (ts.take k) x) → (∀ x, x ∈ BR rows → ∃ t ∈ ts, t.1 = x) → MP.Nb R (some ⟨s, 0, none⟩) p1 n1 c1 n1 k σ from
   H n1 0 _ [] rfl (Nat.zero_le _) ⟨ρ3, m, 0, h3, yQ⟩ (fun x => rfl) (fun x hx => by cases hx)
 intro j
 induction j with
 | zero =>
   intro k σ rows hj hk hu hl dS
   rw [List.take_of_length_le (by omega)] at hl
   exact MP.Iv ⟨fun hh => by omega, fun _ => hR s b σ W1 rows fs1 AFG (hu.FC x1) hl dS e1 ⟨rc1, sg1, ok1, lD⟩ ALV k1a k1b ALU fun hw => (k1c hw).1⟩
 | succ j ih =>
   intro k σ rows hj hk hu hl dS
   obtain ⟨t, Ly⟩ : ∃ t, ts[k]? = some t := ⟨_, List.getElem?_eq_getElem (by omega)⟩
   have l3 := List.mem_of_getElem? Ly
   obtain ⟨g1, g2, g3, g4, g5⟩ := hg t l3
   obtain ⟨QI, bt, eN, n29, eO, hp, ALW, ALX, HF⟩ := r1.at (x := M1 t) (i := k) (by rw [List.getElem?_map, Ly]; rfl)
   refine MP.Iv ⟨fun _ => ⟨QI, bt, hp, by omega, eN, n29, eO, by simpa using hu.ext.ld ALW, ?_⟩, fun hh => by omega⟩
   refine ak hu (HF.mono hu.ext) ALX g1 g2 g3 g4 g5 fun σ2 XH h2 SF ng => ⟨_, rfl, fun hh => (by cases hh), fun _ => ⟨by unfold AN; omega, ?_⟩⟩
   rw [MN hp]
   refine ih (k + 1) σ2 XH (by omega) (by omega) h2 (fun x => ?_) fun x hx => ?_
   · rw [AQ Ly, Oq, SF, hl]
   · rcases (ng x).1 hx with rfl | hx
     · exact ⟨t, l3, rfl⟩
     · exact dS x hx
abbrev GF (rows : List CJ) (L : List ByteArray) : Bq := L.map fun k => Cl k (DW rows k).1 (DW rows k).2
theorem l6 {p3 : Option Addr} {n3 c3 : Nat} {L : List ByteArray} {σs : Hp} (h : Hm σs d b s D W rows τ) (HF : GM 1 σs p3 n3 (L.map .string)) (hn : n3 ≤ 1024) (hL : ∀ k ∈ L, k.size ≤ 64)
   (hR : ∀ p n c σ', IV (σs.new σ') p n c (GF rows L) → Ext σs σ' → R (.returned (.slice p n c)) σ') :
   ∀ (j k : Nat) (σ : Hp) (p5 : Option Addr) (c5 : Nat), n3 - k = j → k ≤ n3 → Ext σs σ → IV (σs.new σ) p5 k c5 (GF rows (L.take k)) → CZ.QV R (some ⟨s, 0, none⟩) p5 k c5 p3 n3 c3 n3 k σ := by
 have hLn : L.length = n3 := by have := HF.1; simpa using this
 intro j
 induction j with
 | zero =>
   intro k σ p5 c5 hj hk hx ho
   have Pn : k = n3 := by omega
   subst Pn
   rw [List.take_of_length_le (by omega)] at ho
   exact CZ.Pb ⟨fun hh => by omega, fun _ => hR p5 _ c5 σ ho hx⟩
 | succ j ih =>
   intro k σ p5 c5 hj hk hx ho
   obtain ⟨x, SE⟩ : ∃ x, L[k]? = some x := ⟨_, List.getElem?_eq_getElem (by omega)⟩
   obtain ⟨b27, o27, hp, ALY⟩ := GM.at1 (k := k) (v := .string x) HF (by rw [List.getElem?_map, SE]; rfl)
   have hu := h.mono hx
   obtain ⟨l0, l1, m, l2⟩ := hu.rd
   have uU := hL x (List.mem_of_getElem? SE)
   refine CZ.Pb ⟨fun _ => ⟨b27, o27, hp, by omega, x, by simpa using hx.ld ALY, s, 0, rfl, _, l2, hu.look l2 fun Ue n36 WW hc ASa h8 hv hr => ⟨Ue, n36, WW, _, rfl, ?_⟩⟩, fun hh => by omega⟩
   refine Lf hr h8 (by omega) (by omega) hv fun Rk n37 c37 σ3 Dd DJ => ⟨Rk, n37, c37, rfl, fun b38 ALZ => ?_⟩
   have G8 : ∀ a, p5 = some a → σ a.block ≠ none := fun a ha e => BA.block ho a ha (by
     cases hh : (σs.new σ) a.block with
     | none => rfl
     | some u => rw [(AO.1 hh).2] at e; cases e)
   refine BA.Hy (T := 165) Rq.mono (hx.trans DJ) (BA.mono Rq.mono (Ext.BH DJ) ho) rfl (fun u hu => by simp at hu; subst hu; rfl) (x := Cl x (DW rows x).1 (DW rows x).2) ⟨Rk, n37, c37, rfl, Own.cap Dd, (AS.rd Dd).mono (Ext.Hx hx G8)⟩ (by omega) (fun p4 c4 σ4 Pc Lc => ⟨p4, _, c4, rfl, by unfold AN; omega, ?_⟩) ALZ
   rw [MN hp]
   refine ih (k + 1) σ4 p4 c4 (by omega) (by omega) Lc ?_
   rw [AQ SE, GF, List.map_append]
   exact Pc
theorem l7 {σ0 : Hp} {i m clock : Nat} (Ml : A2 σ0 m (rows.map CJ.Cj) clock) (cw : rows.length ≤ 1024) (Pn : (BR rows).Nodup)
   (hR : ∀ p n c L σ', Qi (σ0.new σ') p n c L → L.Perm (BR rows) → Ext σ0 σ' → n ≤ 1024 → CZ.QV R (some ⟨s, 0, none⟩) none 0 0 p n c n 0 σ') :
   ∀ (k : Nat) (σ : Hp) (L : List MapEntry) (xs : List ByteArray) (p : Option Addr) (c : Nat), L.length = k → Ext σ0 σ → Cq (σ0.new σ) i m (rows.map CJ.Cj) L clock → Qi (σ0.new σ) p xs.length c xs → (xs ++ L.map nm).Perm (BR rows) →
     CZ.A5 R (some ⟨s, 0, none⟩) p xs.length c (.pointer (some ⟨i, 0, none⟩)) σ := by
 intro k
 induction k using Nat.strongRecOn with
 | _ k ih =>
 intro σ L xs p c hL hx hi ho hp
 have hlen : xs.length ≤ rows.length := by
   have := hp.length_eq
   simp [BR] at this; omega
 have hm := Ml.mono hx
 refine CZ.AW (Jw hm (hi.mono (Ext.Ah _ _)) (fun h0 => .inl ⟨rfl, ?_⟩) fun e Jr Uo o Z8 Z6 => .inr ?_)
 · subst h0
   rw [List.map_nil, List.append_nil] at hp
   have Bs : Own 1 σ p xs.length c ((xs.map (·.data.toList)).map XQ) := by
     rw [List.map_map]; exact ho.mono (Ext.Ah _ _)
   refine Mk Bs (by simp) (by omega) fun σ' hs hsx => ⟨rfl, ?_⟩
   refine hR p _ c ((GV (xs.map (·.data.toList))).map fun l => ⟨l.toArray⟩) σ' ?_ ?_ (CX ho.Dh hsx hx) (by omega)
   · have := Own.CO hs (σ := σ0) ho.Dh
     unfold Qi
     rw [List.map_map]
     exact this
   · refine List.Perm.trans ?_ hp
     have h1 := (List.mergeSort_perm (xs.map (·.data.toList)) fun x y => decide (x ≤ y)).map fun l => (⟨l.toArray⟩ : ByteArray)
     rw [List.map_map] at h1
     have h2 : xs.map ((fun l => (⟨l.toArray⟩ : ByteArray)) ∘ fun s : ByteArray => s.data.toList) = xs := by
       conv => rhs; rw [← List.map_id xs]
       exact List.map_congr_left fun a _ => rfl
     rw [h2] at h1
     exact h1
 · obtain ⟨seen, c0, yG, _⟩ := hi
   obtain ⟨ka, _⟩ := AO.1 yG
   have hpi : ∀ a, p = some a → a.block ≠ i := fun a ha e => by
     rcases ho.2.2 with ⟨h1, _⟩ | ⟨b, o', arr, T, h1, h2, _⟩
     · rw [h1] at ha; cases ha
     · rw [h1] at ha; cases ha
       simp only at e; subst e
       rw [yG] at h2; cases h2
   have tz : m ≠ i := fun e => by rw [← e, Ml.1] at ka; cases ka
   obtain ⟨l1, l2, hl⟩ := List.append_of_mem Uo
   obtain ⟨r1, r, r2, CL, _, rfl, _⟩ := KT hl
   have Ay : Ext σ0 (σ.set i o) := fun b u hb => by rw [Hp.AH fun e => by rw [e, ka] at hb; cases hb]; exact hx b u hb
   have nc : (σ0.new (σ.set i o)) i = some o := AO.2 ⟨ka, Hp.AA _ _ _⟩
   have Bs : Qi (σ0.new (σ.set i o)) p xs.length c xs := TwW.Own.loc ho fun b hb => by
     cases p with
     | none => cases hb
     | some a =>
       simp only [DI, List.mem_singleton] at hb
       subst hb
       simp only [Hp.new, Hp.AH (hpi a rfl)]
   have XR : (L.map (·.born)).Nodup := Ml.Vm.sublist ((Cq.sub ⟨seen, c0, yG, by assumption⟩).map _)
   have qW := (Kg XR Jr).map nm
   rw [List.map_cons] at qW
   refine ⟨_, _, _, _, _, rfl, Z6 _ (Hp.AA _ _ _) (Hp.AH tz) ⟨_, _, _, _, _, rfl, fun PZ Uv => ?_⟩⟩
   refine Im (T := 97) (ys := [.string r.key]) Ay Bs rfl (fun u hu => by simp at hu; subst hu; rfl) (by omega) (fun p' c' σ' Dd DJ uC => ⟨p', _, c', rfl, ?_⟩) Uv
   have hi3 : (σ0.new σ') i = some o := by
     have := uC i o (A3.2 ⟨fun a ha => Ne.symm (hpi a ha), nc⟩)
     exact (A3.1 this).2
   have := ih _ (hL ▸ KW Jr) σ' _ (xs ++ [r.key]) p' c' rfl DJ (Z8 _ hi3) (by simpa [Qi] using Dd) (by
     rw [List.append_assoc]
     exact (qW.append_left xs).symm.trans hp)
   simpa using this
theorem l8 (h : Hm σ d b s D W rows τ) (cw : rows.length ≤ 1024)
   (hR : ∀ p n c L σ', IV (σ.new σ') p n c (GF rows L) → L.Perm (BR rows) → Ext σ σ' → R (.returned (.slice p n c)) σ') : Spec prog 68 #[.pointer (some ⟨s, 0, none⟩)] σ R := by
 have h' := h
 obtain ⟨ρ, m, cl, h1, h2⟩ := h'
 have hx := h1.ext
 refine CZ.start ⟨s, 0, rfl, _, AD (hx _ _ h2.cell) rfl, H0 (h2.map.mono hx) fun i o hi O7 => ⟨_, rfl, ?_⟩⟩
 have ALa : ∀ x ∈ BR rows, x.size ≤ 64 := fun x hx => by
   obtain ⟨r, hr, rfl⟩ := List.mem_map.1 hx
   have := (h2.row r hr).key
   simp [FI] at this; exact this.2
 refine l7 (h2.map.mono hx) cw h2.nodup (fun p n c L σ1 ho hp BJ hn => ?_) _ _ _ [] none 0 rfl (.set hi) (O7.loc (by simp [Hp.new, hi])) Own.nil (by simp [BR, List.map_map]; exact List.Perm.of_eq (List.map_congr_left fun r _ => rfl))
 refine l6 (h.mono BJ) (Own.rd (ho.mono (Ext.Ah _ _))) hn (fun k hk => ALa k (hp.mem_iff.1 hk)) (fun p' n' c' σ2 Bs Ay => hR p' n' c' L σ2 (BA.mono Rq.mono (Ext.CR BJ) Bs) hp (BJ.trans Ay)) n 0 σ1 none 0 rfl (Nat.zero_le _) (Ext.refl _) BA.nil
end
end TwW
end
section
namespace TwW
open Go Tw Go.RowKit Go.Proofs.Tryz
theorem yy {α : Type} {t l : List α} {x : α} (h : t <+: l ++ [x]) (hl : l.length ≤ t.length) : t = l ∨ t = l ++ [x] := by
 obtain ⟨r, hr⟩ := h
 rcases List.eq_nil_or_concat r with e | ⟨r0, y, e⟩
 · subst e; rw [List.append_nil] at hr; exact .inr hr
 · rw [List.concat_eq_append] at e
   subst e
   rw [← List.append_assoc] at hr
   have h1 := List.append_inj_left' hr rfl
   have : r0 = [] := List.eq_nil_of_length_eq_zero (by have := congrArg List.length h1; simp at this; omega)
   subst this
   exact .inl (by simpa using h1)
theorem YA : ∀ {rs : Bq} {M : Nat}, Mo rs → (∀ r ∈ rs, r.length ≤ M) → (AU rs).length ≤ rs.length * (M + 7)
 | [], _, _, _ => by simp [AU]
 | r :: rs, M, h, hM => by
   rw [B1, List.length_append, List.length_cons, Nat.add_mul]
   have h1 := Oa (h r (by simp))
   have h2 := YA (rs := rs) (M := M) (fun x hx => h x (by simp [hx])) fun x hx => hM x (by simp [hx])
   have h3 := hM r (by simp)
   omega
theorem Tm {k : ByteArray} {d : List Int} {v : Nat} (hk : k.size ≤ 64) (hd : d.length ≤ 60000) (hv : v < 18446744073709551616) : (Cl k d v).length ≤ 60094 := by
 have h1 := BV (x := k.size) (by omega)
 have h2 := BV (x := v) hv
 have h3 := BV (x := d.length) (by omega)
 simp only [Cl, List.length_append, Dy]; omega
open Classical in
theorem gT {L : List ByteArray} {g : ByteArray → yx} {x : ByteArray} : ∀ a, (L.map fun y => (y, g y)).foldl (fun a (t : Rec) => if t.1 = x then some t.2 else a) a = if x ∈ L then some (g x) else a := by
 induction L with
 | nil => intro a; simp
 | cons y L ih =>
   intro a
   rw [List.map_cons, List.foldl_cons, ih]
   by_cases hx : x ∈ L
   · simp [hx]
   · by_cases hy : y = x
     · subst hy; simp
     · have : ¬ x = y := fun e => hy e.symm
       simp [hx, hy, this]
open Classical in
theorem ao {L : List ByteArray} {g : ByteArray → yx} {x : ByteArray} : FY (L.map fun y => (y, g y)) x = if x ∈ L then some (g x) else none := gT none
theorem aq {x : ByteArray} {r : yx} {ts : List Rec} : FY ts x = some r → ∃ t ∈ ts, t.1 = x ∧ t.2 = r := by
 have : ∀ (ts : List Rec) (a : Option yx), ts.foldl (fun a (t : Rec) => if t.1 = x then some t.2 else a) a = some r → a = some r ∨ ∃ t ∈ ts, t.1 = x ∧ t.2 = r := by
   intro ts
   induction ts with
   | nil => intro a h; exact .inl h
   | cons t ts ih =>
     intro a h
     rw [List.foldl_cons] at h
     rcases ih _ h with h1 | ⟨u, hu, e⟩
     · by_cases ht : t.1 = x
       · rw [if_pos ht] at h1; cases h1; exact .inr ⟨t, by simp, ht, rfl⟩
       · rw [if_neg ht] at h1; exact .inl h1
     · exact .inr ⟨u, by simp [hu], e⟩
 intro h
 rcases this ts none h with h | h
 · cases h
 · exact h
open Classical in
theorem YB {rows : List CJ} (hn : (BR rows).Nodup) (x : ByteArray) : CG rows x = if x ∈ BR rows then some (DW rows x) else none := by
 by_cases hx : x ∈ BR rows
 · rw [if_pos hx]
   obtain ⟨r, hr, e1, e2⟩ := gS hn hx
   rw [DW, e2]; rfl
 · rw [if_neg hx, JA hx]
structure gU (D : Dk) (W : Wl) (rows : List CJ) (ts : List Rec) : Prop where
 up : D.up = true
 dir : W.dir = Rv
 log : ∃ rc sg, A7 D.files D.cnt W rc sg ts.length ∧ rc ++ An sg = ts.map M1
 good : X8 ts
 look : ∀ k, CG rows k = FY ts k
 new : D.files (BB Rv) = none
 ex : ∀ s, (D.files s).isSome = true → (0 < W.check ∧ s = AF Rv kc W.check) ∨ ∃ n ∈ W.AP, s = AF Rv ks n
 sml : W.AP.length ≤ 64
def kvF (W : Wl) : List ByteArray := AF Rv kc W.check :: W.AP.map (AF Rv ks)
theorem dT {W : Wl} {s : ByteArray} (h : (0 < W.check ∧ s = AF Rv kc W.check) ∨ ∃ n ∈ W.AP, s = AF Rv ks n) : s ∈ kvF W := by
 rcases h with ⟨_, e⟩ | ⟨n, hn, e⟩
 · rw [e]; exact List.mem_cons_self ..
 · rw [e]; exact List.mem_cons_of_mem _ (List.mem_map.2 ⟨n, hn, rfl⟩)
theorem dU {D : Dk} {W : Wl} (h : ∀ s, (D.files s).isSome = true → (0 < W.check ∧ s = AF Rv kc W.check) ∨ ∃ n ∈ W.AP, s = AF Rv ks n) (hl : W.AP.length ≤ 100) : OW D :=
 .inr ⟨kvF W, by simp [kvF]; omega, fun s hs => dT (h s hs)⟩
theorem RJ {D D' : Dk} {W : Wl} {a b : ByteArray} (h : ∀ s, (D.files s).isSome = true → (0 < W.check ∧ s = AF Rv kc W.check) ∨ ∃ n ∈ W.AP, s = AF Rv ks n) (hl : W.AP.length ≤ 100) (hs : ∀ s, (D'.files s).isSome = true → (D.files s).isSome = true ∨ s = a ∨ s = b) : OW D' :=
 .inr ⟨a :: b :: kvF W, by simp [kvF]; omega, fun s h1 => by
   rcases hs s h1 with g | g | g
   · exact List.mem_cons_of_mem _ (List.mem_cons_of_mem _ (dT (h s g)))
   · rw [g]; exact List.mem_cons_self ..
   · rw [g]; exact List.mem_cons_of_mem _ (List.mem_cons_self ..)⟩
theorem gU.uc {D : Dk} {W : Wl} {rows : List CJ} {ts : List Rec} (h : gU D W rows ts) : OW D := dU h.ex (by have := h.sml; omega)
structure rQ (K : List ByteArray) (rows : List CJ) : Prop where
 keys : ∀ x ∈ BR rows, x ∈ K
 len : ∀ x, (DW rows x).1.length ≤ 60000
section
variable {σ σ' τ τ' ρ ρ' : Hp} {d b s m clock : Nat} {D : Dk} {W : Wl} {rows : List CJ} {R : Rr}
theorem l9 {K : List ByteArray} {k : ByteArray} {p : Option Addr} {n c v : Nat} {GY : List Int} {ts : List Rec} (h : Hm σ d b s D W rows τ) (ht : Tb τ) (ho : gU D W rows ts) (MC : rQ K rows) (hK : K.length ≤ 8) (hk : FI k = true) (hkK : k ∈ K) (hr : By .u8 τ p n GY) (h8 : E7 GY) (hd : GY.length ≤ 60000) (hv : v + 1 < 18446744073709551616) (hc : D.cnt + 1 < 67108864)
   (Ad : (DW rows k).2 ≠ v → ∀ σ', Ext σ σ' → R (.returned (.tuple #[.int .u64 (DW rows k).2, .int .i64 121])) σ')
   (Ap : (DW rows k).2 = v → ∀ σ' D' W' rows' rR, Hm σ' d b s D' W' rows' τ → gU D' W' rows' rR → rQ K rows' → (∀ k', CG rows' k' = if k = k' then some (GY, v + 1) else CG rows k') → D'.armed = D.armed → (D'.cnt ≤ D.cnt + 2 ∧ (rR.length ≤ ts.length + 1 ∨ rR.length ≤ 9)) → (∀ x, x ∈ BR rows' ↔ x = k ∨ x ∈ BR rows) → R (.returned (.tuple #[.int .u64 ((v + 1 : Nat) : Int), .int .i64 0])) σ')
   (KH : D.armed = true → ∀ σ' D' rR, Ai σ' d D' τ → D'.up = false → D'.armed = false → D'.cnt ≤ D.cnt + 2 → OW D' → G2 D'.files Rv D'.cnt (rR.map M1) → X8 rR → rR.length ≤ ts.length + 9 → ((∀ k', FY rR k' = CG rows k') ∨ (∀ k', FY rR k' = if k = k' then some (GY, v + 1) else CG rows k')) → R (.returned (.tuple #[.int .u64 0, .int .i64 60])) σ') :
   Spec prog 30 #[.pointer (some ⟨s, 0, none⟩), .string k, .slice p n c, .int .u64 v] σ R := by
 have hdn : GY.length = n := hr.1
 have Xa : k.size ≤ 64 := by simp [FI] at hk; exact hk.2
 have cw := Tm Xa hd hv
 have h8r : E7 (Cl k GY (v + 1)) := VG h8 (by omega) (by omega) hv
 have hdd : CE W.dir = true := by rw [ho.dir]; exact aj
 obtain ⟨rc, sg, rS, Mv⟩ := ho.log
 have hgn : X8 (ts ++ [(k, GY, v + 1)]) := fun t l3 => by
   rcases List.mem_append.1 l3 with l3 | l3
   · exact ho.good t l3
   · simp at l3; subst l3; exact ⟨hk, h8, Nat.le_trans hd (by decide), Nat.succ_pos v, hv⟩
 have hln : ∀ k', FY (ts ++ [(k, GY, v + 1)]) k' = if k = k' then some (GY, v + 1) else CG rows k' := fun k' => by rw [Oq, ho.look]
 have Z5 : (ts ++ [(k, GY, v + 1)]).map M1 = ts.map M1 ++ [Cl k GY (v + 1)] := by simp
 have AFI : D.armed = true → ∀ σ' D' t, Ai σ' d D' τ → D'.up = false → D'.armed = false → D'.cnt ≤ D.cnt + 2 → OW D' → G2 D'.files Rv D'.cnt t → t <+: ts.map M1 ++ [Cl k GY (v + 1)] → ts.length ≤ t.length → R (.returned (.tuple #[.int .u64 0, .int .i64 60])) σ' := fun ha σ' D' t Ms Ys ha' hc' Vd Em hp hl => by
   rcases yy hp (by simpa using hl) with e | e
   · subst e
     exact KH ha σ' D' ts Ms Ys ha' hc' Vd Em ho.good (by omega) (.inl fun k' => (ho.look k').symm)
   · rw [e, ← Z5] at Em
     exact KH ha σ' D' _ Ms Ys ha' hc' Vd Em hgn (by simp) (.inr hln)
 refine GS.start (X9 h ho.up (fun hf => by rw [hk] at hf; cases hf) fun _ sq n20 c20 σ1 Fo BJ => ⟨_, _, _, _, _, rfl, fun hh => absurd rfl hh, fun _ => ⟨fun hh => Ad (fun e => hh (by rw [e])) σ1 BJ, fun heq Ym gO => ?_⟩⟩)
 have ALb : (DW rows k).2 = v := by omega
 have Ap := Ap ALb
 have h1 := h.mono BJ
 refine ER Own.empty ((GM.of_map (hr.mono h1.ext)).mono (.set gO)) CN.Cn (by omega) fun p35 c35 σ2 AZ EK => ?_
 have hq : ∀ a : Addr, (some (⟨Ym, 0, none⟩ : Addr)) = some a → σ1 a.block = none := fun a ha => by cases ha; exact gO
 rw [Nat.zero_add] at AZ ⊢
 have AFJ : AS .u8 (σ1.new σ2) p35 n c35 GY := Own.CO AZ (Bt hq EK (.set gO))
 have Ay : Ext σ1 σ2 := CX hq EK (.set gO)
 obtain ⟨τ2, h2, x2, qt⟩ := h1.grow Ay
 have AFK : By .u8 τ2 p35 n GY := (AS.rd AFJ).mono qt
 refine ⟨p35, n, c35, rfl, fun J6 h37 => ?_⟩
 have e37 : J6 = ((v + 1 : Nat) : Int) := by rw [h37]; simp [IntKind.wrap, IntKind.bits, IntKind.signed]; omega
 subst e37
 obtain ⟨l0, l1, m, l2⟩ := h2.rd
 refine fun _ => ⟨s, 0, rfl, _, l0, Lf (AFK.mono h2.ext) h8 (by omega) (by omega) hv fun xM n45 c45 σ3 Dd DJ => ⟨xM, n45, c45, rfl, Kp.CM DJ, ?_⟩⟩
 obtain ⟨τ3, h3, x3, x3n⟩ := h2.grow DJ
 have ko : By .u8 τ3 xM n45 (Cl k GY (v + 1)) := (AS.rd Dd).mono x3n
 have AOu : (Cl k GY (v + 1)).length = n45 := ko.1
 obtain ⟨ρ, m3, cl, hl, hm⟩ := h3
 have mA : Ext τ ρ := (x2.trans x3).trans hm.up
 have AFL := ht.mono mA
 refine U2 (hfew := ho.uc) hl AFL (ko.mono hm.up) h8r ho.up (by omega) hdd rS (fun hh => by omega) fun _ => ⟨fun σ4 D4 W4 sg4 sf4 h4 u4 a4 k4 d4 z4 ALd s4 AFM ASd ALe ch4 _ _ _ => ⟨0, rfl, fun hh => absurd rfl hh, fun _ => ?_⟩, fun ha σ4 D4 t4 h4 u4 a4 k4 o4 ht4 hs4 => ⟨60, rfl, fun _ => ?_, fun hh => absurd (by decide) hh⟩⟩
 · have Vb : W4.dir = Rv := d4.trans ho.dir
   have AFN : CE W4.dir = true := by rw [Vb]; exact aj
   have VI : rc ++ An sg4 = (ts ++ [(k, GY, v + 1)]).map M1 := by rw [AFM, ← List.append_assoc, Mv, Z5]
   have u4' : Hm σ4 d b s D4 W4 rows τ3 := ⟨ρ, m3, cl, h4, hm⟩
   refine ⟨_, u4'.rd.1, aK h4 AFL u4 (by omega) AFN ALd (fun σ5 D5 h5 u5 a5 k5 yz ASh ALf ff5 => ⟨0, rfl, fun hh => absurd rfl hh, fun _ => ?_⟩) (fun ha σ5 D5 t5 h5 u5 a5 k5 o5 ht5 hs5 => ⟨60, rfl, fun _ => ?_, fun hh => absurd (by decide) hh⟩)⟩
   · have u5' : Hm σ5 d b s D5 W4 rows τ3 := ⟨ρ, m3, cl, h5, hm⟩
     obtain ⟨z1, z2, z3, z5, z6⟩ := z4
     have AFO : W4.opn ∈ W4.AP := List.mem_of_getLast? (by simpa [hasB] using z3)
     have rT : ∀ s, (D5.files s).isSome = true → (0 < W4.check ∧ s = AF Rv kc W4.check) ∨ ∃ n ∈ W4.AP, s = AF Rv ks n := fun s hs => by
       rcases z6 s (ff5.2 s hs) with g | g
       · rw [ch4]
         exact (ho.ex s g).imp id fun ⟨n, hn, e⟩ => ⟨n, z5.subset hn, e⟩
       · exact .inr ⟨_, AFO, by rw [g, Vb]⟩
     have ASj : W4.AP.length ≤ 65 := by have := ho.sml; omega
     obtain ⟨m0, _, m5, l5⟩ := u5'.rd
     have ud : D5.files (BB Rv) = none := by
       have e1 := ALf; have e2 := ALe
       rw [Vb] at e1; rw [ho.dir] at e2
       exact (e1.trans e2).trans ho.new
     refine ⟨_, l5, u5'.put l5 (Own.cap AFJ) (AFK.mono x3) h8 (by omega) hk hv fun σ6 E5 h6 uf hk6 => ?_⟩
     have rU : rQ K E5 := ⟨fun x hx => by
       rcases (hk6 x).1 hx with rfl | hx
       · exact hkK
       · exact MC.keys x hx, fun x => by
       have e : DW E5 x = if k = x then (GY, v + 1) else DW rows x := by
         rw [DW, uf]
         by_cases yX : k = x <;> simp [yX, DW]
       rw [e]
       by_cases yX : k = x
       · rw [if_pos yX]; exact hd
       · rw [if_neg yX]; exact MC.len x⟩
     have mB : ∀ x, CG E5 x = FY (ts ++ [(k, GY, v + 1)]) x := fun x => by rw [hln, uf]
     have y3 := h6.nodup
     have ALi : E5.length ≤ 8 := by
       have := XI y3 rU.keys
       simp only [BR, List.length_map] at this; omega
     have ga6 : D5.armed = D.armed := a5.trans a4
     obtain ⟨ρ6, m6, cl6, AFP, nr⟩ := h6
     have h6 : Hm σ6 d b s D5 W4 E5 τ3 := ⟨ρ6, m6, cl6, AFP, nr⟩
     have mC : Ext τ τ3 := x2.trans x3
     refine ⟨_, h6.rd.1, SG AFP ⟨_, rfl, fun FW => ?_, fun ASl => ?_⟩⟩
     · refine ⟨_, h6.rd.1, l8 h6 (by omega) fun p75 n75 c75 L σ8 au hp8 Rp => ⟨p75, n75, c75, rfl, Kp.CM Rp, ?_⟩⟩
       obtain ⟨τ8, h8', x8, x8n⟩ := h6.grow Rp
       obtain ⟨ρ8, m8, cl8, hl8, hm8⟩ := h8'
       let nu : List Rec := L.map fun x => (x, DW E5 x)
       have e9 : GF E5 L = nu.map M1 := by simp [nu, GF]
       have mD : ∀ x ∈ L, ∃ t ∈ ts ++ [(k, GY, v + 1)], t.1 = x ∧ t.2 = DW E5 x := fun x hx => by
         refine aq ?_
         rw [← mB, YB y3, if_pos (hp8.mem_iff.1 hx)]
       have hg9 : X8 nu := fun t l3 => by
         obtain ⟨x, hx, rfl⟩ := List.mem_map.1 l3
         obtain ⟨u, hu, e1, e2⟩ := mD x hx
         have := hgn u hu
         rw [e1, e2] at this; exact this
       have hl9 : ∀ x, FY nu x = CG E5 x := fun x => by
         rw [ao, YB y3]
         by_cases hx : x ∈ L
         · rw [if_pos hx, if_pos (hp8.mem_iff.1 hx)]
         · rw [if_neg hx, if_neg (fun h => hx (hp8.mem_iff.2 h))]
       have hLl : L.length = E5.length := by have := hp8.length_eq; simpa [BR] using this
       have ug : ∀ r ∈ GF E5 L, r.length ≤ 60094 := fun r Ij => by
         obtain ⟨x, hx, rfl⟩ := List.mem_map.1 Ij
         obtain ⟨u, hu, e1, e2⟩ := mD x hx
         have uh := hgn u hu
         refine Tm ?_ (rU.len x) (by rw [← e2]; exact uh.2.2.2.2)
         have := uh.1
         rw [e1] at this
         simp [FI] at this; exact this.2
       have AFQ : Mo (GF E5 L) := fun r Ij => by have := ug r Ij; omega
       have hj9 : (AU (GF E5 L)).length ≤ 4194304 := by
         have := YA AFQ ug
         rw [List.length_map, hLl] at this
         have h2 : E5.length * (60094 + 7) ≤ 8 * (60094 + 7) := Nat.mul_le_mul_right _ ALi
         omega
       have h89 : ∀ r ∈ GF E5 L, E7 r := fun r Ij => by
         obtain ⟨x, hx, rfl⟩ := List.mem_map.1 Ij
         obtain ⟨u, hu, e1, e2⟩ := mD x hx
         have uh := hgn u hu
         rw [e1, e2] at uh
         have uU : x.size ≤ 64 := by have := uh.1; simp [FI] at this; exact this.2
         exact VG uh.2.1 (by omega) (by have := uh.2.2.1; omega) uh.2.2.2.2
       have rC : Ext τ ρ8 := (mC.trans x8).trans hm8.up
       refine fv (hfew := dU rT (by omega)) hl8 (ht.mono rC) (Jd.mono (x8n.trans hm8.up) (BA.rd Rq.mono au)) h89 u5 (by omega) AFN yz (by rw [Vb]; exact ud) (fun hh => absurd AFQ hh) fun _ => ⟨hj9, ⟨fun σ9 D9 W9 h9 u9 a9 k9 d9 s9 ALl ASr ALm => ⟨0, rfl, fun hh => absurd rfl hh, fun _ => GS.cZ ?_⟩, fun ha σ9 D9 t9 h9 u9 a9 k9 o9 ht9 => ⟨60, rfl, fun _ => ?_, fun hh => absurd (by decide) hh⟩⟩⟩
       · refine Ap σ9 D9 W9 E5 nu ⟨ρ8, m8, cl8, h9, hm8.cell, hm8.map, hm8.row, (mC.trans x8).trans hm8.ext⟩ ⟨u9, d9.trans Vb, ⟨GF E5 L, [], ?_, by simp [An, e9]⟩, hg9, fun x => (hl9 x).symm, by have := ALm; rw [Vb] at this; exact this, fun s hs => ?_, by rw [s9.1]; simp⟩ rU uf (a9.trans ga6) ⟨by omega, .inr (by simp only [nu, List.length_map]; omega)⟩ hk6
         · have : (GF E5 L).length = nu.length := by rw [e9, List.length_map]
           rw [← this]; exact ALl
         · rw [s9.2.1]
           rcases s9.2.2 s hs with g | ⟨g1, g2, g3⟩
           · exact .inl ⟨by have := yz.opn.1; omega, by rw [g, Vb]⟩
           · exfalso
             rcases rT s g1 with ⟨e1, e2⟩ | ⟨n, hn, e⟩
             · exact g2 e1 (by rw [e2, Vb])
             · exact g3 n hn (by rw [e, Vb])
       · rw [Vb] at o9
         have Ek : t9 = nu.map M1 ∨ t9 = (ts ++ [(k, GY, v + 1)]).map M1 := by
           rcases ht9 with e | ⟨e1, e2⟩
           · exact .inl (e.trans e9)
           · rw [VI] at e1 e2
             exact .inr (e1.eq_of_length (by have := e1.length_le; omega))
         have Ms : Ai σ9 d D9 τ := h9.FC rC
         have Kz : D.armed = true := by rw [← ga6]; exact ha
         have AFR : OW D9 := RJ rT (by omega) k9.2
         rcases Ek with e | e
         · rw [e] at o9
           exact KH Kz σ9 D9 nu Ms u9 a9 (by omega) AFR o9 hg9 (by simp only [nu, List.length_map]; omega) (.inr fun x => by rw [hl9, uf])
         · rw [e] at o9
           exact KH Kz σ9 D9 _ Ms u9 a9 (by omega) AFR o9 hgn (by simp) (.inr hln)
     · refine GS.cZ (Ap σ6 D5 W4 E5 _ (h6.FC mC) ⟨u5, Vb, ⟨rc, sg4, ?_, VI⟩, hgn, mB, ud, rT, by omega⟩ rU uf ga6 ⟨by omega, .inl (by simp)⟩ hk6)
       have : (rc ++ An sg4).length = (ts ++ [(k, GY, v + 1)]).length := by rw [VI, List.length_map]
       rw [← this]; exact yz
   · rw [Vb] at o5
     have Kz : D.armed = true := by rw [← a4]; exact ha
     have ALn : ∀ s, (D4.files s).isSome = true → (D.files s).isSome = true ∨ s = AF W4.dir ks W4.opn ∨ s = AF W4.dir ks W4.opn := fun s hs => (z4.2.2.2.2 s hs).imp id .inl
     refine AFI Kz σ5 D5 t5 (h5.FC mA) u5 a5 (by omega) (RJ ho.ex (by have := ho.sml; omega) fun s hs => ALn s (k5.2 s hs)) o5 ?_ (by omega)
     rw [← Z5, ← VI]; exact ht5
 · rw [ho.dir] at o4
   refine AFI ha σ4 D4 t4 (h4.FC mA) u4 a4 (by omega) (RJ ho.ex (by have := ho.sml; omega) k4.2) o4 ?_ (by omega)
   rw [← Mv]; exact ht4
end
end TwW
end
section
namespace TwW
open Go Tw Go.RowKit Go.Proofs.Tryz
section
variable {σ σ' τ τ' ρ ρ' : Hp} {d b s m clock : Nat} {D : Dk} {W : Wl} {rows : List CJ} {R : Rr}
theorem YC (h : Ai σ d D τ) (ht : Tb τ) (EB : D.up = true) (Kz : D.armed = false) (hc : D.cnt = 0) (hf : ∀ s, D.files s = none)
   (hR : ∀ s b σ' W FG, Hm σ' d b s (dk FG 0) W [] τ → gU (dk FG 0) W [] [] → (∀ s, FG s = none) → R (.returned (.tuple #[.pointer (some ⟨s, 0, none⟩), .int .i64 0])) σ') : Spec prog 41 #[.pointer (some ⟨d, 0, none⟩)] σ R := by
 refine VH (ts := []) (w := true) h ht EB Kz (by omega) (G2.AEu fun s hs => by rw [hf s] at hs; cases hs) (fun t ht => by cases ht) (by simp) fun s b σ1 W1 rows FG cnt' h1 hl hk hd rS hn c1 c2 Jc hw => ?_
 have CL : rows = [] := by
   cases rows with
   | nil => rfl
   | cons r l => obtain ⟨t, ht, _⟩ := hk r.key (by simp [BR]); cases ht
 subst CL
 have Hi : cnt' = 0 := (hw rfl).trans hc
 subst Hi
 have M8 : ∀ x, FG x = none := fun x => by
   cases hh : FG x with
   | none => rfl
   | some f => have := Jc x (by rw [hh]; rfl); rw [hf x] at this; cases this
 refine hR s b σ1 W1 FG h1 ⟨rfl, hd, rS, fun t ht => (by cases ht), hl, hn, fun x hx => (by rw [show (dk FG 0).files x = none from M8 x] at hx; cases hx), ?_⟩ M8
 obtain ⟨rc, sg, Rt, _⟩ := rS
 have Va : sg = [] := by
   cases sg with
   | nil => rfl
   | cons x l =>
     obtain ⟨f, hx, _⟩ := Rt.sh.file 0 x rfl
     rw [M8] at hx; cases hx
 rw [Rt.AP, Va]; simp
end
end TwW
end
