/-
  Part 5 of the proof that the law KvKeepsUptoCardSaid of the given program answers true for every input of the given statement; the input reads behind the call as it did. (The texts: WY WZ XA XQ TwN XF TwS HF HF KA KB KC KD KE HG.)
-/
import Derived.Test.YtchjlpgaanjafaaGreatDoorA4
import Derived.ProofKit
import Derived.SizedLaws
import Derived.Deep.Slices
import Derived.Test.YtchjlpgaanjafaaGreatDoorCards
import Derived.Test.YtchjlpgaanjafaaGreatDoorTie
import Derived.WalkKit
import Derived.OpenShut
import Derived.Deep.DeepHandedRow
import Derived.Deep.DeepWitnessRowRef
import Derived.Lib.LaidTab
import Derived.Stop.LaidErr
import Derived.Laws.IdiomStrings
set_option linter.all false
section
set_option linter.unusedVariables false
namespace TwW
open Go Tw Go.RowKit Go.Proofs.Tryz
section
variable {fs gs : Fs} {cnt safe : Nat} {W : Wl} {rc keep : Recs} {sg : Sg}
theorem LogOk.laid (h : LogOk fs cnt W rc sg safe) (hc : cnt < 99999998) (hk : Good keep) : Shape (laid fs W.dir (fname W.dir kc W.opn) (joinF keep)) W.dir (cnt + 1) W.opn keep [] [] := by
  have ho := h.opn
  have hb : W.opn < 100000000 := by omega
  have hn := numOf_fname (dir := W.dir) (kind := kc) hb
  have hold : ∀ s, (TwW.laid fs W.dir (fname W.dir kc W.opn) (joinF keep) s).isSome = true → s = fname W.dir kc W.opn ∨ (fs s).isSome = true := fun s hs => by
    by_cases h1 : s = fname W.dir kc W.opn
    · exact .inl h1
    · by_cases h2 : s = fnew W.dir
      · simp [TwW.laid, h1, h2] at hs
        have := (fnew_ne (dir := W.dir) (kind := kc) (a := W.opn) (.inl rfl))
        exact absurd hs this
      · simp only [TwW.laid, h1, h2, if_false] at hs; exact .inr hs
  refine ⟨fun _ => ⟨⟨joinF keep, (joinF keep).length⟩, by simp [TwW.laid], rfl⟩, fun e => by omega, fun s hs => ?_, ho.2.1, (fun x hx => by cases hx), List.Pairwise.nil, fun s hs hlt => ?_, (fun k x hx => by simp at hx), fun _ => rfl, torn_nil, hk, (fun x hx => by cases hx), fun a ha => by cases ha⟩
  · rcases hold s hs with rfl | h1
    · omega
    · have := h.sh.old s h1; omega
  · exfalso
    rcases hold s hs with rfl | h1
    · have := num_kinds (dir := W.dir) (s := fname W.dir kc W.opn) (by omega); omega
    · obtain ⟨x, hx, e⟩ := h.sh.seg s h1 (by omega)
      have := ho.2.2 x hx; omega
theorem Shape.delAny {dir s : ByteArray} {check : Nat} (h : Shape fs dir cnt check keep [] []) (hs : s ≠ fname dir kc check) : Shape (fput fs s none) dir cnt check keep [] [] :=
  h.congr (Nat.le_refl _) (fun _ => fput_ne hs.symm) (fun x hx => by cases hx) fun t ht => by
    by_cases hts : t = s
    · subst hts; rw [fput_same] at ht; cases ht
    · rw [fput_ne hts] at ht; exact .inl ht
theorem Shape.crash0 {dir : ByteArray} {check : Nat} (h : Shape fs dir cnt check keep [] []) (hs : ∀ f, fs (fname dir kc check) = some f → f.syn = f.data.length) (hc : Crash fs gs) : OpenOk gs dir cnt keep :=
  ⟨check, keep, [], [], { h with chk := fun h0 => hc.whole (h.chk h0) hs, old := fun s hs => h.old s (hc.isS hs), seg := fun s hs => h.seg s (hc.isS hs), file := fun k x hx => by simp at hx }, by simp [toldS], hc.kept, fun h => (by cases h)⟩
end
section
variable {σ ρ τ : Hp} {d b : Nat} {D : Dk} {W : Wl} {R : Ending → Hp → Prop} {fs : Fs} {cnt safe : Nat} {rc keep : Recs} {sg : Sg}
structure CutU (d b : Nat) (D : Dk) (W : Wl) (τ : Hp) (rc : Recs) (sg : Sg) (safe : Nat) (keep : Recs) (rok : Hp → Prop) (rbad : Hp → Prop) : Prop where
  ok : ∀ σ' D' W', LogU σ' d b D' W' τ → D'.up = true → D'.armed = D.armed → D'.cnt = D.cnt + 1 → W'.dir = W.dir → (W'.segs = [] ∧ W'.check = W.opn ∧ ∀ s, (D'.files s).isSome = true → s = fname W.dir kc W.opn ∨ ((D.files s).isSome = true ∧ (0 < W.check → s ≠ fname W.dir kc W.check) ∧ ∀ n ∈ W.segs, s ≠ fname W.dir ks n)) → LogOk D'.files D'.cnt W' keep [] keep.length → Out W.dir D.files D'.files → D'.files (fnew W.dir) = none → rok σ'
  bad : D.armed = true → ∀ σ' D' told, DiskU σ' d D' τ → D'.up = false → D'.armed = false → (D'.cnt = D.cnt + 1 ∧ ∀ s, (D'.files s).isSome = true → (D.files s).isSome = true ∨ s = fname W.dir kc W.opn ∨ s = fnew W.dir) → OpenOk D'.files W.dir D'.cnt told → (told = keep ∨ (told <+: rc ++ toldS sg ∧ safe ≤ told.length)) → rbad σ'
theorem en54 : Enters prog wal_Wal_Cut_1.fid := fun args w => call54 args w
theorem cut15 {b0 ck : Nat} {armed : Bool} {C : Nat} {Q : List Nat → Fs → Prop} (hQ : ∀ n l fs, Q (n :: l) fs → Q l (fput fs (fname W.dir ks n) none)) (hd : dirOk W.dir = true) (hC : C ≤ 67108864) (ht : Tb τ) (t0 : τ b0 = some (.cells #[.pointer (some ⟨b, 0, none⟩)] 26 (0, 0))) (hfs0 : Out W.dir D.files fs)
    (hok : ∀ σ' fs' W', LogU σ' d b ⟨fs', true, armed, C⟩ W' τ → W'.dir = W.dir → (W'.segs = [] ∧ W'.check = ck ∧ Q [] fs') → LogOk fs' C W' keep [] keep.length → Out W.dir D.files fs' → fs' (fnew W.dir) = none → R (.returned (.tuple #[])) σ')
    (hbad : armed = true → ∀ σ' gs, OpenOk gs W.dir C keep → DiskU σ' d ⟨gs, false, false, C⟩ τ → (∃ l fs2, Q l fs2 ∧ ∀ s, (gs s).isSome = true → (fs2 s).isSome = true) → R (.panicked (pan 60)) σ') :
    ∀ (m : Nat) (σ : Hp) (fs : Fs) (V : Wl), V.segs.length = m → V.dir = W.dir → V.check = V.opn → LogU σ d b ⟨fs, true, armed, C⟩ V τ → Shape fs W.dir C V.opn keep [] [] → 0 < V.opn → (∀ f, fs (fname W.dir kc V.opn) = some f → f.syn = f.data.length) → (∀ n ∈ V.segs, (fs (fname W.dir ks n)).isSome = true ∧ n ≤ C) → V.segs.Nodup → Out W.dir D.files fs → fs (fnew W.dir) = none → V.check = ck → Q V.segs fs →
      wal_Wal_Cut_1.pt15 R b0 σ := by
  intro m
  have hds : W.dir.size ≤ 32 := by simp [dirOk] at hd; exact hd.2
  induction m with
  | zero =>
    intro σ fs V hm hdir hco h hsh hpos hsy hsg hnd hout hnew hck hq
    have hr := h.rd
    have hx := h.ext
    obtain ⟨p, c, hc, hl, hrd⟩ := hr.segs
    have hnil : V.segs = [] := List.eq_nil_of_length_eq_zero hm
    have hcle := hsh.cle
    refine wal_Wal_Cut_1.pt15_of ⟨_, ld_of (hx _ _ t0) rfl, b, 0, rfl, p, _, c, hl, fun hh => by omega, fun _ => ⟨_, ld_of (hx _ _ t0) rfl, b, 0, rfl, V.opn, hr.opn, by unfold I64; omega, ?_⟩⟩
    have e : ((V.opn : Int) + 1) = ((V.opn + 1 : Nat) : Int) := by omega
    rw [e]
    refine h.st (i := 0 + 4) (W' := { V with opn := V.opn + 1 }) (by omega) rfl (fun p n c => rfl) fun σ1 h1 => ?_
    refine ⟨_, ld_of (h1.ext _ _ t0) rfl, b, 0, rfl, ?_⟩
    refine h1.st (i := 0 + 5) (x := 0) (W' := { V with opn := V.opn + 1, size := 0 }) (by omega) rfl (fun p n c => rfl) fun σ2 h2 => ?_
    refine hok σ2 fs _ h2 hdir ⟨hnil, hck, hnil ▸ hq⟩ ⟨?_, by rw [hnil]; rfl, ⟨by simp only; omega, by simp only; omega, fun x hx => by cases hx⟩, (fun x hx => by cases hx), fun _ => rfl, fun f h0 hf => ?_, (fun x hx => by cases hx), (fun x hx => by cases hx), fun _ => by simp [toldS]⟩ hout hnew
    · simp only [hdir, hco]; exact hsh
    · simp only [hdir, hco] at hf; exact hsy f hf
  | succ m ih =>
    intro σ fs V hm hdir hco h hsh hpos hsy hsg hnd hout hnew hck hq
    have hr := h.rd
    have hx := h.ext
    obtain ⟨p, c, hc, hl, hrd⟩ := hr.segs
    obtain ⟨n0, l, hseg⟩ : ∃ n0 l, V.segs = n0 :: l := by
      cases hs : V.segs with
      | nil => rw [hs] at hm; cases hm
      | cons a l => exact ⟨a, l, rfl⟩
    have hge : (asI V.segs)[0]? = some ((n0 : Nat) : Int) := by rw [asI, hseg]; rfl
    obtain ⟨b50, o50, hp, hl50⟩ := hrd.at hge
    obtain ⟨hf0, hn0⟩ := hsg n0 (by rw [hseg]; simp)
    obtain ⟨f, hf⟩ := Option.isSome_iff_exists.1 hf0
    have hdirV : σ.ld ⟨b, 0 + 1, none⟩ = some (.string W.dir) := by rw [← hdir]; exact hr.dir
    have hnok : nameOk (fname W.dir ks n0) = true := fname_ok hd (.inr rfl) (by omega)
    refine wal_Wal_Cut_1.pt15_of ⟨_, ld_of (hx _ _ t0) rfl, b, 0, rfl, p, _, c, hl, fun _ => ⟨_, ld_of (hx _ _ t0) rfl, b, 0, rfl, _, hr.ptr, _, ld_of (hx _ _ t0) rfl, _, ld_of (hx _ _ t0) rfl, b, 0, rfl, p, _, c, hl, b50, o50, hp, by omega, n0, by simpa using hl50, ?_⟩, fun hh => by omega⟩
    refine fileW_spec (kind := ks) (dir := W.dir) hdirV hds (.inr rfl) (by omega) (ht.mono hx) fun σ1 hx1 => ⟨_, rfl, Kp.of_ext hx1, ?_⟩
    refine ldelete (h.mono hx1) rfl hnok hf ⟨fun σ2 h2 => ⟨_, rfl, must0 ?_⟩, fun ha σ2 gs hg hdu => ⟨_, rfl, must60 (hbad ha σ2 gs (hsh.crash0 hsy hg) hdu ⟨V.segs, fs, hq, fun s hs => hg.isS hs⟩)⟩⟩
    obtain ⟨p2, c2, hc2, hl2, hrd2⟩ := h2.rd.segs
    refine ⟨_, ld_of (h2.ext _ _ t0) rfl, _, ld_of (h2.ext _ _ t0) rfl, b, 0, rfl, p2, _, c2, hl2, by omega, b, 0, rfl, ?_⟩
    refine h2.cut (l := l) (by rw [hseg]; rfl) (fun p' c' hpc => ?_) fun σ3 h3 => ?_
    · rw [hl2] at hpc
      cases hpc
      refine ⟨?_, fun ρ ho => ?_⟩
      · unfold slP
        cases p2 with
        | none => split <;> rfl
        | some a =>
          split
          · rfl
          · simp [blk, Addr.add]
      · have hlen : V.segs.length = l.length + 1 := by rw [hseg]; rfl
        obtain ⟨h1, h0, h4⟩ := ho
        refine ⟨by simp [asI]; omega, by omega, ?_⟩
        rcases h4 with ⟨_, e, _⟩ | ⟨bb, oo, arr, T, rfl, hb, hnc, hsz, hcs⟩
        · omega
        · by_cases hl0 : c2 = 1
          · have hl1 : l = [] := List.eq_nil_of_length_eq_zero (by omega)
            subst hl1 hl0
            exact .inr ⟨bb, oo, arr, T, by simp [slP], hb, by simp; omega, by omega, by simp [asI]; omega⟩
          · refine .inr ⟨bb, oo + 1, arr, T, by simp [slP, hl0, add_off], hb, by omega, by omega, ?_⟩
            have e : V.segs.length - 1 = l.length := by omega
            rw [hseg] at hcs
            have := congrArg (List.drop 1) hcs
            rw [List.drop_take, List.drop_drop] at this
            simp only [asI, List.map_cons, List.drop_succ_cons, List.drop_zero, List.length_cons] at this
            rw [hlen]
            simp only [asI]
            rw [← this]
            congr 1
    · have hne : ∀ k, fname W.dir ks n0 ≠ fname W.dir kc k := fun k e => fname_kinds e.symm
      have hn2 : n0 ∉ l ∧ l.Nodup := by rw [hseg] at hnd; exact List.nodup_cons.1 hnd
      refine ih σ3 _ { V with segs := l } (by rw [hseg] at hm; simpa using hm) hdir hco h3 (hsh.delAny (hne _)) hpos (fun f hf => hsy f (by rwa [fput_ne (hne _).symm] at hf)) (fun k hk => ?_) hn2.2 (hout.trans (Out.del begins_file)) ((fput_ne (fnew_ne (.inr rfl))).trans hnew) hck (hQ n0 l fs (hseg ▸ hq))
      have hk2 := hsg k (by rw [hseg]; simp [show k ∈ l from hk])
      refine ⟨?_, hk2.2⟩
      rw [fput_ne]
      · exact hk2.1
      · intro e
        have := fname_inj (by omega) (by omega) e
        exact hn2.1 (this ▸ hk)
theorem cut1_spec {b0 b1 : Nat} {p : Option Addr} {n c : Nat} (h : LogU σ d b D W τ) (ht : Tb τ) (t0 : τ b0 = some (.cells #[.pointer (some ⟨b, 0, none⟩)] 26 (0, 0))) (t1 : τ b1 = some (.cells #[.slice p n c] 22 (0, 0)))
    (hx : RdLL τ p n keep) (hk : Good keep) (hlen : (joinF keep).length ≤ 4194304) (hup : D.up = true) (hcnt : D.cnt < 67108864) (hfew : Few D) (hd : dirOk W.dir = true) (hok : LogOk D.files D.cnt W rc sg safe) (hnew : D.files (fnew W.dir) = none)
    (hR : CutU d b D W τ rc sg safe keep (fun σ' => R (.returned (.tuple #[])) σ') (fun σ' => R (.panicked (pan 60)) σ')) : Spec prog wal_Wal_Cut_1.fid #[.pointer (some ⟨b0, 0, none⟩), .pointer (some ⟨b1, 0, none⟩)] σ R := by
  have hr := h.rd
  have hxe := h.ext
  have hds : W.dir.size ≤ 32 := by simp [dirOk] at hd; exact hd.2
  have hopn := hok.opn
  have hnok : nameOk (fname W.dir kc W.opn) = true := fname_ok hd (.inl rfl) (by omega)
  refine wal_Wal_Cut_1.start ⟨_, ld_of (hxe _ _ t0) rfl, _, ld_of (hxe _ _ t0) rfl, _, ld_of (hxe _ _ t0) rfl, b, 0, rfl, W.opn, hr.opn, p, n, c, ld_of (hxe _ _ t1) rfl, ?_⟩
  refine fileW_spec (kind := kc) hr.dir hds (.inl rfl) (by omega) (ht.mono hxe) fun σ1 hx1 => ⟨_, rfl, Kp.of_ext hx1, ?_⟩
  obtain ⟨τw, S, q, cc, T, hdu, hwal, hxo⟩ := (h.mono hx1).opened
  have hτw : Ext τ τw := hxo.trans (Ext.of_off _ _)
  have hsh := hok.laid (keep := keep) (by omega) hk
  have cl : ∀ {σ' : Hp} {D' : Dk}, DiskU σ' d D' τw → LogU σ' d b D' W τ := fun h' => (LogU.close h' hwal).weak hxo
  refine replace_spec hdu hwal.logF hup hcnt hfew hd hnok (hx.mono hτw) hk hlen hnew (fnew_ne (.inl rfl)).symm ⟨fun σ2 h2 => ?_, fun ha σ2 gs' gs hgs hg hdu2 => ?_⟩
  · have h2 := cl h2
    have hl1 : laid D.files W.dir (fname W.dir kc W.opn) (joinF keep) (fname W.dir kc W.opn) = some ⟨joinF keep, (joinF keep).length⟩ := by simp [laid]
    have hsy1 : ∀ f, laid D.files W.dir (fname W.dir kc W.opn) (joinF keep) (fname W.dir kc W.opn) = some f → f.syn = f.data.length := fun f hf => by rw [hl1] at hf; cases hf; rfl
    have hlo : ∀ s, s ≠ fname W.dir kc W.opn → s ≠ fnew W.dir → laid D.files W.dir (fname W.dir kc W.opn) (joinF keep) s = D.files s := fun s e1 e2 => by simp [laid, e1, e2]
    have hout : Out W.dir D.files (laid D.files W.dir (fname W.dir kc W.opn) (joinF keep)) := Out.laid (.inl rfl) (by omega) (by omega)
    have hnew2 : laid D.files W.dir (fname W.dir kc W.opn) (joinF keep) (fnew W.dir) = none := by simp [laid, fnew_ne (dir := W.dir) (kind := kc) (a := W.opn) (.inl rfl)]
    have bad : D.armed = true → ∀ σ' gs, OpenOk gs W.dir (D.cnt + 1) keep → DiskU σ' d ⟨gs, false, false, D.cnt + 1⟩ τ → (∀ s, (gs s).isSome = true → (D.files s).isSome = true ∨ s = fname W.dir kc W.opn ∨ s = fnew W.dir) → R (.panicked (pan 60)) σ' := fun ha σ' gs ho hdu' hsu => hR.bad ha σ' _ keep hdu' rfl rfl ⟨rfl, hsu⟩ ho (.inl rfl)
    let Q : List Nat → Fs → Prop := fun l fs => ∀ s, (fs s).isSome = true → s = fname W.dir kc W.opn ∨ ((D.files s).isSome = true ∧ (0 < W.check → s ≠ fname W.dir kc W.check) ∧ ∀ n ∈ W.segs, n ∈ l ∨ s ≠ fname W.dir ks n)
    have hQ : ∀ n l fs, Q (n :: l) fs → Q l (fput fs (fname W.dir ks n) none) := fun n l fs h s hs => by
      by_cases e : s = fname W.dir ks n
      · subst e; rw [fput_same] at hs; cases hs
      · rw [fput_ne e] at hs
        refine (h s hs).imp id fun ⟨g1, g2, g3⟩ => ⟨g1, g2, fun k hk => ?_⟩
        rcases g3 k hk with g | g
        · rcases List.mem_cons.1 g with rfl | g
          · exact .inr e
          · exact .inl g
        · exact .inr g
    have hQ0 : ∀ fs, (∀ s, (fs s).isSome = true → s = fname W.dir kc W.opn ∨ ((D.files s).isSome = true ∧ (0 < W.check → s ≠ fname W.dir kc W.check))) → Q W.segs fs := fun fs h s hs => (h s hs).imp id fun ⟨g1, g2⟩ => ⟨g1, g2, fun n hn => .inl hn⟩
    have hlaid : ∀ s, (laid D.files W.dir (fname W.dir kc W.opn) (joinF keep) s).isSome = true → s = fname W.dir kc W.opn ∨ (D.files s).isSome = true := fun s hs => by
      by_cases e1 : s = fname W.dir kc W.opn
      · exact .inl e1
      · by_cases e2 : s = fnew W.dir
        · subst e2; rw [hnew2] at hs; cases hs
        · rw [hlo s e1 e2] at hs; exact .inr hs
    have fin : ∀ (σ' : Hp) (fs : Fs), LogU σ' d b ⟨fs, true, D.armed, D.cnt + 1⟩ W τ → Shape fs W.dir (D.cnt + 1) W.opn keep [] [] → (∀ f, fs (fname W.dir kc W.opn) = some f → f.syn = f.data.length) → (∀ k ∈ W.segs, (fs (fname W.dir ks k)).isSome = true ∧ k ≤ D.cnt + 1) → Out W.dir D.files fs → fs (fnew W.dir) = none → Q W.segs fs → wal_Wal_Cut_1.pt9 R b0 σ' := by
      intro σ' fs hl hs1 hsy hsg ho hn hqq
      have hr' := hl.rd
      refine wal_Wal_Cut_1.pt9_of ⟨_, ld_of (hl.ext _ _ t0) rfl, _, ld_of (hl.ext _ _ t0) rfl, b, 0, rfl, W.opn, hr'.opn, b, 0, rfl, ?_⟩
      refine hl.st (i := 0 + 2) (W' := { W with check := W.opn }) (by omega) rfl (fun p n c => rfl) fun σ5 h5 => ?_
      refine cut15 (ck := W.opn) (Q := Q) hQ (D := D) (fs := fs) (W := W) (keep := keep) (armed := D.armed) hd (by omega) ht t0 ho (fun σ6 fs6 W6 a1 a2 a3 a4 a5 a6 => hR.ok σ6 _ W6 a1 rfl rfl rfl a2 ⟨a3.1, a3.2.1, fun s hs => (a3.2.2 s hs).imp id fun ⟨g1, g2, g3⟩ => ⟨g1, g2, fun n hn => (g3 n hn).elim (fun h => by cases h) id⟩⟩ a4 a5 a6) (fun ha σ' gs ho hdu' ⟨l, fs2, hq2, hs2⟩ => bad ha σ' gs ho hdu' fun s hs => (hq2 s (hs2 s hs)).elim (fun e => .inr (.inl e)) fun g => .inl g.1) _ σ5 fs { W with check := W.opn } rfl rfl rfl h5 hs1 (by simp only; omega) hsy hsg ?_ ho hn rfl hqq
      have : W.segs.Pairwise (· < ·) := by rw [hok.segs, List.pairwise_map]; exact hok.sh.rise
      exact this.imp fun h => Nat.ne_of_lt h
    have hsegs : ∀ k ∈ W.segs, (laid D.files W.dir (fname W.dir kc W.opn) (joinF keep) (fname W.dir ks k)).isSome = true ∧ k ≤ D.cnt + 1 := fun k hk' => by
      rw [hok.segs] at hk'
      obtain ⟨x, hx, rfl⟩ := List.mem_map.1 hk'
      obtain ⟨i, hi⟩ := List.getElem?_of_mem hx
      have := (hok.sh.gt x hx).2
      exact ⟨by rw [hlo _ fname_kinds.symm (fnew_ne (.inr rfl)).symm]; exact (hok.sh.file i x hi).isS, by omega⟩
    refine ⟨rfl, _, ld_of (h2.ext _ _ t0) rfl, b, 0, rfl, W.check, h2.rd.check, fun hpos => ?_, fun hz => ?_⟩
    · have hcf : fname W.dir kc W.check ≠ fname W.dir kc W.opn := fun e => by
        have := fname_inj (by omega) (by omega) e; omega
      obtain ⟨f, hf⟩ := Option.isSome_iff_exists.1 (hok.sh.chk (by omega)).isS
      refine ⟨_, ld_of (h2.ext _ _ t0) rfl, b, 0, rfl, _, h2.rd.ptr, _, ld_of (h2.ext _ _ t0) rfl, _, ld_of (h2.ext _ _ t0) rfl, b, 0, rfl, W.check, h2.rd.check, ?_⟩
      refine fileW_spec (kind := kc) h2.rd.dir hds (.inl rfl) (by omega) (ht.mono h2.ext) fun σ3 hx3 => ⟨_, rfl, Kp.of_ext hx3, ?_⟩
      refine ldelete (h2.mono hx3) rfl (fname_ok hd (.inl rfl) (by omega)) (f := f) (by show laid D.files W.dir _ _ _ = _; rw [hlo _ hcf (fnew_ne (.inl rfl)).symm]; exact hf) ⟨fun σ4 h4 => ⟨_, rfl, must0 ?_⟩, fun ha σ4 gs hg hdu4 => ⟨_, rfl, must60 (bad ha σ4 gs (hsh.crash0 hsy1 hg) hdu4 fun s hs => (hlaid s (hg.isS hs)).elim (fun e => .inr (.inl e)) .inl)⟩⟩
      refine fin σ4 _ h4 (hsh.delAny hcf) (fun f hf => hsy1 f ((fput_ne hcf.symm).symm.trans hf)) (fun k hk' => ?_) (hout.trans (Out.del begins_file)) ((fput_ne (fnew_ne (.inl rfl))).trans hnew2) (hQ0 _ fun s hs => ?_)
      · rw [fput_ne fname_kinds.symm]
        exact hsegs k hk'
      · by_cases e : s = fname W.dir kc W.check
        · subst e; rw [fput_same] at hs; cases hs
        · rw [fput_ne e] at hs
          exact (hlaid s hs).imp id fun g => ⟨g, fun _ => e⟩
    · exact fin σ2 _ h2 hsh hsy1 hsegs hout hnew2 (hQ0 _ fun s hs => (hlaid s hs).imp id fun g => ⟨g, fun h0 => by omega⟩)
  · have hfr := hok.fresh (cnt' := D.cnt + 1) (by omega) hgs
    obtain ⟨told, g1, g2, g3⟩ := hfr.crash hg
    exact hR.bad ha σ2 _ told (cl hdu2).disk rfl rfl ⟨rfl, fun s hs => by
      by_cases e : s = fnew W.dir
      · exact .inr (.inr e)
      · have := hg.isS hs
        rw [hgs s e] at this
        exact .inl this⟩ g1 (.inr ⟨g2, g3⟩)
theorem wcut_spec {p : Option Addr} {n c : Nat} (h : LogU σ d b D W τ) (ht : Tb τ) (hx : RdLL τ p n keep) (h8 : ∀ r ∈ keep, By8 r) (hup : D.up = true) (hcnt : D.cnt < 67108864) (hd : dirOk W.dir = true) (hok : LogOk D.files D.cnt W rc sg safe) (hnew : D.files (fnew W.dir) = none)
    (hlong : ¬ Short keep → ∀ σ', LogU σ' d b D W τ → R (.returned (.int .i64 70)) σ')
    (hR : Short keep → (joinF keep).length ≤ 4194304 ∧ CutU d b D W τ rc sg safe keep (fun σ' => R (.returned (.int .i64 0)) σ') (fun σ' => R (.returned (.int .i64 60)) σ')) (hfew : Few D := by refine .inl ?_; first | omega | (dsimp only [dk]; omega) | (dsimp only; omega)) : Spec prog wal_Wal_Cut.fid #[.pointer (some ⟨b, 0, none⟩), .slice p n c] σ R := by
  have hkl : keep.length = n := hx.1
  refine wal_Wal_Cut.start fun b2 hb2 b3 hb3 => ?_
  obtain ⟨τ2, h2, x2, t2⟩ := h.box (o := .cells #[.pointer (some ⟨b, 0, none⟩)] 26 (0, 0)) hb2
  obtain ⟨τ3, h3, x3, t3⟩ := h2.box (o := .cells #[.slice p n c] 22 (0, 0)) hb3
  have hxx := x2.trans x3
  refine ⟨p, n, c, ld_of (h3.ext _ _ t3) rfl, ?_⟩
  have hx3 := hx.mono hxx
  suffices H : ∀ m k : Nat, n - k = m → k ≤ n → Short (keep.take k) → wal_Wal_Cut.pt8 R b2 b3 p n c n k _ from H n 0 rfl (Nat.zero_le _) (fun r hr => by simp at hr)
  intro m
  induction m with
  | zero =>
    intro k hm hk hs
    rw [List.take_of_length_le (by omega)] at hs
    refine wal_Wal_Cut.pt8_of ⟨fun hh => by omega, fun _ => caught_spec en54 ?_⟩
    obtain ⟨hl, hRc⟩ := hR hs
    exact cut1_spec h3 (ht.mono hxx) (x3 _ _ t2) t3 hx3 (fun r hr => ⟨hs r hr, h8 r hr⟩) hl hup hcnt hfew hd hok hnew ⟨fun σ' D' W' a1 a2 a3 a4 a5 a6 a7 a8 a9 => .inl ⟨rfl, _, rfl, hRc.ok σ' D' W' (a1.weak hxx) a2 a3 a4 a5 a6 a7 a8 a9⟩, fun ha σ' D' told a1 a2 a3 a4 a5 a6 => .inr ⟨60, rfl, _, rfl, hRc.bad ha σ' D' told (a1.weak hxx) a2 a3 a4 a5 a6⟩⟩
  | succ m ih =>
    intro k hm hk hs
    obtain ⟨x, hxk⟩ : ∃ x, keep[k]? = some x := ⟨_, List.getElem?_eq_getElem (by omega)⟩
    obtain ⟨b11, o11, p12, n12, c12, rfl, hl, _, hrd⟩ := (hx3.mono h3.ext).at hxk
    have hn12 : x.length = n12 := hrd.1
    have hnb := hx.big
    refine wal_Wal_Cut.pt8_of ⟨fun _ => ⟨b11, o11, rfl, by omega, p12, n12, c12, by simpa using hl, fun hh => hlong (fun hs' => ?_) _ (h3.weak hxx), fun hh => ⟨by unfold I64; omega, ih (k + 1) (by omega) (by omega) ?_⟩⟩, fun hh => by omega⟩
    · have := hs' x (List.mem_of_getElem? hxk); omega
    · rw [take_succ' hxk]
      intro r hr
      rcases List.mem_append.1 hr with hr | hr
      · exact hs r hr
      · simp at hr; subst hr; omega
theorem segments_spec (h : LogU σ d b D W τ) (hR : R (.returned (.int .i64 (W.segs.length : Nat))) σ) : Spec prog wal_Wal_Segments.fid #[.pointer (some ⟨b, 0, none⟩)] σ R := by
  obtain ⟨p, c, hc, hl, hrd⟩ := h.rd.segs
  exact wal_Wal_Segments.start ⟨b, 0, rfl, p, _, c, hl, hR⟩
end
end TwW
end
section
set_option linter.unusedVariables false
namespace TwW
open Go Tw Go.RowKit Go.Proofs.Tryz
theorem take_eq_of {α : Type} {xs ys : List α} {k : Nat} {x y : α} (hx : xs[k]? = some x) (hy : ys[k]? = some y) (h : xs.take k = ys.take k) (he : x = y) : xs.take (k + 1) = ys.take (k + 1) := by
  rw [take_succ' hx, take_succ' hy, h, he]
theorem sameBytes_spec {R : Ending → Hp → Prop} {σ : Hp} {p q : Option Addr} {n c m d : Nat} {xs ys : List Int} (hr : RdI .u8 σ p n xs) (hs : RdI .u8 σ q m ys) (h : R (.returned (.bool (decide (xs = ys)))) σ) :
    Spec prog law0_SameBytes.fid #[.slice p n c, .slice q m d] σ R := by
  refine law0_SameBytes.start ⟨fun hne => ?_, fun he => ?_⟩
  · have : xs ≠ ys := fun e => hne (by rw [← hr.1, ← hs.1, e])
    simpa [this] using h
  · obtain rfl : n = m := by omega
    suffices H : ∀ d' k : Nat, n - k = d' → k ≤ n → xs.take k = ys.take k → law0_SameBytes.pt17 R p n c q n d k σ from H n 0 rfl (Nat.zero_le _) (by simp)
    intro d'
    induction d' with
    | zero =>
      intro k hd hk hno
      refine law0_SameBytes.pt17_of ⟨fun hlt => by omega, fun _ => ?_⟩
      rw [List.take_of_length_le (by rw [hr.1]; omega), List.take_of_length_le (by rw [hs.1]; omega)] at hno
      simpa [hno] using h
    | succ d' ih =>
      intro k hd hk hno
      refine law0_SameBytes.pt17_of ⟨fun hlt => ?_, fun hge => by omega⟩
      have hk' : k < n := by omega
      obtain ⟨x, hx⟩ := hr.ex hk'
      obtain ⟨y, hy⟩ := hs.ex hk'
      obtain ⟨b, o, rfl, hl⟩ := hr.at hx
      obtain ⟨b', o', rfl, hl'⟩ := hs.at hy
      refine ⟨b, o, rfl, by omega, x, by simpa using hl, b', o', rfl, by omega, y, by simpa using hl', fun hne => ?_, fun he => ⟨i64_succ hk' hr.big, ih (k + 1) (by omega) (by omega) (take_eq_of hx hy hno (by simpa using he))⟩⟩
      have : xs ≠ ys := fun e => hne (by rw [e, hy] at hx; cases hx; rfl)
      simpa [this] using h
section
variable {σ ρ τ : Hp} {d b : Nat} {D : Dk} {W : Wl} {R : Ending → Hp → Prop}
theorem LogU.app_own {T E ty : TypeId} {s bs : Nat} [SlT prog T E s bs] {p q : Option Addr} {n c m d' : Nat} {cs ys : List Value} {Φ : Value → Hp → Prop} (h : LogU σ d b D W ρ) (ho : Own s ρ p n c cs) (hy : RdC s ρ q m ys) (h1 : OneC ys) (hb : (n + m) * bs ≤ 140737488355328)
    (hΦ : ∀ p' c' σ' ρ', LogU σ' d b D W ρ' → Own s ρ' p' (n + m) c' (cs ++ ys) → Ext (ρ.del p) (ρ'.del p') → Φ (.slice p' (n + m) c') σ') : Eff prog (Builtin.append_ #[T, T] ty #[.slice p n c, .slice q m d']) σ Φ := by
  have hx := h.ext
  obtain ⟨Sd, S, q0, cc, T0, g1, g2, g3⟩ := h
  refine app_eff2 (ho.mono hx) (hy.mono hx) h1 hb fun p' c' σ' ho2 hx2 _ => ?_
  rw [Hp.del_off, Hp.del_off] at hx2
  have keep : ∀ j o, j ∉ blk p → σ j = some o → σ' j = some o ∧ j ∉ blk p' := fun j o h4 h5 => by
    have := Hp.off_some.1 (hx2 j o (Hp.off_some.2 ⟨h4, h5⟩)); exact ⟨this.2, this.1⟩
  have hp : ∀ j ∈ blk p, j ∉ S ∧ j ∉ Sd := fun j hj => by
    cases p with
    | none => cases hj
    | some a =>
      simp [blk] at hj
      subst hj
      cases hr : ρ a.block with
      | none => exact absurd hr (ho.block a rfl)
      | some o =>
        have h4 := Hp.off_some.1 (g3 _ _ hr)
        exact ⟨h4.1, (Hp.off_some.1 h4.2).1⟩
  have hSd : ∀ j ∈ Sd, σ' j = σ j ∧ j ∉ blk p' := fun j hj => by
    cases hs : σ j with
    | none => exact absurd hs (g1.known j hj)
    | some o => exact keep j o (fun hb => (hp j hb).2 hj) hs
  have hS : ∀ j ∈ S, (σ'.off Sd) j = (σ.off Sd) j ∧ j ∉ blk p' := fun j hj => by
    cases hs : (σ.off Sd) j with
    | none => exact absurd hs (g2.known j hj)
    | some o =>
      have h4 := Hp.off_some.1 hs
      have h5 := keep j o (fun hb => (hp j hb).1 hj) h4.2
      exact ⟨by rw [Hp.off_out h4.1]; exact h5.1, h5.2⟩
  refine hΦ p' c' σ' ((σ'.off Sd).off S) ⟨Sd, S, q0, cc, T0, g1.loc fun j hj => (hSd j hj).1, g2.loc fun j hj => (hS j hj).1, Ext.refl _⟩ ?_ ?_
  · exact TwW.Own.loc ho2 fun j hj => by rw [Hp.off_out fun hs => (hS j hs).2 hj, Hp.off_out fun hs => (hSd j hs).2 hj]
  · rw [Hp.del_off, Hp.del_off]
    intro j o hj
    have h4 := Hp.off_some.1 hj
    have h5 := Hp.off_some.1 (g3 _ _ h4.2)
    have h6 := Hp.off_some.1 h5.2
    have h7 := keep j o h4.1 h6.2
    exact Hp.off_some.2 ⟨h7.2, Hp.off_some.2 ⟨h5.1, Hp.off_some.2 ⟨h6.1, h7.1⟩⟩⟩
theorem LogU.appLL {ty : TypeId} {p q : Option Addr} {n c m d' : Nat} {xs ys : Recs} {Φ : Value → Hp → Prop} (h : LogU σ d b D W ρ) (hx : Ext τ (ρ.del p)) (ho : OwnLL ρ p n c xs) (hy : RdLL (ρ.del p) q m ys) (hb : n + m ≤ 4194304)
    (hΦ : ∀ p' c' σ' ρ', LogU σ' d b D W ρ' → OwnLL ρ' p' (n + m) c' (xs ++ ys) → Ext τ (ρ'.del p') → Φ (.slice p' (n + m) c') σ') : Eff prog (Builtin.append_ #[22, 22] ty #[.slice p n c, .slice q m d']) σ Φ := by
  obtain ⟨hxl, cs, ho1, hc1⟩ := ho
  obtain ⟨hyl, ds, hy1, hc2⟩ := hy
  refine h.app_own (T := 22) ho1 (hy1.mono (Ext.of_del _ _)) ?_ (by omega) fun p' c' σ' ρ' h' ho' hx' => hΦ p' c' σ' ρ' h' ⟨by rw [List.length_append]; omega, _, ho', ?_⟩ (hx.trans hx')
  · exact Ch.oneC (fun _ vs x ⟨p, n, c, e, _⟩ => by subst e; exact fun u hu => by simp at hu; subst hu; rfl) hc2 (by decide)
  · exact (hc1.mono EBy.mono hx').append (hc2.mono EBy.mono hx')
end
section
variable {σ : Hp} {R : Ending → Hp → Prop}
theorem copyBytes_spec {p : Option Addr} {n c : Nat} {xs : List Int} (hr : RdI .u8 σ p n xs) (hb : n ≤ 140737488355328)
    (h : ∀ p' c' σ', OwnI .u8 (σ.new σ') p' n c' xs → Ext σ σ' → R (.returned (.slice p' n c')) σ') : Spec prog law0_CopyBytes.fid #[.slice p n c] σ R := by
  refine law0_CopyBytes.start fun b hn => ?_
  refine app_eff Own.empty ((RdC.of_map hr).mono (.set hn)) OneC.map_int (by omega) fun p' c' σ' hown hext => ?_
  have hq : ∀ a : Addr, (some (⟨b, 0, none⟩ : Addr)) = some a → σ a.block = none := fun a ha => by cases ha; exact hn
  refine ⟨p', 0 + n, c', rfl, ?_⟩
  rw [Nat.zero_add] at hown ⊢
  exact h p' c' σ' (Own.to_new hown (new_block hq hext (.set hn))) (ext_new hq hext (.set hn))
theorem low_spec {x : Int} (h : ∀ y : Int, 0 ≤ y → y ≤ 9223372036854775807 → R (.returned (.int .i64 y)) σ) : Spec prog law0_Low.fid #[.int .i64 x] σ R := by
  refine law0_Low.start fun x4 h4 => h x4 ?_ ?_
  · rw [h4]
    have h2 : (BitVec.ofInt 64 9223372036854775807).toNat = 9223372036854775807 := rfl
    have e : Go.bits .and .i64 x 9223372036854775807 = IntKind.i64.wrap (((BitVec.ofInt 64 x) &&& (BitVec.ofInt 64 9223372036854775807)).toNat : Int) := rfl
    rw [e, BitVec.toNat_and, h2]
    have hle : (BitVec.ofInt 64 x).toNat &&& 9223372036854775807 ≤ 9223372036854775807 := Nat.and_le_right
    generalize (BitVec.ofInt 64 x).toNat &&& 9223372036854775807 = y at hle
    simp [IntKind.wrap, IntKind.bits, IntKind.signed]; omega
  · rw [h4]
    have := (bits_within .and .i64 x 9223372036854775807).2
    have e2 : IntKind.max .i64 = 9223372036854775807 := rfl
    rw [e2] at this; exact this
theorem sameLists_spec {p q : Option Addr} {n c m d : Nat} {xs ys : Recs} (hr : RdLL σ p n xs) (hs : RdLL σ q m ys) (h : R (.returned (.bool (decide (xs = ys)))) σ) : Spec prog law0_SameLists.fid #[.slice p n c, .slice q m d] σ R := by
  refine law0_SameLists.start ⟨fun hne => ?_, fun he => ?_⟩
  · have : xs ≠ ys := fun e => hne (by rw [← hr.1, ← hs.1, e])
    simpa [this] using h
  · obtain rfl : n = m := by omega
    suffices H : ∀ d' k : Nat, n - k = d' → k ≤ n → xs.take k = ys.take k → law0_SameLists.pt17 R p n c q n d k σ from H n 0 rfl (Nat.zero_le _) (by simp)
    intro d'
    induction d' with
    | zero =>
      intro k hd hk hno
      refine law0_SameLists.pt17_of ⟨fun hlt => by omega, fun _ => ?_⟩
      rw [List.take_of_length_le (by rw [hr.1]; omega), List.take_of_length_le (by rw [hs.1]; omega)] at hno
      simpa [hno] using h
    | succ d' ih =>
      intro k hd hk hno
      refine law0_SameLists.pt17_of ⟨fun hlt => ?_, fun hge => by omega⟩
      have hk' : k < n := by omega
      obtain ⟨x, hx⟩ := hr.ex hk'
      obtain ⟨y, hy⟩ := hs.ex hk'
      obtain ⟨b, o, p1, n1, c1, rfl, hl, _, hr1⟩ := hr.at hx
      obtain ⟨b', o', p2, n2, c2, rfl, hl', _, hr2⟩ := hs.at hy
      refine ⟨b, o, rfl, by omega, p1, n1, c1, by simpa using hl, b', o', rfl, by omega, p2, n2, c2, by simpa using hl', sameBytes_spec hr1 hr2 ⟨_, rfl, fun hne => ?_, fun he => ⟨i64_succ hk' hr.big, ?_⟩⟩⟩
      · have : xs ≠ ys := fun e => by
          rw [decide_eq_false_iff_not] at hne
          exact hne (by rw [e, hy] at hx; cases hx; rfl)
        simpa [this] using h
      · have e := of_decide_eq_true he
        exact ih (k + 1) (by omega) (by omega) (take_eq_of hx hy hno e)
theorem copyLists_spec {p : Option Addr} {n c : Nat} {xs : Recs} (hr : RdLL σ p n xs) (hb : n ≤ 4194304) (hx : ∀ x ∈ xs, x.length ≤ 140737488355328)
    (h : ∀ p' c' σ', OwnLL (σ.new σ') p' n c' xs → Ext σ σ' → R (.returned (.slice p' n c')) σ') : Spec prog law0_CopyLists.fid #[.slice p n c] σ R := by
  refine law0_CopyLists.start ?_
  suffices H : ∀ (d k : Nat) (p' : Option Addr) (c' : Nat) (σ' : Hp), n - k = d → k ≤ n → OwnLL (σ.new σ') p' k c' (xs.take k) → Ext σ σ' → law0_CopyLists.pt11 R p n c p' k c' k σ' from H n 0 none 0 σ rfl (Nat.zero_le _) OwnL.nil (Ext.refl _)
  have hln : xs.length = n := hr.1
  intro d
  induction d with
  | zero =>
    intro k p' c' σ' hd hk ho hx'
    have : k = n := by omega
    subst this
    rw [List.take_of_length_le (by omega)] at ho
    exact law0_CopyLists.pt11_of ⟨fun hh => by omega, fun _ => h p' c' σ' ho hx'⟩
  | succ d ih =>
    intro k p' c' σ' hd hk ho hx'
    obtain ⟨x, hxk⟩ := hr.ex (k := k) (by omega)
    obtain ⟨b, o, p2, n2, c2, rfl, hl, hc2, hrd⟩ := hr.at hxk
    have hxl := hx x (List.mem_of_getElem? hxk)
    have hn2 : x.length = n2 := hrd.1
    refine law0_CopyLists.pt11_of ⟨fun _ => ⟨b, o, rfl, by omega, p2, n2, c2, by simpa using hx'.ld hl, copyBytes_spec (hrd.mono hx') (by omega) fun p3 c3 σ3 ho3 hx3 => ⟨p3, n2, c3, rfl, fun b17 hb17 => ?_⟩⟩, fun hh => by omega⟩
    have hb2 : ∀ a, p' = some a → σ' a.block ≠ none := fun a ha e => ho.block a ha (by
      cases hh : (σ.new σ') a.block with
      | none => rfl
      | some u => rw [(new_some.1 hh).2] at e; cases e)
    refine OwnL.app1 (T := 22) EBy.mono (hx'.trans hx3) (OwnL.mono EBy.mono (Ext.new_mono hx3) ho) rfl (fun u hu => by simp at hu; subst hu; rfl) (x := x) ⟨p3, n2, c3, rfl, Own.cap ho3, (OwnI.rd ho3).mono (Ext.new_into hx' hb2)⟩ (by omega) (fun p4 c4 σ4 ho4 hx4 => ⟨p4, _, c4, rfl, i64_succ (by omega) hr.big, ih (k + 1) p4 c4 σ4 (by omega) (by omega) ?_ hx4⟩) hb17
    rw [take_succ' hxk]; exact ho4
end
end TwW
end
section
set_option linter.unusedVariables false
namespace TwW
open Go Tw Go.RowKit Go.Proofs.Tryz
def dx : ByteArray := ⟨#[120]⟩
theorem dx_ok : dirOk dx = true := by decide
section
variable {σ τ : Hp} {d b : Nat} {D : Dk} {W : Wl} {R : Ending → Hp → Prop} {fs : Fs} {dir : ByteArray} {cnt : Nat}
theorem OpenOk.none' (h : ∀ s, (fs s).isSome = true → numOf dir kc s = 0 ∧ numOf dir ks s = 0) : OpenW fs dir cnt [] true :=
  ⟨0, [], [], [], ⟨fun h0 => absurd h0 (by omega), fun _ => rfl, fun s hs => by rw [(h s hs).1]; omega, Nat.zero_le _, fun x hx => (by cases hx), List.Pairwise.nil, fun s hs hlt => (by rw [(h s hs).2] at hlt; omega), fun k x hx => (by simp at hx), fun _ => rfl, torn_nil, Good.nil, fun x hx => (by cases hx), fun a ha => (by cases ha)⟩, rfl, ⟨fun f h0 => absurd h0 (by omega), fun k x hx => (by simp at hx)⟩, fun _ => rfl⟩
theorem OpenOk.one {n syn : Nat} {rs : Recs} (hn : 0 < n ∧ n ≤ cnt) (hc : cnt < 99999999) (h : ∀ s, (fs s).isSome = true → s = fname dir ks n) (hf : fs (fname dir ks n) = some ⟨joinF rs, syn⟩) (hg : Good rs) : OpenW fs dir cnt rs true := by
  have e := numOf_fname (dir := dir) (kind := ks) (no := n) (by omega)
  refine ⟨0, [], [(n, rs)], [], ⟨fun h0 => absurd h0 (by omega), fun _ => rfl, fun s hs => ?_, Nat.zero_le _, fun x hx => ?_, by simp, fun s hs hlt => ?_, fun k x hx => ?_, fun e => by simp at e, torn_nil, Good.nil, fun x hx => ?_, fun a ha => (by cases ha)⟩, by simp [toldS], ⟨fun f h0 => absurd h0 (by omega), fun k x hx hk => (by simp at hk)⟩, fun _ => rfl⟩
  · rw [h s hs]
    rcases Nat.eq_zero_or_pos (numOf dir kc (fname dir ks n)) with h0 | h0
    · omega
    · have := num_kinds h0; omega
  · simp at hx; subst hx; exact hn
  · refine ⟨(n, rs), by simp, ?_⟩
    rw [h s hs, e]
  · have hk : k = 0 := by
      have := (List.getElem?_eq_some_iff.1 hx).1
      simp at this; exact this
    subst hk
    simp at hx
    subst hx
    exact ⟨_, hf, by simp⟩
  · simp at hx; subst hx; exact hg
theorem one_rd {b : Nat} {x : Int} {T : TypeId} (h : τ b = some (.cells #[.int .u8 x] T (0, 0))) : RdI .u8 τ (some ⟨b, 0, none⟩) 1 [x] :=
  RdI.of_rdc ⟨rfl, by omega, .inr ⟨b, 0, rfl, ld_of h rfl, trivial⟩⟩
theorem one_rdLL {b2 n c : Nat} {p : Option Addr} {x : List Int} {T : TypeId} (h : τ b2 = some (.cells #[.slice p n c] T (0, 0))) (hc : n ≤ c) (hr : RdI .u8 τ p n x) : RdLL τ (some ⟨b2, 0, none⟩) 1 [x] :=
  ⟨rfl, [.slice p n c], ⟨rfl, by omega, .inr ⟨b2, 0, rfl, ld_of h rfl, trivial⟩⟩, Ch.one rfl ⟨p, n, c, rfl, hc, hr⟩⟩
theorem by8_one {x : Int} (h : 0 ≤ x ∧ x < 256) : By8 [x] := fun y hy => by simp at hy; subst hy; exact h
theorem open_empty (h : DiskU σ d D τ) (ht : Tb τ) (hup : D.up = true) (harm : D.armed = false) (hd : dirOk dir = true) (hc : D.cnt < 1048576) (hf : ∀ s, D.files s = none)
    (hR : ∀ b σ' W ρ p n c fs' cnt', LogU σ' d b (dk fs' cnt') W ρ → Ext τ ρ → RdLL ρ p n [] → W.dir = dir → W.segs = [] → W.check = 0 → LogOk fs' cnt' W [] [] 0 → (∀ s, fs' s = none) → D.cnt ≤ cnt' → cnt' ≤ D.cnt → R (.returned (.tuple #[.pointer (some ⟨b, 0, none⟩), .slice p n c, .int .i64 0])) σ') : Spec prog wal_Open.fid #[.pointer (some ⟨d, 0, none⟩), .string dir] σ R := by
  refine open_spec (told := []) h ht hup harm hd (by omega) (OpenOk.none' fun s hs => by rw [hf s] at hs; cases hs) (by simp) fun b σ' W rc sg ρ p n c fs' cnt' a1 a2 a3 a4 a5 a6 a7 a8 a9 a10 a11 a12 => ?_
  have hfs : ∀ s, fs' s = none := fun s => by
    cases hh : fs' s with
    | none => rfl
    | some f => have := a8 s (by rw [hh]; rfl); rw [hf s] at this; cases this
  have hsg : sg = [] := by
    cases sg with
    | nil => rfl
    | cons x l =>
      obtain ⟨f, hx, _⟩ := a5.sh.file 0 x rfl
      rw [hfs] at hx; cases hx
  have hch : W.check = 0 := by
    rcases Nat.eq_zero_or_pos W.check with h0 | h0
    · exact h0
    · obtain ⟨f, hx, _⟩ := a5.sh.chk h0
      rw [hfs] at hx; cases hx
  subst hsg
  have hrc : rc = [] := a5.sh.chk0 hch
  subst hrc
  exact hR b σ' W ρ p n c fs' cnt' a1 a2 a3 a4 (by rw [a5.segs]; rfl) hch a5 hfs a10 (Nat.le_of_eq (a12 rfl).1)
end
end TwW
end
section
set_option linter.unusedVariables false
namespace TwW
open Go Tw Go.RowKit Go.Proofs.Tryz
theorem RdS.take {α : Type} {s : Nat} {E : Hp → List Value → α → Prop} {σ : Hp} {p : Option Addr} {n k : Nat} {xs : List α} (h : RdS s E σ p n xs) (hk : k ≤ n) : RdS s E σ p k (xs.take k) := by
  obtain ⟨h1, cs, h2, h3⟩ := h
  exact ⟨by rw [List.length_take]; omega, cs.take (k * s), RdC.take h2 hk, Ch.take h3 k⟩
theorem RdC.at1 {σ : Hp} {p : Option Addr} {n k : Nat} {L : List Value} {v : Value} (h : RdC 1 σ p n L) (hk : L[k]? = some v) : ∃ b o, p = some ⟨b, o, none⟩ ∧ σ.ld ⟨b, o + k * 1, none⟩ = some v := by
  obtain ⟨h1, _, h2⟩ := h
  have hlt := (List.getElem?_eq_some_iff.1 hk).1
  rcases h2 with h2 | ⟨b, o, hp, hl⟩
  · simp at h1; omega
  · refine ⟨b, o, hp, ?_⟩
    rw [Nat.mul_one]
    exact hl.get hk
abbrev RdBo (σ : Hp) (p : Option Addr) (n : Nat) (bs : List Bool) : Prop := RdC 1 σ p n (bs.map .bool)
theorem RdBo.at {σ : Hp} {p : Option Addr} {n k : Nat} {L : List Bool} {s : Bool} (h : RdBo σ p n L) (hk : L[k]? = some s) : ∃ b o, p = some ⟨b, o, none⟩ ∧ σ.ld ⟨b, o + k * 1, none⟩ = some (.bool s) := by
  obtain ⟨h1, _, h2⟩ := h
  have hlt := (List.getElem?_eq_some_iff.1 hk).1
  rcases h2 with h2 | ⟨b, o, hp, hl⟩
  · simp at h1; omega
  · refine ⟨b, o, hp, ?_⟩
    rw [Nat.mul_one]
    exact hl.get (by rw [List.getElem?_map, hk]; rfl)
section
variable {σ τ ρ : Hp} {d b : Nat} {D : Dk} {W : Wl} {R : Ending → Hp → Prop}
theorem DiskU.upS (h : DiskU σ d D τ) (hR : R (.returned (.bool D.up)) σ) : Spec prog disk_Disk_Up.fid #[.pointer (some ⟨d, 0, none⟩)] σ R := let ⟨S, g, _⟩ := h; up_spec g hR
theorem DiskU.onS (h : DiskU σ d D τ) (hR : ∀ σ', DiskU σ' d { D with up := true } τ → R (.returned (.tuple #[])) σ') : Spec prog disk_Disk_On.fid #[.pointer (some ⟨d, 0, none⟩)] σ R := let ⟨S, g, x⟩ := h; on_spec g fun σ' g' x' => hR σ' ⟨S, g', x.trans x'⟩
theorem DiskU.offS {x : Int} (h : DiskU σ d D τ) (h0 : D.up = false → R (.returned (.tuple #[])) σ) (h1 : D.up = true → ∀ σ' gs, Crash D.files gs → (x = 0 → Crash0 D.files gs) → DiskU σ' d ⟨gs, false, false, D.cnt⟩ τ → R (.returned (.tuple #[])) σ') :
    Spec prog disk_Disk_Off.fid #[.pointer (some ⟨d, 0, none⟩), .int .i64 x] σ R := let ⟨S, g, e⟩ := h; off_spec g h0 fun hu σ' S' gs hg hz g' x' => h1 hu σ' gs hg hz ⟨S', g', e.trans x'⟩
theorem LogU.armS {x y : Int} (h : LogU σ d b D W τ) (hR : ∀ σ' a, LogU σ' d b { D with armed := a } W τ → R (.returned (.tuple #[])) σ') : Spec prog disk_Disk_Arm.fid #[.pointer (some ⟨d, 0, none⟩), .int .i64 x, .int .i64 y] σ R :=
  let ⟨Sd, S, p, c, T, h1, h2, h3⟩ := h; arm_spec h1 fun σ' a hd hx => hR σ' a (LogU.step h2 h3 hd hx)
structure Cutt (D : Dk) (dir : ByteArray) (told : Recs) (safe : Nat) : Prop where
  arm : D.up = false → D.armed = false
  after : D.up = false → ∃ t, OpenOk D.files dir D.cnt t ∧ t <+: told ∧ safe ≤ t.length
  now : D.up = true → ∀ gs, Crash D.files gs → ∃ t, OpenOk gs dir D.cnt t ∧ t <+: told ∧ safe ≤ t.length
theorem DiskU.offOn {x : Int} {dir : ByteArray} {told : Recs} {safe : Nat} {K : Hp → Prop} (h : DiskU σ d D τ) (hc : Cutt D dir told safe)
    (hR : ∀ σ' D' t, DiskU σ' d D' τ → D'.up = true → D'.armed = false → D'.cnt = D.cnt → OpenOk D'.files dir D'.cnt t → t <+: told → safe ≤ t.length → K σ') :
    Spec prog disk_Disk_Off.fid #[.pointer (some ⟨d, 0, none⟩), .int .i64 x] σ (Cont R fun v σ1 => v = .tuple #[] ∧ Spec prog disk_Disk_On.fid #[.pointer (some ⟨d, 0, none⟩)] σ1 (Cont R fun v σ2 => v = .tuple #[] ∧ K σ2)) := by
  refine h.offS (fun hu => ⟨rfl, ?_⟩) fun hu σ1 gs hg _ h1 => ⟨rfl, ?_⟩
  · obtain ⟨t, a, b, c⟩ := hc.after hu
    exact h.onS fun σ2 h2 => ⟨rfl, hR σ2 _ t h2 rfl (hc.arm hu) rfl a b c⟩
  · obtain ⟨t, a, b, c⟩ := hc.now hu gs hg
    exact h1.onS fun σ2 h2 => ⟨rfl, hR σ2 _ t h2 rfl rfl rfl a b c⟩
theorem LogOk.cutt {rc : Recs} {sg : Sg} {safe : Nat} (h : LogOk D.files D.cnt W rc sg safe) (hu : D.up = true) : Cutt D W.dir (rc ++ toldS sg) safe :=
  ⟨fun hh => (by rw [hu] at hh; cases hh), fun hh => (by rw [hu] at hh; cases hh), fun _ gs hg => h.crash hg⟩
theorem Cutt.weak {dir : ByteArray} {told told' : Recs} {safe safe' : Nat} (h : Cutt D dir told safe) (ht : told <+: told') (hs : safe' ≤ safe) : Cutt D dir told' safe' :=
  ⟨h.arm, fun hu => let ⟨t, a, b, c⟩ := h.after hu; ⟨t, a, b.trans ht, by omega⟩, fun hu gs hg => let ⟨t, a, b, c⟩ := h.now hu gs hg; ⟨t, a, b.trans ht, by omega⟩⟩
theorem Cutt.down {dir : ByteArray} {told t : Recs} {safe : Nat} (hu : D.up = false) (ha : D.armed = false) (ho : OpenOk D.files dir D.cnt t) (ht : t <+: told) (hs : safe ≤ t.length) : Cutt D dir told safe :=
  ⟨fun _ => ha, fun _ => ⟨t, ho, ht, hs⟩, fun hh => (by rw [hu] at hh; cases hh)⟩
end
end TwW
end
section
set_option linter.unusedVariables false
namespace Tw
open Go Go.RowKit Go.ChangeShapes Go.WideShapes Go.Deep
def full (w : World) : Hp := fun b => w.heap[b]?
theorem full_sat (w : World) : Sat (full w) w := fun _ _ h => h
theorem full_ld {w : World} {a : Addr} {v : Value} (h : w.cell? a = some v) : (full w).ld a = some v := h
theorem below_of {w w' : World} {σ' : Hp} (hx : Ext (full w) σ') (hs : Sat σ' w') (ho : SameOs w w') (hout : w'.output = w.output) (hg : w.heap.size ≤ w'.heap.size) : Below w.heap.size w w' :=
  ⟨ho.1, ho.2.1, hout, hg, fun k hk => by
    have h1 : w.heap[k]? = some w.heap[k] := Array.getElem?_eq_getElem hk
    rw [h1]; exact hs _ _ (hx _ _ h1)⟩
def Lawful (P : Program) (f : FuncId) (args : Array Value) (w : World) : Prop := Spec P f args (full w) (fun e σ' => e = .returned (.bool true) ∧ Ext (full w) σ')
theorem Lawful.calls {P : Program} {f : FuncId} {args : Array Value} {w : World} (h : Lawful P f args w) : Calls P f args w fun e w' => e = .returned (.bool true) ∧ Below w.heap.size w w' :=
  (h w (fun _ => False) (full_sat w) (fun _ h => h.elim)).mono fun e w' ⟨σ', ⟨he, hx⟩, hf⟩ => ⟨he, below_of hx hf.sat hf.os hf.out hf.grow⟩
section
variable {H : Type} {enc : TypeId × Value → H} {P : Program}
theorem trodAll_below (hl : laidOutB P = true) {W W' : World} (hb : Below W.heap.size W W') : ∀ {ts : List TypeId} {vs : List Value} {ds : List (DataW H)} {ps : List MemPlace}, (ts.all fun t => P.readableRec t && Nat.blt t P.types.size) = true → (∀ x ∈ ps, x.block < W.heap.size) →
    DataW.TrodAll enc P W 0 (fun _ => true) true ts vs ds ps → DataW.TrodAll enc P W' 0 (fun b => decide (b < W.heap.size)) true ts vs ds ps
  | [], [], [], ps, _, _, h => h
  | t :: ts, v :: vs, d :: ds, ps, hr, hlt, ⟨p, q, h1, h2, e⟩ => by
    simp only [List.all_cons, Bool.and_eq_true] at hr
    subst e
    exact ⟨p, q, Below.trod hl hr.1.1 (Nat.le_of_ble_eq_true hr.1.2) h1 hb (fun x hx => hlt x (List.mem_append_left _ hx)), trodAll_below hl hb hr.2 (fun x hx => hlt x (List.mem_append_right _ hx)) h2, rfl⟩
  | [], _ :: _, _, _, _, _, h => h.elim
  | [], [], _ :: _, _, _, _, h => h.elim
  | _ :: _, [], _, _, _, _, h => h.elim
  | _ :: _, _ :: _, [], _, _, _, h => h.elim
theorem law_post {f : Func} {s : ChangeSpec} {W W' : World} {args : Array Value} {ds gs : List (DataW H)} {before : List MemPlace} {tb : TypeId} (hl : laidOutB P = true) (hr : (f.params.toList.all fun t => P.readableRec t && Nat.blt t P.types.size) = true)
    (hrt : f.resultTypes = #[tb]) (htb : P.underlying tb = some .bool) (hv : s.vars = []) (hfn : (s.fn H (ds ++ gs)).results = [.lit (.bool true)] ∧ (s.fn H (ds ++ gs)).args = ds ∧ (s.fn H (ds ++ gs)).vars = [])
    (hW : DataW.Whole enc P f.params.toList s.vars false W args.toList ds gs before) (hb : Below W.heap.size W W') : s.post enc P f false true false false W args (.bool true) W' := by
  have hlt : ∀ p ∈ before, p.block < W.heap.size := fun p hp => hW.lt p hp
  have hW' := hW
  obtain ⟨p, q, hA, hV, rfl, hfz, _⟩ := hW'
  refine ⟨ds, gs, p ++ q, [], p, [], hW, ?_, ?_, ?_, World.keptBut_mono (fun x hx => ⟨hx, ?_⟩) (hb.frame (· ∈ p ++ q)), fun h => by cases h⟩
  · rw [hfn.1, hrt]
    exact trodAll_mk1 (shut_bool htb true)
  · rw [hfn.2.1]
    exact trodAll_below hl hb hr (fun x hx => hlt x (List.mem_append_left _ hx)) hA
  · rw [hfn.2.2, hv]; rfl
  · rw [hv] at hV
    have : q = [] := by
      cases gs with
      | nil => exact hV
      | cons _ _ => exact hV.elim
    subst this
    exact .inr (.inl (by simpa using hx))
def Rdt (P : Program) {α : Type} (t : TypeId) (E : Hp → List Value → α → Prop) (I : α → Prop) : Prop :=
  ∀ {H : Type} {enc : TypeId × Value → H} {w : World} {base : Nat} {sp : Nat → Bool} {held : Bool} {fuel : Nat} {cs : List Value} {x : DataW H × List MemPlace},
    DataW.trod enc P w base sp held fuel t cs = some x → (∀ n ∈ x.1.weights P t, n ≤ reachBytes) → ∃ y, E (full w) cs y ∧ I y
theorem Rdt.int {t : TypeId} {k : IntKind} (ht : P.underlying t = some (.int k)) : Rdt P t (EInt k) (fun x => (Lit.int k x).wf = true) := fun h _ => by
  obtain ⟨n, rfl, rfl, hw⟩ := DataW.trod_int ht h
  exact ⟨n, rfl, hw⟩
theorem weights_mem {e : TypeId} : ∀ {l : List (DataW H)} {d : DataW H}, d ∈ l → ∀ n ∈ d.weights P e, n ∈ DataW.weightsAll P e l
  | x :: l, d, hd, n, hn => by
    simp only [DataW.weightsAll, List.mem_append]
    rcases List.mem_cons.1 hd with rfl | hd
    · exact .inl hn
    · exact .inr (weights_mem hd n hn)
theorem weights_each {n : Nat} : ∀ {ts : List TypeId} {l : List (DataW H)} {j : Nat} {t : TypeId} {d : DataW H}, ts[j]? = some t → l[j]? = some d → n ∈ d.weights P t → n ∈ DataW.weightsEach P ts l := fun ht hd hn => DataW.weights_mem_each ht hd n hn
theorem LdL.snoc {σ : Hp} {b : Nat} : ∀ {l m : List Value} {o : Nat}, LdL σ b o l → LdL σ b (o + l.length) m → LdL σ b o (l ++ m)
  | [], m, o, _, h => by simpa using h
  | v :: l, m, o, h, h' => ⟨h.1, LdL.snoc h.2 (by simpa [Nat.add_assoc, Nat.add_comm 1] using h')⟩
theorem RdS.mk' {α : Type} {s : Nat} {E : Hp → List Value → α → Prop} {I : α → Prop} {σ : Hp} {b o : Nat} : ∀ {n : Nat}, n ≤ 4611686018427387904 → (∀ i, i < n → ∃ vs x, vs.length = s ∧ LdL σ b (o + i * s) vs ∧ E σ vs x ∧ I x) →
    ∃ xs, RdS s E σ (some ⟨b, o, none⟩) n xs ∧ ∀ x ∈ xs, I x
  | 0, _, _ => ⟨[], RdS.nil, by simp⟩
  | n + 1, hn, h => by
    obtain ⟨xs, ⟨h1, cs, ⟨hl, _, h2⟩, h3⟩, hI⟩ := RdS.mk' (n := n) (by omega) (fun i hi => h i (by omega))
    obtain ⟨vs, x, hv, hld, hE, hx⟩ := h n (by omega)
    have hcs : LdL σ b o cs := by
      rcases h2 with rfl | ⟨b', o', hp, hl'⟩
      · have : cs = [] := List.eq_nil_of_length_eq_zero (by simpa using hl)
        subst this; trivial
      · cases hp; exact hl'
    refine ⟨xs ++ [x], ⟨by simp [h1], cs ++ vs, ⟨by rw [List.length_append, hl, hv, Nat.add_mul]; omega, hn, .inr ⟨b, o, rfl, hcs.snoc (by rw [hl]; exact hld)⟩⟩, h3.snoc hv hE⟩, fun y hy => ?_⟩
    rcases List.mem_append.1 hy with hy | hy
    · exact hI y hy
    · simp at hy; subst hy; exact hx
def ESl {α : Type} (s : Nat) (E : Hp → List Value → α → Prop) (σ : Hp) (vs : List Value) (xs : List α) : Prop := ∃ p n c, vs = [.slice p n c] ∧ RdS s E σ p n xs
theorem cell_spot {w : World} {a : Addr} {v : Value} (h : w.cell? a = some v) : a.spot = none := by
  unfold World.cell? at h
  split at h
  · split at h
    · cases h
    · rename_i hs; simpa using hs
  · cases h
theorem Rdt.slice {α : Type} {t e : TypeId} {s bs : Nat} {E : Hp → List Value → α → Prop} {I : α → Prop} (ht : P.underlying t = some (.slice e)) (hs : P.cellsOf e = s) (hbs : P.bytesOf e = bs) (hs0 : 0 < s) (hb0 : 0 < bs) (he : Rdt P e E I) :
    Rdt P t (ESl s E) (fun xs => (∀ x ∈ xs, I x) ∧ xs.length * bs ≤ reachBytes) := by
  intro H enc w base sp held fuel cs x h hw
  subst hs hbs
  rcases open_slice ht h with ⟨rfl, rfl⟩ | ⟨a, len, cap, m, n, D, Pl, rfl, hb, hl, hm, hmm, rfl, hi⟩
  · exact ⟨[], ⟨none, 0, 0, rfl, RdS.nil⟩, by simp, by simp⟩
  · have hlm : len ≤ m := by rw [hmm]; split <;> omega
    have hw1 : len * P.bytesOf e ≤ reachBytes := by
      have := hw _ (by simp only [DataW.weights, ht]; exact List.mem_cons_self ..)
      simp only [List.length_map, List.length_range] at this
      exact Nat.le_trans (Nat.mul_le_mul_right _ (by omega)) this
    have hlen : len ≤ reachBytes := Nat.le_trans (Nat.le_mul_of_pos_right _ hb0) hw1
    have hlen62 : len ≤ 4611686018427387904 := Nat.le_trans hlen (by decide)
    have hweight : ∀ i, i < len → ∀ k ∈ (D i).weights P e, k ≤ reachBytes := fun i hi' k hk => hw k (by
      simp only [DataW.weights, ht]
      exact List.mem_cons_of_mem _ (List.mem_append_left _ (weights_mem (List.mem_map.2 ⟨i, List.mem_range.2 hi', rfl⟩) k hk)))
    by_cases h0 : len = 0
    · subst h0
      exact ⟨[], ⟨some a, 0, cap, rfl, RdS.nil⟩, by simp, by simp⟩
    · have hspot : a.spot = none := by
        obtain ⟨cs', hc, _⟩ := hi 0 (by omega)
        obtain ⟨_, hcl, hat⟩ := World.cells?_some hc
        have h1 := hat 0 hs0
        rw [List.getElem?_eq_getElem (by omega)] at h1
        have := cell_spot h1
        simpa [Addr.add] using this
      obtain ⟨b, o, sp'⟩ := a
      simp only at hspot
      subst hspot
      obtain ⟨xs, hr, hI⟩ := RdS.mk' (s := P.cellsOf e) (E := E) (I := I) (σ := full w) (b := b) (o := o) hlen62 (fun i hi' => by
        obtain ⟨cs', hc, ht'⟩ := hi i (by omega)
        obtain ⟨_, hcl, hat⟩ := World.cells?_some hc
        obtain ⟨y, hE, hy⟩ := he ht' (hweight i hi')
        refine ⟨cs', y, hcl, LdL.of fun j v hj => ?_, hE, hy⟩
        have hj' : j < P.cellsOf e := by have := (List.getElem?_eq_some_iff.1 hj).1; omega
        have h1 := hat j hj'
        rw [hj, add_off, add_off] at h1
        exact full_ld h1)
      exact ⟨xs, ⟨some ⟨b, o, none⟩, len, cap, rfl, hr⟩, hI, by rw [hr.1]; exact hw1⟩
end
end Tw
end
section
set_option linter.unusedVariables false
namespace TwW
open Go Tw Go.RowKit Go.ChangeShapes Go.WideShapes Go.ChangeAt Go.Deep Go.Proofs.Tryz
namespace Rw
open Go.Proofs.YtchjlpgaanjafaaGreatDoor
theorem own : ownKnob prog.godebug = none := by kernel_rfl
theorem laidOut : laidOutB prog = true := by kernel_rfl
def cellsOf : DataW Unit → Array Value
  | .agg l => (l.map fun x => match x with | .lit (.int k z) => Value.int k z | _ => .nilFunc).toArray
  | _ => #[]
def strOf : DataW Unit → Value
  | .iface _ (.ptr (.agg [.lit (.string s)])) => .string ⟨s.toArray⟩
  | _ => .nilFunc
noncomputable def laidWorld (os : Os) : World :=
  let N := (World.settled prog os).heap.size
  let w0 := World.holding prog os ⟨#[.cells #[strOf Rows.laid_strconv_ErrSyntax] 186, .cells #[strOf Rows.laid_strconv_ErrRange] 186], #[], []⟩
  let put (h : Array Obj) (g : Nat) (cs : Array Value) : Array Obj := h.modify g fun
    | .cells _ t frozen => .cells cs t frozen
    | o => o
  let h0 := put (put w0.heap 0 #[.iface 184 (.pointer (some ⟨N, 0, none⟩))]) 1 #[.iface 184 (.pointer (some ⟨N + 1, 0, none⟩))]
  { w0 with heap := put (put (put h0 2 (cellsOf Rows.laid_internal_strconv_uint64pow10)) 4 (cellsOf Rows.laid_math_bits_deBruijn32tab)) 5 (cellsOf Rows.laid_math_bits_deBruijn64tab) }
abbrev Laid : List (String × DataW Unit) := [("math/bits.deBruijn32tab", Rows.laid_math_bits_deBruijn32tab), ("math/bits.deBruijn64tab", Rows.laid_math_bits_deBruijn64tab), ("internal/strconv.uint64pow10", Rows.laid_internal_strconv_uint64pow10), ("strconv.ErrRange", Rows.laid_strconv_ErrRange), ("strconv.ErrSyntax", Rows.laid_strconv_ErrSyntax)]
theorem laid_met (os : Os) (args : Array Value) : laidMet prog Laid ((laidWorld os).forCall (fun _ _ => 0) ⟨#[], args, []⟩).memory :=
  laidMet_of_run' 8 (by kernel_rfl) (by kernel_rfl)
theorem tab_heap {W : World} {cs : Array Value} (h : W.var? prog "internal/strconv.uint64pow10" = some cs) : ∃ T fr, W.heap[2]? = some (.cells cs T fr) := by
  unfold World.var? at h
  rw [show prog.globalNamed "internal/strconv.uint64pow10" = some 2 by kernel_rfl] at h
  simp only [Option.bind_some] at h
  split at h
  · rename_i c T fr hc
    cases h
    exact ⟨T, fr, hc⟩
  · cases h
theorem tb_of {W : World} (h : laidMetH prog Laid W) : Tb (full W) := by
  have h1 : laidMet prog Laid W := h
  have h2 : laidMet prog (("internal/strconv.uint64pow10", Lib.tabData .u64 Lib.pow10Tab) :: [("strconv.ErrRange", Rows.laid_strconv_ErrRange), ("strconv.ErrSyntax", Rows.laid_strconv_ErrSyntax)]) W := laidMet.tail (laidMet.tail h1)
  have h3 := Lib.tabIs_of_head (g := 2) (t := 180) (e := 56) (n := 20) (by kernel_rfl) (by kernel_rfl) underlying180 underlying56 (by kernel_rfl) (by kernel_rfl) h2
  obtain ⟨T, fr, h4⟩ := tab_heap h3
  exact ⟨2, T, fr, by kernel_rfl, h4⟩
theorem bulk_pos {H : Type} (d : DataW H) : 1 ≤ Rows.uptoBulk d := by
  cases d with
  | lit l => cases l <;> simp [Rows.uptoBulk]
  | _ => simp [Rows.uptoBulk]
theorem bulk_part {H : Type} {d : DataW H} : ∀ {l : List (DataW H)}, d ∈ l → Rows.uptoBulk d ≤ Rows.uptoBulkAll l
  | x :: l, h => by
    simp only [Rows.uptoBulkAll]
    rcases List.mem_cons.1 h with rfl | h
    · omega
    · have := bulk_part h; omega
theorem bulk_append {H : Type} (l r : List (DataW H)) : Rows.uptoBulkAll (l ++ r) = Rows.uptoBulkAll l + Rows.uptoBulkAll r := by
  induction l with
  | nil => simp [Rows.uptoBulkAll]
  | cons x l ih => simp only [List.cons_append, Rows.uptoBulkAll, ih]; omega
theorem bulk_len {H : Type} (l : List (DataW H)) : l.length ≤ Rows.uptoBulkAll l := by
  induction l with
  | nil => simp
  | cons x l ih => have := bulk_pos x; simp only [Rows.uptoBulkAll, List.length_cons]; omega
def RdtB {α : Type} (t : TypeId) (E : Hp → List Value → α → Prop) (I : α → Prop) (sz : α → Nat) : Prop :=
  ∀ {H : Type} {enc : TypeId × Value → H} {w : World} {base : Nat} {sp : Nat → Bool} {held : Bool} {fuel : Nat} {cs : List Value} {x : DataW H × List MemPlace},
    DataW.trod enc prog w base sp held fuel t cs = some x → Rows.uptoBulk x.1 ≤ 1048576 → ∃ y, E (full w) cs y ∧ I y ∧ sz y ≤ Rows.uptoBulk x.1
theorem RdtB.int {t : TypeId} {k : IntKind} (ht : prog.underlying t = some (.int k)) : RdtB t (EInt k) (fun x => (Lit.int k x).wf = true) (fun _ => 1) := fun h _ => by
  obtain ⟨n, rfl, rfl, hw⟩ := DataW.trod_int ht h
  exact ⟨n, rfl, hw, by simp [Rows.uptoBulk]⟩
def EBo (_ : Hp) (vs : List Value) (b : Bool) : Prop := vs = [.bool b]
theorem RdtB.bool {t : TypeId} (ht : prog.underlying t = some .bool) : RdtB t EBo (fun _ => True) (fun _ => 1) := fun h _ => by
  obtain ⟨n, rfl, rfl⟩ := DataW.trod_bool ht h
  exact ⟨n, rfl, trivial, by simp [Rows.uptoBulk]⟩
theorem mkB {α : Type} {s : Nat} {E : Hp → List Value → α → Prop} {I : α → Prop} {sz : α → Nat} {σ : Hp} {b o : Nat} {H : Type} {D : Nat → DataW H} : ∀ {n : Nat}, n ≤ 4611686018427387904 → (∀ i, i < n → ∃ vs x, vs.length = s ∧ LdL σ b (o + i * s) vs ∧ E σ vs x ∧ I x ∧ sz x ≤ Rows.uptoBulk (D i)) →
    ∃ xs, RdS s E σ (some ⟨b, o, none⟩) n xs ∧ (∀ x ∈ xs, I x) ∧ (xs.map sz).sum ≤ Rows.uptoBulkAll ((List.range n).map D)
  | 0, _, _ => ⟨[], RdS.nil, by simp, by simp⟩
  | n + 1, hn, h => by
    obtain ⟨xs, ⟨h1, cs, ⟨hl, _, h2⟩, h3⟩, hI, hs⟩ := mkB (n := n) (D := D) (by omega) (fun i hi => h i (by omega))
    obtain ⟨vs, x, hv, hld, hE, hx, hz⟩ := h n (by omega)
    have hcs : LdL σ b o cs := by
      rcases h2 with rfl | ⟨b', o', hp, hl'⟩
      · have : cs = [] := List.eq_nil_of_length_eq_zero (by simpa using hl)
        subst this; trivial
      · cases hp; exact hl'
    refine ⟨xs ++ [x], ⟨by simp [h1], cs ++ vs, ⟨by rw [List.length_append, hl, hv, Nat.add_mul]; omega, hn, .inr ⟨b, o, rfl, hcs.snoc (by rw [hl]; exact hld)⟩⟩, h3.snoc hv hE⟩, fun y hy => ?_, ?_⟩
    · rcases List.mem_append.1 hy with hy | hy
      · exact hI y hy
      · simp at hy; subst hy; exact hx
    · rw [List.range_succ, List.map_append, List.map_append, bulk_append, List.sum_append]
      simp only [List.map_cons, List.map_nil, List.sum_cons, List.sum_nil, Rows.uptoBulkAll]
      omega
def ESc {α : Type} (s : Nat) (E : Hp → List Value → α → Prop) (σ : Hp) (vs : List Value) (xs : List α) : Prop := ∃ p n c, vs = [.slice p n c] ∧ n ≤ c ∧ RdS s E σ p n xs
theorem RdtB.slice {α : Type} {t e : TypeId} {s : Nat} {E : Hp → List Value → α → Prop} {I : α → Prop} {sz : α → Nat} (ht : prog.underlying t = some (.slice e)) (hs : prog.cellsOf e = s) (hs0 : 0 < s) (he : RdtB e E I sz) :
    RdtB t (ESc s E) (fun xs => ∀ x ∈ xs, I x) (fun xs => (xs.map sz).sum + 1) := by
  intro H enc w base sp held fuel cs x h hw
  subst hs
  rcases open_slice ht h with ⟨rfl, rfl⟩ | ⟨a, len, cap, m, n, D, Pl, rfl, hb, hl, hm, hmm, rfl, hi⟩
  · exact ⟨[], ⟨none, 0, 0, rfl, Nat.le_refl _, RdS.nil⟩, by simp, by simp [Rows.uptoBulk]⟩
  · have hlm : len ≤ m := by rw [hmm]; split <;> omega
    have hbk : Rows.uptoBulkAll ((List.range len).map D) + 1 ≤ Rows.uptoBulk (DataW.slice ((List.range len).map D) ((List.range (m - len)).map fun j => D (len + j))) := by
      simp only [Rows.uptoBulk]; omega
    have hlen := bulk_len ((List.range len).map D)
    rw [List.length_map, List.length_range] at hlen
    have hwD : ∀ i, i < len → Rows.uptoBulk (D i) ≤ 1048576 := fun i hi' => by
      have := bulk_part (List.mem_map.2 ⟨i, List.mem_range.2 hi', rfl⟩ : D i ∈ (List.range len).map D)
      simp only at hw
      omega
    by_cases h0 : len = 0
    · subst h0
      exact ⟨[], ⟨some a, 0, cap, rfl, Nat.zero_le _, RdS.nil⟩, by simp, by simp only [Rows.uptoBulk, List.map_nil, List.sum_nil]; omega⟩
    · have hspot : a.spot = none := by
        obtain ⟨cs', hc, _⟩ := hi 0 (by omega)
        obtain ⟨_, hcl, hat⟩ := World.cells?_some hc
        have h1 := hat 0 hs0
        rw [List.getElem?_eq_getElem (by omega)] at h1
        have := cell_spot h1
        simpa [Addr.add] using this
      obtain ⟨b, o, sp'⟩ := a
      simp only at hspot
      subst hspot
      obtain ⟨xs, hr, hI, hz⟩ := mkB (s := prog.cellsOf e) (E := E) (I := I) (sz := sz) (σ := full w) (b := b) (o := o) (D := D) (n := len) (by simp only at hw; omega) (fun i hi' => by
        obtain ⟨cs', hc, ht'⟩ := hi i (by omega)
        obtain ⟨_, hcl, hat⟩ := World.cells?_some hc
        obtain ⟨y, hE, hy, hyz⟩ := he ht' (hwD i hi')
        refine ⟨cs', y, hcl, LdL.of fun j v hj => ?_, hE, hy, hyz⟩
        have hj' : j < prog.cellsOf e := by have := (List.getElem?_eq_some_iff.1 hj).1; omega
        have h1 := hat j hj'
        rw [hj, add_off, add_off] at h1
        exact full_ld h1)
      exact ⟨xs, ⟨some ⟨b, o, none⟩, len, cap, rfl, hl, hr⟩, hI, by simp only at hz hbk ⊢; omega⟩
theorem wf8 {x : Int} (h : (Lit.int .u8 x).wf = true) : 0 ≤ x ∧ x < 256 := by
  simp [Lit.wf, IntKind.min, IntKind.max, IntKind.signed, IntKind.bits] at h
  omega
theorem rd_by : RdtB 23 EBy By8 (fun xs => xs.length + 1) := by
  have h : RdtB 23 (ESc 1 (EInt .u8)) (fun xs => ∀ x ∈ xs, (Lit.int .u8 x).wf = true) (fun xs => (xs.map fun _ => 1).sum + 1) := RdtB.slice (s := 1) (sz := fun _ => 1) underlying23 (by kernel_rfl) (by decide) (RdtB.int underlying5)
  intro H enc w base sp held fuel cs x ht hw
  obtain ⟨y, ⟨p, n, c, e, hc, hr⟩, hI, hz⟩ := h ht hw
  refine ⟨y, ⟨p, n, c, e, hc, hr⟩, fun a ha => wf8 (hI a ha), ?_⟩
  have : ∀ l : List Int, (l.map fun _ => 1).sum = l.length := fun l => by induction l with
    | nil => rfl
    | cons a l ih => simp; omega
  have hz' : (y.map fun _ => 1).sum + 1 ≤ Rows.uptoBulk x.1 := hz
  rw [this] at hz'
  exact hz'
theorem rd_LL : RdtB 22 (ESc 1 EBy) (fun xs => ∀ x ∈ xs, By8 x) (fun xs => (xs.map fun x => x.length + 1).sum + 1) :=
  RdtB.slice (s := 1) underlying22 (by kernel_rfl) (by decide) rd_by
theorem rd_bo : RdtB 46 (ESc 1 EBo) (fun xs => ∀ x ∈ xs, True) (fun xs => (xs.map fun _ => 1).sum + 1) :=
  RdtB.slice (s := 1) underlying46 (by kernel_rfl) (by decide) (RdtB.bool underlying4)
theorem ch_bo {σ : Hp} : ∀ {cs : List Value} {xs : List Bool}, Ch 1 EBo σ cs xs → cs = xs.map .bool := by
  rintro cs xs ⟨h1, h2⟩
  refine List.ext_getElem? fun i => ?_
  rw [List.getElem?_map]
  cases hx : xs[i]? with
  | none =>
    have := List.getElem?_eq_none_iff.1 hx
    simp only [Option.map_none]
    exact List.getElem?_eq_none_iff.2 (by omega)
  | some x =>
    have := h2 i x hx
    simp only [EBo] at this
    have h3 := congrArg (·[0]?) this
    simp at h3
    simpa using h3
section
variable {H : Type} {enc : TypeId × Value → H} {W : World} {base : Nat} {v : Value} {d : DataW H} {ps : List MemPlace} {r : Reach}
set_option maxRecDepth 100000 in
theorem open_LL (hv : Value.okWide prog W r base 22 v) (h : DataW.Trod enc prog W 0 (fun _ => true) true 22 v d ps) (hw : Rows.uptoBulk d ≤ 1048576) :
    ∃ p n c xs, v = .slice p n c ∧ RdLL (full W) p n xs ∧ (∀ x ∈ xs, By8 x) ∧ (xs.map fun x => x.length + 1).sum + 1 ≤ Rows.uptoBulk d := by
  obtain ⟨a, l, c, rfl⟩ := okWide_slice underlying22 hv
  obtain ⟨fuel, hf⟩ := h
  obtain ⟨xs, ⟨p, n, c', e, _, hr⟩, hI, hz⟩ := rd_LL hf hw
  have e' : [Value.slice a l c] = [.slice p n c'] := by simpa [Value.cells] using e
  cases e'
  exact ⟨a, l, c, xs, rfl, hr, hI, hz⟩
set_option maxRecDepth 100000 in
theorem open_by (hv : Value.okWide prog W r base 23 v) (h : DataW.Trod enc prog W 0 (fun _ => true) true 23 v d ps) (hw : Rows.uptoBulk d ≤ 1048576) :
    ∃ p n c xs, v = .slice p n c ∧ n ≤ c ∧ RdI .u8 (full W) p n xs ∧ By8 xs ∧ xs.length + 1 ≤ Rows.uptoBulk d := by
  obtain ⟨a, l, c, rfl⟩ := okWide_slice underlying23 hv
  obtain ⟨fuel, hf⟩ := h
  obtain ⟨xs, ⟨p, n, c', e, hc, hr⟩, hI, hz⟩ := rd_by hf hw
  have e' : [Value.slice a l c] = [.slice p n c'] := by simpa [Value.cells] using e
  cases e'
  exact ⟨a, l, c, xs, rfl, hc, hr, hI, hz⟩
set_option maxRecDepth 100000 in
theorem open_bo (hv : Value.okWide prog W r base 46 v) (h : DataW.Trod enc prog W 0 (fun _ => true) true 46 v d ps) (hw : Rows.uptoBulk d ≤ 1048576) :
    ∃ p n c bs, v = .slice p n c ∧ RdBo (full W) p n bs := by
  obtain ⟨a, l, c, rfl⟩ := okWide_slice underlying46 hv
  obtain ⟨fuel, hf⟩ := h
  obtain ⟨xs, ⟨p, n, c', e, _, hr⟩, hI, hz⟩ := rd_bo hf hw
  have e' : [Value.slice a l c] = [.slice p n c'] := by simpa [Value.cells] using e
  cases e'
  obtain ⟨_, cs, h1, h2⟩ := hr
  rw [ch_bo h2] at h1
  exact ⟨a, l, c, xs, rfl, h1⟩
theorem rd_is : RdtB 64 (ESc 1 (EInt .i64)) (fun xs => ∀ x ∈ xs, (Lit.int .i64 x).wf = true) (fun xs => (xs.map fun _ => 1).sum + 1) :=
  RdtB.slice (s := 1) (sz := fun _ => 1) underlying64 (by kernel_rfl) (by decide) (RdtB.int underlying3)
theorem sum_one : ∀ l : List Int, (l.map fun _ => 1).sum = l.length := fun l => by induction l with
  | nil => rfl
  | cons a l ih => simp; omega
set_option maxRecDepth 100000 in
theorem open_is (hv : Value.okWide prog W r base 64 v) (h : DataW.Trod enc prog W 0 (fun _ => true) true 64 v d ps) (hw : Rows.uptoBulk d ≤ 1048576) :
    ∃ p n c xs, v = .slice p n c ∧ RdI .i64 (full W) p n xs ∧ xs.length + 1 ≤ Rows.uptoBulk d := by
  obtain ⟨a, l, c, rfl⟩ := okWide_slice underlying64 hv
  obtain ⟨fuel, hf⟩ := h
  obtain ⟨xs, ⟨p, n, c', e, _, hr⟩, hI, hz⟩ := rd_is hf hw
  have e' : [Value.slice a l c] = [.slice p n c'] := by simpa [Value.cells] using e
  cases e'
  have hz' : (xs.map fun _ => 1).sum + 1 ≤ Rows.uptoBulk d := hz
  rw [sum_one] at hz'
  exact ⟨a, l, c, xs, rfl, hr, hz'⟩
end
theorem law_of {f : FuncId} {fn : Func} {s : ChangeSpec} {H : Type} {enc : TypeId × Value → H} {W : World} {args : Array Value} {ds gs : List (DataW H)} {before : List MemPlace} (hr : (fn.params.toList.all fun t => prog.readableRec t && Nat.blt t prog.types.size) = true)
    (hrt : fn.resultTypes = #[4]) (hv : s.vars = []) (hfn : (s.fn H (ds ++ gs)).results = [.lit (.bool true)] ∧ (s.fn H (ds ++ gs)).args = ds ∧ (s.fn H (ds ++ gs)).vars = [])
    (hW : DataW.Whole enc prog fn.params.toList s.vars false W args.toList ds gs before) (h : Lawful prog f args W) :
    Calls prog f args W fun e W' => ∃ v, e = .returned v ∧ s.post enc prog fn false true false false W args v W' :=
  h.calls.mono fun e W' ⟨he, hb⟩ => ⟨_, he, law_post laidOut hr hrt underlying4 hv hfn hW hb⟩
theorem sum_len {α : Type} (l : List (List α)) : l.length ≤ (l.map fun x => x.length + 1).sum := by
  induction l with
  | nil => simp
  | cons a l ih => simp; omega
end Rw
end TwW
end
section
set_option linter.unusedVariables false
namespace Tw
open Go
def strV (s : ByteArray) : List Value := s.data.toList.map fun b => .int .u8 b.toNat
theorem strV_len {s : ByteArray} : (strV s).length = s.size := by simp [strV]
theorem strV_one {s : ByteArray} : OneC (strV s) := fun u hu => by obtain ⟨x, _, rfl⟩ := List.mem_map.1 hu; rfl
section append
variable {P : Program} {T E ty : TypeId} {bs : Nat} {σ : Hp} {p : Option Addr} {n c m : Nat} {cs ys : List Value} {Φ : Value → Hp → Prop}
theorem run_firstS {str : ByteArray} (w : World) (size : Nat) : (Builtin.firstCells size str.size (.string str)).run P w = .ok (strV str).toArray w := by
  have hx : (Array.map (fun b : UInt8 => Value.int IntKind.u8 (b.toNat : Int)) str.data).extract 0 str.size = (strV str).toArray := by
    have hs : str.size = (Array.map (fun b : UInt8 => Value.int IntKind.u8 (b.toNat : Int)) str.data).size := by rw [Array.size_map]; rfl
    rw [hs, Array.extract_size]
    apply Array.ext'
    simp [strV]
  have hx2 : Array.map (fun b : UInt8 => Value.int IntKind.u8 (b.toNat : Int)) str.data = (strV str).toArray := by apply Array.ext'; simp [strV]
  simp [Builtin.firstCells, hx2]
theorem app_str [h : SlT P T E 1 bs] {U : TypeId} {str : ByteArray} (hU : P.underlying U = some .string) (hown : Own 1 σ p n c cs) (hm : str.size = m) (hys : strV str = ys) (hb : (n + m) * bs ≤ 140737488355328)
    (hΦ : ∀ p' c' σ', Own 1 σ' p' (n + m) c' (cs ++ ys) → Ext (σ.del p) (σ'.del p') → ((p' = p ∧ c' = c ∧ n + m ≤ c) ∨ (c < n + m ∧ Ext σ σ' ∧ ∀ a, p' = some a → σ a.block = none)) → Φ (.slice p' (n + m) c') σ') :
    Eff P (Builtin.append_ #[T, U] ty #[.slice p n c, .string str]) σ Φ := by
  obtain ⟨ht, ⟨i, z, hi, hz, hs1, rfl, hzs⟩, hpos, hbpos⟩ := h
  have h1 : OneC ys := hys ▸ strV_one
  have hyl : ys.length = m * 1 := by rw [← hys, ← hm, Nat.mul_one]; exact strV_len
  have h62 : n + m ≤ 140737488355328 := Nat.le_trans (Nat.le_mul_of_pos_right _ hbpos) hb
  intro w F hs hF
  have hf := run_firstS (P := P) (str := str) w 1
  rw [hys, hm] at hf
  have hf' := fun w' : World => run_firstS (P := P) (str := str) w' 1
  rw [hys, hm] at hf'
  have ho' := fun w' (hw : Sat σ w') => run_first (P := P) (d := c) w' hw hown.rd
  have hlen : (cs ++ ys).length = (n + m) * 1 := by rw [List.length_append, hown.1, hyl, Nat.add_mul]
  by_cases hroom : n + m ≤ c
  · -- there is room
    rcases hown.2.2 with ⟨hp, hn, hc⟩ | ⟨b, o, arr, T', rfl, hblk, hnc, hsz, hcs⟩
    · subst hp hn hc
      have hm : m = 0 := by omega
      subst hm
      have hys : ys = [] := List.eq_nil_of_length_eq_zero (by simpa using hyl)
      have hcs : cs = [] := List.eq_nil_of_length_eq_zero (by simpa using hown.1)
      subst hys hcs
      refine ⟨.slice none 0 0, w, σ, ?_, hΦ none 0 σ Own.nil (Ext.refl _) (.inl ⟨rfl, rfl, hroom⟩), hs, fun b hb => ⟨(hF b hb).2, rfl⟩, .same rfl rfl rfl, rfl, Nat.le_refl _⟩
      simp [Builtin.append_, run_underlying ht, run_underlying hU, hs1, hm, Go.sizeOf, typeInfo, hi, Builtin.lenOf, hf]
    · have hw := hs _ _ hblk
      have hfit : o + n * 1 + 0 + ys.length ≤ arr.size := by
        rw [hyl]
        have : (n + m) * 1 ≤ c * 1 := Nat.mul_le_mul_right _ hroom
        rw [Nat.add_mul] at this
        omega
      have hst := run_storeCells (P := P) b (o + n * 1) T' ys 0 arr w hw hfit h1
      simp only [Nat.add_zero, Nat.mul_one] at hst
      refine ⟨.slice (some ⟨b, o, none⟩) (n + m) c, w.setRow b (wrt arr (o + n) ys), σ.set b (.cells (wrt arr (o + n) ys) T' (0, 0)), ?_, hΦ _ _ _ ⟨hlen, by omega, .inr ⟨b, o, _, T', rfl, Hp.set_same _ _ _, hroom, by rw [wrt_size]; exact hsz, ?_⟩⟩ (by rw [Hp.del_set_same]; exact Ext.refl _) (.inl ⟨rfl, rfl, hroom⟩), ?_⟩
      · simp [Builtin.append_, run_underlying ht, run_underlying hU, hs1, hm, Go.sizeOf, typeInfo, hi, Builtin.lenOf, hroom, hf, add_off, hst]
      · refine List.ext_getElem? fun j => ?_
        rw [List.getElem?_take]
        simp only [List.getElem?_drop, Array.getElem?_toList]
        rw [wrt_get _ _ _ _ (by omega), List.getElem?_append]
        have e1 : cs.length = n * 1 := hown.1
        have e2 : ys.length = m * 1 := hyl
        have e3 : (n + m) * 1 = n * 1 + m * 1 := Nat.add_mul ..
        by_cases hj1 : j < cs.length
        · rw [if_pos (by omega), if_neg (by omega), if_pos hj1, ← hcs, List.getElem?_take, if_pos (by omega)]
          simp
        · rw [if_neg hj1]
          by_cases hj2 : j < (n + m) * 1
          · rw [if_pos hj2, if_pos (by omega), show o + j - (o + n) = j - cs.length by omega]
          · rw [if_neg hj2, List.getElem?_eq_none (by omega)]
      · refine ⟨fun k u hk => ?_, fun k hk => ?_, .same rfl rfl rfl, rfl, by simp⟩
        · by_cases hkb : k = b
          · subst hkb; rw [Hp.set_same] at hk; cases hk; exact setRow_heap w k arr _ T' (0, 0) hw
          · rw [Hp.set_ne hkb] at hk; rw [setRow_other _ _ _ _ hkb]; exact hs k u hk
        · have hkb : k ≠ b := fun h => by have := (hF k hk).2; rw [h, hblk] at this; cases this
          exact ⟨by rw [Hp.set_ne hkb]; exact (hF k hk).2, setRow_other _ _ _ _ hkb⟩
  · -- it grows
    have hfits : Builtin.nextslicecap (n + m) c * i.bytes ≤ 281474976710656 := growslice_fits (by omega) hb
    have hgc := grownCap_ge w (n + m) c E
    have hs' : Sat σ w.drew := hs
    have hrun : (Builtin.append_ #[T, U] ty #[.slice p n c, .string str]).run P w =
        .ok (.slice (some ⟨w.heap.size, 0, none⟩) (n + m) (grownCap w (n + m) c E))
          (w.drew.alloc (.cells (cs.toArray ++ ys.toArray ++ Builtin.zeroCells z.cells (grownCap w (n + m) c E - (n + m))) E)) := by
      have h63' : ¬ (9223372036854775807 < ((n : Int) + (m : Int))) := by omega
      have h48' : ¬ (281474976710656 < Builtin.nextslicecap (n + m) c * i.bytes) := by omega
      simp [Builtin.append_, run_underlying ht, run_underlying hU, hs1, hm, Go.sizeOf, typeInfo, zeroValue, hi, hz, Builtin.lenOf, hroom, h63', h48', Question.forced, hf', ho' _ hs', newRow, grownCap]
      congr 2
      apply Array.ext'
      simp [List.append_assoc]
    refine ⟨_, _, σ.set w.heap.size _, hrun, hΦ _ _ _ ⟨hlen, by omega, .inr ⟨w.heap.size, 0, _, E, rfl, Hp.set_same _ _ _, hgc, ?_, ?_⟩⟩ ?_ (.inr ⟨by omega, Ext.set (hp_fresh hs), fun a ha => by cases ha; exact hp_fresh hs⟩), Fin.alloc hs hF _ rfl ⟨rfl, rfl, 1, rfl⟩ rfl⟩
    · simp only [Array.size_append, List.size_toArray, size_zeroCells, hzs, hown.1, hyl, ← Nat.add_mul]
      have : n + m + (grownCap w (n + m) c E - (n + m)) = grownCap w (n + m) c E := by omega
      rw [this]; omega
    · simp only [Array.toList_append, List.drop_zero]
      rw [← hlen]
      exact List.take_left
    · rw [Hp.del_set_self (hp_fresh hs)]
      exact Ext.of_del σ p
end append
end Tw
end
section
/- written by gen.py: program points and what leads to them -/
set_option linter.unusedVariables false
set_option maxRecDepth 100000
namespace TwW
open Go Tw Go.Proofs.Tryz
noncomputable section
namespace kv_Open
abbrev fid : Nat := 30
noncomputable def K0 := f30.body.getD .skip
def K1 := cl K0
def K2 := cr K0
def K3 := cl K2
def K4 := cr K2
def K5 := cl K4
def K6 := cl K5
def K7 := cr K5
def K8 := cl K7
def K9 := cl K8
def K10 := cr K8
def K11 := cr K7
def K12 := cr K4
def K13 := cl K12
def K14 := cr K12
def K15 := cl K14
def K16 := cl K15
def K17 := cr K15
def K18 := cl K17
def K19 := cl K18
def K20 := cl K19
def K21 := cr K19
def K22 := cl K21
def K23 := cl K22
def K24 := cr K22
def K25 := cr K21
def K26 := cl K25
def K27 := cl K26
def K28 := cl K27
def K29 := cr K27
def K30 := cl K29
def K31 := cr K29
def K32 := cl K31
def K33 := cl K32
def K34 := cr K32
def K35 := cr K31
def K36 := cr K25
def K37 := cr K14
def K38 := cl K37
def K39 := cr K37
abbrev gl (R : Ending → Hp → Prop) : Gl := Gl.fn prog 30 36 R
def pt20 (R : Ending → Hp → Prop) (q7 p24 : Option Addr) (n24 c24 : Nat) (x25 x26 : Int) (σ : Hp) : Prop := ∀ (J : Env), At (gl R) [.code K20, .code K21, .inLoop K19, .inBlock 0, .code K37] (upds J [(7, (.pointer q7)), (24, (.slice p24 n24 c24)), (25, (.int .i64 x25)), (26, (.int .i64 x26))]) [] σ
theorem start {R : Ending → Hp → Prop} {q0 : Option Addr} {σ : Hp} (h : Spec prog 12 #[(.pointer q0), (.string (ByteArray.mk #[107, 118]))] σ (Cont R (fun v σ1 => ∃ q12a : Option Addr, ∃ p12b : Option Addr, ∃ n12b : Nat, ∃ c12b : Nat, ∃ x12c : Int, v = (.tuple #[(.pointer q12a), (.slice p12b n12b c12b), (.int .i64 x12c)]) ∧ ((x12c : Int) ≠ 0 → R (.returned (.tuple #[(.pointer none), (.int .i64 x12c)])) σ1) ∧ (¬ ((x12c : Int) ≠ 0) → Eff prog (Instr.makeMap 89 none) σ1 (fun v_2 σ1_2 => ∃ m21 : Nat, v_2 = (.map (some m21)) ∧ ∀ b23 : Nat, σ1_2 b23 = none → pt20 R ((some ⟨b23, 0, none⟩)) p12b n12b c12b ((n12b : Int)) 0 (Hp.set σ1_2 b23 (.cells #[(.pointer q12a), (.pointer q0), (.map (some m21))] 91 (0, 0)))))))) : Spec prog 30 #[(.pointer q0)] σ R := by
 refine Spec.of_at (fn := f30) (c := K0) func30 (by kernel_rfl) (Nat.le_of_ble_eq_true (by kernel_rfl)) (fun e he => ?_)
 refine At.ofL (l := [(0, (.pointer q0))]) ⟨he 0, trivial⟩ (fun J => ?_)
 show At (gl R) _ _ _ _
 refine At.s K1 K2 ?_
 refine At.rg 0 [0, 1] ?_
 refine Seq.us [(2, .pointer none), (3, .int .i64 0)] ?_
 refine Seq.done ?_
 refine At.s K3 K4 ?_
 refine At.rg 1 [0, 1, 2, 3, 4, 5, 6, 7, 8] ?_
 refine Seq.u 11 (.pointer q0) ?_
 refine Seq.o ?_
 refine OpTo.cl (some 12) call12 (h.cont fun v σ1 h2 => ?_); replace h := h2; clear h2
 obtain ⟨q12a, p12b, n12b, c12b, x12c, rfl, h⟩ := h
 refine Seq.us [(10, .tuple #[(.pointer q12a), (.slice p12b n12b c12b), (.int .i64 x12c)]), (13, .pointer q12a), (14, .slice p12b n12b c12b), (15, .int .i64 x12c), (4, .pointer q12a), (5, .slice p12b n12b c12b), (6, .int .i64 x12c)] ?_
 refine Seq.done ?_
 refine At.s K5 K12 ?_
 refine At.s K6 K7 ?_
 refine At.rg 2 [0, 1] ?_
 refine Seq.us [(16, .int .i64 x12c), (17, .bool (decide ((x12c : Int) ≠ 0)))] ?_
 refine Seq.done ?_
 cases hb : (decide ((x12c : Int) ≠ 0)) with
 | true =>
  replace h := h.1 (of_decide_eq_true hb)
  refine At.cT 17 K8 K11 ?_
  refine At.s K9 K10 ?_
  refine At.rg 3 [0, 1, 2] ?_
  refine Seq.us [(18, .int .i64 x12c), (2, .pointer none), (3, .int .i64 x12c)] ?_
  refine Seq.done ?_
  exact At.rt [.tmp 2, .tmp 3] [(.pointer none), (.int .i64 x12c)] func30 ⟨_, rfl, ⟨_, rfl, rfl⟩⟩ h
 | false =>
  replace h := h.2 (of_decide_eq_false hb)
  refine At.cF 17 K8 K11 ?_
  refine At.skip ?_
  refine At.s K13 K14 ?_
  refine At.rg 4 [0, 1, 2, 3, 4, 5] ?_
  refine Seq.us [(19, .pointer q12a), (20, .pointer q0)] ?_
  refine Seq.o ?_
  refine OpTo.eff (d := (some 21)) (op := (.makeMap 89 none)) (ty := 89) (gd := none) (by kernel_rfl) rfl rfl (Instr.makeMap 89 none) (fun o ho ht => by simp only [execOp, ho]; rfl) (h.mono (fun v_2 σ1_2 h2 => ?_)); replace h := h2; clear h2
  obtain ⟨m21, rfl, h⟩ := h
  refine Seq.z 22 (.build 91 #[(0, (.tmp 19)), (1, (.tmp 20)), (2, (.tmp 21))]) 91 (.agg #[(.pointer q12a), (.pointer q0), (.map (some m21))]) (Y.build (vs := [(0, (.pointer q12a)), (1, (.pointer q0)), (2, (.map (some m21)))]) rfl (by kernel_rfl)) ?_
  refine Seq.o ?_
  refine OpTo.boxO (T := 91) (d := (some 23)) (ty := 53) (x := (.tmp 22)) (gd := none) (cs := #[(.pointer q12a), (.pointer q0), (.map (some m21))]) (by kernel_rfl) rfl rfl rfl (fun b23 hn => ?_)
  replace h := h b23 hn
  refine Seq.u 7 (.pointer (some ⟨b23, 0, none⟩)) ?_
  refine Seq.done ?_
  refine At.s K15 K37 ?_
  refine At.s K16 K17 ?_
  refine At.rg 5 [0, 1, 2] ?_
  refine Seq.u 24 (.slice p12b n12b c12b) ?_
  refine Seq.z 25 (.call { callee := .builtin .len, args := #[(.tmp 24)], argTypes := #[22] }) 3 (.int .i64 (n12b : Int)) (Y.lenS underlying22 rfl rfl) ?_
  refine Seq.u 26 (.int .i64 0) ?_
  refine Seq.done ?_
  refine At.b 0 K18 ?_
  refine At.loop (x := K19) (by kernel_rfl) ?_
  refine At.s K20 K21 ?_
  exact At.v [(7, (.pointer (some ⟨b23, 0, none⟩))), (24, (.slice p12b n12b c12b)), (25, (.int .i64 (n12b : Int))), (26, (.int .i64 0))] (h _)
theorem pt20_of {R : Ending → Hp → Prop} {q7 p24 : Option Addr} {n24 c24 : Nat} {x25 x26 : Int} {σ : Hp} (h : ((x26 : Int) < x25 → ∃ (b28 o28 : Nat), p24 = some ⟨b28, o28, none⟩ ∧ ((0 : Int) ≤ x26 ∧ x26 < (n24 : Int)) ∧ ∃ p29 : Option Addr, ∃ n29 : Nat, ∃ c29 : Nat, Hp.ld σ ⟨b28, (o28 + Int.toNat x26 * 1), none⟩ = some (.slice p29 n29 c29) ∧ Spec prog 58 #[(.pointer q7), (.slice p29 n29 c29)] σ (Cont R (fun v σ1 => ∃ t32 : Bool, v = (.bool t32) ∧ (t32 = false → R (.returned (.tuple #[(.pointer none), (.int .i64 71)])) σ1) ∧ (t32 = true → I64 (x26 + 1) ∧ pt20 R q7 ((some ⟨b28, o28, none⟩)) n24 c24 x25 ((x26 + 1)) σ1)))) ∧ (¬ ((x26 : Int) < x25) → R (.returned (.tuple #[(.pointer q7), (.int .i64 0)])) σ)) : pt20 R q7 p24 n24 c24 x25 x26 σ := by
 intro J
 show At (gl R) _ _ _ _
 refine At.rg 6 [0] ?_
 refine Seq.u 27 (.bool (decide ((x26 : Int) < x25))) ?_
 refine Seq.done ?_
 refine At.s K22 K25 ?_
 cases hb : (decide ((x26 : Int) < x25)) with
 | true =>
  replace h := h.1 (of_decide_eq_true hb)
  refine At.cT 27 K23 K24 ?_
  refine At.skip ?_
  refine At.s K26 K36 ?_
  refine At.b 1 K27 ?_
  refine At.s K28 K29 ?_
  refine At.rg 7 [0, 1, 2] ?_
  obtain ⟨b28, o28, hq, h⟩ := h
  subst hq
  obtain ⟨hi, h⟩ := h
  refine Seq.z 28 (.indexAddr 22 (.tmp 24) (.tmp 26)) 0 (.pointer (some ⟨b28, (o28 + Int.toNat x26 * 1), none⟩)) (Y.idx underlying22 sizeOf23 rfl rfl hi rfl) ?_
  obtain ⟨p29, n29, c29, hl, h⟩ := h
  refine Seq.z 29 (.load 23 (.tmp 28)) 23 (.slice p29 n29 c29) (Y.ld isAgg23 rfl hl) ?_
  refine Seq.u 9 (.slice p29 n29 c29) ?_
  refine Seq.done ?_
  refine At.s K30 K31 ?_
  refine At.rg 8 [0, 1, 2, 3] ?_
  refine Seq.us [(30, .pointer q7), (31, .slice p29 n29 c29)] ?_
  refine Seq.o ?_
  refine OpTo.cl (some 32) call58 (h.cont fun v σ1 h2 => ?_); replace h := h2; clear h2
  obtain ⟨t32, rfl, h⟩ := h
  refine Seq.u 33 (.bool (!t32)) ?_
  refine Seq.done ?_
  cases hb : (!t32) with
  | true =>
   replace h := h.1 (Tw.nt hb)
   refine At.cT 33 K32 K35 ?_
   refine At.s K33 K34 ?_
   refine At.rg 9 [0, 1] ?_
   refine Seq.us [(2, .pointer none), (3, .int .i64 71)] ?_
   refine Seq.done ?_
   exact At.rt [.tmp 2, .tmp 3] [(.pointer none), (.int .i64 71)] func30 ⟨_, rfl, ⟨_, rfl, rfl⟩⟩ h
  | false =>
   replace h := h.2 (Tw.nf hb)
   refine At.cF 33 K32 K35 ?_
   refine At.skip ?_
   refine At.inBlock ?_
   refine At.rg 10 [0, 1] ?_
   obtain ⟨hi, h⟩ := h
   refine Seq.z 34 (.binOp .add 3 (.tmp 26) (.const (.int .i64 1)) 3) 3 (.int .i64 (x26 + 1)) (Y.addI hi rfl rfl) ?_
   refine Seq.u 26 (.int .i64 (x26 + 1)) ?_
   refine Seq.done ?_
   refine At.inLoop ?_
   refine At.s K20 K21 ?_
   exact At.v [(7, (.pointer q7)), (24, (.slice (some ⟨b28, o28, none⟩) n24 c24)), (25, (.int .i64 x25)), (26, (.int .i64 (x26 + 1)))] (h _)
 | false =>
  replace h := h.2 (of_decide_eq_false hb)
  refine At.cF 27 K23 K24 ?_
  refine At.x 0 [.code K37] ?_
  refine At.s K38 K39 ?_
  refine At.rg 11 [0, 1, 2] ?_
  refine Seq.us [(35, .pointer q7), (2, .pointer q7), (3, .int .i64 0)] ?_
  refine Seq.done ?_
  exact At.rt [.tmp 2, .tmp 3] [(.pointer q7), (.int .i64 0)] func30 ⟨_, rfl, ⟨_, rfl, rfl⟩⟩ h
end kv_Open
namespace kv_Store_Set
abbrev fid : Nat := 32
noncomputable def K0 := f32.body.getD .skip
def K1 := cl K0
def K2 := cr K0
def K3 := cl K2
def K4 := cr K2
def K5 := cl K4
def K6 := cl K5
def K7 := cl K6
def K8 := cr K6
def K9 := cl K8
def K10 := cl K9
def K11 := cr K9
def K12 := cr K8
def K13 := cl K12
def K14 := cr K12
def K15 := cl K14
def K16 := cl K15
def K17 := cr K15
def K18 := cr K14
def K19 := cr K4
def K20 := cl K19
def K21 := cr K19
def K22 := cl K21
def K23 := cl K22
def K24 := cr K22
def K25 := cl K24
def K26 := cr K24
def K27 := cl K26
def K28 := cl K27
def K29 := cr K27
def K30 := cr K26
def K31 := cr K21
def K32 := cl K31
def K33 := cl K32
def K34 := cr K32
def K35 := cl K34
def K36 := cr K34
def K37 := cl K36
def K38 := cl K37
def K39 := cr K37
def K40 := cr K36
def K41 := cr K31
def K42 := cl K41
def K43 := cr K41
def K44 := cl K43
def K45 := cl K44
def K46 := cr K44
def K47 := cl K46
def K48 := cl K47
def K49 := cr K47
def K50 := cl K49
def K51 := cr K49
def K52 := cl K51
def K53 := cl K52
def K54 := cr K52
def K55 := cr K51
def K56 := cr K46
def K57 := cr K43
def K58 := cl K57
def K59 := cr K57
abbrev gl (R : Ending → Hp → Prop) : Gl := Gl.fn prog 32 82 R
def pt58 (R : Ending → Hp → Prop) (p13a : Option Addr) (n13a c13a : Nat) (x13b : Int) (σ : Hp) : Prop := ∀ (J : Env) (b13 : Nat), At (gl R) [.code K58, .code K59] (upds J [(13, (.pointer (some ⟨b13, 0, none⟩)))]) [(b13, .cells #[(.slice p13a n13a c13a), (.int .u64 x13b)] 94 (0, 0))] σ
theorem start {R : Ending → Hp → Prop} {q0 p2 : Option Addr} {s1 : ByteArray} {n2 c2 : Nat} {x3 : Int} {σ : Hp} (h : Spec prog 33 #[(.pointer q0), (.string s1)] σ (Cont R (fun v σ1 => ∃ p20a : Option Addr, ∃ n20a : Nat, ∃ c20a : Nat, ∃ x20b : Int, ∃ x20c : Int, v = (.tuple #[(.slice p20a n20a c20a), (.int .u64 x20b), (.int .i64 x20c)]) ∧ ((x20c : Int) ≠ 0 → R (.returned (.tuple #[(.int .u64 0), (.int .i64 x20c)])) σ1) ∧ (¬ ((x20c : Int) ≠ 0) → ((x20b : Int) ≠ x3 → R (.returned (.tuple #[(.int .u64 x20b), (.int .i64 121)])) σ1) ∧ (¬ ((x20b : Int) ≠ x3) → ∀ b33 : Nat, σ1 b33 = none → Eff prog (Builtin.append_ #[23, 23] 23 #[(.slice (some ⟨b33, 0, none⟩) 0 0), (.slice p2 n2 c2)]) (Hp.set σ1 b33 (.cells #[] 5 (0, 0))) (fun v_2 σ1_2 => ∃ p35 : Option Addr, ∃ n35 : Nat, ∃ c35 : Nat, v_2 = (.slice p35 n35 c35) ∧ ∀ x37 : Int, x37 = IntKind.u64.wrap (x3 + 1) → ∃ (b40 o40 : Nat), q0 = some ⟨b40, o40, none⟩ ∧ ∃ q42 : Option Addr, Hp.ld σ1_2 ⟨b40, o40, none⟩ = some (.pointer q42) ∧ Spec prog 59 #[(.string s1), (.agg #[(.slice p35 n35 c35), (.int .u64 x37)])] σ1_2 (Cont R (fun v_3 σ1_3 => ∃ p45 : Option Addr, ∃ n45 : Nat, ∃ c45 : Nat, v_3 = (.slice p45 n45 c45) ∧ Kp [b40] σ1_2 σ1_3 ∧ Spec prog 13 #[(.pointer q42), (.slice p45 n45 c45)] σ1_3 (Cont R (fun v_4 σ1_4 => ∃ x46 : Int, v_4 = (.int .i64 x46) ∧ ((x46 : Int) ≠ 0 → R (.returned (.tuple #[(.int .u64 0), (.int .i64 x46)])) σ1_4) ∧ (¬ ((x46 : Int) ≠ 0) → ∃ q53 : Option Addr, Hp.ld σ1_4 ⟨b40, o40, none⟩ = some (.pointer q53) ∧ Spec prog 16 #[(.pointer q53)] σ1_4 (Cont R (fun v_5 σ1_5 => ∃ x54 : Int, v_5 = (.int .i64 x54) ∧ ((x54 : Int) ≠ 0 → R (.returned (.tuple #[(.int .u64 0), (.int .i64 x54)])) σ1_5) ∧ (¬ ((x54 : Int) ≠ 0) → ∃ m61 : Option Nat, Hp.ld σ1_5 ⟨b40, (o40 + 2), none⟩ = some (.map m61) ∧ Eff prog (Instr.mapUpdate 89 (.map m61) (.string s1) (.agg #[(.slice p35 n35 c35), (.int .u64 x37)])) σ1_5 (fun _ σ1_6 => ∃ q67 : Option Addr, Hp.ld σ1_6 ⟨b40, o40, none⟩ = some (.pointer q67) ∧ Spec prog 25 #[(.pointer q67)] σ1_6 (Cont R (fun v_6 σ1_7 => ∃ x68 : Int, v_6 = (.int .i64 x68) ∧ ((64 : Int) < x68 → ∃ q73 : Option Addr, Hp.ld σ1_7 ⟨b40, o40, none⟩ = some (.pointer q73) ∧ Spec prog 60 #[(.pointer (some ⟨b40, o40, none⟩))] σ1_7 (Cont R (fun v_7 σ1_8 => ∃ p75 : Option Addr, ∃ n75 : Nat, ∃ c75 : Nat, v_7 = (.slice p75 n75 c75) ∧ Kp [b40] σ1_7 σ1_8 ∧ Spec prog 22 #[(.pointer q73), (.slice p75 n75 c75)] σ1_8 (Cont R (fun v_8 σ1_9 => ∃ x76 : Int, v_8 = (.int .i64 x76) ∧ ((x76 : Int) ≠ 0 → R (.returned (.tuple #[(.int .u64 0), (.int .i64 x76)])) σ1_9) ∧ (¬ ((x76 : Int) ≠ 0) → pt58 R p35 n35 c35 x37 σ1_9)))))) ∧ (¬ ((64 : Int) < x68) → pt58 R p35 n35 c35 x37 σ1_7)))))))))))))))))) : Spec prog 32 #[(.pointer q0), (.string s1), (.slice p2 n2 c2), (.int .u64 x3)] σ R := by
 refine Spec.of_at (fn := f32) (c := K0) func32 (by kernel_rfl) (Nat.le_of_ble_eq_true (by kernel_rfl)) (fun e he => ?_)
 refine At.ofL (l := [(0, (.pointer q0)), (1, (.string s1)), (2, (.slice p2 n2 c2)), (3, (.int .u64 x3))]) ⟨he 0, he 1, he 2, he 3, trivial⟩ (fun J => ?_)
 show At (gl R) _ _ _ _
 refine At.s K1 K2 ?_
 refine At.rg 0 [0, 1] ?_
 refine Seq.us [(8, .int .u64 0), (9, .int .i64 0)] ?_
 refine Seq.done ?_
 refine At.s K3 K4 ?_
 refine At.rg 1 [0, 1, 2, 3, 4, 5, 6, 7, 8, 9] ?_
 refine Seq.us [(18, .pointer q0), (19, .string s1)] ?_
 refine Seq.o ?_
 refine OpTo.cl (some 20) call33 (h.cont fun v σ1 h2 => ?_); replace h := h2; clear h2
 obtain ⟨p20a, n20a, c20a, x20b, x20c, rfl, h⟩ := h
 refine Seq.us [(17, .tuple #[(.slice p20a n20a c20a), (.int .u64 x20b), (.int .i64 x20c)]), (21, .slice p20a n20a c20a), (22, .int .u64 x20b), (23, .int .i64 x20c), (10, .slice p20a n20a c20a), (11, .int .u64 x20b), (12, .int .i64 x20c)] ?_
 refine Seq.done ?_
 refine At.s K5 K19 ?_
 refine At.b 0 K6 ?_
 refine At.s K7 K8 ?_
 refine At.rg 2 [0, 1, 2] ?_
 refine Seq.us [(25, .int .i64 x20c), (26, .bool (decide ((x20c : Int) ≠ 0))), (24, .bool (decide ((x20c : Int) ≠ 0)))] ?_
 refine Seq.done ?_
 cases hb : (decide ((x20c : Int) ≠ 0)) with
 | true =>
  replace h := h.1 (of_decide_eq_true hb)
  refine At.cT 24 K9 K12 ?_
  refine At.s K10 K11 ?_
  refine At.rg 3 [0, 1, 2] ?_
  refine Seq.us [(27, .int .i64 x20c), (8, .int .u64 0), (9, .int .i64 x20c)] ?_
  refine Seq.done ?_
  exact At.rt [.tmp 8, .tmp 9] [(.int .u64 0), (.int .i64 x20c)] func32 ⟨_, rfl, ⟨_, rfl, rfl⟩⟩ h
 | false =>
  replace h := h.2 (of_decide_eq_false hb)
  refine At.cF 24 K9 K12 ?_
  refine At.s K13 K14 ?_
  refine At.rg 4 [0, 1, 2, 3] ?_
  refine Seq.us [(29, .int .u64 x20b), (30, .int .u64 x3), (31, .bool (decide ((x20b : Int) ≠ x3))), (28, .bool (decide ((x20b : Int) ≠ x3)))] ?_
  refine Seq.done ?_
  cases hb : (decide ((x20b : Int) ≠ x3)) with
  | true =>
   replace h := h.1 (of_decide_eq_true hb)
   refine At.cT 28 K15 K18 ?_
   refine At.s K16 K17 ?_
   refine At.rg 5 [0, 1, 2] ?_
   refine Seq.us [(32, .int .u64 x20b), (8, .int .u64 x20b), (9, .int .i64 121)] ?_
   refine Seq.done ?_
   exact At.rt [.tmp 8, .tmp 9] [(.int .u64 x20b), (.int .i64 121)] func32 ⟨_, rfl, ⟨_, rfl, rfl⟩⟩ h
  | false =>
   replace h := h.2 (of_decide_eq_false hb)
   refine At.cF 28 K15 K18 ?_
   refine At.skip ?_
   refine At.inBlock ?_
   refine At.s K20 K21 ?_
   refine At.rg 6 [0, 1, 2, 3, 4, 5, 6, 7] ?_
   refine Seq.o ?_
   refine OpTo.bslice (T := 23) (E := 5) (m := 0) (ps := #[]) (d := (some 33)) (ty := 23) (gd := none) (vs := []) (cs := #[]) underlying23 (by kernel_rfl) rfl rfl rfl (by kernel_rfl) (fun b33 hn => ?_)
   replace h := h b33 hn
   refine Seq.u 34 (.slice p2 n2 c2) ?_
   refine Seq.o ?_
   refine OpTo.eff (d := (some 35)) (op := (.call { callee := .builtin .append, args := #[(.tmp 33), (.tmp 34)], argTypes := #[23, 23] })) (ty := 23) (gd := none) (by kernel_rfl) rfl rfl (Builtin.append_ #[23, 23] 23 #[(.slice (some ⟨b33, 0, none⟩) 0 0), (.slice p2 n2 c2)]) (fun o ho ht => exec_b_append rfl rfl o ho ht) (h.mono (fun v_2 σ1_2 h2 => ?_)); replace h := h2; clear h2
   obtain ⟨p35, n35, c35, rfl, h⟩ := h
   refine Seq.u 36 (.int .u64 x3) ?_
   obtain ⟨x37, hwx37⟩ : ∃ y, y = IntKind.u64.wrap (x3 + 1) := ⟨_, rfl⟩
   replace h := h x37 hwx37
   refine Seq.y (d := (some 37)) (op := (.binOp .add 56 (.tmp 36) (.const (.int .u64 1)) 56)) (ty := 56) (v := (.int .u64 x37)) (by kernel_rfl) rfl (hwx37 ▸ Y.add rfl rfl) ?_
   refine Seq.z 38 (.build 94 #[(0, (.tmp 35)), (1, (.tmp 37))]) 94 (.agg #[(.slice p35 n35 c35), (.int .u64 x37)]) (Y.build (vs := [(0, (.slice p35 n35 c35)), (1, (.int .u64 x37))]) rfl (by kernel_rfl)) ?_
   refine Seq.o ?_
   refine OpTo.alloc (T := 94) (d := (some 13)) (ty := 0)  (gd := none) (cs := #[(.slice none 0 0), (.int .u64 0)]) (by kernel_rfl) rfl rfl zeroValue94 rfl (fun b13 => ?_)
   refine Seq.o ?_
   refine OpTo.storeb (T := 94) (ty := 0) (x := (.tmp 13)) (y := (.tmp 38)) (t := 94) (j := 0) (b := b13) (o := 0) (c' := #[(.slice p35 n35 c35), (.int .u64 x37)]) (v := (.agg #[(.slice p35 n35 c35), (.int .u64 x37)])) (gd := none) (by kernel_rfl) rfl sizeOf94 rfl rfl rfl rfl rfl rfl rfl ?_
   simp only [List.set]
   refine Seq.done ?_
   refine At.s K22 K31 ?_
   refine At.s K23 K24 ?_
   refine At.draw (id := 7) (ops := cO K23) (n := 9) (q := (some [])) (plan := [(0, true), (1, true), (2, true), (3, true), (4, true), (5, true), (6, false), (7, false), (8, true)]) (tl := []) mixed (by kernel_rfl) (by kernel_rfl) ?_
   refine Head.u 39 (.pointer q0) ?_
   obtain ⟨b40, o40, hq, h⟩ := h
   subst hq
   refine Head.z 40 (.nilCheck (.tmp 39)) 0 (.pointer (some ⟨b40, o40, none⟩)) (Y.nilCheck rfl) ?_
   refine Head.z 41 (.fieldAddr 91 (.tmp 40) 0) 0 (.pointer (some ⟨b40, o40, none⟩)) (Y.fieldAddr (fd := (fieldOf prog 91 0)) underlying91 (by kernel_rfl) sizeOf26 rfl rfl) ?_
   obtain ⟨q42, hl, h⟩ := h
   refine Head.yl b40 [[7]] rfl (by kernel_rfl) (d := (some 42)) (op := (.load 26 (.tmp 41))) (ty := 26) (v := (.pointer q42)) (by kernel_rfl) rfl (Y.ld isAgg26 rfl (lim_ld hl)) ?_
   refine Head.u 43 (.string s1) ?_
   refine Head.z 44 (.load 94 (.tmp 13)) 94 (.agg #[(.slice p35 n35 c35), (.int .u64 x37)]) (Y.ldab (vs := [(.slice p35 n35 c35), (.int .u64 x37)]) isAgg94 sizeOf94 rfl rfl (List.mem_cons_self ..) rfl) ?_
   refine Head.o (q' := (some [(b40, [7])])) rfl ?_
   refine OpTo.cl (some 45) call59 (h.cont fun v_3 σ1_3 h2 => ?_); replace h := h2; clear h2
   obtain ⟨p45, n45, c45, rfl, hk, h⟩ := h
   refine ⟨⟨fun _ h => h, kp_q (L := [(b40, [7])]) hk⟩, ?_⟩
   refine Head.o (q' := (some [])) rfl ?_
   refine OpTo.cl (some 46) call13 (h.cont fun v_4 σ1_4 h2 => ?_); replace h := h2; clear h2
   obtain ⟨x46, rfl, h⟩ := h
   refine ⟨⟨fun _ h => h, kp_q (L := []) Kp.nil⟩, ?_⟩
   refine Head.u 14 (.int .i64 x46) ?_
   refine Head.done ?_
   refine Seq.done ?_
   refine At.L [(0, (.pointer (some ⟨b40, o40, none⟩))), (1, (.string s1)), (13, (.pointer (some ⟨b13, 0, none⟩))), (14, (.int .i64 x46))] fun J => ?_
   refine At.s K25 K26 ?_
   refine At.rg 8 [0, 1] ?_
   refine Seq.us [(47, .int .i64 x46), (48, .bool (decide ((x46 : Int) ≠ 0)))] ?_
   refine Seq.done ?_
   cases hb : (decide ((x46 : Int) ≠ 0)) with
   | true =>
    replace h := h.1 (of_decide_eq_true hb)
    refine At.cT 48 K27 K30 ?_
    refine At.s K28 K29 ?_
    refine At.rg 9 [0, 1, 2] ?_
    refine Seq.us [(49, .int .i64 x46), (8, .int .u64 0), (9, .int .i64 x46)] ?_
    refine Seq.done ?_
    exact At.rt [.tmp 8, .tmp 9] [(.int .u64 0), (.int .i64 x46)] func32 ⟨_, rfl, ⟨_, rfl, rfl⟩⟩ h
   | false =>
    replace h := h.2 (of_decide_eq_false hb)
    refine At.cF 48 K27 K30 ?_
    refine At.skip ?_
    refine At.s K32 K41 ?_
    refine At.s K33 K34 ?_
    refine At.rg 10 [0, 1, 2, 3, 4, 5] ?_
    refine Seq.u 50 (.pointer (some ⟨b40, o40, none⟩)) ?_
    refine Seq.z 51 (.nilCheck (.tmp 50)) 0 (.pointer (some ⟨b40, o40, none⟩)) (Y.nilCheck rfl) ?_
    refine Seq.z 52 (.fieldAddr 91 (.tmp 51) 0) 0 (.pointer (some ⟨b40, o40, none⟩)) (Y.fieldAddr (fd := (fieldOf prog 91 0)) underlying91 (by kernel_rfl) sizeOf26 rfl rfl) ?_
    obtain ⟨q53, hl, h⟩ := h
    refine Seq.z 53 (.load 26 (.tmp 52)) 26 (.pointer q53) (Y.ld isAgg26 rfl hl) ?_
    refine Seq.o ?_
    refine OpTo.cl (some 54) call16 (h.cont fun v_5 σ1_5 h2 => ?_); replace h := h2; clear h2
    obtain ⟨x54, rfl, h⟩ := h
    refine Seq.u 15 (.int .i64 x54) ?_
    refine Seq.done ?_
    refine At.s K35 K36 ?_
    refine At.rg 11 [0, 1] ?_
    refine Seq.us [(55, .int .i64 x54), (56, .bool (decide ((x54 : Int) ≠ 0)))] ?_
    refine Seq.done ?_
    cases hb : (decide ((x54 : Int) ≠ 0)) with
    | true =>
     replace h := h.1 (of_decide_eq_true hb)
     refine At.cT 56 K37 K40 ?_
     refine At.s K38 K39 ?_
     refine At.rg 12 [0, 1, 2] ?_
     refine Seq.us [(57, .int .i64 x54), (8, .int .u64 0), (9, .int .i64 x54)] ?_
     refine Seq.done ?_
     exact At.rt [.tmp 8, .tmp 9] [(.int .u64 0), (.int .i64 x54)] func32 ⟨_, rfl, ⟨_, rfl, rfl⟩⟩ h
    | false =>
     replace h := h.2 (of_decide_eq_false hb)
     refine At.cF 56 K37 K40 ?_
     refine At.skip ?_
     refine At.s K42 K43 ?_
     refine At.draw (id := 13) (ops := cO K42) (n := 6) (q := none) (plan := [(0, true), (1, true), (2, true), (3, true), (4, true), (5, true)]) (tl := [6]) mixed (by kernel_rfl) (by kernel_rfl) ?_
     refine Head.u 58 (.pointer (some ⟨b40, o40, none⟩)) ?_
     refine Head.z 59 (.nilCheck (.tmp 58)) 0 (.pointer (some ⟨b40, o40, none⟩)) (Y.nilCheck rfl) ?_
     refine Head.z 60 (.fieldAddr 91 (.tmp 59) 2) 0 (.pointer (some ⟨b40, (o40 + 2), none⟩)) (Y.fieldAddr (fd := (fieldOf prog 91 2)) underlying91 (by kernel_rfl) sizeOf89 rfl rfl) ?_
     obtain ⟨m61, hl, h⟩ := h
     refine Head.z 61 (.load 89 (.tmp 60)) 89 (.map m61) (Y.ld isAgg89 rfl hl) ?_
     refine Head.u 62 (.string s1) ?_
     refine Head.z 63 (.load 94 (.tmp 13)) 94 (.agg #[(.slice p35 n35 c35), (.int .u64 x37)]) (Y.ldab (vs := [(.slice p35 n35 c35), (.int .u64 x37)]) isAgg94 sizeOf94 rfl rfl (List.mem_cons_self ..) rfl) ?_
     refine Head.done ?_
     refine Seq.o ?_
     refine OpTo.effU (d := none) (op := (.mapUpdate 89 (.tmp 61) (.tmp 62) (.tmp 63))) (ty := 0) (gd := none) (by kernel_rfl) rfl rfl (Instr.mapUpdate 89 (.map m61) (.string s1) (.agg #[(.slice p35 n35 c35), (.int .u64 x37)])) (fun o ho ht => by simp only [execOp, ho]; rfl) (h.mono (fun _ σ1_6 h2 => ?_)); replace h := h2; clear h2
     refine Seq.done ?_
     refine At.s K44 K57 ?_
     refine At.s K45 K46 ?_
     refine At.rg 14 [0, 1, 2, 3, 4, 5] ?_
     refine Seq.u 64 (.pointer (some ⟨b40, o40, none⟩)) ?_
     refine Seq.z 65 (.nilCheck (.tmp 64)) 0 (.pointer (some ⟨b40, o40, none⟩)) (Y.nilCheck rfl) ?_
     refine Seq.z 66 (.fieldAddr 91 (.tmp 65) 0) 0 (.pointer (some ⟨b40, o40, none⟩)) (Y.fieldAddr (fd := (fieldOf prog 91 0)) underlying91 (by kernel_rfl) sizeOf26 rfl rfl) ?_
     obtain ⟨q67, hl, h⟩ := h
     refine Seq.z 67 (.load 26 (.tmp 66)) 26 (.pointer q67) (Y.ld isAgg26 rfl hl) ?_
     refine Seq.o ?_
     refine OpTo.cl (some 68) call25 (h.cont fun v_6 σ1_7 h2 => ?_); replace h := h2; clear h2
     obtain ⟨x68, rfl, h⟩ := h
     refine Seq.u 69 (.bool (decide ((64 : Int) < x68))) ?_
     refine Seq.done ?_
     cases hb : (decide ((64 : Int) < x68)) with
     | true =>
      replace h := h.1 (of_decide_eq_true hb)
      refine At.cT 69 K47 K56 ?_
      refine At.s K48 K49 ?_
      refine At.draw (id := 15) (ops := cO K48) (n := 8) (q := (some [])) (plan := [(0, true), (1, true), (2, true), (3, true), (4, true), (5, false), (6, false), (7, true)]) (tl := []) mixed (by kernel_rfl) (by kernel_rfl) ?_
      refine Head.u 70 (.pointer (some ⟨b40, o40, none⟩)) ?_
      refine Head.z 71 (.nilCheck (.tmp 70)) 0 (.pointer (some ⟨b40, o40, none⟩)) (Y.nilCheck rfl) ?_
      refine Head.z 72 (.fieldAddr 91 (.tmp 71) 0) 0 (.pointer (some ⟨b40, o40, none⟩)) (Y.fieldAddr (fd := (fieldOf prog 91 0)) underlying91 (by kernel_rfl) sizeOf26 rfl rfl) ?_
      obtain ⟨q73, hl, h⟩ := h
      refine Head.yl b40 [[6]] rfl (by kernel_rfl) (d := (some 73)) (op := (.load 26 (.tmp 72))) (ty := 26) (v := (.pointer q73)) (by kernel_rfl) rfl (Y.ld isAgg26 rfl (lim_ld hl)) ?_
      refine Head.u 74 (.pointer (some ⟨b40, o40, none⟩)) ?_
      refine Head.o (q' := (some [(b40, [6])])) rfl ?_
      refine OpTo.cl (some 75) call60 (h.cont fun v_7 σ1_8 h2 => ?_); replace h := h2; clear h2
      obtain ⟨p75, n75, c75, rfl, hk, h⟩ := h
      refine ⟨⟨fun _ h => h, kp_q (L := [(b40, [6])]) hk⟩, ?_⟩
      refine Head.o (q' := (some [])) rfl ?_
      refine OpTo.cl (some 76) call22 (h.cont fun v_8 σ1_9 h2 => ?_); replace h := h2; clear h2
      obtain ⟨x76, rfl, h⟩ := h
      refine ⟨⟨fun _ h => h, kp_q (L := []) Kp.nil⟩, ?_⟩
      refine Head.u 16 (.int .i64 x76) ?_
      refine Head.done ?_
      refine Seq.done ?_
      refine At.L [(13, (.pointer (some ⟨b13, 0, none⟩))), (16, (.int .i64 x76))] fun J => ?_
      refine At.s K50 K51 ?_
      refine At.rg 16 [0, 1] ?_
      refine Seq.us [(77, .int .i64 x76), (78, .bool (decide ((x76 : Int) ≠ 0)))] ?_
      refine Seq.done ?_
      cases hb : (decide ((x76 : Int) ≠ 0)) with
      | true =>
       replace h := h.1 (of_decide_eq_true hb)
       refine At.cT 78 K52 K55 ?_
       refine At.s K53 K54 ?_
       refine At.rg 17 [0, 1, 2] ?_
       refine Seq.us [(79, .int .i64 x76), (8, .int .u64 0), (9, .int .i64 x76)] ?_
       refine Seq.done ?_
       exact At.rt [.tmp 8, .tmp 9] [(.int .u64 0), (.int .i64 x76)] func32 ⟨_, rfl, ⟨_, rfl, rfl⟩⟩ h
      | false =>
       replace h := h.2 (of_decide_eq_false hb)
       refine At.cF 78 K52 K55 ?_
       refine At.skip ?_
       refine At.s K58 K59 ?_
       exact At.v [(13, (.pointer (some ⟨b13, 0, none⟩)))] (h _ b13)
     | false =>
      replace h := h.2 (of_decide_eq_false hb)
      refine At.cF 69 K47 K56 ?_
      refine At.skip ?_
      refine At.s K58 K59 ?_
      exact At.v [(13, (.pointer (some ⟨b13, 0, none⟩)))] (h _ b13)
theorem pt58_of {R : Ending → Hp → Prop} {p13a : Option Addr} {n13a c13a : Nat} {x13b : Int} {σ : Hp} (h : R (.returned (.tuple #[(.int .u64 x13b), (.int .i64 0)])) σ) : pt58 R p13a n13a c13a x13b σ := by
 intro J b13
 show At (gl R) _ _ _ _
 refine At.rg 18 [0, 1, 2, 3] ?_
 refine Seq.z 80 (.fieldAddr 94 (.tmp 13) 1) 0 (.pointer (some ⟨b13, 1, none⟩)) (Y.fieldAddr (fd := (fieldOf prog 94 1)) underlying94 (by kernel_rfl) sizeOf56 rfl rfl) ?_
 refine Seq.z 81 (.load 56 (.tmp 80)) 56 (.int .u64 x13b) (Y.ldb isAgg56 rfl (List.mem_cons_self ..) rfl) ?_
 refine Seq.us [(8, .int .u64 x13b), (9, .int .i64 0)] ?_
 refine Seq.done ?_
 exact At.rt [.tmp 8, .tmp 9] [(.int .u64 x13b), (.int .i64 0)] func32 ⟨_, rfl, ⟨_, rfl, rfl⟩⟩ h
end kv_Store_Set
namespace kv_Store_Get
abbrev fid : Nat := 33
noncomputable def K0 := f33.body.getD .skip
def K1 := cl K0
def K2 := cr K0
def K3 := cl K2
def K4 := cl K3
def K5 := cl K4
def K6 := cr K4
def K7 := cl K6
def K8 := cl K7
def K9 := cr K7
def K10 := cr K6
def K11 := cl K10
def K12 := cr K10
def K13 := cl K12
def K14 := cl K13
def K15 := cr K13
def K16 := cr K12
def K17 := cr K2
def K18 := cl K17
def K19 := cr K17
def K20 := cl K19
def K21 := cr K19
abbrev gl (R : Ending → Hp → Prop) : Gl := Gl.fn prog 33 31 R
theorem start {R : Ending → Hp → Prop} {q0 : Option Addr} {s1 : ByteArray} {σ : Hp} (h : Spec prog 61 #[(.string s1)] σ (Cont R (fun v σ1 => ∃ t10 : Bool, v = (.bool t10) ∧ (t10 = false → R (.returned (.tuple #[(.slice none 0 0), (.int .u64 0), (.int .i64 120)])) σ1) ∧ (t10 = true → ∃ (b14 o14 : Nat), q0 = some ⟨b14, o14, none⟩ ∧ ∃ q16 : Option Addr, Hp.ld σ1 ⟨b14, (o14 + 1), none⟩ = some (.pointer q16) ∧ Spec prog 27 #[(.pointer q16)] σ1 (Cont R (fun v_2 σ1_2 => ∃ t17 : Bool, v_2 = (.bool t17) ∧ (t17 = false → R (.returned (.tuple #[(.slice none 0 0), (.int .u64 0), (.int .i64 60)])) σ1_2) ∧ (t17 = true → ∃ m22 : Option Nat, Hp.ld σ1_2 ⟨b14, (o14 + 2), none⟩ = some (.map m22) ∧ Eff prog (Instr.lookup 89 (.map m22) (.string s1) false) σ1_2 (fun v_3 σ1_3 => ∃ p24a : Option Addr, ∃ n24a : Nat, ∃ c24a : Nat, ∃ x24b : Int, v_3 = (.agg #[(.slice p24a n24a c24a), (.int .u64 x24b)]) ∧ ∀ b25 : Nat, σ1_3 b25 = none → Eff prog (Builtin.append_ #[23, 23] 23 #[(.slice (some ⟨b25, 0, none⟩) 0 0), (.slice p24a n24a c24a)]) (Hp.set σ1_3 b25 (.cells #[] 5 (0, 0))) (fun v_4 σ1_4 => ∃ p28 : Option Addr, ∃ n28 : Nat, ∃ c28 : Nat, v_4 = (.slice p28 n28 c28) ∧ R (.returned (.tuple #[(.slice p28 n28 c28), (.int .u64 x24b), (.int .i64 0)])) σ1_4))))))))) : Spec prog 33 #[(.pointer q0), (.string s1)] σ R := by
 refine Spec.of_at (fn := f33) (c := K0) func33 (by kernel_rfl) (Nat.le_of_ble_eq_true (by kernel_rfl)) (fun e he => ?_)
 refine At.ofL (l := [(0, (.pointer q0)), (1, (.string s1))]) ⟨he 0, he 1, trivial⟩ (fun J => ?_)
 show At (gl R) _ _ _ _
 refine At.s K1 K2 ?_
 refine At.rg 0 [0, 1, 2] ?_
 refine Seq.us [(4, .slice none 0 0), (5, .int .u64 0), (6, .int .i64 0)] ?_
 refine Seq.done ?_
 refine At.s K3 K17 ?_
 refine At.b 0 K4 ?_
 refine At.s K5 K6 ?_
 refine At.rg 1 [0, 1, 2, 3] ?_
 refine Seq.u 9 (.string s1) ?_
 refine Seq.o ?_
 refine OpTo.cl (some 10) call61 (h.cont fun v σ1 h2 => ?_); replace h := h2; clear h2
 obtain ⟨t10, rfl, h⟩ := h
 refine Seq.us [(11, .bool (!t10)), (8, .bool (!t10))] ?_
 refine Seq.done ?_
 cases hb : (!t10) with
 | true =>
  replace h := h.1 (Tw.nt hb)
  refine At.cT 8 K7 K10 ?_
  refine At.s K8 K9 ?_
  refine At.rg 2 [0, 1, 2] ?_
  refine Seq.us [(4, .slice none 0 0), (5, .int .u64 0), (6, .int .i64 120)] ?_
  refine Seq.done ?_
  exact At.rt [.tmp 4, .tmp 5, .tmp 6] [(.slice none 0 0), (.int .u64 0), (.int .i64 120)] func33 ⟨_, rfl, ⟨_, rfl, ⟨_, rfl, rfl⟩⟩⟩ h
 | false =>
  replace h := h.2 (Tw.nf hb)
  refine At.cF 8 K7 K10 ?_
  refine At.s K11 K12 ?_
  refine At.rg 3 [0, 1, 2, 3, 4, 5, 6] ?_
  refine Seq.u 13 (.pointer q0) ?_
  obtain ⟨b14, o14, hq, h⟩ := h
  subst hq
  refine Seq.z 14 (.nilCheck (.tmp 13)) 0 (.pointer (some ⟨b14, o14, none⟩)) (Y.nilCheck rfl) ?_
  refine Seq.z 15 (.fieldAddr 91 (.tmp 14) 1) 0 (.pointer (some ⟨b14, (o14 + 1), none⟩)) (Y.fieldAddr (fd := (fieldOf prog 91 1)) underlying91 (by kernel_rfl) sizeOf24 rfl rfl) ?_
  obtain ⟨q16, hl, h⟩ := h
  refine Seq.z 16 (.load 24 (.tmp 15)) 24 (.pointer q16) (Y.ld isAgg24 rfl hl) ?_
  refine Seq.o ?_
  refine OpTo.cl (some 17) call27 (h.cont fun v_2 σ1_2 h2 => ?_); replace h := h2; clear h2
  obtain ⟨t17, rfl, h⟩ := h
  refine Seq.us [(18, .bool (!t17)), (12, .bool (!t17))] ?_
  refine Seq.done ?_
  cases hb : (!t17) with
  | true =>
   replace h := h.1 (Tw.nt hb)
   refine At.cT 12 K13 K16 ?_
   refine At.s K14 K15 ?_
   refine At.rg 4 [0, 1, 2] ?_
   refine Seq.us [(4, .slice none 0 0), (5, .int .u64 0), (6, .int .i64 60)] ?_
   refine Seq.done ?_
   exact At.rt [.tmp 4, .tmp 5, .tmp 6] [(.slice none 0 0), (.int .u64 0), (.int .i64 60)] func33 ⟨_, rfl, ⟨_, rfl, ⟨_, rfl, rfl⟩⟩⟩ h
  | false =>
   replace h := h.2 (Tw.nf hb)
   refine At.cF 12 K13 K16 ?_
   refine At.skip ?_
   refine At.inBlock ?_
   refine At.s K18 K19 ?_
   refine At.rg 5 [0, 1, 2, 3, 4, 5, 6, 7] ?_
   refine Seq.u 19 (.pointer (some ⟨b14, o14, none⟩)) ?_
   refine Seq.z 20 (.nilCheck (.tmp 19)) 0 (.pointer (some ⟨b14, o14, none⟩)) (Y.nilCheck rfl) ?_
   refine Seq.z 21 (.fieldAddr 91 (.tmp 20) 2) 0 (.pointer (some ⟨b14, (o14 + 2), none⟩)) (Y.fieldAddr (fd := (fieldOf prog 91 2)) underlying91 (by kernel_rfl) sizeOf89 rfl rfl) ?_
   obtain ⟨m22, hl, h⟩ := h
   refine Seq.z 22 (.load 89 (.tmp 21)) 89 (.map m22) (Y.ld isAgg89 rfl hl) ?_
   refine Seq.u 23 (.string s1) ?_
   refine Seq.o ?_
   refine OpTo.eff (d := (some 24)) (op := (.lookup 89 (.tmp 22) (.tmp 23) false)) (ty := 94) (gd := none) (by kernel_rfl) rfl rfl (Instr.lookup 89 (.map m22) (.string s1) false) (fun o ho ht => by simp only [execOp, ho]; rfl) (h.mono (fun v_3 σ1_3 h2 => ?_)); replace h := h2; clear h2
   obtain ⟨p24a, n24a, c24a, x24b, rfl, h⟩ := h
   refine Seq.o ?_
   refine OpTo.alloc (T := 94) (d := (some 7)) (ty := 0)  (gd := none) (cs := #[(.slice none 0 0), (.int .u64 0)]) (by kernel_rfl) rfl rfl zeroValue94 rfl (fun b7 => ?_)
   refine Seq.o ?_
   refine OpTo.storeb (T := 94) (ty := 0) (x := (.tmp 7)) (y := (.tmp 24)) (t := 94) (j := 0) (b := b7) (o := 0) (c' := #[(.slice p24a n24a c24a), (.int .u64 x24b)]) (v := (.agg #[(.slice p24a n24a c24a), (.int .u64 x24b)])) (gd := none) (by kernel_rfl) rfl sizeOf94 rfl rfl rfl rfl rfl rfl rfl ?_
   simp only [List.set]
   refine Seq.done ?_
   refine At.s K20 K21 ?_
   refine At.draw (id := 6) (ops := cO K20) (n := 9) (q := (some [])) (plan := [(1, true), (2, true), (4, true), (5, true), (0, false), (3, false), (6, true), (7, true), (8, true)]) (tl := []) mixed (by kernel_rfl) (by kernel_rfl) ?_
   refine Head.z 26 (.fieldAddr 94 (.tmp 7) 0) 0 (.pointer (some ⟨b7, 0, none⟩)) (Y.fieldAddr (fd := (fieldOf prog 94 0)) underlying94 (by kernel_rfl) sizeOf23 rfl rfl) ?_
   refine Head.z 27 (.load 23 (.tmp 26)) 23 (.slice p24a n24a c24a) (Y.ldb isAgg23 rfl (List.mem_cons_self ..) rfl) ?_
   refine Head.z 29 (.fieldAddr 94 (.tmp 7) 1) 0 (.pointer (some ⟨b7, 1, none⟩)) (Y.fieldAddr (fd := (fieldOf prog 94 1)) underlying94 (by kernel_rfl) sizeOf56 rfl rfl) ?_
   refine Head.z 30 (.load 56 (.tmp 29)) 56 (.int .u64 x24b) (Y.ldb isAgg56 rfl (List.mem_cons_self ..) rfl) ?_
   refine Head.o (q' := (some [])) rfl ?_
   refine OpTo.bslice (T := 23) (E := 5) (m := 0) (ps := #[]) (d := (some 25)) (ty := 23) (gd := none) (vs := []) (cs := #[]) underlying23 (by kernel_rfl) rfl rfl rfl (by kernel_rfl) (fun b25 hn => ?_)
   refine ⟨⟨fun _ h => h, kp_q (Kp.of_ext (Ext.set hn))⟩, ?_⟩
   replace h := h b25 hn
   refine Head.o (q' := (some [])) rfl ?_
   refine OpTo.eff (d := (some 28)) (op := (.call { callee := .builtin .append, args := #[(.tmp 25), (.tmp 27)], argTypes := #[23, 23] })) (ty := 23) (gd := none) (by kernel_rfl) rfl rfl (Builtin.append_ #[23, 23] 23 #[(.slice (some ⟨b25, 0, none⟩) 0 0), (.slice p24a n24a c24a)]) (fun o ho ht => exec_b_append rfl rfl o ho ht) (h.mono (fun v_4 σ1_4 h2 => ?_)); replace h := h2; clear h2
   obtain ⟨p28, n28, c28, rfl, h⟩ := h
   refine ⟨⟨fun _ h => h, kp_q (L := []) Kp.nil⟩, ?_⟩
   refine Head.u 4 (.slice p28 n28 c28) ?_
   refine Head.u 5 (.int .u64 x24b) ?_
   refine Head.u 6 (.int .i64 0) ?_
   refine Head.done ?_
   refine Seq.done ?_
   refine At.L [(4, (.slice p28 n28 c28)), (5, (.int .u64 x24b)), (6, (.int .i64 0))] fun J => ?_
   exact At.rt [.tmp 4, .tmp 5, .tmp 6] [(.slice p28 n28 c28), (.int .u64 x24b), (.int .i64 0)] func33 ⟨_, rfl, ⟨_, rfl, ⟨_, rfl, rfl⟩⟩⟩ h
end kv_Store_Get
namespace kv_Store_learn
abbrev fid : Nat := 58
noncomputable def K0 := f58.body.getD .skip
def K1 := cl K0
def K2 := cr K0
def K3 := cl K2
def K4 := cr K2
def K5 := cl K4
def K6 := cl K5
def K7 := cr K5
def K8 := cl K7
def K9 := cl K8
def K10 := cr K8
def K11 := cr K7
def K12 := cr K4
def K13 := cl K12
def K14 := cr K12
def K15 := cl K14
def K16 := cl K15
def K17 := cr K15
def K18 := cl K17
def K19 := cl K18
def K20 := cr K18
def K21 := cr K17
def K22 := cr K14
def K23 := cl K22
def K24 := cr K22
def K25 := cl K24
def K26 := cl K25
def K27 := cr K25
def K28 := cl K27
def K29 := cl K28
def K30 := cr K28
def K31 := cr K27
def K32 := cr K24
def K33 := cl K32
def K34 := cr K32
def K35 := cl K34
def K36 := cr K34
abbrev gl (R : Ending → Hp → Prop) : Gl := Gl.fn prog 58 60 R
theorem start {R : Ending → Hp → Prop} {q0 p1 : Option Addr} {n1 c1 : Nat} {σ : Hp} (h : Spec prog 81 #[(.slice p1 n1 c1), (.int .i64 0)] σ (Cont R (fun v σ1 => ∃ s12a : ByteArray, ∃ x12b : Int, ∃ x12c : Int, v = (.tuple #[(.string s12a), (.int .i64 x12b), (.int .i64 x12c)]) ∧ ((x12c : Int) ≠ 0 → R (.returned (.bool false)) σ1) ∧ (¬ ((x12c : Int) ≠ 0) → Spec prog 82 #[(.slice p1 n1 c1), (.int .i64 x12b)] σ1 (Cont R (fun v_2 σ1_2 => ∃ x21a : Int, ∃ x21b : Int, ∃ x21c : Int, v_2 = (.tuple #[(.int .u64 x21a), (.int .i64 x21b), (.int .i64 x21c)]) ∧ ((x21c : Int) ≠ 0 → R (.returned (.bool false)) σ1_2) ∧ (¬ ((x21c : Int) ≠ 0) → Spec prog 81 #[(.slice p1 n1 c1), (.int .i64 x21b)] σ1_2 (Cont R (fun v_3 σ1_3 => ∃ s30a : ByteArray, ∃ x30b : Int, ∃ x30c : Int, v_3 = (.tuple #[(.string s30a), (.int .i64 x30b), (.int .i64 x30c)]) ∧ ((x30c : Int) ≠ 0 → R (.returned (.bool false)) σ1_3) ∧ (¬ ((x30c : Int) ≠ 0) → ((x30b : Int) ≠ (n1 : Int) → R (.returned (.bool false)) σ1_3) ∧ (¬ ((x30b : Int) ≠ (n1 : Int)) → Spec prog 61 #[(.string s12a)] σ1_3 (Cont R (fun v_4 σ1_4 => ∃ t44 : Bool, v_4 = (.bool t44) ∧ (t44 = false → R (.returned (.bool false)) σ1_4) ∧ (t44 = true → ((x21a : Int) = 0 → R (.returned (.bool false)) σ1_4) ∧ (¬ ((x21a : Int) = 0) → ∃ (b52 o52 : Nat), q0 = some ⟨b52, o52, none⟩ ∧ ∃ m54 : Option Nat, Hp.ld σ1_4 ⟨b52, (o52 + 2), none⟩ = some (.map m54) ∧ Eff prog (convert 9 23 (.string s30a)) σ1_4 (fun v_5 σ1_5 => ∃ p57 : Option Addr, ∃ n57 : Nat, ∃ c57 : Nat, v_5 = (.slice p57 n57 c57) ∧ Eff prog (Instr.mapUpdate 89 (.map m54) (.string s12a) (.agg #[(.slice p57 n57 c57), (.int .u64 x21a)])) σ1_5 (fun _ σ1_6 => R (.returned (.bool true)) σ1_6))))))))))))))))) : Spec prog 58 #[(.pointer q0), (.slice p1 n1 c1)] σ R := by
 refine Spec.of_at (fn := f58) (c := K0) func58 (by kernel_rfl) (Nat.le_of_ble_eq_true (by kernel_rfl)) (fun e he => ?_)
 refine At.ofL (l := [(0, (.pointer q0)), (1, (.slice p1 n1 c1))]) ⟨he 0, he 1, trivial⟩ (fun J => ?_)
 show At (gl R) _ _ _ _
 refine At.s K1 K2 ?_
 refine At.rg 0 [0] ?_
 refine Seq.u 4 (.bool false) ?_
 refine Seq.done ?_
 refine At.s K3 K4 ?_
 refine At.rg 1 [0, 1, 2, 3, 4, 5, 6, 7, 8] ?_
 refine Seq.u 11 (.slice p1 n1 c1) ?_
 refine Seq.o ?_
 refine OpTo.cl (some 12) call81 (h.cont fun v σ1 h2 => ?_); replace h := h2; clear h2
 obtain ⟨s12a, x12b, x12c, rfl, h⟩ := h
 refine Seq.us [(10, .tuple #[(.string s12a), (.int .i64 x12b), (.int .i64 x12c)]), (13, .string s12a), (14, .int .i64 x12b), (15, .int .i64 x12c), (5, .string s12a), (6, .int .i64 x12b), (7, .int .i64 x12c)] ?_
 refine Seq.done ?_
 refine At.s K5 K12 ?_
 refine At.s K6 K7 ?_
 refine At.rg 2 [0, 1] ?_
 refine Seq.us [(16, .int .i64 x12c), (17, .bool (decide ((x12c : Int) ≠ 0)))] ?_
 refine Seq.done ?_
 cases hb : (decide ((x12c : Int) ≠ 0)) with
 | true =>
  replace h := h.1 (of_decide_eq_true hb)
  refine At.cT 17 K8 K11 ?_
  refine At.s K9 K10 ?_
  refine At.rg 3 [0] ?_
  refine Seq.u 4 (.bool false) ?_
  refine Seq.done ?_
  exact At.rt [.tmp 4] [(.bool false)] func58 ⟨_, rfl, rfl⟩ h
 | false =>
  replace h := h.2 (of_decide_eq_false hb)
  refine At.cF 17 K8 K11 ?_
  refine At.skip ?_
  refine At.s K13 K14 ?_
  refine At.rg 4 [0, 1, 2, 3, 4, 5, 6, 7, 8, 9] ?_
  refine Seq.us [(19, .slice p1 n1 c1), (20, .int .i64 x12b)] ?_
  refine Seq.o ?_
  refine OpTo.cl (some 21) call82 (h.cont fun v_2 σ1_2 h2 => ?_); replace h := h2; clear h2
  obtain ⟨x21a, x21b, x21c, rfl, h⟩ := h
  refine Seq.us [(18, .tuple #[(.int .u64 x21a), (.int .i64 x21b), (.int .i64 x21c)]), (22, .int .u64 x21a), (23, .int .i64 x21b), (24, .int .i64 x21c), (8, .int .u64 x21a), (6, .int .i64 x21b), (7, .int .i64 x21c)] ?_
  refine Seq.done ?_
  refine At.s K15 K22 ?_
  refine At.s K16 K17 ?_
  refine At.rg 5 [0, 1] ?_
  refine Seq.us [(25, .int .i64 x21c), (26, .bool (decide ((x21c : Int) ≠ 0)))] ?_
  refine Seq.done ?_
  cases hb : (decide ((x21c : Int) ≠ 0)) with
  | true =>
   replace h := h.1 (of_decide_eq_true hb)
   refine At.cT 26 K18 K21 ?_
   refine At.s K19 K20 ?_
   refine At.rg 6 [0] ?_
   refine Seq.u 4 (.bool false) ?_
   refine Seq.done ?_
   exact At.rt [.tmp 4] [(.bool false)] func58 ⟨_, rfl, rfl⟩ h
  | false =>
   replace h := h.2 (of_decide_eq_false hb)
   refine At.cF 26 K18 K21 ?_
   refine At.skip ?_
   refine At.s K23 K24 ?_
   refine At.rg 7 [0, 1, 2, 3, 4, 5, 6, 7, 8, 9] ?_
   refine Seq.us [(28, .slice p1 n1 c1), (29, .int .i64 x21b)] ?_
   refine Seq.o ?_
   refine OpTo.cl (some 30) call81 (h.cont fun v_3 σ1_3 h2 => ?_); replace h := h2; clear h2
   obtain ⟨s30a, x30b, x30c, rfl, h⟩ := h
   refine Seq.us [(27, .tuple #[(.string s30a), (.int .i64 x30b), (.int .i64 x30c)]), (31, .string s30a), (32, .int .i64 x30b), (33, .int .i64 x30c), (9, .string s30a), (6, .int .i64 x30b), (7, .int .i64 x30c)] ?_
   refine Seq.done ?_
   refine At.s K25 K32 ?_
   refine At.s K26 K27 ?_
   refine At.rg 8 [0, 1, 2, 3, 4, 5, 6, 7, 8, 9, 10, 11, 12, 13, 14, 15, 16] ?_
   refine Seq.us [(34, .int .i64 x30c), (35, .bool (decide ((x30c : Int) ≠ 0))), (36, .bool (decide ((x30c : Int) ≠ 0)))] ?_
   cases hb : (decide ((x30c : Int) ≠ 0)) with
   | true =>
    replace h := h.1 (of_decide_eq_true hb)
    refine Seq.n 37 ?_
    refine Seq.n 38 ?_
    refine Seq.n 39 ?_
    refine Seq.n 40 ?_
    refine Seq.us [(41, .bool true), (42, .bool true)] ?_
    refine Seq.n 43 ?_
    refine Seq.n 44 ?_
    refine Seq.n 45 ?_
    refine Seq.us [(46, .bool true), (47, .bool true)] ?_
    refine Seq.n 48 ?_
    refine Seq.n 49 ?_
    refine Seq.u 50 (.bool true) ?_
    refine Seq.done ?_
    refine At.L [(0, (.pointer q0)), (5, (.string s12a)), (8, (.int .u64 x21a)), (9, (.string s30a)), (50, (.bool true))] fun J => ?_
    refine At.cT 50 K28 K31 ?_
    refine At.s K29 K30 ?_
    refine At.rg 9 [0] ?_
    refine Seq.u 4 (.bool false) ?_
    refine Seq.done ?_
    exact At.rt [.tmp 4] [(.bool false)] func58 ⟨_, rfl, rfl⟩ h
   | false =>
    replace h := h.2 (of_decide_eq_false hb)
    refine Seq.us [(37, .int .i64 x30b), (38, .slice p1 n1 c1)] ?_
    refine Seq.zg 39 (.call { callee := .builtin .len, args := #[(.tmp 38)], argTypes := #[23] }) 3 (2, false) (.int .i64 (n1 : Int)) (Y.lenS underlying23 rfl rfl) ?_
    refine Seq.us [(40, .bool (decide ((x30b : Int) ≠ (n1 : Int)))), (41, .bool (decide ((x30b : Int) ≠ (n1 : Int)))), (42, .bool (decide ((x30b : Int) ≠ (n1 : Int))))] ?_
    cases hb : (decide ((x30b : Int) ≠ (n1 : Int))) with
    | true =>
     replace h := h.1 (of_decide_eq_true hb)
     refine Seq.n 43 ?_
     refine Seq.n 44 ?_
     refine Seq.n 45 ?_
     refine Seq.us [(46, .bool true), (47, .bool true)] ?_
     refine Seq.n 48 ?_
     refine Seq.n 49 ?_
     refine Seq.u 50 (.bool true) ?_
     refine Seq.done ?_
     refine At.cT 50 K28 K31 ?_
     refine At.s K29 K30 ?_
     refine At.rg 9 [0] ?_
     refine Seq.u 4 (.bool false) ?_
     refine Seq.done ?_
     exact At.rt [.tmp 4] [(.bool false)] func58 ⟨_, rfl, rfl⟩ h
    | false =>
     replace h := h.2 (of_decide_eq_false hb)
     refine Seq.u 43 (.string s12a) ?_
     refine Seq.o ?_
     refine OpTo.cl (some 44) call61 (h.cont fun v_4 σ1_4 h2 => ?_); replace h := h2; clear h2
     obtain ⟨t44, rfl, h⟩ := h
     refine Seq.us [(45, .bool (!t44)), (46, .bool (!t44)), (47, .bool (!t44))] ?_
     cases hb : (!t44) with
     | true =>
      replace h := h.1 (Tw.nt hb)
      refine Seq.n 48 ?_
      refine Seq.n 49 ?_
      refine Seq.u 50 (.bool true) ?_
      refine Seq.done ?_
      refine At.cT 50 K28 K31 ?_
      refine At.s K29 K30 ?_
      refine At.rg 9 [0] ?_
      refine Seq.u 4 (.bool false) ?_
      refine Seq.done ?_
      exact At.rt [.tmp 4] [(.bool false)] func58 ⟨_, rfl, rfl⟩ h
     | false =>
      replace h := h.2 (Tw.nf hb)
      refine Seq.us [(48, .int .u64 x21a), (49, .bool (decide ((x21a : Int) = 0))), (50, .bool (decide ((x21a : Int) = 0)))] ?_
      refine Seq.done ?_
      cases hb : (decide ((x21a : Int) = 0)) with
      | true =>
       replace h := h.1 (of_decide_eq_true hb)
       refine At.cT 50 K28 K31 ?_
       refine At.s K29 K30 ?_
       refine At.rg 9 [0] ?_
       refine Seq.u 4 (.bool false) ?_
       refine Seq.done ?_
       exact At.rt [.tmp 4] [(.bool false)] func58 ⟨_, rfl, rfl⟩ h
      | false =>
       replace h := h.2 (of_decide_eq_false hb)
       refine At.cF 50 K28 K31 ?_
       refine At.skip ?_
       refine At.s K33 K34 ?_
       refine At.rg 10 [0, 1, 2, 3, 4, 5, 6, 7, 8, 9] ?_
       refine Seq.u 51 (.pointer q0) ?_
       obtain ⟨b52, o52, hq, h⟩ := h
       subst hq
       refine Seq.z 52 (.nilCheck (.tmp 51)) 0 (.pointer (some ⟨b52, o52, none⟩)) (Y.nilCheck rfl) ?_
       refine Seq.z 53 (.fieldAddr 91 (.tmp 52) 2) 0 (.pointer (some ⟨b52, (o52 + 2), none⟩)) (Y.fieldAddr (fd := (fieldOf prog 91 2)) underlying91 (by kernel_rfl) sizeOf89 rfl rfl) ?_
       obtain ⟨m54, hl, h⟩ := h
       refine Seq.z 54 (.load 89 (.tmp 53)) 89 (.map m54) (Y.ld isAgg89 rfl hl) ?_
       refine Seq.us [(55, .string s12a), (56, .string s30a)] ?_
       refine Seq.o ?_
       refine OpTo.eff (d := (some 57)) (op := (.convert 9 23 (.tmp 56))) (ty := 23) (gd := none) (by kernel_rfl) rfl rfl (convert 9 23 (.string s30a)) (fun o ho ht => by simp only [execOp, ho]; rfl) (h.mono (fun v_5 σ1_5 h2 => ?_)); replace h := h2; clear h2
       obtain ⟨p57, n57, c57, rfl, h⟩ := h
       refine Seq.u 58 (.int .u64 x21a) ?_
       refine Seq.z 59 (.build 94 #[(0, (.tmp 57)), (1, (.tmp 58))]) 94 (.agg #[(.slice p57 n57 c57), (.int .u64 x21a)]) (Y.build (vs := [(0, (.slice p57 n57 c57)), (1, (.int .u64 x21a))]) rfl (by kernel_rfl)) ?_
       refine Seq.o ?_
       refine OpTo.effU (d := none) (op := (.mapUpdate 89 (.tmp 54) (.tmp 55) (.tmp 59))) (ty := 0) (gd := none) (by kernel_rfl) rfl rfl (Instr.mapUpdate 89 (.map m54) (.string s12a) (.agg #[(.slice p57 n57 c57), (.int .u64 x21a)])) (fun o ho ht => by simp only [execOp, ho]; rfl) (h.mono (fun _ σ1_6 h2 => ?_)); replace h := h2; clear h2
       refine Seq.done ?_
       refine At.L [] fun J => ?_
       refine At.s K35 K36 ?_
       refine At.rg 11 [0] ?_
       refine Seq.u 4 (.bool true) ?_
       refine Seq.done ?_
       exact At.rt [.tmp 4] [(.bool true)] func58 ⟨_, rfl, rfl⟩ h
end kv_Store_learn
namespace kv_record
abbrev fid : Nat := 59
noncomputable def K0 := f59.body.getD .skip
def K1 := cl K0
def K2 := cr K0
def K3 := cl K2
def K4 := cr K2
abbrev gl (R : Ending → Hp → Prop) : Gl := Gl.fn prog 59 14 R
theorem start {R : Ending → Hp → Prop} {s0 : ByteArray} {p1a : Option Addr} {n1a c1a : Nat} {x1b : Int} {σ : Hp} (h : ∃ s12 : ByteArray, YF prog (convert 23 9 (.slice p1a n1a c1a)) σ (.string s12) ∧ Spec prog 83 #[(.slice none 0 0), (.string s0)] σ (Cont R (fun v σ1 => ∃ p6 : Option Addr, ∃ n6 : Nat, ∃ c6 : Nat, v = (.slice p6 n6 c6) ∧ Ext σ σ1 ∧ Spec prog 48 #[(.slice p6 n6 c6), (.int .u64 x1b)] σ1 (Cont R (fun v_2 σ1_2 => ∃ p9 : Option Addr, ∃ n9 : Nat, ∃ c9 : Nat, v_2 = (.slice p9 n9 c9) ∧ Ext σ1 σ1_2 ∧ Spec prog 83 #[(.slice p9 n9 c9), (.string s12)] σ1_2 (Cont R (fun v_3 σ1_3 => ∃ p13 : Option Addr, ∃ n13 : Nat, ∃ c13 : Nat, v_3 = (.slice p13 n13 c13) ∧ Ext σ1_2 σ1_3 ∧ R (.returned (.slice p13 n13 c13)) σ1_3))))))) : Spec prog 59 #[(.string s0), (.agg #[(.slice p1a n1a c1a), (.int .u64 x1b)])] σ R := by
 refine Spec.of_at (fn := f59) (c := K0) func59 (by kernel_rfl) (Nat.le_of_ble_eq_true (by kernel_rfl)) (fun e he => ?_)
 refine At.ofL (l := [(0, (.string s0)), (1, (.agg #[(.slice p1a n1a c1a), (.int .u64 x1b)]))]) ⟨he 0, he 1, trivial⟩ (fun J => ?_)
 show At (gl R) _ _ _ _
 refine At.s K1 K2 ?_
 refine At.rg 0 [0, 1] ?_
 refine Seq.o ?_
 refine OpTo.box (T := 94) (d := (some 3)) (ty := 0) (x := (.tmp 1)) (gd := none) (cs := #[(.slice p1a n1a c1a), (.int .u64 x1b)]) (by kernel_rfl) rfl rfl rfl (fun b3 => ?_)
 refine Seq.u 4 (.slice none 0 0) ?_
 refine Seq.done ?_
 refine At.s K3 K4 ?_
 refine At.draw (id := 1) (ops := cO K3) (n := 10) (q := none) (plan := [(0, true), (2, true), (3, true), (5, true), (6, true), (7, true), (1, false), (4, false), (8, false), (9, true)]) (tl := []) mixed (by kernel_rfl) (by kernel_rfl) ?_
 refine Head.u 5 (.string s0) ?_
 refine Head.z 7 (.fieldAddr 94 (.tmp 3) 1) 0 (.pointer (some ⟨b3, 1, none⟩)) (Y.fieldAddr (fd := (fieldOf prog 94 1)) underlying94 (by kernel_rfl) sizeOf56 rfl rfl) ?_
 refine Head.z 8 (.load 56 (.tmp 7)) 56 (.int .u64 x1b) (Y.ldb isAgg56 rfl (List.mem_cons_self ..) rfl) ?_
 refine Head.z 10 (.fieldAddr 94 (.tmp 3) 0) 0 (.pointer (some ⟨b3, 0, none⟩)) (Y.fieldAddr (fd := (fieldOf prog 94 0)) underlying94 (by kernel_rfl) sizeOf23 rfl rfl) ?_
 refine Head.z 11 (.load 23 (.tmp 10)) 23 (.slice p1a n1a c1a) (Y.ldb isAgg23 rfl (List.mem_cons_self ..) rfl) ?_
 obtain ⟨s12, hy, h⟩ := h
 refine Head.y (d := (some 12)) (op := (.convert 23 9 (.tmp 11))) (ty := 9) (v := (.string s12)) (by kernel_rfl) rfl (Yd.any (m := convert 23 9 (.slice p1a n1a c1a)) (fun o ho ht => by simp only [execOp, ho]; rfl) hy) ?_
 refine Head.o (q' := none) rfl ?_
 refine OpTo.cl (some 6) call83 (h.cont fun v σ1 h2 => ?_); replace h := h2; clear h2
 obtain ⟨p6, n6, c6, rfl, hk, h⟩ := h
 refine ⟨⟨fun _ h => h, hk⟩, ?_⟩
 refine Head.o (q' := none) rfl ?_
 refine OpTo.cl (some 9) call48 (h.cont fun v_2 σ1_2 h2 => ?_); replace h := h2; clear h2
 obtain ⟨p9, n9, c9, rfl, hk, h⟩ := h
 refine ⟨⟨fun _ h => h, hk⟩, ?_⟩
 refine Head.o (q' := none) rfl ?_
 refine OpTo.cl (some 13) call83 (h.cont fun v_3 σ1_3 h2 => ?_); replace h := h2; clear h2
 obtain ⟨p13, n13, c13, rfl, hk, h⟩ := h
 refine ⟨⟨fun _ h => h, hk⟩, ?_⟩
 refine Head.u 4 (.slice p13 n13 c13) ?_
 refine Head.done ?_
 refine Seq.done ?_
 exact At.rt [.tmp 4] [(.slice p13 n13 c13)] func59 ⟨_, rfl, rfl⟩ h
end kv_record

end
end TwW
end
section
/- written by gen.py: program points and what leads to them -/
set_option linter.unusedVariables false
set_option maxRecDepth 100000
namespace TwW
open Go Tw Go.Proofs.Tryz
noncomputable section
namespace kv_Store_all
abbrev fid : Nat := 60
noncomputable def K0 := f60.body.getD .skip
def K1 := cl K0
def K2 := cr K0
def K3 := cl K2
def K4 := cr K2
def K5 := cl K4
def K6 := cl K5
def K7 := cr K5
def K8 := cl K7
def K9 := cl K8
def K10 := cl K9
def K11 := cr K9
def K12 := cl K11
def K13 := cl K12
def K14 := cr K12
def K15 := cr K11
def K16 := cl K15
def K17 := cl K16
def K18 := cr K16
def K19 := cr K4
def K20 := cl K19
def K21 := cr K19
def K22 := cl K21
def K23 := cr K21
def K24 := cl K23
def K25 := cl K24
def K26 := cr K24
def K27 := cl K26
def K28 := cl K27
def K29 := cl K28
def K30 := cr K28
def K31 := cl K30
def K32 := cl K31
def K33 := cr K31
def K34 := cr K30
def K35 := cl K34
def K36 := cl K35
def K37 := cl K36
def K38 := cr K36
def K39 := cr K34
def K40 := cr K23
def K41 := cl K40
def K42 := cr K40
abbrev gl (R : Ending → Hp → Prop) : Gl := Gl.fn prog 60 42 R
def pt10 (R : Ending → Hp → Prop) (q0 p3 : Option Addr) (n3 c3 : Nat) (v12 : Value) (σ : Hp) : Prop := ∀ (J : Env), At (gl R) [.code K10, .code K11, .inLoop K9, .inBlock 0, .code K19] (upds J [(0, (.pointer q0)), (3, (.slice p3 n3 c3)), (12, v12)]) [] σ
def pt29 (R : Ending → Hp → Prop) (q0 p5 : Option Addr) (n5 c5 : Nat) (p23 : Option Addr) (n23 c23 : Nat) (x24 x25 : Int) (σ : Hp) : Prop := ∀ (J : Env), At (gl R) [.code K29, .code K30, .inLoop K28, .inBlock 2, .code K40] (upds J [(0, (.pointer q0)), (5, (.slice p5 n5 c5)), (23, (.slice p23 n23 c23)), (24, (.int .i64 x24)), (25, (.int .i64 x25))]) [] σ
theorem start {R : Ending → Hp → Prop} {q0 : Option Addr} {σ : Hp} (h : ∃ (b9 o9 : Nat), q0 = some ⟨b9, o9, none⟩ ∧ ∃ m11 : Option Nat, Hp.ld σ ⟨b9, (o9 + 2), none⟩ = some (.map m11) ∧ Eff prog (Instr.range 89 (.map m11)) σ (fun v σ1 => ∃ v12 : Value, v12 = v ∧ pt10 R ((some ⟨b9, o9, none⟩)) none 0 0 v12 σ1)) : Spec prog 60 #[(.pointer q0)] σ R := by
 refine Spec.of_at (fn := f60) (c := K0) func60 (by kernel_rfl) (Nat.le_of_ble_eq_true (by kernel_rfl)) (fun e he => ?_)
 refine At.ofL (l := [(0, (.pointer q0))]) ⟨he 0, trivial⟩ (fun J => ?_)
 show At (gl R) _ _ _ _
 refine At.s K1 K2 ?_
 refine At.rg 0 [0] ?_
 refine Seq.u 2 (.slice none 0 0) ?_
 refine Seq.done ?_
 refine At.s K3 K4 ?_
 refine At.rg 1 [0] ?_
 refine Seq.u 3 (.slice none 0 0) ?_
 refine Seq.done ?_
 refine At.s K5 K19 ?_
 refine At.s K6 K7 ?_
 refine At.rg 2 [0, 1, 2, 3, 4] ?_
 refine Seq.u 8 (.pointer q0) ?_
 obtain ⟨b9, o9, hq, h⟩ := h
 subst hq
 refine Seq.z 9 (.nilCheck (.tmp 8)) 0 (.pointer (some ⟨b9, o9, none⟩)) (Y.nilCheck rfl) ?_
 refine Seq.z 10 (.fieldAddr 91 (.tmp 9) 2) 0 (.pointer (some ⟨b9, (o9 + 2), none⟩)) (Y.fieldAddr (fd := (fieldOf prog 91 2)) underlying91 (by kernel_rfl) sizeOf89 rfl rfl) ?_
 obtain ⟨m11, hl, h⟩ := h
 refine Seq.z 11 (.load 89 (.tmp 10)) 89 (.map m11) (Y.ld isAgg89 rfl hl) ?_
 refine Seq.o ?_
 refine OpTo.eff (d := (some 12)) (op := (.range 89 (.tmp 11))) (ty := 0) (gd := none) (by kernel_rfl) rfl rfl (Instr.range 89 (.map m11)) (fun o ho ht => by simp only [execOp, ho]; rfl) (h.mono (fun v σ1 h2 => ?_)); replace h := h2; clear h2
 obtain ⟨v12, rfl, h⟩ := h
 refine Seq.done ?_
 refine At.b 0 K8 ?_
 refine At.loop (x := K9) (by kernel_rfl) ?_
 refine At.s K10 K11 ?_
 exact At.v [(0, (.pointer (some ⟨b9, o9, none⟩))), (3, (.slice none 0 0)), (12, v12)] (h _)
theorem pt10_of {R : Ending → Hp → Prop} {q0 p3 : Option Addr} {n3 c3 : Nat} {v12 : Value} {σ : Hp} (h : Eff prog (Instr.next v12 false 0) σ (fun v σ1 => (v = (.tuple #[(.bool false)]) ∧ Spec prog 50 #[(.slice p3 n3 c3)] σ1 (Cont R (fun v_2 σ1_2 => v_2 = (.tuple #[]) ∧ pt29 R q0 none 0 0 p3 n3 c3 ((n3 : Int)) 0 σ1_2))) ∨ (∃ s13a : ByteArray, ∃ p13ba : Option Addr, ∃ n13ba : Nat, ∃ c13ba : Nat, ∃ x13bb : Int, v = (.tuple #[(.bool true), (.string s13a), (.agg #[(.slice p13ba n13ba c13ba), (.int .u64 x13bb)])]) ∧ Eff prog (Instr.entry v12) σ1 (fun v_2 σ1_2 => ∃ s15a : ByteArray, ∃ p15ba : Option Addr, ∃ n15ba : Nat, ∃ c15ba : Nat, ∃ x15bb : Int, v_2 = (.tuple #[(.string s15a), (.agg #[(.slice p15ba n15ba c15ba), (.int .u64 x15bb)])]) ∧ ∀ b19 : Nat, σ1_2 b19 = none → Eff prog (Builtin.append_ #[36, 36] 36 #[(.slice p3 n3 c3), (.slice (some ⟨b19, 0, none⟩) 1 1)]) (Hp.set σ1_2 b19 (.cells #[(.string s15a)] 9 (0, 0))) (fun v_3 σ1_3 => ∃ p20 : Option Addr, ∃ n20 : Nat, ∃ c20 : Nat, v_3 = (.slice p20 n20 c20) ∧ pt10 R q0 p20 n20 c20 v12 σ1_3))))) : pt10 R q0 p3 n3 c3 v12 σ := by
  intro J
  show At (gl R) _ _ _ _
  refine At.rg 3 [0, 1] ?_
  refine Seq.o ?_
  refine OpTo.eff (d := (some 13)) (op := (.next (.tmp 12) false)) (ty := 0) (gd := none) (by kernel_rfl) rfl rfl (Instr.next v12 false 0) (fun o ho ht => by simp only [execOp, ho, ht]; rfl) (h.mono (fun v σ1 h2 => ?_)); replace h := h2; clear h2
  rcases h with ⟨rfl, h⟩ | ⟨s13a, p13ba, n13ba, c13ba, x13bb, rfl, h⟩
  · refine Seq.y (d := (some 14)) (op := (.extract (.tmp 13) 0)) (ty := 4) (v := (.bool false)) (by kernel_rfl) rfl (Y.extract rfl rfl) ?_
    refine Seq.done ?_
    refine At.s K12 K15 ?_
    refine At.cF 14 K13 K14 ?_
    refine At.x 0 [.code K19] ?_
    refine At.s K20 K21 ?_
    refine At.rg 6 [0, 1] ?_
    refine Seq.u 21 (.slice p3 n3 c3) ?_
    refine Seq.o ?_
    refine OpTo.cl (some 22) call50 (h.cont fun v_2 σ1_2 h2 => ?_); replace h := h2; clear h2
    obtain ⟨rfl, h⟩ := h
    refine Seq.done ?_
    refine At.s K22 K23 ?_
    refine At.rg 7 [0] ?_
    refine Seq.u 5 (.slice none 0 0) ?_
    refine Seq.done ?_
    refine At.s K24 K40 ?_
    refine At.s K25 K26 ?_
    refine At.rg 8 [0, 1, 2] ?_
    refine Seq.u 23 (.slice p3 n3 c3) ?_
    refine Seq.z 24 (.call { callee := .builtin .len, args := #[(.tmp 23)], argTypes := #[36] }) 3 (.int .i64 (n3 : Int)) (Y.lenS underlying36 rfl rfl) ?_
    refine Seq.u 25 (.int .i64 0) ?_
    refine Seq.done ?_
    refine At.b 2 K27 ?_
    refine At.loop (x := K28) (by kernel_rfl) ?_
    refine At.s K29 K30 ?_
    exact At.v [(0, (.pointer q0)), (5, (.slice none 0 0)), (23, (.slice p3 n3 c3)), (24, (.int .i64 (n3 : Int))), (25, (.int .i64 0))] (h _)
  · refine Seq.y (d := (some 14)) (op := (.extract (.tmp 13) 0)) (ty := 4) (v := (.bool true)) (by kernel_rfl) rfl (Y.extract rfl rfl) ?_
    refine Seq.done ?_
    refine At.s K12 K15 ?_
    refine At.cT 14 K13 K14 ?_
    refine At.skip ?_
    refine At.b 1 K16 ?_
    refine At.s K17 K18 ?_
    refine At.rg 4 [0, 1, 2] ?_
    refine Seq.o ?_
    refine OpTo.eff (d := (some 15)) (op := (.entry (.tmp 12))) (ty := 0) (gd := none) (by kernel_rfl) rfl rfl (Instr.entry v12) (fun o ho ht => by simp only [execOp, ho]; rfl) (h.mono (fun v_2 σ1_2 h2 => ?_)); replace h := h2; clear h2
    obtain ⟨s15a, p15ba, n15ba, c15ba, x15bb, rfl, h⟩ := h
    refine Seq.us [(16, .string s15a), (4, .string s15a)] ?_
    refine Seq.done ?_
    refine At.rg 5 [0, 1, 2, 3, 4] ?_
    refine Seq.us [(17, .slice p3 n3 c3), (18, .string s15a)] ?_
    refine Seq.o ?_
    refine OpTo.bslice (T := 36) (E := 9) (m := 1) (ps := #[(0, (.tmp 18))]) (d := (some 19)) (ty := 36) (gd := none) (vs := [(0, (.string s15a))]) (cs := #[(.string s15a)]) underlying36 (by kernel_rfl) rfl rfl rfl (by kernel_rfl) (fun b19 hn => ?_)
    replace h := h b19 hn
    refine Seq.o ?_
    refine OpTo.eff (d := (some 20)) (op := (.call { callee := .builtin .append, args := #[(.tmp 17), (.tmp 19)], argTypes := #[36, 36] })) (ty := 36) (gd := none) (by kernel_rfl) rfl rfl (Builtin.append_ #[36, 36] 36 #[(.slice p3 n3 c3), (.slice (some ⟨b19, 0, none⟩) 1 1)]) (fun o ho ht => exec_b_append rfl rfl o ho ht) (h.mono (fun v_3 σ1_3 h2 => ?_)); replace h := h2; clear h2
    obtain ⟨p20, n20, c20, rfl, h⟩ := h
    refine Seq.u 3 (.slice p20 n20 c20) ?_
    refine Seq.done ?_
    refine At.inBlock ?_
    refine At.inLoop ?_
    refine At.s K10 K11 ?_
    exact At.v [(0, (.pointer q0)), (3, (.slice p20 n20 c20)), (12, v12)] (h _)
theorem pt29_of {R : Ending → Hp → Prop} {q0 p5 p23 : Option Addr} {n5 c5 n23 c23 : Nat} {x24 x25 : Int} {σ : Hp} (h : ((x25 : Int) < x24 → ∃ (b27 o27 : Nat), p23 = some ⟨b27, o27, none⟩ ∧ ((0 : Int) ≤ x25 ∧ x25 < (n23 : Int)) ∧ ∃ s28 : ByteArray, Hp.ld σ ⟨b27, (o27 + Int.toNat x25 * 1), none⟩ = some (.string s28) ∧ ∃ (b32 o32 : Nat), q0 = some ⟨b32, o32, none⟩ ∧ ∃ m34 : Option Nat, Hp.ld σ ⟨b32, (o32 + 2), none⟩ = some (.map m34) ∧ Eff prog (Instr.lookup 89 (.map m34) (.string s28) false) σ (fun v σ1 => ∃ p36a : Option Addr, ∃ n36a : Nat, ∃ c36a : Nat, ∃ x36b : Int, v = (.agg #[(.slice p36a n36a c36a), (.int .u64 x36b)]) ∧ Spec prog 59 #[(.string s28), (.agg #[(.slice p36a n36a c36a), (.int .u64 x36b)])] σ1 (Cont R (fun v_2 σ1_2 => ∃ p37 : Option Addr, ∃ n37 : Nat, ∃ c37 : Nat, v_2 = (.slice p37 n37 c37) ∧ ∀ b38 : Nat, σ1_2 b38 = none → Eff prog (Builtin.append_ #[22, 22] 22 #[(.slice p5 n5 c5), (.slice (some ⟨b38, 0, none⟩) 1 1)]) (Hp.set σ1_2 b38 (.cells #[(.slice p37 n37 c37)] 23 (0, 0))) (fun v_3 σ1_3 => ∃ p39 : Option Addr, ∃ n39 : Nat, ∃ c39 : Nat, v_3 = (.slice p39 n39 c39) ∧ I64 (x25 + 1) ∧ pt29 R ((some ⟨b32, o32, none⟩)) p39 n39 c39 ((some ⟨b27, o27, none⟩)) n23 c23 x24 ((x25 + 1)) σ1_3))))) ∧ (¬ ((x25 : Int) < x24) → R (.returned (.slice p5 n5 c5)) σ)) : pt29 R q0 p5 n5 c5 p23 n23 c23 x24 x25 σ := by
 intro J
 show At (gl R) _ _ _ _
 refine At.rg 9 [0] ?_
 refine Seq.u 26 (.bool (decide ((x25 : Int) < x24))) ?_
 refine Seq.done ?_
 refine At.s K31 K34 ?_
 cases hb : (decide ((x25 : Int) < x24)) with
 | true =>
  replace h := h.1 (of_decide_eq_true hb)
  refine At.cT 26 K32 K33 ?_
  refine At.skip ?_
  refine At.s K35 K39 ?_
  refine At.b 3 K36 ?_
  refine At.s K37 K38 ?_
  refine At.rg 10 [0, 1, 2] ?_
  obtain ⟨b27, o27, hq, h⟩ := h
  subst hq
  obtain ⟨hi, h⟩ := h
  refine Seq.z 27 (.indexAddr 36 (.tmp 23) (.tmp 25)) 0 (.pointer (some ⟨b27, (o27 + Int.toNat x25 * 1), none⟩)) (Y.idx underlying36 sizeOf9 rfl rfl hi rfl) ?_
  obtain ⟨s28, hl, h⟩ := h
  refine Seq.z 28 (.load 9 (.tmp 27)) 9 (.string s28) (Y.ld isAgg9 rfl hl) ?_
  refine Seq.u 7 (.string s28) ?_
  refine Seq.done ?_
  refine At.rg 11 [0, 1, 2, 3, 4, 5, 6, 7, 8, 9, 10, 11] ?_
  refine Seq.us [(29, .slice p5 n5 c5), (30, .string s28), (31, .pointer q0)] ?_
  obtain ⟨b32, o32, hq, h⟩ := h
  subst hq
  refine Seq.z 32 (.nilCheck (.tmp 31)) 0 (.pointer (some ⟨b32, o32, none⟩)) (Y.nilCheck rfl) ?_
  refine Seq.z 33 (.fieldAddr 91 (.tmp 32) 2) 0 (.pointer (some ⟨b32, (o32 + 2), none⟩)) (Y.fieldAddr (fd := (fieldOf prog 91 2)) underlying91 (by kernel_rfl) sizeOf89 rfl rfl) ?_
  obtain ⟨m34, hl, h⟩ := h
  refine Seq.z 34 (.load 89 (.tmp 33)) 89 (.map m34) (Y.ld isAgg89 rfl hl) ?_
  refine Seq.u 35 (.string s28) ?_
  refine Seq.o ?_
  refine OpTo.eff (d := (some 36)) (op := (.lookup 89 (.tmp 34) (.tmp 35) false)) (ty := 94) (gd := none) (by kernel_rfl) rfl rfl (Instr.lookup 89 (.map m34) (.string s28) false) (fun o ho ht => by simp only [execOp, ho]; rfl) (h.mono (fun v σ1 h2 => ?_)); replace h := h2; clear h2
  obtain ⟨p36a, n36a, c36a, x36b, rfl, h⟩ := h
  refine Seq.o ?_
  refine OpTo.cl (some 37) call59 (h.cont fun v_2 σ1_2 h2 => ?_); replace h := h2; clear h2
  obtain ⟨p37, n37, c37, rfl, h⟩ := h
  refine Seq.o ?_
  refine OpTo.bslice (T := 22) (E := 23) (m := 1) (ps := #[(0, (.tmp 37))]) (d := (some 38)) (ty := 22) (gd := none) (vs := [(0, (.slice p37 n37 c37))]) (cs := #[(.slice p37 n37 c37)]) underlying22 (by kernel_rfl) rfl rfl rfl (by kernel_rfl) (fun b38 hn => ?_)
  replace h := h b38 hn
  refine Seq.o ?_
  refine OpTo.eff (d := (some 39)) (op := (.call { callee := .builtin .append, args := #[(.tmp 29), (.tmp 38)], argTypes := #[22, 22] })) (ty := 22) (gd := none) (by kernel_rfl) rfl rfl (Builtin.append_ #[22, 22] 22 #[(.slice p5 n5 c5), (.slice (some ⟨b38, 0, none⟩) 1 1)]) (fun o ho ht => exec_b_append rfl rfl o ho ht) (h.mono (fun v_3 σ1_3 h2 => ?_)); replace h := h2; clear h2
  obtain ⟨p39, n39, c39, rfl, h⟩ := h
  refine Seq.u 5 (.slice p39 n39 c39) ?_
  refine Seq.done ?_
  refine At.inBlock ?_
  refine At.rg 12 [0, 1] ?_
  obtain ⟨hi, h⟩ := h
  refine Seq.z 40 (.binOp .add 3 (.tmp 25) (.const (.int .i64 1)) 3) 3 (.int .i64 (x25 + 1)) (Y.addI hi rfl rfl) ?_
  refine Seq.u 25 (.int .i64 (x25 + 1)) ?_
  refine Seq.done ?_
  refine At.inLoop ?_
  refine At.s K29 K30 ?_
  exact At.v [(0, (.pointer (some ⟨b32, o32, none⟩))), (5, (.slice p39 n39 c39)), (23, (.slice (some ⟨b27, o27, none⟩) n23 c23)), (24, (.int .i64 x24)), (25, (.int .i64 (x25 + 1)))] (h _)
 | false =>
  replace h := h.2 (of_decide_eq_false hb)
  refine At.cF 26 K32 K33 ?_
  refine At.x 2 [.code K40] ?_
  refine At.s K41 K42 ?_
  refine At.rg 13 [0, 1] ?_
  refine Seq.us [(41, .slice p5 n5 c5), (2, .slice p5 n5 c5)] ?_
  refine Seq.done ?_
  exact At.rt [.tmp 2] [(.slice p5 n5 c5)] func60 ⟨_, rfl, rfl⟩ h
end kv_Store_all
namespace kv_named
abbrev fid : Nat := 61
noncomputable def K0 := f61.body.getD .skip
def K1 := cl K0
def K2 := cr K0
def K3 := cl K2
def K4 := cr K2
abbrev gl (R : Ending → Hp → Prop) : Gl := Gl.fn prog 61 10 R
theorem start {R : Ending → Hp → Prop} {s0 : ByteArray} {σ : Hp} (h : ((ByteArray.toList s0 == ByteArray.toList (ByteArray.mk #[])) = false → R (.returned (.bool (decide ((((ByteArray.size s0 : Nat) : Int) : Int) ≤ 64)))) σ) ∧ ((ByteArray.toList s0 == ByteArray.toList (ByteArray.mk #[])) = true → R (.returned (.bool false)) σ)) : Spec prog 61 #[(.string s0)] σ R := by
 refine Spec.of_at (fn := f61) (c := K0) func61 (by kernel_rfl) (Nat.le_of_ble_eq_true (by kernel_rfl)) (fun e he => ?_)
 refine At.ofL (l := [(0, (.string s0))]) ⟨he 0, trivial⟩ (fun J => ?_)
 show At (gl R) _ _ _ _
 refine At.s K1 K2 ?_
 refine At.rg 0 [0] ?_
 refine Seq.u 2 (.bool false) ?_
 refine Seq.done ?_
 refine At.s K3 K4 ?_
 refine At.rg 1 [0, 1, 2, 3, 4, 5, 6, 7] ?_
 refine Seq.u 3 (.string s0) ?_
 refine Seq.z 4 (.binOp .neq 9 (.tmp 3) (.const (.string (ByteArray.mk #[]))) 9) 4 (.bool (!(ByteArray.toList s0 == ByteArray.toList (ByteArray.mk #[])))) (Y.neqS underlying9 rfl rfl) ?_
 refine Seq.u 5 (.bool (!(ByteArray.toList s0 == ByteArray.toList (ByteArray.mk #[])))) ?_
 cases hb : (!(ByteArray.toList s0 == ByteArray.toList (ByteArray.mk #[]))) with
 | true =>
  replace h := h.1 (Tw.nt hb)
  refine Seq.u 6 (.string s0) ?_
  refine Seq.zg 7 (.call { callee := .builtin .len, args := #[(.tmp 6)], argTypes := #[9] }) 3 (2, true) (.int .i64 ((ByteArray.size s0 : Nat) : Int)) (Y.lenStr underlying9 rfl rfl) ?_
  refine Seq.us [(8, .bool (decide ((((ByteArray.size s0 : Nat) : Int) : Int) ≤ 64))), (9, .bool (decide ((((ByteArray.size s0 : Nat) : Int) : Int) ≤ 64))), (2, .bool (decide ((((ByteArray.size s0 : Nat) : Int) : Int) ≤ 64)))] ?_
  refine Seq.done ?_
  exact At.rt [.tmp 2] [(.bool (decide ((((ByteArray.size s0 : Nat) : Int) : Int) ≤ 64)))] func61 ⟨_, rfl, rfl⟩ h
 | false =>
  replace h := h.2 (Tw.nf hb)
  refine Seq.n 6 ?_
  refine Seq.n 7 ?_
  refine Seq.n 8 ?_
  refine Seq.us [(9, .bool false), (2, .bool false)] ?_
  refine Seq.done ?_
  exact At.rt [.tmp 2] [(.bool false)] func61 ⟨_, rfl, rfl⟩ h
end kv_named
namespace kv_Store_Keys
abbrev fid : Nat := 63
noncomputable def K0 := f63.body.getD .skip
def K1 := cl K0
def K2 := cr K0
def K3 := cl K2
def K4 := cl K3
def K5 := cr K3
def K6 := cl K5
def K7 := cl K6
def K8 := cr K6
def K9 := cr K5
def K10 := cr K2
def K11 := cl K10
def K12 := cr K10
def K13 := cl K12
def K14 := cl K13
def K15 := cr K13
def K16 := cl K15
def K17 := cl K16
def K18 := cl K17
def K19 := cr K17
def K20 := cl K19
def K21 := cl K20
def K22 := cr K20
def K23 := cr K19
def K24 := cl K23
def K25 := cl K24
def K26 := cr K24
def K27 := cl K26
def K28 := cr K26
def K29 := cl K28
def K30 := cr K28
def K31 := cr K12
def K32 := cl K31
def K33 := cr K31
def K34 := cl K33
def K35 := cr K33
abbrev gl (R : Ending → Hp → Prop) : Gl := Gl.fn prog 63 32 R
def pt18 (R : Ending → Hp → Prop) (s1 : ByteArray) (p5 : Option Addr) (n5 c5 : Nat) (v17 : Value) (σ : Hp) : Prop := ∀ (J : Env), At (gl R) [.code K18, .code K19, .inLoop K17, .inBlock 0, .code K31] (upds J [(1, (.string s1)), (5, (.slice p5 n5 c5)), (17, v17)]) [] σ
theorem start {R : Ending → Hp → Prop} {q0 : Option Addr} {s1 : ByteArray} {σ : Hp} (h : ∃ (b8 o8 : Nat), q0 = some ⟨b8, o8, none⟩ ∧ ∃ q10 : Option Addr, Hp.ld σ ⟨b8, (o8 + 1), none⟩ = some (.pointer q10) ∧ Spec prog 27 #[(.pointer q10)] σ (Cont R (fun v σ1 => ∃ t11 : Bool, v = (.bool t11) ∧ (t11 = false → R (.returned (.slice none 0 0)) σ1) ∧ (t11 = true → ∃ m16 : Option Nat, Hp.ld σ1 ⟨b8, (o8 + 2), none⟩ = some (.map m16) ∧ Eff prog (Instr.range 89 (.map m16)) σ1 (fun v_2 σ1_2 => ∃ v17 : Value, v17 = v_2 ∧ pt18 R s1 none 0 0 v17 σ1_2))))) : Spec prog 63 #[(.pointer q0), (.string s1)] σ R := by
 refine Spec.of_at (fn := f63) (c := K0) func63 (by kernel_rfl) (Nat.le_of_ble_eq_true (by kernel_rfl)) (fun e he => ?_)
 refine At.ofL (l := [(0, (.pointer q0)), (1, (.string s1))]) ⟨he 0, he 1, trivial⟩ (fun J => ?_)
 show At (gl R) _ _ _ _
 refine At.s K1 K2 ?_
 refine At.rg 0 [0] ?_
 refine Seq.u 4 (.slice none 0 0) ?_
 refine Seq.done ?_
 refine At.s K3 K10 ?_
 refine At.s K4 K5 ?_
 refine At.rg 1 [0, 1, 2, 3, 4, 5] ?_
 refine Seq.u 7 (.pointer q0) ?_
 obtain ⟨b8, o8, hq, h⟩ := h
 subst hq
 refine Seq.z 8 (.nilCheck (.tmp 7)) 0 (.pointer (some ⟨b8, o8, none⟩)) (Y.nilCheck rfl) ?_
 refine Seq.z 9 (.fieldAddr 91 (.tmp 8) 1) 0 (.pointer (some ⟨b8, (o8 + 1), none⟩)) (Y.fieldAddr (fd := (fieldOf prog 91 1)) underlying91 (by kernel_rfl) sizeOf24 rfl rfl) ?_
 obtain ⟨q10, hl, h⟩ := h
 refine Seq.z 10 (.load 24 (.tmp 9)) 24 (.pointer q10) (Y.ld isAgg24 rfl hl) ?_
 refine Seq.o ?_
 refine OpTo.cl (some 11) call27 (h.cont fun v σ1 h2 => ?_); replace h := h2; clear h2
 obtain ⟨t11, rfl, h⟩ := h
 refine Seq.u 12 (.bool (!t11)) ?_
 refine Seq.done ?_
 cases hb : (!t11) with
 | true =>
  replace h := h.1 (Tw.nt hb)
  refine At.cT 12 K6 K9 ?_
  refine At.s K7 K8 ?_
  refine At.rg 2 [0] ?_
  refine Seq.u 4 (.slice none 0 0) ?_
  refine Seq.done ?_
  exact At.rt [.tmp 4] [(.slice none 0 0)] func63 ⟨_, rfl, rfl⟩ h
 | false =>
  replace h := h.2 (Tw.nf hb)
  refine At.cF 12 K6 K9 ?_
  refine At.skip ?_
  refine At.s K11 K12 ?_
  refine At.rg 3 [0] ?_
  refine Seq.u 5 (.slice none 0 0) ?_
  refine Seq.done ?_
  refine At.s K13 K31 ?_
  refine At.s K14 K15 ?_
  refine At.rg 4 [0, 1, 2, 3, 4] ?_
  refine Seq.u 13 (.pointer (some ⟨b8, o8, none⟩)) ?_
  refine Seq.z 14 (.nilCheck (.tmp 13)) 0 (.pointer (some ⟨b8, o8, none⟩)) (Y.nilCheck rfl) ?_
  refine Seq.z 15 (.fieldAddr 91 (.tmp 14) 2) 0 (.pointer (some ⟨b8, (o8 + 2), none⟩)) (Y.fieldAddr (fd := (fieldOf prog 91 2)) underlying91 (by kernel_rfl) sizeOf89 rfl rfl) ?_
  obtain ⟨m16, hl, h⟩ := h
  refine Seq.z 16 (.load 89 (.tmp 15)) 89 (.map m16) (Y.ld isAgg89 rfl hl) ?_
  refine Seq.o ?_
  refine OpTo.eff (d := (some 17)) (op := (.range 89 (.tmp 16))) (ty := 0) (gd := none) (by kernel_rfl) rfl rfl (Instr.range 89 (.map m16)) (fun o ho ht => by simp only [execOp, ho]; rfl) (h.mono (fun v_2 σ1_2 h2 => ?_)); replace h := h2; clear h2
  obtain ⟨v17, rfl, h⟩ := h
  refine Seq.done ?_
  refine At.b 0 K16 ?_
  refine At.loop (x := K17) (by kernel_rfl) ?_
  refine At.s K18 K19 ?_
  exact At.v [(1, (.string s1)), (5, (.slice none 0 0)), (17, v17)] (h _)
theorem pt18_of {R : Ending → Hp → Prop} {s1 : ByteArray} {p5 : Option Addr} {n5 c5 : Nat} {v17 : Value} {σ : Hp} (h : Eff prog (Instr.next v17 false 0) σ (fun v σ1 => (v = (.tuple #[(.bool false)]) ∧ Spec prog 50 #[(.slice p5 n5 c5)] σ1 (Cont R (fun v_2 σ1_2 => v_2 = (.tuple #[]) ∧ R (.returned (.slice p5 n5 c5)) σ1_2))) ∨ (∃ s18a : ByteArray, ∃ p18ba : Option Addr, ∃ n18ba : Nat, ∃ c18ba : Nat, ∃ x18bb : Int, v = (.tuple #[(.bool true), (.string s18a), (.agg #[(.slice p18ba n18ba c18ba), (.int .u64 x18bb)])]) ∧ Eff prog (Instr.entry v17) σ1 (fun v_2 σ1_2 => ∃ s20a : ByteArray, ∃ p20ba : Option Addr, ∃ n20ba : Nat, ∃ c20ba : Nat, ∃ x20bb : Int, v_2 = (.tuple #[(.string s20a), (.agg #[(.slice p20ba n20ba c20ba), (.int .u64 x20bb)])]) ∧ Spec prog 49 #[(.string s20a), (.string s1)] σ1_2 (Cont R (fun v_3 σ1_3 => ∃ t24 : Bool, v_3 = (.bool t24) ∧ (t24 = true → ∀ b27 : Nat, σ1_3 b27 = none → Eff prog (Builtin.append_ #[36, 36] 36 #[(.slice p5 n5 c5), (.slice (some ⟨b27, 0, none⟩) 1 1)]) (Hp.set σ1_3 b27 (.cells #[(.string s20a)] 9 (0, 0))) (fun v_4 σ1_4 => ∃ p28 : Option Addr, ∃ n28 : Nat, ∃ c28 : Nat, v_4 = (.slice p28 n28 c28) ∧ pt18 R s1 p28 n28 c28 v17 σ1_4)) ∧ (t24 = false → pt18 R s1 p5 n5 c5 v17 σ1_3))))))) : pt18 R s1 p5 n5 c5 v17 σ := by
  intro J
  show At (gl R) _ _ _ _
  refine At.rg 5 [0, 1] ?_
  refine Seq.o ?_
  refine OpTo.eff (d := (some 18)) (op := (.next (.tmp 17) false)) (ty := 0) (gd := none) (by kernel_rfl) rfl rfl (Instr.next v17 false 0) (fun o ho ht => by simp only [execOp, ho, ht]; rfl) (h.mono (fun v σ1 h2 => ?_)); replace h := h2; clear h2
  rcases h with ⟨rfl, h⟩ | ⟨s18a, p18ba, n18ba, c18ba, x18bb, rfl, h⟩
  · refine Seq.y (d := (some 19)) (op := (.extract (.tmp 18) 0)) (ty := 4) (v := (.bool false)) (by kernel_rfl) rfl (Y.extract rfl rfl) ?_
    refine Seq.done ?_
    refine At.s K20 K23 ?_
    refine At.cF 19 K21 K22 ?_
    refine At.x 0 [.code K31] ?_
    refine At.s K32 K33 ?_
    refine At.rg 9 [0, 1] ?_
    refine Seq.u 29 (.slice p5 n5 c5) ?_
    refine Seq.o ?_
    refine OpTo.cl (some 30) call50 (h.cont fun v_2 σ1_2 h2 => ?_); replace h := h2; clear h2
    obtain ⟨rfl, h⟩ := h
    refine Seq.done ?_
    refine At.s K34 K35 ?_
    refine At.rg 10 [0, 1] ?_
    refine Seq.us [(31, .slice p5 n5 c5), (4, .slice p5 n5 c5)] ?_
    refine Seq.done ?_
    exact At.rt [.tmp 4] [(.slice p5 n5 c5)] func63 ⟨_, rfl, rfl⟩ h
  · refine Seq.y (d := (some 19)) (op := (.extract (.tmp 18) 0)) (ty := 4) (v := (.bool true)) (by kernel_rfl) rfl (Y.extract rfl rfl) ?_
    refine Seq.done ?_
    refine At.s K20 K23 ?_
    refine At.cT 19 K21 K22 ?_
    refine At.skip ?_
    refine At.b 1 K24 ?_
    refine At.s K25 K26 ?_
    refine At.rg 6 [0, 1, 2] ?_
    refine Seq.o ?_
    refine OpTo.eff (d := (some 20)) (op := (.entry (.tmp 17))) (ty := 0) (gd := none) (by kernel_rfl) rfl rfl (Instr.entry v17) (fun o ho ht => by simp only [execOp, ho]; rfl) (h.mono (fun v_2 σ1_2 h2 => ?_)); replace h := h2; clear h2
    obtain ⟨s20a, p20ba, n20ba, c20ba, x20bb, rfl, h⟩ := h
    refine Seq.us [(21, .string s20a), (6, .string s20a)] ?_
    refine Seq.done ?_
    refine At.s K27 K28 ?_
    refine At.rg 7 [0, 1, 2] ?_
    refine Seq.us [(22, .string s20a), (23, .string s1)] ?_
    refine Seq.o ?_
    refine OpTo.cl (some 24) call49 (h.cont fun v_3 σ1_3 h2 => ?_); replace h := h2; clear h2
    obtain ⟨t24, rfl, h⟩ := h
    refine Seq.done ?_
    cases hb : t24 with
    | true =>
      replace h := h.1 hb
      refine At.cT 24 K29 K30 ?_
      refine At.rg 8 [0, 1, 2, 3, 4] ?_
      refine Seq.us [(25, .slice p5 n5 c5), (26, .string s20a)] ?_
      refine Seq.o ?_
      refine OpTo.bslice (T := 36) (E := 9) (m := 1) (ps := #[(0, (.tmp 26))]) (d := (some 27)) (ty := 36) (gd := none) (vs := [(0, (.string s20a))]) (cs := #[(.string s20a)]) underlying36 (by kernel_rfl) rfl rfl rfl (by kernel_rfl) (fun b27 hn => ?_)
      replace h := h b27 hn
      refine Seq.o ?_
      refine OpTo.eff (d := (some 28)) (op := (.call { callee := .builtin .append, args := #[(.tmp 25), (.tmp 27)], argTypes := #[36, 36] })) (ty := 36) (gd := none) (by kernel_rfl) rfl rfl (Builtin.append_ #[36, 36] 36 #[(.slice p5 n5 c5), (.slice (some ⟨b27, 0, none⟩) 1 1)]) (fun o ho ht => exec_b_append rfl rfl o ho ht) (h.mono (fun v_4 σ1_4 h2 => ?_)); replace h := h2; clear h2
      obtain ⟨p28, n28, c28, rfl, h⟩ := h
      refine Seq.u 5 (.slice p28 n28 c28) ?_
      refine Seq.done ?_
      refine At.inBlock ?_
      refine At.inLoop ?_
      refine At.s K18 K19 ?_
      exact At.v [(1, (.string s1)), (5, (.slice p28 n28 c28)), (17, v17)] (h _)
    | false =>
      replace h := h.2 hb
      refine At.cF 24 K29 K30 ?_
      refine At.skip ?_
      refine At.inBlock ?_
      refine At.inLoop ?_
      refine At.s K18 K19 ?_
      exact At.v [(1, (.string s1)), (5, (.slice p5 n5 c5)), (17, v17)] (h _)
end kv_Store_Keys
namespace ref12_Key
abbrev fid : Nat := 31
noncomputable def K0 := f31.body.getD .skip
def K1 := cl K0
def K2 := cr K0
def K3 := cl K2
def K4 := cr K2
abbrev gl (R : Ending → Hp → Prop) : Gl := Gl.fn prog 31 11 R
theorem start {R : Ending → Hp → Prop} {s0 : ByteArray} {σ : Hp} (h : ((1 : Int) ≤ ((ByteArray.size s0 : Nat) : Int) → R (.returned (.bool (decide ((((ByteArray.size s0 : Nat) : Int) : Int) ≤ 64)))) σ) ∧ (¬ ((1 : Int) ≤ ((ByteArray.size s0 : Nat) : Int)) → R (.returned (.bool false)) σ)) : Spec prog 31 #[(.string s0)] σ R := by
 refine Spec.of_at (fn := f31) (c := K0) func31 (by kernel_rfl) (Nat.le_of_ble_eq_true (by kernel_rfl)) (fun e he => ?_)
 refine At.ofL (l := [(0, (.string s0))]) ⟨he 0, trivial⟩ (fun J => ?_)
 show At (gl R) _ _ _ _
 refine At.s K1 K2 ?_
 refine At.rg 0 [0] ?_
 refine Seq.u 2 (.bool false) ?_
 refine Seq.done ?_
 refine At.s K3 K4 ?_
 refine At.rg 1 [0, 1, 2, 3, 4, 5, 6, 7, 8] ?_
 refine Seq.u 3 (.string s0) ?_
 refine Seq.z 4 (.call { callee := .builtin .len, args := #[(.tmp 3)], argTypes := #[9] }) 3 (.int .i64 ((ByteArray.size s0 : Nat) : Int)) (Y.lenStr underlying9 rfl rfl) ?_
 refine Seq.us [(5, .bool (decide ((1 : Int) ≤ ((ByteArray.size s0 : Nat) : Int)))), (6, .bool (decide ((1 : Int) ≤ ((ByteArray.size s0 : Nat) : Int))))] ?_
 cases hb : (decide ((1 : Int) ≤ ((ByteArray.size s0 : Nat) : Int))) with
 | true =>
  replace h := h.1 (of_decide_eq_true hb)
  refine Seq.u 7 (.string s0) ?_
  refine Seq.zg 8 (.call { callee := .builtin .len, args := #[(.tmp 7)], argTypes := #[9] }) 3 (3, true) (.int .i64 ((ByteArray.size s0 : Nat) : Int)) (Y.lenStr underlying9 rfl rfl) ?_
  refine Seq.us [(9, .bool (decide ((((ByteArray.size s0 : Nat) : Int) : Int) ≤ 64))), (10, .bool (decide ((((ByteArray.size s0 : Nat) : Int) : Int) ≤ 64))), (2, .bool (decide ((((ByteArray.size s0 : Nat) : Int) : Int) ≤ 64)))] ?_
  refine Seq.done ?_
  exact At.rt [.tmp 2] [(.bool (decide ((((ByteArray.size s0 : Nat) : Int) : Int) ≤ 64)))] func31 ⟨_, rfl, rfl⟩ h
 | false =>
  replace h := h.2 (of_decide_eq_false hb)
  refine Seq.n 7 ?_
  refine Seq.n 8 ?_
  refine Seq.n 9 ?_
  refine Seq.us [(10, .bool false), (2, .bool false)] ?_
  refine Seq.done ?_
  exact At.rt [.tmp 2] [(.bool false)] func31 ⟨_, rfl, rfl⟩ h
end ref12_Key
namespace law12_awake
abbrev fid : Nat := 34
noncomputable def K0 := f34.body.getD .skip
def K1 := cl K0
def K2 := cr K0
def K3 := cl K2
def K4 := cr K2
def K5 := cl K4
def K6 := cl K5
def K7 := cr K5
def K8 := cl K7
def K9 := cl K8
def K10 := cr K8
def K11 := cr K7
def K12 := cr K4
def K13 := cl K12
def K14 := cr K12
def K15 := cl K14
def K16 := cr K14
def K17 := cl K16
def K18 := cr K16
def K19 := cl K18
def K20 := cr K18
def K21 := cl K20
def K22 := cr K20
abbrev gl (R : Ending → Hp → Prop) : Gl := Gl.fn prog 34 88 R
theorem start {R : Ending → Hp → Prop} {σ : Hp} (h : Spec prog 11 #[] σ (Cont R (fun v σ1 => ∃ q14 : Option Addr, v = (.pointer q14) ∧ Spec prog 30 #[(.pointer q14)] σ1 (Cont R (fun v_2 σ1_2 => ∃ q15a : Option Addr, ∃ x15b : Int, v_2 = (.tuple #[(.pointer q15a), (.int .i64 x15b)]) ∧ ((x15b : Int) ≠ 0 → R (.returned (.bool false)) σ1_2) ∧ (¬ ((x15b : Int) ≠ 0) → ((Option.isNone q15a) = true → R (.returned (.bool false)) σ1_2) ∧ ((Option.isNone q15a) = false → ∀ b26 : Nat, σ1_2 b26 = none → Spec prog 32 #[(.pointer q15a), (.string (ByteArray.mk #[97])), (.slice (some ⟨b26, 0, none⟩) 2 2), (.int .u64 0)] (Hp.set σ1_2 b26 (.cells #[(.int .u8 1), (.int .u8 2)] 5 (0, 0))) (Cont R (fun v_3 σ1_3 => ∃ x27a : Int, ∃ x27b : Int, v_3 = (.tuple #[(.int .u64 x27a), (.int .i64 x27b)]) ∧ Spec prog 32 #[(.pointer q15a), (.string (ByteArray.mk #[97])), (.slice none 0 0), (.int .u64 0)] σ1_3 (Cont R (fun v_4 σ1_4 => ∃ x32a : Int, ∃ x32b : Int, v_4 = (.tuple #[(.int .u64 x32a), (.int .i64 x32b)]) ∧ Spec prog 33 #[(.pointer q15a), (.string (ByteArray.mk #[97]))] σ1_4 (Cont R (fun v_5 σ1_5 => ∃ p37a : Option Addr, ∃ n37a : Nat, ∃ c37a : Nat, ∃ x37b : Int, ∃ x37c : Int, v_5 = (.tuple #[(.slice p37a n37a c37a), (.int .u64 x37b), (.int .i64 x37c)]) ∧ Spec prog 33 #[(.pointer q15a), (.string (ByteArray.mk #[98]))] σ1_5 (Cont R (fun v_6 σ1_6 => ∃ p43a : Option Addr, ∃ n43a : Nat, ∃ c43a : Nat, ∃ x43b : Int, ∃ x43c : Int, v_6 = (.tuple #[(.slice p43a n43a c43a), (.int .u64 x43b), (.int .i64 x43c)]) ∧ ((x27a : Int) = 1 → ((x27b : Int) = 0 → ((x32a : Int) = 1 → ((x32b : Int) = 121 → ∀ b63 : Nat, σ1_6 b63 = none → Spec prog 35 #[(.slice p37a n37a c37a), (.slice (some ⟨b63, 0, none⟩) 2 2)] (Hp.set σ1_6 b63 (.cells #[(.int .u8 1), (.int .u8 2)] 5 (0, 0))) (Cont R (fun v_7 σ1_7 => ∃ t64 : Bool, v_7 = (.bool t64) ∧ (t64 = true → ((x37b : Int) = 1 → ((x37c : Int) = 0 → ((x43b : Int) = 0 → ((x43c : Int) = 0 → Spec prog 63 #[(.pointer q15a), (.string (ByteArray.mk #[]))] σ1_7 (Cont R (fun v_8 σ1_8 => ∃ p84 : Option Addr, ∃ n84 : Nat, ∃ c84 : Nat, v_8 = (.slice p84 n84 c84) ∧ ∀ b85 : Nat, σ1_8 b85 = none → Spec prog 62 #[(.slice p84 n84 c84), (.slice (some ⟨b85, 0, none⟩) 1 1)] (Hp.set σ1_8 b85 (.cells #[(.string (ByteArray.mk #[97]))] 9 (0, 0))) (Cont R (fun v_9 σ1_9 => ∃ t86 : Bool, v_9 = (.bool t86) ∧ R (.returned (.bool t86)) σ1_9))))) ∧ (¬ ((x43c : Int) = 0) → R (.returned (.bool false)) σ1_7)) ∧ (¬ ((x43b : Int) = 0) → R (.returned (.bool false)) σ1_7)) ∧ (¬ ((x37c : Int) = 0) → R (.returned (.bool false)) σ1_7)) ∧ (¬ ((x37b : Int) = 1) → R (.returned (.bool false)) σ1_7)) ∧ (t64 = false → R (.returned (.bool false)) σ1_7)))) ∧ (¬ ((x32b : Int) = 121) → R (.returned (.bool false)) σ1_6)) ∧ (¬ ((x32a : Int) = 1) → R (.returned (.bool false)) σ1_6)) ∧ (¬ ((x27b : Int) = 0) → R (.returned (.bool false)) σ1_6)) ∧ (¬ ((x27a : Int) = 1) → R (.returned (.bool false)) σ1_6)))))))))))))))) : Spec prog 34 #[] σ R := by
 refine Spec.of_at (fn := f34) (c := K0) func34 (by kernel_rfl) (Nat.le_of_ble_eq_true (by kernel_rfl)) (fun e he => ?_)
 show At (gl R) _ _ _ _
 refine At.s K1 K2 ?_
 refine At.rg 0 [0] ?_
 refine Seq.u 0 (.bool false) ?_
 refine Seq.done ?_
 refine At.s K3 K4 ?_
 refine At.rg 1 [0, 1, 2, 3, 4, 5, 6] ?_
 refine Seq.o ?_
 refine OpTo.cl (some 14) call11 (h.cont fun v σ1 h2 => ?_); replace h := h2; clear h2
 obtain ⟨q14, rfl, h⟩ := h
 refine Seq.o ?_
 refine OpTo.cl (some 15) call30 (h.cont fun v_2 σ1_2 h2 => ?_); replace h := h2; clear h2
 obtain ⟨q15a, x15b, rfl, h⟩ := h
 refine Seq.us [(13, .tuple #[(.pointer q15a), (.int .i64 x15b)]), (16, .pointer q15a), (17, .int .i64 x15b), (1, .pointer q15a), (2, .int .i64 x15b)] ?_
 refine Seq.done ?_
 refine At.s K5 K12 ?_
 refine At.s K6 K7 ?_
 refine At.rg 2 [0, 1, 2, 3, 4, 5] ?_
 refine Seq.us [(18, .int .i64 x15b), (19, .bool (decide ((x15b : Int) ≠ 0))), (20, .bool (decide ((x15b : Int) ≠ 0)))] ?_
 cases hb : (decide ((x15b : Int) ≠ 0)) with
 | true =>
  replace h := h.1 (of_decide_eq_true hb)
  refine Seq.n 21 ?_
  refine Seq.n 22 ?_
  refine Seq.u 23 (.bool true) ?_
  refine Seq.done ?_
  refine At.cT 23 K8 K11 ?_
  refine At.s K9 K10 ?_
  refine At.rg 3 [0] ?_
  refine Seq.u 0 (.bool false) ?_
  refine Seq.done ?_
  exact At.rt [.tmp 0] [(.bool false)] func34 ⟨_, rfl, rfl⟩ h
 | false =>
  replace h := h.2 (of_decide_eq_false hb)
  refine Seq.u 21 (.pointer q15a) ?_
  refine Seq.zg 22 (.binOp .eql 53 (.tmp 21) (.const (.pointer none)) 53) 4 (2, false) (.bool (Option.isNone q15a)) (Y.eqlNil underlying53 rfl rfl) ?_
  refine Seq.u 23 (.bool (Option.isNone q15a)) ?_
  refine Seq.done ?_
  cases hb : (Option.isNone q15a) with
  | true =>
   replace h := h.1 hb
   refine At.cT 23 K8 K11 ?_
   refine At.s K9 K10 ?_
   refine At.rg 3 [0] ?_
   refine Seq.u 0 (.bool false) ?_
   refine Seq.done ?_
   exact At.rt [.tmp 0] [(.bool false)] func34 ⟨_, rfl, rfl⟩ h
  | false =>
   replace h := h.2 hb
   refine At.cF 23 K8 K11 ?_
   refine At.skip ?_
   refine At.s K13 K14 ?_
   refine At.rg 4 [0, 1, 2, 3, 4, 5, 6, 7] ?_
   refine Seq.u 25 (.pointer q15a) ?_
   refine Seq.o ?_
   refine OpTo.bslice (T := 23) (E := 5) (m := 2) (ps := #[(0, (.const (.int .u8 1))), (1, (.const (.int .u8 2)))]) (d := (some 26)) (ty := 23) (gd := none) (vs := [(0, (.int .u8 1)), (1, (.int .u8 2))]) (cs := #[(.int .u8 1), (.int .u8 2)]) underlying23 (by kernel_rfl) rfl rfl rfl (by kernel_rfl) (fun b26 hn => ?_)
   replace h := h b26 hn
   refine Seq.o ?_
   refine OpTo.cl (some 27) call32 (h.cont fun v_3 σ1_3 h2 => ?_); replace h := h2; clear h2
   obtain ⟨x27a, x27b, rfl, h⟩ := h
   refine Seq.us [(24, .tuple #[(.int .u64 x27a), (.int .i64 x27b)]), (28, .int .u64 x27a), (29, .int .i64 x27b), (3, .int .u64 x27a), (4, .int .i64 x27b)] ?_
   refine Seq.done ?_
   refine At.s K15 K16 ?_
   refine At.rg 5 [0, 1, 2, 3, 4, 5, 6] ?_
   refine Seq.u 31 (.pointer q15a) ?_
   refine Seq.o ?_
   refine OpTo.cl (some 32) call32 (h.cont fun v_4 σ1_4 h2 => ?_); replace h := h2; clear h2
   obtain ⟨x32a, x32b, rfl, h⟩ := h
   refine Seq.us [(30, .tuple #[(.int .u64 x32a), (.int .i64 x32b)]), (33, .int .u64 x32a), (34, .int .i64 x32b), (5, .int .u64 x32a), (6, .int .i64 x32b)] ?_
   refine Seq.done ?_
   refine At.s K17 K18 ?_
   refine At.rg 6 [0, 1, 2, 3, 4, 5, 6, 7, 8] ?_
   refine Seq.u 36 (.pointer q15a) ?_
   refine Seq.o ?_
   refine OpTo.cl (some 37) call33 (h.cont fun v_5 σ1_5 h2 => ?_); replace h := h2; clear h2
   obtain ⟨p37a, n37a, c37a, x37b, x37c, rfl, h⟩ := h
   refine Seq.us [(35, .tuple #[(.slice p37a n37a c37a), (.int .u64 x37b), (.int .i64 x37c)]), (38, .slice p37a n37a c37a), (39, .int .u64 x37b), (40, .int .i64 x37c), (7, .slice p37a n37a c37a), (8, .int .u64 x37b), (9, .int .i64 x37c)] ?_
   refine Seq.done ?_
   refine At.L [(1, (.pointer q15a)), (3, (.int .u64 x27a)), (4, (.int .i64 x27b)), (5, (.int .u64 x32a)), (6, (.int .i64 x32b)), (7, (.slice p37a n37a c37a)), (8, (.int .u64 x37b)), (9, (.int .i64 x37c))] fun J => ?_
   refine At.s K19 K20 ?_
   refine At.rg 7 [0, 1, 2, 3, 4, 5, 6, 7, 8] ?_
   refine Seq.u 42 (.pointer q15a) ?_
   refine Seq.o ?_
   refine OpTo.cl (some 43) call33 (h.cont fun v_6 σ1_6 h2 => ?_); replace h := h2; clear h2
   obtain ⟨p43a, n43a, c43a, x43b, x43c, rfl, h⟩ := h
   refine Seq.us [(41, .tuple #[(.slice p43a n43a c43a), (.int .u64 x43b), (.int .i64 x43c)]), (44, .slice p43a n43a c43a), (45, .int .u64 x43b), (46, .int .i64 x43c), (10, .slice p43a n43a c43a), (11, .int .u64 x43b), (12, .int .i64 x43c)] ?_
   refine Seq.done ?_
   refine At.s K21 K22 ?_
   refine At.rg 8 [0, 1, 2, 3, 4, 5, 6, 7, 8, 9, 10, 11, 12, 13, 14, 15, 16, 17, 18, 19, 20, 21, 22, 23, 24, 25, 26, 27, 28, 29, 30, 31, 32, 33, 34, 35, 36, 37, 38, 39, 40, 41] ?_
   refine Seq.us [(47, .int .u64 x27a), (48, .bool (decide ((x27a : Int) = 1))), (49, .bool (decide ((x27a : Int) = 1)))] ?_
   cases hb : (decide ((x27a : Int) = 1)) with
   | true =>
    replace h := h.1 (of_decide_eq_true hb)
    refine Seq.us [(50, .int .i64 x27b), (51, .bool (decide ((x27b : Int) = 0))), (52, .bool (decide ((x27b : Int) = 0))), (53, .bool (decide ((x27b : Int) = 0)))] ?_
    cases hb : (decide ((x27b : Int) = 0)) with
    | true =>
     replace h := h.1 (of_decide_eq_true hb)
     refine Seq.us [(54, .int .u64 x32a), (55, .bool (decide ((x32a : Int) = 1))), (56, .bool (decide ((x32a : Int) = 1))), (57, .bool (decide ((x32a : Int) = 1)))] ?_
     cases hb : (decide ((x32a : Int) = 1)) with
     | true =>
      replace h := h.1 (of_decide_eq_true hb)
      refine Seq.us [(58, .int .i64 x32b), (59, .bool (decide ((x32b : Int) = 121))), (60, .bool (decide ((x32b : Int) = 121))), (61, .bool (decide ((x32b : Int) = 121)))] ?_
      cases hb : (decide ((x32b : Int) = 121)) with
      | true =>
       replace h := h.1 (of_decide_eq_true hb)
       refine Seq.u 62 (.slice p37a n37a c37a) ?_
       refine Seq.o ?_
       refine OpTo.bslice (T := 23) (E := 5) (m := 2) (ps := #[(0, (.const (.int .u8 1))), (1, (.const (.int .u8 2)))]) (d := (some 63)) (ty := 23) (gd := (some (14, true))) (vs := [(0, (.int .u8 1)), (1, (.int .u8 2))]) (cs := #[(.int .u8 1), (.int .u8 2)]) underlying23 (by kernel_rfl) rfl rfl rfl (by kernel_rfl) (fun b63 hn => ?_)
       replace h := h b63 hn
       refine Seq.o ?_
       refine OpTo.cl (some 64) call35 (h.cont fun v_7 σ1_7 h2 => ?_); replace h := h2; clear h2
       obtain ⟨t64, rfl, h⟩ := h
       refine Seq.us [(65, .bool t64), (66, .bool t64)] ?_
       cases hb : t64 with
       | true =>
        replace h := h.1 hb
        refine Seq.us [(67, .int .u64 x37b), (68, .bool (decide ((x37b : Int) = 1))), (69, .bool (decide ((x37b : Int) = 1))), (70, .bool (decide ((x37b : Int) = 1)))] ?_
        cases hb : (decide ((x37b : Int) = 1)) with
        | true =>
         replace h := h.1 (of_decide_eq_true hb)
         refine Seq.us [(71, .int .i64 x37c), (72, .bool (decide ((x37c : Int) = 0))), (73, .bool (decide ((x37c : Int) = 0))), (74, .bool (decide ((x37c : Int) = 0)))] ?_
         cases hb : (decide ((x37c : Int) = 0)) with
         | true =>
          replace h := h.1 (of_decide_eq_true hb)
          refine Seq.us [(75, .int .u64 x43b), (76, .bool (decide ((x43b : Int) = 0))), (77, .bool (decide ((x43b : Int) = 0))), (78, .bool (decide ((x43b : Int) = 0)))] ?_
          cases hb : (decide ((x43b : Int) = 0)) with
          | true =>
           replace h := h.1 (of_decide_eq_true hb)
           refine Seq.us [(79, .int .i64 x43c), (80, .bool (decide ((x43c : Int) = 0))), (81, .bool (decide ((x43c : Int) = 0))), (82, .bool (decide ((x43c : Int) = 0)))] ?_
           cases hb : (decide ((x43c : Int) = 0)) with
           | true =>
            replace h := h.1 (of_decide_eq_true hb)
            refine Seq.u 83 (.pointer q15a) ?_
            refine Seq.o ?_
            refine OpTo.cl (some 84) call63 (h.cont fun v_8 σ1_8 h2 => ?_); replace h := h2; clear h2
            obtain ⟨p84, n84, c84, rfl, h⟩ := h
            refine Seq.o ?_
            refine OpTo.bslice (T := 36) (E := 9) (m := 1) (ps := #[(0, (.const (.string (ByteArray.mk #[97]))))]) (d := (some 85)) (ty := 36) (gd := (some (35, true))) (vs := [(0, (.string (ByteArray.mk #[97])))]) (cs := #[(.string (ByteArray.mk #[97]))]) underlying36 (by kernel_rfl) rfl rfl rfl (by kernel_rfl) (fun b85 hn => ?_)
            replace h := h b85 hn
            refine Seq.o ?_
            refine OpTo.cl (some 86) call62 (h.cont fun v_9 σ1_9 h2 => ?_); replace h := h2; clear h2
            obtain ⟨t86, rfl, h⟩ := h
            refine Seq.us [(87, .bool t86), (0, .bool t86)] ?_
            refine Seq.done ?_
            refine At.L [(0, (.bool t86))] fun J => ?_
            exact At.rt [.tmp 0] [(.bool t86)] func34 ⟨_, rfl, rfl⟩ h
           | false =>
            replace h := h.2 (of_decide_eq_false hb)
            refine Seq.n 83 ?_
            refine Seq.n 84 ?_
            refine Seq.n 85 ?_
            refine Seq.n 86 ?_
            refine Seq.us [(87, .bool false), (0, .bool false)] ?_
            refine Seq.done ?_
            exact At.rt [.tmp 0] [(.bool false)] func34 ⟨_, rfl, rfl⟩ h
          | false =>
           replace h := h.2 (of_decide_eq_false hb)
           refine Seq.n 79 ?_
           refine Seq.n 80 ?_
           refine Seq.us [(81, .bool false), (82, .bool false)] ?_
           refine Seq.n 83 ?_
           refine Seq.n 84 ?_
           refine Seq.n 85 ?_
           refine Seq.n 86 ?_
           refine Seq.us [(87, .bool false), (0, .bool false)] ?_
           refine Seq.done ?_
           exact At.rt [.tmp 0] [(.bool false)] func34 ⟨_, rfl, rfl⟩ h
         | false =>
          replace h := h.2 (of_decide_eq_false hb)
          refine Seq.n 75 ?_
          refine Seq.n 76 ?_
          refine Seq.us [(77, .bool false), (78, .bool false)] ?_
          refine Seq.n 79 ?_
          refine Seq.n 80 ?_
          refine Seq.us [(81, .bool false), (82, .bool false)] ?_
          refine Seq.n 83 ?_
          refine Seq.n 84 ?_
          refine Seq.n 85 ?_
          refine Seq.n 86 ?_
          refine Seq.us [(87, .bool false), (0, .bool false)] ?_
          refine Seq.done ?_
          exact At.rt [.tmp 0] [(.bool false)] func34 ⟨_, rfl, rfl⟩ h
        | false =>
         replace h := h.2 (of_decide_eq_false hb)
         refine Seq.n 71 ?_
         refine Seq.n 72 ?_
         refine Seq.us [(73, .bool false), (74, .bool false)] ?_
         refine Seq.n 75 ?_
         refine Seq.n 76 ?_
         refine Seq.us [(77, .bool false), (78, .bool false)] ?_
         refine Seq.n 79 ?_
         refine Seq.n 80 ?_
         refine Seq.us [(81, .bool false), (82, .bool false)] ?_
         refine Seq.n 83 ?_
         refine Seq.n 84 ?_
         refine Seq.n 85 ?_
         refine Seq.n 86 ?_
         refine Seq.us [(87, .bool false), (0, .bool false)] ?_
         refine Seq.done ?_
         refine At.L [(0, (.bool false))] fun J => ?_
         exact At.rt [.tmp 0] [(.bool false)] func34 ⟨_, rfl, rfl⟩ h
       | false =>
        replace h := h.2 hb
        refine Seq.n 67 ?_
        refine Seq.n 68 ?_
        refine Seq.us [(69, .bool false), (70, .bool false)] ?_
        refine Seq.n 71 ?_
        refine Seq.n 72 ?_
        refine Seq.us [(73, .bool false), (74, .bool false)] ?_
        refine Seq.n 75 ?_
        refine Seq.n 76 ?_
        refine Seq.us [(77, .bool false), (78, .bool false)] ?_
        refine Seq.n 79 ?_
        refine Seq.n 80 ?_
        refine Seq.us [(81, .bool false), (82, .bool false)] ?_
        refine Seq.n 83 ?_
        refine Seq.n 84 ?_
        refine Seq.n 85 ?_
        refine Seq.n 86 ?_
        refine Seq.us [(87, .bool false), (0, .bool false)] ?_
        refine Seq.done ?_
        exact At.rt [.tmp 0] [(.bool false)] func34 ⟨_, rfl, rfl⟩ h
      | false =>
       replace h := h.2 (of_decide_eq_false hb)
       refine Seq.n 62 ?_
       refine Seq.n 63 ?_
       refine Seq.n 64 ?_
       refine Seq.us [(65, .bool false), (66, .bool false)] ?_
       refine Seq.n 67 ?_
       refine Seq.n 68 ?_
       refine Seq.us [(69, .bool false), (70, .bool false)] ?_
       refine Seq.n 71 ?_
       refine Seq.n 72 ?_
       refine Seq.us [(73, .bool false), (74, .bool false)] ?_
       refine Seq.n 75 ?_
       refine Seq.n 76 ?_
       refine Seq.us [(77, .bool false), (78, .bool false)] ?_
       refine Seq.n 79 ?_
       refine Seq.n 80 ?_
       refine Seq.us [(81, .bool false), (82, .bool false)] ?_
       refine Seq.n 83 ?_
       refine Seq.n 84 ?_
       refine Seq.n 85 ?_
       refine Seq.n 86 ?_
       refine Seq.us [(87, .bool false), (0, .bool false)] ?_
       refine Seq.done ?_
       refine At.L [(0, (.bool false))] fun J => ?_
       exact At.rt [.tmp 0] [(.bool false)] func34 ⟨_, rfl, rfl⟩ h
     | false =>
      replace h := h.2 (of_decide_eq_false hb)
      refine Seq.n 58 ?_
      refine Seq.n 59 ?_
      refine Seq.us [(60, .bool false), (61, .bool false)] ?_
      refine Seq.n 62 ?_
      refine Seq.n 63 ?_
      refine Seq.n 64 ?_
      refine Seq.us [(65, .bool false), (66, .bool false)] ?_
      refine Seq.n 67 ?_
      refine Seq.n 68 ?_
      refine Seq.us [(69, .bool false), (70, .bool false)] ?_
      refine Seq.n 71 ?_
      refine Seq.n 72 ?_
      refine Seq.us [(73, .bool false), (74, .bool false)] ?_
      refine Seq.n 75 ?_
      refine Seq.n 76 ?_
      refine Seq.us [(77, .bool false), (78, .bool false)] ?_
      refine Seq.n 79 ?_
      refine Seq.n 80 ?_
      refine Seq.us [(81, .bool false), (82, .bool false)] ?_
      refine Seq.n 83 ?_
      refine Seq.n 84 ?_
      refine Seq.n 85 ?_
      refine Seq.n 86 ?_
      refine Seq.us [(87, .bool false), (0, .bool false)] ?_
      refine Seq.done ?_
      exact At.rt [.tmp 0] [(.bool false)] func34 ⟨_, rfl, rfl⟩ h
    | false =>
     replace h := h.2 (of_decide_eq_false hb)
     refine Seq.n 54 ?_
     refine Seq.n 55 ?_
     refine Seq.us [(56, .bool false), (57, .bool false)] ?_
     refine Seq.n 58 ?_
     refine Seq.n 59 ?_
     refine Seq.us [(60, .bool false), (61, .bool false)] ?_
     refine Seq.n 62 ?_
     refine Seq.n 63 ?_
     refine Seq.n 64 ?_
     refine Seq.us [(65, .bool false), (66, .bool false)] ?_
     refine Seq.n 67 ?_
     refine Seq.n 68 ?_
     refine Seq.us [(69, .bool false), (70, .bool false)] ?_
     refine Seq.n 71 ?_
     refine Seq.n 72 ?_
     refine Seq.us [(73, .bool false), (74, .bool false)] ?_
     refine Seq.n 75 ?_
     refine Seq.n 76 ?_
     refine Seq.us [(77, .bool false), (78, .bool false)] ?_
     refine Seq.n 79 ?_
     refine Seq.n 80 ?_
     refine Seq.us [(81, .bool false), (82, .bool false)] ?_
     refine Seq.n 83 ?_
     refine Seq.n 84 ?_
     refine Seq.n 85 ?_
     refine Seq.n 86 ?_
     refine Seq.us [(87, .bool false), (0, .bool false)] ?_
     refine Seq.done ?_
     refine At.L [(0, (.bool false))] fun J => ?_
     exact At.rt [.tmp 0] [(.bool false)] func34 ⟨_, rfl, rfl⟩ h
   | false =>
    replace h := h.2 (of_decide_eq_false hb)
    refine Seq.n 50 ?_
    refine Seq.n 51 ?_
    refine Seq.us [(52, .bool false), (53, .bool false)] ?_
    refine Seq.n 54 ?_
    refine Seq.n 55 ?_
    refine Seq.us [(56, .bool false), (57, .bool false)] ?_
    refine Seq.n 58 ?_
    refine Seq.n 59 ?_
    refine Seq.us [(60, .bool false), (61, .bool false)] ?_
    refine Seq.n 62 ?_
    refine Seq.n 63 ?_
    refine Seq.n 64 ?_
    refine Seq.us [(65, .bool false), (66, .bool false)] ?_
    refine Seq.n 67 ?_
    refine Seq.n 68 ?_
    refine Seq.us [(69, .bool false), (70, .bool false)] ?_
    refine Seq.n 71 ?_
    refine Seq.n 72 ?_
    refine Seq.us [(73, .bool false), (74, .bool false)] ?_
    refine Seq.n 75 ?_
    refine Seq.n 76 ?_
    refine Seq.us [(77, .bool false), (78, .bool false)] ?_
    refine Seq.n 79 ?_
    refine Seq.n 80 ?_
    refine Seq.us [(81, .bool false), (82, .bool false)] ?_
    refine Seq.n 83 ?_
    refine Seq.n 84 ?_
    refine Seq.n 85 ?_
    refine Seq.n 86 ?_
    refine Seq.us [(87, .bool false), (0, .bool false)] ?_
    refine Seq.done ?_
    exact At.rt [.tmp 0] [(.bool false)] func34 ⟨_, rfl, rfl⟩ h
end law12_awake

end
end TwW
end
section
set_option linter.unusedVariables false
namespace TwW
open Go Tw Go.RowKit Go.Proofs.Tryz
def byt (s : ByteArray) : List Int := s.data.toList.map fun b => (b.toNat : Int)
theorem byt_len {s : ByteArray} : (byt s).length = s.size := by simp [byt]
theorem byt_by8 {s : ByteArray} : By8 (byt s) := fun a ha => by
  obtain ⟨x, _, rfl⟩ := List.mem_map.1 ha
  have := x.toNat_lt; omega
theorem strV_byt {s : ByteArray} : strV s = (byt s).map (.int .u8) := by simp [strV, byt]
theorem strOf_byt {s : ByteArray} : strOfNums (byt s) = s := by
  rw [byt, str_nums]
theorem byt_strOf {xs : List Int} (h : By8 xs) : byt (strOfNums xs) = xs := by
  rw [byt, strOfNums_data, List.map_map]
  conv => rhs; rw [← List.map_id xs]
  refine List.map_congr_left fun a ha => ?_
  have := h a ha
  simp only [Function.comp, id]
  rw [UInt8.toNat_ofNat']
  omega
theorem strOf_size {xs : List Int} : (strOfNums xs).size = xs.length := by
  have := congrArg List.length (strOfNums_data xs)
  simpa using this
theorem byt_inj {s t : ByteArray} (h : byt s = byt t) : s = t := by rw [← strOf_byt (s := s), h, strOf_byt]
def recOf (k : ByteArray) (d : List Int) (v : Nat) : List Int := (uv k.size ++ byt k) ++ uv v ++ uv d.length ++ d
section
variable {σ : Hp} {R : Ending → Hp → Prop}
theorem conv_yf {p : Option Addr} {n c : Nat} {xs : List Int} (hr : RdI .u8 σ p n xs) : YF prog (convert 23 9 (.slice p n c)) σ (.string (strOfNums xs)) := fun w hs => by
  have h1 := underlying23
  have h2 := underlying9
  by_cases hn : n = 0
  · subst hn
    have hx : xs = [] := List.eq_nil_of_length_eq_zero hr.1
    subst hx
    rw [run_convert_bytes_string w 23 9 _ p 0 c h1 underlying5 h2]
    cases p <;> simp [Conv.bytesToString, loadCells] <;> rfl
  · obtain ⟨x0, hx0⟩ := hr.ex (k := 0) (by omega)
    obtain ⟨b, o, rfl, _⟩ := hr.at hx0
    refine run_convert_bytes_arg w 23 _ h1 underlying5 b o n c xs hr.1 (fun i hi => ?_) 9 h2
    obtain ⟨x, hx⟩ := hr.ex hi
    obtain ⟨b', o', he, hl⟩ := hr.at hx
    cases he
    rw [List.getD_eq_getElem?_getD, hx]
    simpa using hs.ld hl
theorem str2b_eff {s : ByteArray} {Φ : Value → Hp → Prop} (h : ∀ b o c, σ b = none → (∀ ρ : Hp, ρ b = some o → RdI .u8 ρ (some ⟨b, 0, none⟩) s.size (byt s)) → s.size ≤ c → Φ (.slice (some ⟨b, 0, none⟩) s.size c) (σ.set b o)) (hs : s.size ≤ 4611686018427387904) :
    Eff prog (convert 9 23 (.string s)) σ Φ := fun w F hsat hF => by
  have hb := hp_fresh hsat
  refine ⟨_, _, σ.set w.heap.size _, run_bytes_of_string w 9 23 5 s underlying9 underlying23 underlying5, h _ _ _ hb (fun ρ hρ => RdI.of_rdc ⟨by simp [byt_len], by omega, .inr ⟨_, 0, rfl, LdL.of fun j v hj => ?_⟩⟩) ?_, Fin.alloc hsat hF _ rfl ⟨rfl, rfl, 1, rfl⟩ rfl⟩
  · refine ld_of hρ ?_
    have hlt : j < s.data.size := by
      have := (List.getElem?_eq_some_iff.1 hj).1
      simpa [byt] using this
    rw [Nat.zero_add, bytesRow_at s _ j hlt, ← hj]
    simp [byt, Array.getElem?_eq_getElem hlt]
  · exact grownCap_ge w s.size 0 5
theorem putText_spec {p : Option Addr} {n c : Nat} {xs : List Int} {s : ByteArray} (hr : RdI .u8 σ p n xs) (hn : n ≤ 1048576) (hs : s.size ≤ 1048576)
    (h : ∀ p' n' c' σ', OwnI .u8 (σ.new σ') p' n' c' (xs ++ uv s.size ++ byt s) → Ext σ σ' → R (.returned (.slice p' n' c')) σ') : Spec prog codec_PutText.fid #[.slice p n c, .string s] σ R := by
  refine codec_PutText.start fun x8 h8 => ?_
  have e8 : x8 = (s.size : Int) := by rw [h8]; simp [IntKind.wrap, IntKind.bits, IntKind.signed]; omega
  subst e8
  refine putUint_spec hr (by omega) (by omega) fun p' n' c' σ1 ho hx1 => ⟨p', n', c', rfl, ?_⟩
  have hq : ∀ a, p' = some a → σ a.block = none := fun a ha => by
    have h2 := Own.block ho a ha
    cases hh : (σ.new σ1) a.block with
    | none => exact absurd hh h2
    | some o => exact (new_some.1 hh).1
  have hl : (xs ++ uv s.size).length = n' := by have := ho.1; simpa using this
  have h10 := uv_len10 (x := s.size) (by omega)
  have hxl : xs.length = n := hr.1
  rw [List.length_append] at hl
  refine app_str underlying9 (Own.mono (Ext.of_new _ _) ho) rfl strV_byt (by omega) fun p2 c2 σ2 ho2 hx2 _ => ⟨p2, _, c2, rfl, ?_⟩
  have hb2 := new_block hq hx2 hx1
  refine h p2 _ c2 σ2 ?_ (ext_new hq hx2 hx1)
  have := Own.to_new ho2 hb2
  simpa [OwnI] using this
theorem putText_len {p : Option Addr} {n c : Nat} {xs : List Int} (h : OwnI .u8 σ p n c xs) : xs.length = n := by have := h.1; simpa using this
theorem kvRecord_spec {k : ByteArray} {p : Option Addr} {n c v : Nat} {d : List Int} (hr : RdI .u8 σ p n d) (h8 : By8 d) (hk : k.size ≤ 262144) (hd : n ≤ 262144) (hv : v < 18446744073709551616)
    (h : ∀ p' n' c' σ', OwnI .u8 (σ.new σ') p' n' c' (recOf k d v) → Ext σ σ' → R (.returned (.slice p' n' c')) σ') : Spec prog kv_record.fid #[.string k, .agg #[.slice p n c, .int .u64 v]] σ R := by
  have hdl : d.length = n := hr.1
  have hk10 := uv_len10 (x := k.size) (by omega)
  have hv10 := uv_len10 (x := v) hv
  refine kv_record.start ⟨_, conv_yf hr, putText_spec (xs := []) RdS.nil (by omega) (by omega) fun p6 n6 c6 σ1 ho1 hx1 => ⟨p6, n6, c6, rfl, hx1, ?_⟩⟩
  have hl1 := putText_len ho1
  rw [List.nil_append] at ho1 hl1
  simp only [List.length_append, byt_len] at hl1
  refine putUint_spec (OwnI.rd (Own.mono (Ext.of_new _ _) ho1)) (by omega) hv fun p9 n9 c9 σ2 ho2 hx2 => ⟨p9, n9, c9, rfl, hx2, ?_⟩
  have hl2 := putText_len ho2
  simp only [List.length_append, byt_len] at hl2
  refine putText_spec (OwnI.rd (Own.mono (Ext.of_new _ _) ho2)) (by omega) (by rw [strOf_size]; omega) fun p3 n3 c3 σ3 ho3 hx3 => ⟨p3, n3, c3, rfl, hx3, ?_⟩
  rw [strOf_size, byt_strOf h8] at ho3
  exact h p3 n3 c3 σ3 (Own.mono (Ext.new_trans (hx1.trans hx2)) ho3) (hx1.trans (hx2.trans hx3))
theorem text_ok {p : Option Addr} {n c i : Nat} {bs rest : List Int} {s : ByteArray} (hr : RdI .u8 σ p n bs) (h8 : By8 bs) (hc : n ≤ c) (hs : s.size ≤ 1048576) (hi : i ≤ n) (hd : bs.drop i = uv s.size ++ (byt s ++ rest))
    (h : R (.returned (.tuple #[.string s, .int .i64 ((i + (uv s.size).length + s.size : Nat) : Int), .int .i64 0])) σ) : Spec prog codec_Text.fid #[.slice p n c, .int .i64 i] σ R := by
  have hbl : bs.length = n := hr.1
  have hbig := hr.big
  have hat : UvAt bs i s.size := ⟨by omega, _, hd⟩
  refine codec_Text.start (uint_spec hr h8 hi ⟨fun hno => (hno s.size hat).elim, fun v hv => ?_⟩)
  obtain rfl := hv.uniq hat
  have hlen : i + (uv s.size).length + s.size ≤ n := by
    have := congrArg List.length hd
    simp only [List.length_drop, List.length_append, byt_len] at this
    have := uv_pos s.size
    omega
  refine ⟨_, _, _, rfl, fun hh => absurd rfl hh, fun _ => ⟨by unfold I64; omega, fun x25 h25 => ?_⟩⟩
  have e25 : x25 = ((n - (i + (uv s.size).length) : Nat) : Int) := by rw [h25]; simp [IntKind.wrap, IntKind.bits, IntKind.signed]; omega
  refine ⟨fun hh => by omega, fun _ x31 h31 => ?_⟩
  have e31 : x31 = (s.size : Int) := by rw [h31]; simp [IntKind.wrap, IntKind.bits, IntKind.signed]; omega
  subst e31
  have e1 : Int.toNat (((i + (uv s.size).length : Nat) : Int) + (s.size : Int)) - Int.toNat ((i + (uv s.size).length : Nat) : Int) = s.size := by omega
  rw [e1, Int.toNat_natCast]
  refine ⟨by unfold I64; omega, by omega, conv_eff (RdI.sub hr (by omega) hc) ⟨_, rfl, fun x37 h37 => ?_⟩⟩
  have e37 : x37 = (s.size : Int) := by rw [h37]; simp [IntKind.wrap, IntKind.bits, IntKind.signed]; omega
  subst e37
  have e2 : (bs.drop (i + (uv s.size).length)).take s.size = byt s := by
    rw [← List.drop_drop, hd, List.drop_left, List.take_append_of_le_length (by rw [byt_len]; omega), List.take_of_length_le (by rw [byt_len]; omega)]
  rw [e2, strOf_byt]
  refine ⟨by unfold I64; omega, ?_⟩
  have e3 : ((i + (uv s.size).length : Nat) : Int) + (s.size : Int) = ((i + (uv s.size).length + s.size : Nat) : Int) := by omega
  rw [e3]; exact h
def keyOk (s : ByteArray) : Bool := decide (0 < s.size) && decide (s.size ≤ 64)
theorem size0 {s : ByteArray} : (ByteArray.toList s == ByteArray.toList (ByteArray.mk #[])) = decide (s.size = 0) := by
  rw [ByteArray.toList_eq, ByteArray.toList_eq]
  by_cases h : s.size = 0
  · have : s = ⟨#[]⟩ := ByteArray.ext (Array.eq_empty_of_size_eq_zero h)
    subst this; rfl
  · rw [decide_eq_false h]
    simp only [beq_eq_false_iff_ne]
    intro e
    apply h
    have := congrArg List.length e
    simpa using this
theorem named_spec {s : ByteArray} (h : R (.returned (.bool (keyOk s))) σ) : Spec prog kv_named.fid #[.string s] σ R := by
  refine kv_named.start ⟨fun h0 => ?_, fun h0 => ?_⟩
  · rw [size0, decide_eq_false_iff_not] at h0
    have e : keyOk s = decide (((s.size : Nat) : Int) ≤ 64) := by
      simp only [keyOk, decide_eq_true (show 0 < s.size by omega), Bool.true_and]
      exact decide_eq_decide.2 (by omega)
    rwa [e] at h
  · rw [size0, decide_eq_true_eq] at h0
    have e : keyOk s = false := by simp [keyOk, h0]
    rwa [e] at h
theorem refKey_spec {s : ByteArray} (h : R (.returned (.bool (keyOk s))) σ) : Spec prog ref12_Key.fid #[.string s] σ R := by
  refine ref12_Key.start ⟨fun h0 => ?_, fun h0 => ?_⟩
  · have e : keyOk s = decide (((s.size : Nat) : Int) ≤ 64) := by
      simp only [keyOk, decide_eq_true (show 0 < s.size by omega), Bool.true_and]
      exact decide_eq_decide.2 (by omega)
    rwa [e] at h
  · have e : keyOk s = false := by simp only [keyOk, decide_eq_false (show ¬ 0 < s.size by omega), Bool.false_and]
    rwa [e] at h
end
end TwW
end
section
set_option linter.unusedVariables false
namespace TwW
open Go Tw Go.RowKit Go.Proofs.Tryz
instance : MpT prog 89 9 94 := ⟨underlying89, underlying9⟩
theorem zero94 : ∀ w, (zeroValue 94).run prog w = .ok (.agg #[.slice none 0 0, .int .u64 0]) w := fun w => by
  have h : prog.info? 94 = some t94 := by kernel_rfl
  simp [zeroValue, typeInfo, h]
  rfl
structure KRow where
  key : ByteArray
  p : Option Addr
  n : Nat
  c : Nat
  data : List Int
  ver : Nat
  born : Nat
def KRow.ent (r : KRow) : MapEntry := Tw.ent r.key (.agg #[.slice r.p r.n r.c, .int .u64 r.ver]) r.born
structure KRow.Ok (ρ : Hp) (r : KRow) : Prop where
  cap : r.n ≤ r.c
  rd : RdI .u8 ρ r.p r.n r.data
  by8 : By8 r.data
  small : r.n ≤ 65536
  key : keyOk r.key = true
  ver : r.ver < 18446744073709551616
theorem KRow.Ok.mono {ρ ρ' : Hp} {r : KRow} (h : r.Ok ρ) (hx : Ext ρ ρ') : r.Ok ρ' := ⟨h.cap, h.rd.mono hx, h.by8, h.small, h.key, h.ver⟩
abbrev Reg := List Int × Nat
def kLook (rows : List KRow) (k : ByteArray) : Option Reg := (rows.find? fun r => decide (r.key = k)).map fun r => (r.data, r.ver)
def kGet (rows : List KRow) (k : ByteArray) : Reg := (kLook rows k).getD ([], 0)
abbrev kKeys (rows : List KRow) : List ByteArray := rows.map (·.key)
theorem kLook_cons {r : KRow} {rows : List KRow} {k : ByteArray} : kLook (r :: rows) k = if r.key = k then some (r.data, r.ver) else kLook rows k := by
  unfold kLook
  rw [List.find?_cons]
  by_cases h : r.key = k <;> simp [h]
theorem kLook_none {rows : List KRow} {k : ByteArray} (h : k ∉ kKeys rows) : kLook rows k = none := by
  induction rows with
  | nil => rfl
  | cons r rows ih =>
    simp only [kKeys, List.map_cons, List.mem_cons, not_or] at h
    rw [kLook_cons, if_neg (fun e => h.1 e.symm)]; exact ih h.2
theorem kLook_append {r1 r2 : List KRow} {k : ByteArray} : kLook (r1 ++ r2) k = (kLook r1 k).or (kLook r2 k) := by
  induction r1 with
  | nil => simp [kLook]
  | cons r r1 ih =>
    rw [List.cons_append, kLook_cons, kLook_cons, ih]
    by_cases h : r.key = k <;> simp [h]
theorem kLook_mid {r1 r2 : List KRow} {r : KRow} (hn : (kKeys (r1 ++ r :: r2)).Nodup) (k : ByteArray) : kLook (r1 ++ r :: r2) k = if r.key = k then some (r.data, r.ver) else (kLook r1 k).or (kLook r2 k) := by
  rw [kLook_append, kLook_cons]
  by_cases h : r.key = k
  · rw [if_pos h, if_pos h]
    have : k ∉ kKeys r1 := by
      rw [kKeys, List.map_append, List.nodup_append] at hn
      intro hk
      exact hn.2.2 k hk k (by simp [h]) rfl
    rw [kLook_none this]; rfl
  · rw [if_neg h, if_neg h]
theorem kLook_mem {rows : List KRow} {k : ByteArray} (hn : (kKeys rows).Nodup) (hk : k ∈ kKeys rows) : ∃ r ∈ rows, r.key = k ∧ kLook rows k = some (r.data, r.ver) := by
  obtain ⟨r, hr, rfl⟩ := List.mem_map.1 hk
  obtain ⟨r1, r2, rfl⟩ := List.append_of_mem hr
  exact ⟨r, hr, rfl, by rw [kLook_mid hn, if_pos rfl]⟩
theorem kents_split {rows : List KRow} {l1 l2 : List MapEntry} {e : MapEntry} (h : rows.map KRow.ent = l1 ++ e :: l2) : ∃ r1 r r2, rows = r1 ++ r :: r2 ∧ r1.map KRow.ent = l1 ∧ r.ent = e ∧ r2.map KRow.ent = l2 := by
  obtain ⟨r1, t, h1, h2, h3⟩ := List.map_eq_append_iff.1 h
  obtain ⟨r, r2, h4, h5, h6⟩ := List.map_eq_cons_iff.1 h3
  exact ⟨r1, r, r2, by rw [h1, h4], h2, h5, h6⟩
structure KvM (ρ : Hp) (b d s m clock : Nat) (rows : List KRow) (τ : Hp) : Prop where
  cell : ρ s = some (.cells #[.pointer (some ⟨b, 0, none⟩), .pointer (some ⟨d, 0, none⟩), .map (some m)] 91 (0, 0))
  map : MapAt ρ m (rows.map KRow.ent) clock
  row : ∀ r ∈ rows, r.Ok (ρ.off [m])
  ext : Ext τ (ρ.off [m])
def KvU (σ : Hp) (d b s : Nat) (D : Dk) (W : Wl) (rows : List KRow) (τ : Hp) : Prop := ∃ ρ m clock, LogU σ d b D W ρ ∧ KvM ρ b d s m clock rows τ
section
variable {σ σ' τ τ' ρ ρ' : Hp} {d b s m clock : Nat} {D : Dk} {W : Wl} {rows : List KRow} {R : Ending → Hp → Prop}
theorem KvM.mono (h : KvM ρ b d s m clock rows τ) (hx : Ext ρ ρ') : KvM ρ' b d s m clock rows τ := ⟨hx _ _ h.cell, h.map.mono hx, fun r hr => (h.row r hr).mono (hx.off [m]), h.ext.trans (hx.off [m])⟩
theorem KvM.nodup (h : KvM ρ b d s m clock rows τ) : (kKeys rows).Nodup := by
  have := h.map.nodup
  rw [List.map_map] at this
  have e : (rows.map ((fun e : MapEntry => e.key) ∘ KRow.ent)) = (kKeys rows).map Value.string := by rw [kKeys, List.map_map]; rfl
  rw [e, List.Nodup, List.pairwise_map] at this
  exact this.imp fun hne e => hne (by rw [e])
theorem KvM.ne (h : KvM ρ b d s m clock rows τ) : s ≠ m := fun e => by
  have h1 := h.cell
  rw [e, h.map.1] at h1; cases h1
theorem KvM.up (h : KvM ρ b d s m clock rows τ) : Ext τ ρ := h.ext.trans (Ext.of_off _ _)
theorem KvU.ext (h : KvU σ d b s D W rows τ) : Ext τ σ := let ⟨ρ, m, cl, h1, h2⟩ := h; h2.up.trans h1.ext
theorem KvU.nodup (h : KvU σ d b s D W rows τ) : (kKeys rows).Nodup := let ⟨ρ, m, cl, h1, h2⟩ := h; h2.nodup
theorem KvU.weak (h : KvU σ d b s D W rows τ) (hx : Ext τ' τ) : KvU σ d b s D W rows τ' := let ⟨ρ, m, cl, h1, h2⟩ := h; ⟨ρ, m, cl, h1, h2.cell, h2.map, h2.row, hx.trans h2.ext⟩
theorem KvU.grow (h : KvU σ d b s D W rows τ) (hx : Ext σ σ') : ∃ τ', KvU σ' d b s D W rows τ' ∧ Ext τ τ' ∧ Ext (σ.new σ') τ' := by
  obtain ⟨ρ, m, cl, h1, h2⟩ := h
  obtain ⟨ρ1, h3, x3, x3n⟩ := h1.grow hx
  have h4 := h2.mono x3
  refine ⟨ρ1.off [m], ⟨ρ1, m, cl, h3, h4.cell, h4.map, h4.row, Ext.refl _⟩, h4.ext, fun k o hk => Hp.off_some.2 ⟨?_, x3n k o hk⟩⟩
  have h5 := (new_some.1 hk).1
  have h6 := h1.ext _ _ h2.map.1
  simp only [List.mem_singleton]
  intro e
  rw [e, h6] at h5; cases h5
theorem KvU.mono (h : KvU σ d b s D W rows τ) (hx : Ext σ σ') : KvU σ' d b s D W rows τ := let ⟨_, h1, h2, _⟩ := h.grow hx; h1.weak h2
theorem KvU.box {k : Nat} {o : Obj} (h : KvU σ d b s D W rows τ) (hk : σ k = none) : ∃ τ', KvU (σ.set k o) d b s D W rows τ' ∧ Ext τ τ' ∧ τ' k = some o := by
  obtain ⟨τ', h1, h2, h3⟩ := h.grow (.set hk (o := o))
  exact ⟨τ', h1, h2, h3 k o (new_some.2 ⟨hk, Hp.set_same _ _ _⟩)⟩
theorem kLook_data {r : KRow} (h : KvM ρ b d s m clock rows τ) (hr : r ∈ rows) : kLook rows r.key = some (r.data, r.ver) := by
  obtain ⟨r1, r2, rfl⟩ := List.append_of_mem hr
  rw [kLook_mid h.nodup, if_pos rfl]
theorem KvU.look {k : ByteArray} {Φ : Value → Hp → Prop} {mm : Option Nat} (h : KvU σ d b s D W rows τ) (hm : σ.ld ⟨s, 0 + 2, none⟩ = some (.map mm))
    (hΦ : ∀ p n c, n ≤ c → n ≤ 65536 → By8 (kGet rows k).1 → (kGet rows k).2 < 18446744073709551616 → RdI .u8 σ p n (kGet rows k).1 → Φ (.agg #[.slice p n c, .int .u64 (kGet rows k).2]) σ) : Eff prog (Instr.lookup 89 (.map mm) (.string k) false) σ Φ := by
  obtain ⟨ρ, m, cl, h1, h2⟩ := h
  have hx := h1.ext
  rw [ld_of (hx _ _ h2.cell) rfl] at hm
  cases hm
  refine lookup_eff (h2.map.mono hx) zero94 (fun hno => ?_) fun l1 e l2 hl he => ?_
  · have e : kGet rows k = ([], 0) := by
      have hk : k ∉ kKeys rows := fun hk => by
        obtain ⟨r, hr, rfl⟩ := List.mem_map.1 hk
        exact hno r.ent (List.mem_map.2 ⟨r, hr, rfl⟩) rfl
      rw [kGet, kLook_none hk]; rfl
    have := hΦ none 0 0 (Nat.le_refl _) (by omega)
    rw [e] at this
    exact this (fun a ha => by cases ha) (by omega) RdS.nil
  · obtain ⟨r1, r, r2, hrows, _, rfl, _⟩ := kents_split hl
    have hr : r ∈ rows := by simp [hrows]
    have hk : r.key = k := by simpa [KRow.ent] using he
    have hg : kGet rows k = (r.data, r.ver) := by rw [kGet, ← hk, kLook_data h2 hr]; rfl
    have hok := h2.row r hr
    have := hΦ r.p r.n r.c hok.cap hok.small
    rw [hg] at this
    exact this hok.by8 hok.ver (hok.rd.mono ((Ext.of_off _ _).trans hx))
theorem KvU.put {k : ByteArray} {p : Option Addr} {n c v : Nat} {data : List Int} {Φ : Unit → Hp → Prop} {mm : Option Nat} (h : KvU σ d b s D W rows τ) (hm : σ.ld ⟨s, 0 + 2, none⟩ = some (.map mm)) (hc : n ≤ c) (hr : RdI .u8 τ p n data) (h8 : By8 data) (hn : n ≤ 65536) (hk : keyOk k = true) (hv : v < 18446744073709551616)
    (hΦ : ∀ σ' rows', KvU σ' d b s D W rows' τ → (∀ k', kLook rows' k' = if k = k' then some (data, v) else kLook rows k') → (∀ x, x ∈ kKeys rows' ↔ x = k ∨ x ∈ kKeys rows) → Φ () σ') : Eff prog (Instr.mapUpdate 89 (.map mm) (.string k) (.agg #[.slice p n c, .int .u64 v])) σ Φ := by
  obtain ⟨ρ, m, cl, h1, h2⟩ := h
  have hx := h1.ext
  rw [ld_of (hx _ _ h2.cell) rfl] at hm
  cases hm
  have hcell : ∀ o, LogU (σ.set m o) d b D W ((ρ.off [m]).set m o) := fun o => by
    have := (h1.hide h2.map.1).unhide (k := m) (o := o) (Hp.off_in (by simp))
    have e : (σ.off [m]).set m o = σ.set m o := by
      funext i
      by_cases hi : i = m
      · rw [hi, Hp.set_same, Hp.set_same]
      · rw [Hp.set_ne hi, Hp.set_ne hi, Hp.off_out (by simpa using hi)]
    rwa [e] at this
  have hoff : ∀ o, ((ρ.off [m]).set m o).off [m] = ρ.off [m] := fun o => by
    funext i
    by_cases hi : i = m <;> simp [Hp.off, Hp.set, hi]
  have hnew : ∀ bn, (⟨k, p, n, c, data, v, bn⟩ : KRow).Ok (ρ.off [m]) := fun bn => ⟨hc, hr.mono h2.ext, h8, hn, hk, hv⟩
  refine mapUpdate_eff (h2.map.mono hx) (fun hno σ' hσ' hm' => ?_) fun l1 e l2 hl he σ' hσ' hm' => ?_
  · have hkn : k ∉ kKeys rows := fun hk' => by
      obtain ⟨r, hr, rfl⟩ := List.mem_map.1 hk'
      exact hno r.ent (List.mem_map.2 ⟨r, hr, rfl⟩) rfl
    refine hΦ σ' (rows ++ [⟨k, p, n, c, data, v, cl⟩]) ⟨(ρ.off [m]).set m (.map (rows.map KRow.ent ++ [Tw.ent k (.agg #[.slice p n c, .int .u64 v]) cl]).toArray (cl + 1)), m, cl + 1, hσ' ▸ hcell _, ?_, ?_, ?_, ?_⟩ (fun k' => ?_) (fun x => by simp [kKeys, or_comm])
    · rw [Hp.set_ne h2.ne, Hp.off_out (by simpa using h2.ne)]; exact h2.cell
    · rw [List.map_append]
      exact ⟨Hp.set_same _ _ _, hm'.2⟩
    · intro r hr
      rw [hoff]
      rcases List.mem_append.1 hr with hr | hr
      · exact h2.row r hr
      · simp at hr; subst hr; exact hnew _
    · rw [hoff]; exact h2.ext
    · rw [kLook_append, kLook_cons]
      by_cases hkk : k = k'
      · subst hkk
        rw [if_pos rfl, if_pos rfl, kLook_none hkn]; rfl
      · rw [if_neg hkk, if_neg hkk]
        simp [kLook]
  · obtain ⟨r1, r, r2, hrows, e1, rfl, e2⟩ := kents_split hl
    have hk' : r.key = k := by simpa [KRow.ent] using he
    have hnd := h2.nodup
    have hkk : kKeys (r1 ++ ⟨k, p, n, c, data, v, r.born⟩ :: r2) = kKeys rows := by rw [hrows]; simp [kKeys, hk']
    refine hΦ σ' (r1 ++ ⟨k, p, n, c, data, v, r.born⟩ :: r2) ⟨(ρ.off [m]).set m (.map (l1 ++ Tw.ent k (.agg #[.slice p n c, .int .u64 v]) r.ent.born :: l2).toArray cl), m, cl, hσ' ▸ hcell _, ?_, ?_, ?_, ?_⟩ (fun k' => ?_) (fun x => ?_)
    · rw [Hp.set_ne h2.ne, Hp.off_out (by simpa using h2.ne)]; exact h2.cell
    · rw [List.map_append, List.map_cons, e1, e2]
      exact ⟨Hp.set_same _ _ _, hm'.2⟩
    · intro r' hr'
      rw [hoff]
      rcases List.mem_append.1 hr' with hr' | hr'
      · exact h2.row r' (by simp [hrows, hr'])
      · rcases List.mem_cons.1 hr' with rfl | hr'
        · exact hnew _
        · exact h2.row r' (by simp [hrows, hr'])
    · rw [hoff]; exact h2.ext
    · rw [kLook_mid (by rw [hkk]; exact hnd), hrows, kLook_mid (hrows ▸ hnd), hk']
      by_cases e : k = k' <;> simp [e]
    · rw [hkk]
      constructor
      · exact .inr
      · rintro (rfl | h)
        · rw [hrows]; simp [kKeys, hk']
        · exact h
end
end TwW
end
section
set_option linter.unusedVariables false
namespace TwW
open Go Tw Go.RowKit Go.Proofs.Tryz
def dkv : ByteArray := ⟨#[107, 118]⟩
theorem dkv_ok : dirOk dkv = true := by decide
abbrev Rec := ByteArray × List Int × Nat
abbrev recR (t : Rec) : List Int := recOf t.1 t.2.1 t.2.2
def GoodT (ts : List Rec) : Prop := ∀ t ∈ ts, keyOk t.1 = true ∧ By8 t.2.1 ∧ t.2.1.length ≤ 65536 ∧ 0 < t.2.2 ∧ t.2.2 < 18446744073709551616
def lastOf (ts : List Rec) (k : ByteArray) : Option Reg := ts.foldl (fun a t => if t.1 = k then some t.2 else a) none
theorem lastOf_snoc {ts : List Rec} {t : Rec} {k : ByteArray} : lastOf (ts ++ [t]) k = if t.1 = k then some t.2 else lastOf ts k := by simp [lastOf]
theorem lastOf_nil {k : ByteArray} : lastOf [] k = none := rfl
theorem by8_rec {k : ByteArray} {d : List Int} {v : Nat} (h : By8 d) (hk : k.size < 18446744073709551616) (hd : d.length < 18446744073709551616) (hv : v < 18446744073709551616) : By8 (recOf k d v) := by
  unfold recOf
  exact by8_append (by8_append (by8_append (by8_append (uv_by8 9 _ (by omega)) byt_by8) (uv_by8 9 _ (by omega))) (uv_by8 9 _ (by omega))) h
section
variable {σ σ' τ τ' ρ ρ' : Hp} {d b s m clock : Nat} {D : Dk} {W : Wl} {rows : List KRow} {R : Ending → Hp → Prop}
theorem KvU.rd (h : KvU σ d b s D W rows τ) : σ.ld ⟨s, 0, none⟩ = some (.pointer (some ⟨b, 0, none⟩)) ∧ σ.ld ⟨s, 0 + 1, none⟩ = some (.pointer (some ⟨d, 0, none⟩)) ∧ ∃ m, σ.ld ⟨s, 0 + 2, none⟩ = some (.map (some m)) := by
  obtain ⟨ρ, m, cl, h1, h2⟩ := h
  have := h1.ext _ _ h2.cell
  exact ⟨ld_of this rfl, ld_of this rfl, m, ld_of this rfl⟩
theorem KvU.disk (h : KvU σ d b s D W rows τ) : DiskU σ d D τ := let ⟨ρ, m, cl, h1, h2⟩ := h; h1.disk.weak h2.up
theorem get_spec {k : ByteArray} (h : KvU σ d b s D W rows τ) (hu : D.up = true) (hk0 : keyOk k = false → R (.returned (.tuple #[.slice none 0 0, .int .u64 0, .int .i64 120])) σ)
    (hk : keyOk k = true → ∀ p n c σ', OwnI .u8 (σ.new σ') p n c (kGet rows k).1 → Ext σ σ' → R (.returned (.tuple #[.slice p n c, .int .u64 (kGet rows k).2, .int .i64 0])) σ') : Spec prog kv_Store_Get.fid #[.pointer (some ⟨s, 0, none⟩), .string k] σ R := by
  obtain ⟨l0, l1, m, l2⟩ := h.rd
  refine kv_Store_Get.start (named_spec ⟨_, rfl, fun hf => hk0 hf, fun ht => ⟨s, 0, rfl, _, l1, h.disk.upS ⟨_, rfl, fun hh => (by rw [hu] at hh; cases hh), fun _ => ⟨_, l2, h.look l2 fun p n c hc hn h8 hv hr => ⟨p, n, c, _, rfl, fun b25 hb25 => ?_⟩⟩⟩⟩⟩)
  refine app_eff Own.empty ((RdC.of_map hr).mono (.set hb25)) OneC.map_int (by omega) fun p' c' σ' hown hext => ?_
  have hq : ∀ a : Addr, (some (⟨b25, 0, none⟩ : Addr)) = some a → σ a.block = none := fun a ha => by cases ha; exact hb25
  refine ⟨p', 0 + n, c', rfl, ?_⟩
  rw [Nat.zero_add] at hown ⊢
  exact hk ht p' n c' σ' (Own.to_new hown (new_block hq hext (.set hb25))) (ext_new hq hext (.set hb25))
theorem learn_spec {p : Option Addr} {n c v : Nat} {k : ByteArray} {dat : List Int} (h : KvU σ d b s D W rows τ) (hr : RdI .u8 σ p n (recOf k dat v)) (hc : n ≤ c) (hk : keyOk k = true) (h8 : By8 dat) (hd : dat.length ≤ 65536) (hv0 : 0 < v) (hv : v < 18446744073709551616)
    (hR : ∀ σ' rows', KvU σ' d b s D W rows' τ → (∀ k', kLook rows' k' = if k = k' then some (dat, v) else kLook rows k') → (∀ x, x ∈ kKeys rows' ↔ x = k ∨ x ∈ kKeys rows) → R (.returned (.bool true)) σ') : Spec prog kv_Store_learn.fid #[.pointer (some ⟨s, 0, none⟩), .slice p n c] σ R := by
  have hks : k.size ≤ 64 := by simp [keyOk] at hk; exact hk.2
  have h8r : By8 (recOf k dat v) := by8_rec h8 (by omega) (by omega) hv
  have hlen : (recOf k dat v).length = n := hr.1
  have hl2 : (recOf k dat v).length = (uv k.size).length + k.size + (uv v).length + (uv dat.length).length + dat.length := by simp [recOf, byt_len]; omega
  have e0 : (recOf k dat v).drop 0 = uv k.size ++ (byt k ++ (uv v ++ uv dat.length ++ dat)) := by simp [recOf]
  have e1 : (recOf k dat v).drop (0 + (uv k.size).length + k.size) = uv v ++ (uv dat.length ++ dat) := by
    have : recOf k dat v = (uv k.size ++ byt k) ++ (uv v ++ (uv dat.length ++ dat)) := by simp [recOf]
    rw [this, List.drop_left' (by simp [byt_len])]
  have e2 : (recOf k dat v).drop (0 + (uv k.size).length + k.size + (uv v).length) = uv (strOfNums dat).size ++ (byt (strOfNums dat) ++ []) := by
    have : recOf k dat v = (uv k.size ++ byt k ++ uv v) ++ (uv dat.length ++ dat) := by simp [recOf]
    rw [this, List.drop_left' (by simp only [List.length_append, byt_len]; omega), strOf_size, byt_strOf h8, List.append_nil]
  have hat : UvAt (recOf k dat v) (0 + (uv k.size).length + k.size) v := ⟨hv, _, e1⟩
  refine kv_Store_learn.start (text_ok (i := 0) hr h8r hc (by omega) (Nat.zero_le _) e0 ⟨_, _, _, rfl, fun hh => absurd rfl hh, fun _ => ?_⟩)
  refine uint_spec hr h8r (by omega) ⟨fun hno => (hno v hat).elim, fun v' hv' => ?_⟩
  obtain rfl := hv'.uniq hat
  refine ⟨_, _, _, rfl, fun hh => absurd rfl hh, fun _ => ?_⟩
  refine text_ok hr h8r hc (by rw [strOf_size]; omega) (by omega) e2 ⟨_, _, _, rfl, fun hh => absurd rfl hh, fun _ => ⟨fun hh => ?_, fun _ => ?_⟩⟩
  · rw [strOf_size] at hh; exact absurd (by omega) hh
  · refine named_spec ⟨_, rfl, fun hh => (by rw [hk] at hh; cases hh), fun _ => ⟨fun hh => by omega, fun _ => ?_⟩⟩
    obtain ⟨l0, l1, m, l2⟩ := h.rd
    refine ⟨s, 0, rfl, _, l2, str2b_eff (fun b1 o c1 hb1 hrd hcc => ⟨_, _, _, rfl, ?_⟩) (by rw [strOf_size]; omega)⟩
    obtain ⟨τ1, h1, x1, t1⟩ := h.box (o := o) hb1
    have l2' := (Ext.set hb1 (o := o)).ld l2
    have hrd1 := hrd τ1 t1
    rw [strOf_size, byt_strOf h8] at hrd1
    rw [strOf_size] at hcc ⊢
    exact h1.put l2' hcc hrd1 h8 hd hk hv fun σ2 rows' h2 hl hkk => hR σ2 rows' (h2.weak x1) hl hkk
end
end TwW
end
section
set_option linter.unusedVariables false
namespace TwW
open Go Tw Go.RowKit Go.Proofs.Tryz
section
variable {σ σ' τ τ' ρ ρ' : Hp} {d b s m clock : Nat} {D : Dk} {W : Wl} {rows : List KRow} {R : Ending → Hp → Prop}
theorem kv_open_spec {ts : List Rec} {w : Bool} (h : DiskU σ d D τ) (ht : Tb τ) (hup : D.up = true) (harm : D.armed = false) (hc : D.cnt < 67108864) (ho : OpenW D.files dkv D.cnt (ts.map recR) w) (hg : GoodT ts) (hbig : ts.length ≤ 4194304)
    (hR : ∀ s b σ' W rows fs' cnt', KvU σ' d b s (dk fs' cnt') W rows τ → (∀ k, kLook rows k = lastOf ts k) → (∀ x, x ∈ kKeys rows → ∃ t ∈ ts, t.1 = x) → W.dir = dkv → (∃ rc sg, LogOk fs' cnt' W rc sg 0 ∧ rc ++ toldS sg = ts.map recR) → fs' (fnew dkv) = none → D.cnt ≤ cnt' → cnt' ≤ D.cnt + 1 → Sub D.files fs' → (w = true → cnt' = D.cnt) → R (.returned (.tuple #[.pointer (some ⟨s, 0, none⟩), .int .i64 0])) σ') (hfew : Few D := by refine .inl ?_; first | omega | (dsimp only [dk]; omega) | (dsimp only; omega)) :
    Spec prog kv_Open.fid #[.pointer (some ⟨d, 0, none⟩)] σ R := by
  refine kv_Open.start (open_spec (told := ts.map recR) h ht hup harm dkv_ok hc ho (by simpa using hbig) (fun b σ1 W1 rc1 sg1 ρ1 p1 n1 c1 fs1 cnt1 h1 x1 r1 e1 ok1 told1 out1 sub1 new1 k1a k1b k1c => ⟨_, _, _, _, _, rfl, fun hh => absurd rfl hh, fun _ => makeMap_eff fun m hm => ⟨m, rfl, fun s hs => ?_⟩⟩) (hfew := hfew))
  obtain ⟨ρ2, h2, x2, t2⟩ := h1.box (o := .map #[] 0) hm
  obtain ⟨ρ3, h3, x3, t3⟩ := h2.box (o := .cells #[.pointer (some ⟨b, 0, none⟩), .pointer (some ⟨d, 0, none⟩), .map (some m)] 91 (0, 0)) hs
  have hn1 : (ts.map recR).length = n1 := r1.1
  rw [List.length_map] at hn1
  have hkm : KvM ρ3 b d s m 0 [] ρ1 := ⟨t3, ⟨x3 _ _ t2, (MapAt.fresh (σ := σ1) (b := m)).2⟩, fun r hr => (by cases hr), fun k o hk => Hp.off_some.2 ⟨fun e => (by
    simp only [List.mem_singleton] at e
    have := h1.ext _ _ hk
    rw [e, hm] at this; cases this), x3 _ _ (x2 _ _ hk)⟩⟩
  suffices H : ∀ (j k : Nat) (σ : Hp) (rows : List KRow), n1 - k = j → k ≤ n1 → KvU σ d b s (dk fs1 cnt1) W1 rows ρ1 → (∀ x, kLook rows x = lastOf (ts.take k) x) → (∀ x, x ∈ kKeys rows → ∃ t ∈ ts, t.1 = x) → kv_Open.pt20 R (some ⟨s, 0, none⟩) p1 n1 c1 n1 k σ from
    H n1 0 _ [] rfl (Nat.zero_le _) ⟨ρ3, m, 0, h3, hkm⟩ (fun x => rfl) (fun x hx => by cases hx)
  intro j
  induction j with
  | zero =>
    intro k σ rows hj hk hu hl hkk
    rw [List.take_of_length_le (by omega)] at hl
    exact kv_Open.pt20_of ⟨fun hh => by omega, fun _ => hR s b σ W1 rows fs1 cnt1 (hu.weak x1) hl hkk e1 ⟨rc1, sg1, ok1, told1⟩ new1 k1a k1b sub1 fun hw => (k1c hw).1⟩
  | succ j ih =>
    intro k σ rows hj hk hu hl hkk
    obtain ⟨t, htk⟩ : ∃ t, ts[k]? = some t := ⟨_, List.getElem?_eq_getElem (by omega)⟩
    have htm := List.mem_of_getElem? htk
    obtain ⟨g1, g2, g3, g4, g5⟩ := hg t htm
    obtain ⟨b28, o28, p29, n29, c29, hp, hl29, hc29, hrd⟩ := r1.at (x := recR t) (i := k) (by rw [List.getElem?_map, htk]; rfl)
    refine kv_Open.pt20_of ⟨fun _ => ⟨b28, o28, hp, by omega, p29, n29, c29, by simpa using hu.ext.ld hl29, ?_⟩, fun hh => by omega⟩
    refine learn_spec hu (hrd.mono hu.ext) hc29 g1 g2 g3 g4 g5 fun σ2 rows2 h2 hl2 hk2 => ⟨_, rfl, fun hh => (by cases hh), fun _ => ⟨by unfold I64; omega, ?_⟩⟩
    rw [← hp]
    refine ih (k + 1) σ2 rows2 (by omega) (by omega) h2 (fun x => ?_) fun x hx => ?_
    · rw [take_succ' htk, lastOf_snoc, hl2, hl]
    · rcases (hk2 x).1 hx with rfl | hx
      · exact ⟨t, htm, rfl⟩
      · exact hkk x hx
abbrev recsOf (rows : List KRow) (L : List ByteArray) : Recs := L.map fun k => recOf k (kGet rows k).1 (kGet rows k).2
theorem all_pt29 {p3 : Option Addr} {n3 c3 : Nat} {L : List ByteArray} {σs : Hp} (h : KvU σs d b s D W rows τ) (hrd : RdC 1 σs p3 n3 (L.map .string)) (hn : n3 ≤ 1024) (hL : ∀ k ∈ L, k.size ≤ 64)
    (hR : ∀ p n c σ', OwnLL (σs.new σ') p n c (recsOf rows L) → Ext σs σ' → R (.returned (.slice p n c)) σ') :
    ∀ (j k : Nat) (σ : Hp) (p5 : Option Addr) (c5 : Nat), n3 - k = j → k ≤ n3 → Ext σs σ → OwnLL (σs.new σ) p5 k c5 (recsOf rows (L.take k)) → kv_Store_all.pt29 R (some ⟨s, 0, none⟩) p5 k c5 p3 n3 c3 n3 k σ := by
  have hLn : L.length = n3 := by have := hrd.1; simpa using this
  intro j
  induction j with
  | zero =>
    intro k σ p5 c5 hj hk hx ho
    have hkn : k = n3 := by omega
    subst hkn
    rw [List.take_of_length_le (by omega)] at ho
    exact kv_Store_all.pt29_of ⟨fun hh => by omega, fun _ => hR p5 _ c5 σ ho hx⟩
  | succ j ih =>
    intro k σ p5 c5 hj hk hx ho
    obtain ⟨x, hxk⟩ : ∃ x, L[k]? = some x := ⟨_, List.getElem?_eq_getElem (by omega)⟩
    obtain ⟨b27, o27, hp, hl27⟩ := RdC.at1 (k := k) (v := .string x) hrd (by rw [List.getElem?_map, hxk]; rfl)
    have hu := h.mono hx
    obtain ⟨l0, l1, m, l2⟩ := hu.rd
    have hxs := hL x (List.mem_of_getElem? hxk)
    refine kv_Store_all.pt29_of ⟨fun _ => ⟨b27, o27, hp, by omega, x, by simpa using hx.ld hl27, s, 0, rfl, _, l2, hu.look l2 fun p36 n36 c36 hc hn36 h8 hv hr => ⟨p36, n36, c36, _, rfl, ?_⟩⟩, fun hh => by omega⟩
    refine kvRecord_spec hr h8 (by omega) (by omega) hv fun p37 n37 c37 σ3 ho3 hx3 => ⟨p37, n37, c37, rfl, fun b38 hb38 => ?_⟩
    have hb2 : ∀ a, p5 = some a → σ a.block ≠ none := fun a ha e => OwnL.block ho a ha (by
      cases hh : (σs.new σ) a.block with
      | none => rfl
      | some u => rw [(new_some.1 hh).2] at e; cases e)
    refine OwnL.app1 (T := 22) EBy.mono (hx.trans hx3) (OwnL.mono EBy.mono (Ext.new_mono hx3) ho) rfl (fun u hu => by simp at hu; subst hu; rfl) (x := recOf x (kGet rows x).1 (kGet rows x).2) ⟨p37, n37, c37, rfl, Own.cap ho3, (OwnI.rd ho3).mono (Ext.new_into hx hb2)⟩ (by omega) (fun p4 c4 σ4 ho4 hx4 => ⟨p4, _, c4, rfl, by unfold I64; omega, ?_⟩) hb38
    rw [← hp]
    refine ih (k + 1) σ4 p4 c4 (by omega) (by omega) hx4 ?_
    rw [take_succ' hxk, recsOf, List.map_append]
    exact ho4
theorem all_pt10 {σ0 : Hp} {i m clock : Nat} (hm0 : MapAt σ0 m (rows.map KRow.ent) clock) (hrl : rows.length ≤ 1024) (hkn : (kKeys rows).Nodup)
    (hR : ∀ p n c L σ', OwnT (σ0.new σ') p n c L → L.Perm (kKeys rows) → Ext σ0 σ' → n ≤ 1024 → kv_Store_all.pt29 R (some ⟨s, 0, none⟩) none 0 0 p n c n 0 σ') :
    ∀ (k : Nat) (σ : Hp) (L : List MapEntry) (xs : List ByteArray) (p : Option Addr) (c : Nat), L.length = k → Ext σ0 σ → IterAt (σ0.new σ) i m (rows.map KRow.ent) L clock → OwnT (σ0.new σ) p xs.length c xs → (xs ++ L.map nm).Perm (kKeys rows) →
      kv_Store_all.pt10 R (some ⟨s, 0, none⟩) p xs.length c (.pointer (some ⟨i, 0, none⟩)) σ := by
  intro k
  induction k using Nat.strongRecOn with
  | _ k ih =>
  intro σ L xs p c hL hx hi ho hp
  have hlen : xs.length ≤ rows.length := by
    have := hp.length_eq
    simp [kKeys] at this; omega
  have hm := hm0.mono hx
  refine kv_Store_all.pt10_of (next_eff hm (hi.mono (Ext.of_new _ _)) (fun h0 => .inl ⟨rfl, ?_⟩) fun e hen henl o hit' hent => .inr ?_)
  · subst h0
    rw [List.map_nil, List.append_nil] at hp
    have ho2 : Own 1 σ p xs.length c ((xs.map (·.data.toList)).map vStr) := by
      rw [List.map_map]; exact ho.mono (Ext.of_new _ _)
    refine sortStr_spec ho2 (by simp) (by omega) fun σ' hs hsx => ⟨rfl, ?_⟩
    refine hR p _ c ((sortedL (xs.map (·.data.toList))).map fun l => ⟨l.toArray⟩) σ' ?_ ?_ (ext_new ho.new_none hsx hx) (by omega)
    · have := Own.to_new hs (σ := σ0) ho.new_none
      unfold OwnT
      rw [List.map_map]
      exact this
    · refine List.Perm.trans ?_ hp
      have h1 := (List.mergeSort_perm (xs.map (·.data.toList)) fun x y => decide (x ≤ y)).map fun l => (⟨l.toArray⟩ : ByteArray)
      rw [List.map_map] at h1
      have h2 : xs.map ((fun l => (⟨l.toArray⟩ : ByteArray)) ∘ fun s : ByteArray => s.data.toList) = xs := by
        conv => rhs; rw [← List.map_id xs]
        exact List.map_congr_left fun a _ => rfl
      rw [h2] at h1
      exact h1
  · obtain ⟨seen, c0, hio, _⟩ := hi
    obtain ⟨hi0, _⟩ := new_some.1 hio
    have hpi : ∀ a, p = some a → a.block ≠ i := fun a ha e => by
      rcases ho.2.2 with ⟨h1, _⟩ | ⟨b, o', arr, T, h1, h2, _⟩
      · rw [h1] at ha; cases ha
      · rw [h1] at ha; cases ha
        simp only at e; subst e
        rw [hio] at h2; cases h2
    have hmi : m ≠ i := fun e => by rw [← e, hm0.1] at hi0; cases hi0
    obtain ⟨l1, l2, hl⟩ := List.append_of_mem henl
    obtain ⟨r1, r, r2, hrows, _, rfl, _⟩ := kents_split hl
    have hx2 : Ext σ0 (σ.set i o) := fun b u hb => by rw [Hp.set_ne fun e => by rw [e, hi0] at hb; cases hb]; exact hx b u hb
    have hi2 : (σ0.new (σ.set i o)) i = some o := new_some.2 ⟨hi0, Hp.set_same _ _ _⟩
    have ho2 : OwnT (σ0.new (σ.set i o)) p xs.length c xs := TwW.Own.loc ho fun b hb => by
      cases p with
      | none => cases hb
      | some a =>
        simp only [blk, List.mem_singleton] at hb
        subst hb
        simp only [Hp.new, Hp.set_ne (hpi a rfl)]
    have hborn : (L.map (·.born)).Nodup := hm0.borns.sublist ((IterAt.sub ⟨seen, c0, hio, by assumption⟩).map _)
    have hpk := (pick_perm hborn hen).map nm
    rw [List.map_cons] at hpk
    refine ⟨_, _, _, _, _, rfl, hent _ (Hp.set_same _ _ _) (Hp.set_ne hmi) ⟨_, _, _, _, _, rfl, fun b26 hb26 => ?_⟩⟩
    refine app_lit (T := 36) (ys := [.string r.key]) hx2 ho2 rfl (fun u hu => by simp at hu; subst hu; rfl) (by omega) (fun p' c' σ' ho3 hx3 hd3 => ⟨p', _, c', rfl, ?_⟩) hb26
    have hi3 : (σ0.new σ') i = some o := by
      have := hd3 i o (del_some.2 ⟨fun a ha => Ne.symm (hpi a ha), hi2⟩)
      exact (del_some.1 this).2
    have := ih _ (hL ▸ left_lt hen) σ' _ (xs ++ [r.key]) p' c' rfl hx3 (hit' _ hi3) (by simpa [OwnT] using ho3) (by
      rw [List.append_assoc]
      exact (hpk.append_left xs).symm.trans hp)
    simpa using this
theorem all_spec (h : KvU σ d b s D W rows τ) (hrl : rows.length ≤ 1024)
    (hR : ∀ p n c L σ', OwnLL (σ.new σ') p n c (recsOf rows L) → L.Perm (kKeys rows) → Ext σ σ' → R (.returned (.slice p n c)) σ') : Spec prog kv_Store_all.fid #[.pointer (some ⟨s, 0, none⟩)] σ R := by
  have h' := h
  obtain ⟨ρ, m, cl, h1, h2⟩ := h'
  have hx := h1.ext
  refine kv_Store_all.start ⟨s, 0, rfl, _, ld_of (hx _ _ h2.cell) rfl, range_eff (h2.map.mono hx) fun i o hi hit => ⟨_, rfl, ?_⟩⟩
  have hkey : ∀ x ∈ kKeys rows, x.size ≤ 64 := fun x hx => by
    obtain ⟨r, hr, rfl⟩ := List.mem_map.1 hx
    have := (h2.row r hr).key
    simp [keyOk] at this; exact this.2
  refine all_pt10 (h2.map.mono hx) hrl h2.nodup (fun p n c L σ1 ho hp hx1 hn => ?_) _ _ _ [] none 0 rfl (.set hi) (hit.loc (by simp [Hp.new, hi])) Own.nil (by simp [kKeys, List.map_map]; exact List.Perm.of_eq (List.map_congr_left fun r _ => rfl))
  refine all_pt29 (h.mono hx1) (Own.rd (ho.mono (Ext.of_new _ _))) hn (fun k hk => hkey k (hp.mem_iff.1 hk)) (fun p' n' c' σ2 ho2 hx2 => hR p' n' c' L σ2 (OwnL.mono EBy.mono (Ext.new_trans hx1) ho2) hp (hx1.trans hx2)) n 0 σ1 none 0 rfl (Nat.zero_le _) (Ext.refl _) OwnL.nil
end
end TwW
end
section
set_option linter.unusedVariables false
namespace TwW
open Go Tw Go.RowKit Go.Proofs.Tryz
theorem pre_or {α : Type} {t l : List α} {x : α} (h : t <+: l ++ [x]) (hl : l.length ≤ t.length) : t = l ∨ t = l ++ [x] := by
  obtain ⟨r, hr⟩ := h
  rcases List.eq_nil_or_concat r with e | ⟨r0, y, e⟩
  · subst e; rw [List.append_nil] at hr; exact .inr hr
  · rw [List.concat_eq_append] at e
    subst e
    rw [← List.append_assoc] at hr
    have h1 := List.append_inj_left' hr rfl
    have : r0 = [] := List.eq_nil_of_length_eq_zero (by have := congrArg List.length h1; simp at this; omega)
    subst this
    exact .inl (by simpa using h1)
theorem joinF_le : ∀ {rs : Recs} {M : Nat}, Short rs → (∀ r ∈ rs, r.length ≤ M) → (joinF rs).length ≤ rs.length * (M + 7)
  | [], _, _, _ => by simp [joinF]
  | r :: rs, M, h, hM => by
    rw [joinF_cons, List.length_append, List.length_cons, Nat.add_mul]
    have h1 := frame_small (h r (by simp))
    have h2 := joinF_le (rs := rs) (M := M) (fun x hx => h x (by simp [hx])) fun x hx => hM x (by simp [hx])
    have h3 := hM r (by simp)
    omega
theorem recOf_len {k : ByteArray} {d : List Int} {v : Nat} (hk : k.size ≤ 64) (hd : d.length ≤ 60000) (hv : v < 18446744073709551616) : (recOf k d v).length ≤ 60094 := by
  have h1 := uv_len10 (x := k.size) (by omega)
  have h2 := uv_len10 (x := v) hv
  have h3 := uv_len10 (x := d.length) (by omega)
  simp only [recOf, List.length_append, byt_len]; omega
open Classical in
theorem lastOf_go {L : List ByteArray} {g : ByteArray → Reg} {x : ByteArray} : ∀ a, (L.map fun y => (y, g y)).foldl (fun a (t : Rec) => if t.1 = x then some t.2 else a) a = if x ∈ L then some (g x) else a := by
  induction L with
  | nil => intro a; simp
  | cons y L ih =>
    intro a
    rw [List.map_cons, List.foldl_cons, ih]
    by_cases hx : x ∈ L
    · simp [hx]
    · by_cases hy : y = x
      · subst hy; simp
      · have : ¬ x = y := fun e => hy e.symm
        simp [hx, hy, this]
open Classical in
theorem lastOf_map {L : List ByteArray} {g : ByteArray → Reg} {x : ByteArray} : lastOf (L.map fun y => (y, g y)) x = if x ∈ L then some (g x) else none := lastOf_go none
theorem lastOf_mem {x : ByteArray} {r : Reg} {ts : List Rec} : lastOf ts x = some r → ∃ t ∈ ts, t.1 = x ∧ t.2 = r := by
  have : ∀ (ts : List Rec) (a : Option Reg), ts.foldl (fun a (t : Rec) => if t.1 = x then some t.2 else a) a = some r → a = some r ∨ ∃ t ∈ ts, t.1 = x ∧ t.2 = r := by
    intro ts
    induction ts with
    | nil => intro a h; exact .inl h
    | cons t ts ih =>
      intro a h
      rw [List.foldl_cons] at h
      rcases ih _ h with h1 | ⟨u, hu, e⟩
      · by_cases ht : t.1 = x
        · rw [if_pos ht] at h1; cases h1; exact .inr ⟨t, by simp, ht, rfl⟩
        · rw [if_neg ht] at h1; exact .inl h1
      · exact .inr ⟨u, by simp [hu], e⟩
  intro h
  rcases this ts none h with h | h
  · cases h
  · exact h
open Classical in
theorem kLook_if {rows : List KRow} (hn : (kKeys rows).Nodup) (x : ByteArray) : kLook rows x = if x ∈ kKeys rows then some (kGet rows x) else none := by
  by_cases hx : x ∈ kKeys rows
  · rw [if_pos hx]
    obtain ⟨r, hr, e1, e2⟩ := kLook_mem hn hx
    rw [kGet, e2]; rfl
  · rw [if_neg hx, kLook_none hx]
structure KvOk (D : Dk) (W : Wl) (rows : List KRow) (ts : List Rec) : Prop where
  up : D.up = true
  dir : W.dir = dkv
  log : ∃ rc sg, LogOk D.files D.cnt W rc sg ts.length ∧ rc ++ toldS sg = ts.map recR
  good : GoodT ts
  look : ∀ k, kLook rows k = lastOf ts k
  new : D.files (fnew dkv) = none
  ex : ∀ s, (D.files s).isSome = true → (0 < W.check ∧ s = fname dkv kc W.check) ∨ ∃ n ∈ W.segs, s = fname dkv ks n
  sml : W.segs.length ≤ 64
def kvF (W : Wl) : List ByteArray := fname dkv kc W.check :: W.segs.map (fname dkv ks)
theorem kvF_mem {W : Wl} {s : ByteArray} (h : (0 < W.check ∧ s = fname dkv kc W.check) ∨ ∃ n ∈ W.segs, s = fname dkv ks n) : s ∈ kvF W := by
  rcases h with ⟨_, e⟩ | ⟨n, hn, e⟩
  · rw [e]; exact List.mem_cons_self ..
  · rw [e]; exact List.mem_cons_of_mem _ (List.mem_map.2 ⟨n, hn, rfl⟩)
theorem kvF_few {D : Dk} {W : Wl} (h : ∀ s, (D.files s).isSome = true → (0 < W.check ∧ s = fname dkv kc W.check) ∨ ∃ n ∈ W.segs, s = fname dkv ks n) (hl : W.segs.length ≤ 100) : Few D :=
  .inr ⟨kvF W, by simp [kvF]; omega, fun s hs => kvF_mem (h s hs)⟩
theorem kvF_more {D D' : Dk} {W : Wl} {a b : ByteArray} (h : ∀ s, (D.files s).isSome = true → (0 < W.check ∧ s = fname dkv kc W.check) ∨ ∃ n ∈ W.segs, s = fname dkv ks n) (hl : W.segs.length ≤ 100) (hs : ∀ s, (D'.files s).isSome = true → (D.files s).isSome = true ∨ s = a ∨ s = b) : Few D' :=
  .inr ⟨a :: b :: kvF W, by simp [kvF]; omega, fun s h1 => by
    rcases hs s h1 with g | g | g
    · exact List.mem_cons_of_mem _ (List.mem_cons_of_mem _ (kvF_mem (h s g)))
    · rw [g]; exact List.mem_cons_self ..
    · rw [g]; exact List.mem_cons_of_mem _ (List.mem_cons_self ..)⟩
theorem KvOk.few {D : Dk} {W : Wl} {rows : List KRow} {ts : List Rec} (h : KvOk D W rows ts) : Few D := kvF_few h.ex (by have := h.sml; omega)
structure KvSm (K : List ByteArray) (rows : List KRow) : Prop where
  keys : ∀ x ∈ kKeys rows, x ∈ K
  len : ∀ x, (kGet rows x).1.length ≤ 60000
section
variable {σ σ' τ τ' ρ ρ' : Hp} {d b s m clock : Nat} {D : Dk} {W : Wl} {rows : List KRow} {R : Ending → Hp → Prop}
theorem set_spec {K : List ByteArray} {k : ByteArray} {p : Option Addr} {n c v : Nat} {dat : List Int} {ts : List Rec} (h : KvU σ d b s D W rows τ) (ht : Tb τ) (ho : KvOk D W rows ts) (hsm : KvSm K rows) (hK : K.length ≤ 8) (hk : keyOk k = true) (hkK : k ∈ K) (hr : RdI .u8 τ p n dat) (h8 : By8 dat) (hd : dat.length ≤ 60000) (hv : v + 1 < 18446744073709551616) (hc : D.cnt + 1 < 67108864)
    (hne : (kGet rows k).2 ≠ v → ∀ σ', Ext σ σ' → R (.returned (.tuple #[.int .u64 (kGet rows k).2, .int .i64 121])) σ')
    (hok : (kGet rows k).2 = v → ∀ σ' D' W' rows' ts', KvU σ' d b s D' W' rows' τ → KvOk D' W' rows' ts' → KvSm K rows' → (∀ k', kLook rows' k' = if k = k' then some (dat, v + 1) else kLook rows k') → D'.armed = D.armed → (D'.cnt ≤ D.cnt + 2 ∧ (ts'.length ≤ ts.length + 1 ∨ ts'.length ≤ 9)) → (∀ x, x ∈ kKeys rows' ↔ x = k ∨ x ∈ kKeys rows) → R (.returned (.tuple #[.int .u64 ((v + 1 : Nat) : Int), .int .i64 0])) σ')
    (hbad : D.armed = true → ∀ σ' D' ts', DiskU σ' d D' τ → D'.up = false → D'.armed = false → D'.cnt ≤ D.cnt + 2 → Few D' → OpenOk D'.files dkv D'.cnt (ts'.map recR) → GoodT ts' → ts'.length ≤ ts.length + 9 → ((∀ k', lastOf ts' k' = kLook rows k') ∨ (∀ k', lastOf ts' k' = if k = k' then some (dat, v + 1) else kLook rows k')) → R (.returned (.tuple #[.int .u64 0, .int .i64 60])) σ') :
    Spec prog kv_Store_Set.fid #[.pointer (some ⟨s, 0, none⟩), .string k, .slice p n c, .int .u64 v] σ R := by
  have hdn : dat.length = n := hr.1
  have hks : k.size ≤ 64 := by simp [keyOk] at hk; exact hk.2
  have hrl := recOf_len hks hd hv
  have h8r : By8 (recOf k dat (v + 1)) := by8_rec h8 (by omega) (by omega) hv
  have hdd : dirOk W.dir = true := by rw [ho.dir]; exact dkv_ok
  obtain ⟨rc, sg, hlog, htold⟩ := ho.log
  have hgn : GoodT (ts ++ [(k, dat, v + 1)]) := fun t htm => by
    rcases List.mem_append.1 htm with htm | htm
    · exact ho.good t htm
    · simp at htm; subst htm; exact ⟨hk, h8, Nat.le_trans hd (by decide), Nat.succ_pos v, hv⟩
  have hln : ∀ k', lastOf (ts ++ [(k, dat, v + 1)]) k' = if k = k' then some (dat, v + 1) else kLook rows k' := fun k' => by rw [lastOf_snoc, ho.look]
  have hmn : (ts ++ [(k, dat, v + 1)]).map recR = ts.map recR ++ [recOf k dat (v + 1)] := by simp
  have badT : D.armed = true → ∀ σ' D' t, DiskU σ' d D' τ → D'.up = false → D'.armed = false → D'.cnt ≤ D.cnt + 2 → Few D' → OpenOk D'.files dkv D'.cnt t → t <+: ts.map recR ++ [recOf k dat (v + 1)] → ts.length ≤ t.length → R (.returned (.tuple #[.int .u64 0, .int .i64 60])) σ' := fun ha σ' D' t hdu hu' ha' hc' hf' ho' hp hl => by
    rcases pre_or hp (by simpa using hl) with e | e
    · subst e
      exact hbad ha σ' D' ts hdu hu' ha' hc' hf' ho' ho.good (by omega) (.inl fun k' => (ho.look k').symm)
    · rw [e, ← hmn] at ho'
      exact hbad ha σ' D' _ hdu hu' ha' hc' hf' ho' hgn (by simp) (.inr hln)
  refine kv_Store_Set.start (get_spec h ho.up (fun hf => by rw [hk] at hf; cases hf) fun _ p20 n20 c20 σ1 ho1 hx1 => ⟨_, _, _, _, _, rfl, fun hh => absurd rfl hh, fun _ => ⟨fun hh => hne (fun e => hh (by rw [e])) σ1 hx1, fun heq b33 hb33 => ?_⟩⟩)
  have heq' : (kGet rows k).2 = v := by omega
  have hok := hok heq'
  have h1 := h.mono hx1
  refine app_eff Own.empty ((RdC.of_map (hr.mono h1.ext)).mono (.set hb33)) OneC.map_int (by omega) fun p35 c35 σ2 hown hext => ?_
  have hq : ∀ a : Addr, (some (⟨b33, 0, none⟩ : Addr)) = some a → σ1 a.block = none := fun a ha => by cases ha; exact hb33
  rw [Nat.zero_add] at hown ⊢
  have ho35 : OwnI .u8 (σ1.new σ2) p35 n c35 dat := Own.to_new hown (new_block hq hext (.set hb33))
  have hx2 : Ext σ1 σ2 := ext_new hq hext (.set hb33)
  obtain ⟨τ2, h2, x2, x2n⟩ := h1.grow hx2
  have hr35 : RdI .u8 τ2 p35 n dat := (OwnI.rd ho35).mono x2n
  refine ⟨p35, n, c35, rfl, fun x37 h37 => ?_⟩
  have e37 : x37 = ((v + 1 : Nat) : Int) := by rw [h37]; simp [IntKind.wrap, IntKind.bits, IntKind.signed]; omega
  subst e37
  obtain ⟨l0, l1, m, l2⟩ := h2.rd
  refine ⟨s, 0, rfl, _, l0, kvRecord_spec (hr35.mono h2.ext) h8 (by omega) (by omega) hv fun p45 n45 c45 σ3 ho3 hx3 => ⟨p45, n45, c45, rfl, Kp.of_ext hx3, ?_⟩⟩
  obtain ⟨τ3, h3, x3, x3n⟩ := h2.grow hx3
  have hrec : RdI .u8 τ3 p45 n45 (recOf k dat (v + 1)) := (OwnI.rd ho3).mono x3n
  have hrecl : (recOf k dat (v + 1)).length = n45 := hrec.1
  obtain ⟨ρ, m3, cl, hl, hm⟩ := h3
  have hτρ : Ext τ ρ := (x2.trans x3).trans hm.up
  have htρ := ht.mono hτρ
  refine wappend_spec (hfew := ho.few) hl htρ (hrec.mono hm.up) h8r ho.up (by omega) hdd hlog (fun hh => by omega) fun _ => ⟨fun σ4 D4 W4 sg4 sf4 h4 u4 a4 k4 d4 z4 hok4 s4 told4 out4 new4 ch4 _ _ _ => ⟨0, rfl, fun hh => absurd rfl hh, fun _ => ?_⟩, fun ha σ4 D4 t4 h4 u4 a4 k4 o4 ht4 hs4 => ⟨60, rfl, fun _ => ?_, fun hh => absurd (by decide) hh⟩⟩
  · have hd4 : W4.dir = dkv := d4.trans ho.dir
    have hdd4 : dirOk W4.dir = true := by rw [hd4]; exact dkv_ok
    have htold4 : rc ++ toldS sg4 = (ts ++ [(k, dat, v + 1)]).map recR := by rw [told4, ← List.append_assoc, htold, hmn]
    have u4' : KvU σ4 d b s D4 W4 rows τ3 := ⟨ρ, m3, cl, h4, hm⟩
    refine ⟨_, u4'.rd.1, wsync_spec h4 htρ u4 (by omega) hdd4 hok4 (fun σ5 D5 h5 u5 a5 k5 hok5 out5 new5 ff5 => ⟨0, rfl, fun hh => absurd rfl hh, fun _ => ?_⟩) (fun ha σ5 D5 t5 h5 u5 a5 k5 o5 ht5 hs5 => ⟨60, rfl, fun _ => ?_, fun hh => absurd (by decide) hh⟩)⟩
    · have u5' : KvU σ5 d b s D5 W4 rows τ3 := ⟨ρ, m3, cl, h5, hm⟩
      obtain ⟨z1, z2, z3, z5, z6⟩ := z4
      have hopn4 : W4.opn ∈ W4.segs := List.mem_of_getLast? (by simpa [hasB] using z3)
      have hex5 : ∀ s, (D5.files s).isSome = true → (0 < W4.check ∧ s = fname dkv kc W4.check) ∨ ∃ n ∈ W4.segs, s = fname dkv ks n := fun s hs => by
        rcases z6 s (ff5.2 s hs) with g | g
        · rw [ch4]
          exact (ho.ex s g).imp id fun ⟨n, hn, e⟩ => ⟨n, z5.subset hn, e⟩
        · exact .inr ⟨_, hopn4, by rw [g, hd4]⟩
      have hsl4 : W4.segs.length ≤ 65 := by have := ho.sml; omega
      obtain ⟨m0, _, m5, l5⟩ := u5'.rd
      have hnew5 : D5.files (fnew dkv) = none := by
        have e1 := new5; have e2 := new4
        rw [hd4] at e1; rw [ho.dir] at e2
        exact (e1.trans e2).trans ho.new
      refine ⟨_, l5, u5'.put l5 (Own.cap ho35) (hr35.mono x3) h8 (by omega) hk hv fun σ6 rows6 h6 hl6 hk6 => ?_⟩
      have hsm6 : KvSm K rows6 := ⟨fun x hx => by
        rcases (hk6 x).1 hx with rfl | hx
        · exact hkK
        · exact hsm.keys x hx, fun x => by
        have e : kGet rows6 x = if k = x then (dat, v + 1) else kGet rows x := by
          rw [kGet, hl6]
          by_cases hkx : k = x <;> simp [hkx, kGet]
        rw [e]
        by_cases hkx : k = x
        · rw [if_pos hkx]; exact hd
        · rw [if_neg hkx]; exact hsm.len x⟩
      have hlook6 : ∀ x, kLook rows6 x = lastOf (ts ++ [(k, dat, v + 1)]) x := fun x => by rw [hln, hl6]
      have hnd6 := h6.nodup
      have hrl6 : rows6.length ≤ 8 := by
        have := nodup_le hnd6 hsm6.keys
        simp only [kKeys, List.length_map] at this; omega
      have ga6 : D5.armed = D.armed := a5.trans a4
      obtain ⟨ρ6, m6, cl6, hl6', hm6⟩ := h6
      have h6 : KvU σ6 d b s D5 W4 rows6 τ3 := ⟨ρ6, m6, cl6, hl6', hm6⟩
      have hxτ3 : Ext τ τ3 := x2.trans x3
      refine ⟨_, h6.rd.1, segments_spec hl6' ⟨_, rfl, fun hbig => ?_, fun hsml => ?_⟩⟩
      · refine ⟨_, h6.rd.1, all_spec h6 (by omega) fun p75 n75 c75 L σ8 ho8 hp8 hx8 => ⟨p75, n75, c75, rfl, Kp.of_ext hx8, ?_⟩⟩
        obtain ⟨τ8, h8', x8, x8n⟩ := h6.grow hx8
        obtain ⟨ρ8, m8, cl8, hl8, hm8⟩ := h8'
        let ts9 : List Rec := L.map fun x => (x, kGet rows6 x)
        have e9 : recsOf rows6 L = ts9.map recR := by simp [ts9, recsOf]
        have hmem9 : ∀ x ∈ L, ∃ t ∈ ts ++ [(k, dat, v + 1)], t.1 = x ∧ t.2 = kGet rows6 x := fun x hx => by
          refine lastOf_mem ?_
          rw [← hlook6, kLook_if hnd6, if_pos (hp8.mem_iff.1 hx)]
        have hg9 : GoodT ts9 := fun t htm => by
          obtain ⟨x, hx, rfl⟩ := List.mem_map.1 htm
          obtain ⟨u, hu, e1, e2⟩ := hmem9 x hx
          have := hgn u hu
          rw [e1, e2] at this; exact this
        have hl9 : ∀ x, lastOf ts9 x = kLook rows6 x := fun x => by
          rw [lastOf_map, kLook_if hnd6]
          by_cases hx : x ∈ L
          · rw [if_pos hx, if_pos (hp8.mem_iff.1 hx)]
          · rw [if_neg hx, if_neg (fun h => hx (hp8.mem_iff.2 h))]
        have hLl : L.length = rows6.length := by have := hp8.length_eq; simpa [kKeys] using this
        have hlen9 : ∀ r ∈ recsOf rows6 L, r.length ≤ 60094 := fun r hr' => by
          obtain ⟨x, hx, rfl⟩ := List.mem_map.1 hr'
          obtain ⟨u, hu, e1, e2⟩ := hmem9 x hx
          have hgu := hgn u hu
          refine recOf_len ?_ (hsm6.len x) (by rw [← e2]; exact hgu.2.2.2.2)
          have := hgu.1
          rw [e1] at this
          simp [keyOk] at this; exact this.2
        have hsh9 : Short (recsOf rows6 L) := fun r hr' => by have := hlen9 r hr'; omega
        have hj9 : (joinF (recsOf rows6 L)).length ≤ 4194304 := by
          have := joinF_le hsh9 hlen9
          rw [List.length_map, hLl] at this
          have h2 : rows6.length * (60094 + 7) ≤ 8 * (60094 + 7) := Nat.mul_le_mul_right _ hrl6
          omega
        have h89 : ∀ r ∈ recsOf rows6 L, By8 r := fun r hr' => by
          obtain ⟨x, hx, rfl⟩ := List.mem_map.1 hr'
          obtain ⟨u, hu, e1, e2⟩ := hmem9 x hx
          have hgu := hgn u hu
          rw [e1, e2] at hgu
          have hxs : x.size ≤ 64 := by have := hgu.1; simp [keyOk] at this; exact this.2
          exact by8_rec hgu.2.1 (by omega) (by have := hgu.2.2.1; omega) hgu.2.2.2.2
        have hτ8 : Ext τ ρ8 := (hxτ3.trans x8).trans hm8.up
        refine wcut_spec (hfew := kvF_few hex5 (by omega)) hl8 (ht.mono hτ8) (RdLL.mono (x8n.trans hm8.up) (OwnL.rd EBy.mono ho8)) h89 u5 (by omega) hdd4 hok5 (by rw [hd4]; exact hnew5) (fun hh => absurd hsh9 hh) fun _ => ⟨hj9, ⟨fun σ9 D9 W9 h9 u9 a9 k9 d9 s9 hok9 out9 new9 => ⟨0, rfl, fun hh => absurd rfl hh, fun _ => kv_Store_Set.pt58_of ?_⟩, fun ha σ9 D9 t9 h9 u9 a9 k9 o9 ht9 => ⟨60, rfl, fun _ => ?_, fun hh => absurd (by decide) hh⟩⟩⟩
        · refine hok σ9 D9 W9 rows6 ts9 ⟨ρ8, m8, cl8, h9, hm8.cell, hm8.map, hm8.row, (hxτ3.trans x8).trans hm8.ext⟩ ⟨u9, d9.trans hd4, ⟨recsOf rows6 L, [], ?_, by simp [toldS, e9]⟩, hg9, fun x => (hl9 x).symm, by have := new9; rw [hd4] at this; exact this, fun s hs => ?_, by rw [s9.1]; simp⟩ hsm6 hl6 (a9.trans ga6) ⟨by omega, .inr (by simp only [ts9, List.length_map]; omega)⟩ hk6
          · have : (recsOf rows6 L).length = ts9.length := by rw [e9, List.length_map]
            rw [← this]; exact hok9
          · rw [s9.2.1]
            rcases s9.2.2 s hs with g | ⟨g1, g2, g3⟩
            · exact .inl ⟨by have := hok5.opn.1; omega, by rw [g, hd4]⟩
            · exfalso
              rcases hex5 s g1 with ⟨e1, e2⟩ | ⟨n, hn, e⟩
              · exact g2 e1 (by rw [e2, hd4])
              · exact g3 n hn (by rw [e, hd4])
        · rw [hd4] at o9
          have hall : t9 = ts9.map recR ∨ t9 = (ts ++ [(k, dat, v + 1)]).map recR := by
            rcases ht9 with e | ⟨e1, e2⟩
            · exact .inl (e.trans e9)
            · rw [htold4] at e1 e2
              exact .inr (e1.eq_of_length (by have := e1.length_le; omega))
          have hdu : DiskU σ9 d D9 τ := h9.weak hτ8
          have harm : D.armed = true := by rw [← ga6]; exact ha
          have few9 : Few D9 := kvF_more hex5 (by omega) k9.2
          rcases hall with e | e
          · rw [e] at o9
            exact hbad harm σ9 D9 ts9 hdu u9 a9 (by omega) few9 o9 hg9 (by simp only [ts9, List.length_map]; omega) (.inr fun x => by rw [hl9, hl6])
          · rw [e] at o9
            exact hbad harm σ9 D9 _ hdu u9 a9 (by omega) few9 o9 hgn (by simp) (.inr hln)
      · refine kv_Store_Set.pt58_of (hok σ6 D5 W4 rows6 _ (h6.weak hxτ3) ⟨u5, hd4, ⟨rc, sg4, ?_, htold4⟩, hgn, hlook6, hnew5, hex5, by omega⟩ hsm6 hl6 ga6 ⟨by omega, .inl (by simp)⟩ hk6)
        have : (rc ++ toldS sg4).length = (ts ++ [(k, dat, v + 1)]).length := by rw [htold4, List.length_map]
        rw [← this]; exact hok5
    · rw [hd4] at o5
      have harm : D.armed = true := by rw [← a4]; exact ha
      have hex4 : ∀ s, (D4.files s).isSome = true → (D.files s).isSome = true ∨ s = fname W4.dir ks W4.opn ∨ s = fname W4.dir ks W4.opn := fun s hs => (z4.2.2.2.2 s hs).imp id .inl
      refine badT harm σ5 D5 t5 (h5.weak hτρ) u5 a5 (by omega) (kvF_more ho.ex (by have := ho.sml; omega) fun s hs => hex4 s (k5.2 s hs)) o5 ?_ (by omega)
      rw [← hmn, ← htold4]; exact ht5
  · rw [ho.dir] at o4
    refine badT ha σ4 D4 t4 (h4.weak hτρ) u4 a4 (by omega) (kvF_more ho.ex (by have := ho.sml; omega) k4.2) o4 ?_ (by omega)
    rw [← htold]; exact ht4
end
end TwW
end
section
/- written by gen.py: program points and what leads to them -/
set_option linter.unusedVariables false
set_option maxRecDepth 100000
namespace TwW
open Go Tw Go.Proofs.Tryz
noncomputable section
namespace law12_KvTwo
abbrev fid : Nat := 8
noncomputable def K0 := f8.body.getD .skip
def K1 := cl K0
def K2 := cr K0
def K3 := cl K2
def K4 := cr K2
def K5 := cl K4
def K6 := cl K5
def K7 := cr K5
def K8 := cl K7
def K9 := cl K8
def K10 := cr K8
def K11 := cr K7
def K12 := cr K4
def K13 := cl K12
def K14 := cl K13
def K15 := cr K13
def K16 := cl K15
def K17 := cl K16
def K18 := cr K16
def K19 := cl K18
def K20 := cr K18
def K21 := cl K20
def K22 := cr K20
def K23 := cr K15
def K24 := cr K12
def K25 := cl K24
def K26 := cl K25
def K27 := cr K25
def K28 := cl K27
def K29 := cl K28
def K30 := cr K28
def K31 := cr K27
def K32 := cr K24
def K33 := cl K32
def K34 := cl K33
def K35 := cr K33
def K36 := cl K35
def K37 := cl K36
def K38 := cl K37
def K39 := cl K38
def K40 := cr K38
def K41 := cl K40
def K42 := cr K40
def K43 := cr K37
def K44 := cl K43
def K45 := cl K44
def K46 := cl K45
def K47 := cr K45
def K48 := cl K47
def K49 := cr K47
def K50 := cl K49
def K51 := cr K49
def K52 := cl K51
def K53 := cr K51
def K54 := cl K53
def K55 := cr K53
def K56 := cl K55
def K57 := cl K56
def K58 := cr K56
def K59 := cr K55
def K60 := cr K43
def K61 := cr K32
def K62 := cl K61
def K63 := cr K61
abbrev gl (R : Ending → Hp → Prop) : Gl := Gl.fn prog 8 152 R
def pt39 (R : Ending → Hp → Prop) (s0 : ByteArray) (p1 : Option Addr) (n1 c1 : Nat) (p2 : Option Addr) (n2 c2 : Nat) (x3 : Int) (q9 : Option Addr) (x16 : Int) (σ : Hp) : Prop := ∀ (J : Env), At (gl R) [.code K39, .code K40, .code K43, .inLoop K37, .inBlock 0, .code K61] (upds J [(0, (.string s0)), (1, (.slice p1 n1 c1)), (2, (.slice p2 n2 c2)), (3, (.int .i64 x3)), (9, (.pointer q9)), (16, (.int .i64 x16))]) [] σ
theorem start {R : Ending → Hp → Prop} {s0 : ByteArray} {p1 p2 : Option Addr} {n1 c1 n2 c2 : Nat} {x3 : Int} {σ : Hp} (h : Spec prog 11 #[] σ (Cont R (fun v σ1 => ∃ q28 : Option Addr, v = (.pointer q28) ∧ Spec prog 30 #[(.pointer q28)] σ1 (Cont R (fun v_2 σ1_2 => ∃ q29a : Option Addr, ∃ x29b : Int, v_2 = (.tuple #[(.pointer q29a), (.int .i64 x29b)]) ∧ ((x29b : Int) ≠ 0 → R (.returned (.bool false)) σ1_2) ∧ (¬ ((x29b : Int) ≠ 0) → ((Option.isNone q29a) = true → R (.returned (.bool false)) σ1_2) ∧ ((Option.isNone q29a) = false → Spec prog 31 #[(.string s0)] σ1_2 (Cont R (fun v_3 σ1_3 => ∃ t39 : Bool, v_3 = (.bool t39) ∧ (t39 = false → Spec prog 32 #[(.pointer q29a), (.string s0), (.slice p1 n1 c1), (.int .u64 0)] σ1_3 (Cont R (fun v_4 σ1_4 => ∃ x45a : Int, ∃ x45b : Int, v_4 = (.tuple #[(.int .u64 x45a), (.int .i64 x45b)]) ∧ Spec prog 33 #[(.pointer q29a), (.string s0)] σ1_4 (Cont R (fun v_5 σ1_5 => ∃ p51a : Option Addr, ∃ n51a : Nat, ∃ c51a : Nat, ∃ x51b : Int, ∃ x51c : Int, v_5 = (.tuple #[(.slice p51a n51a c51a), (.int .u64 x51b), (.int .i64 x51c)]) ∧ ((x45b : Int) = 120 → ((x51c : Int) = 120 → Spec prog 34 #[] σ1_5 (Cont R (fun v_6 σ1_6 => ∃ t62 : Bool, v_6 = (.bool t62) ∧ R (.returned (.bool t62)) σ1_6))) ∧ (¬ ((x51c : Int) = 120) → R (.returned (.bool false)) σ1_5)) ∧ (¬ ((x45b : Int) = 120) → R (.returned (.bool false)) σ1_5)))))) ∧ (t39 = true → ((60000 : Int) < (n1 : Int) → Spec prog 34 #[] σ1_3 (Cont R (fun v_4 σ1_4 => ∃ t72 : Bool, v_4 = (.bool t72) ∧ R (.returned (.bool t72)) σ1_4))) ∧ (¬ ((60000 : Int) < (n1 : Int)) → ((60000 : Int) < (n2 : Int) → Spec prog 34 #[] σ1_3 (Cont R (fun v_4 σ1_4 => ∃ t72 : Bool, v_4 = (.bool t72) ∧ R (.returned (.bool t72)) σ1_4))) ∧ (¬ ((60000 : Int) < (n2 : Int)) → pt39 R s0 p1 n1 c1 p2 n2 c2 x3 q29a 0 σ1_3)))))))))))) : Spec prog 8 #[(.string s0), (.slice p1 n1 c1), (.slice p2 n2 c2), (.int .i64 x3)] σ R := by
 refine Spec.of_at (fn := f8) (c := K0) func8 (by kernel_rfl) (Nat.le_of_ble_eq_true (by kernel_rfl)) (fun e he => ?_)
 refine At.ofL (l := [(0, (.string s0)), (1, (.slice p1 n1 c1)), (2, (.slice p2 n2 c2)), (3, (.int .i64 x3))]) ⟨he 0, he 1, he 2, he 3, trivial⟩ (fun J => ?_)
 show At (gl R) _ _ _ _
 refine At.s K1 K2 ?_
 refine At.rg 0 [0] ?_
 refine Seq.u 8 (.bool false) ?_
 refine Seq.done ?_
 refine At.s K3 K4 ?_
 refine At.rg 1 [0, 1, 2, 3, 4, 5, 6] ?_
 refine Seq.o ?_
 refine OpTo.cl (some 28) call11 (h.cont fun v σ1 h2 => ?_); replace h := h2; clear h2
 obtain ⟨q28, rfl, h⟩ := h
 refine Seq.o ?_
 refine OpTo.cl (some 29) call30 (h.cont fun v_2 σ1_2 h2 => ?_); replace h := h2; clear h2
 obtain ⟨q29a, x29b, rfl, h⟩ := h
 refine Seq.us [(27, .tuple #[(.pointer q29a), (.int .i64 x29b)]), (30, .pointer q29a), (31, .int .i64 x29b), (9, .pointer q29a), (10, .int .i64 x29b)] ?_
 refine Seq.done ?_
 refine At.s K5 K12 ?_
 refine At.s K6 K7 ?_
 refine At.rg 2 [0, 1, 2, 3, 4, 5] ?_
 refine Seq.us [(32, .int .i64 x29b), (33, .bool (decide ((x29b : Int) ≠ 0))), (34, .bool (decide ((x29b : Int) ≠ 0)))] ?_
 cases hb : (decide ((x29b : Int) ≠ 0)) with
 | true =>
  replace h := h.1 (of_decide_eq_true hb)
  refine Seq.n 35 ?_
  refine Seq.n 36 ?_
  refine Seq.u 37 (.bool true) ?_
  refine Seq.done ?_
  refine At.cT 37 K8 K11 ?_
  refine At.s K9 K10 ?_
  refine At.rg 3 [0] ?_
  refine Seq.u 8 (.bool false) ?_
  refine Seq.done ?_
  exact At.rt [.tmp 8] [(.bool false)] func8 ⟨_, rfl, rfl⟩ h
 | false =>
  replace h := h.2 (of_decide_eq_false hb)
  refine Seq.u 35 (.pointer q29a) ?_
  refine Seq.zg 36 (.binOp .eql 53 (.tmp 35) (.const (.pointer none)) 53) 4 (2, false) (.bool (Option.isNone q29a)) (Y.eqlNil underlying53 rfl rfl) ?_
  refine Seq.u 37 (.bool (Option.isNone q29a)) ?_
  refine Seq.done ?_
  cases hb : (Option.isNone q29a) with
  | true =>
   replace h := h.1 hb
   refine At.cT 37 K8 K11 ?_
   refine At.s K9 K10 ?_
   refine At.rg 3 [0] ?_
   refine Seq.u 8 (.bool false) ?_
   refine Seq.done ?_
   exact At.rt [.tmp 8] [(.bool false)] func8 ⟨_, rfl, rfl⟩ h
  | false =>
   replace h := h.2 hb
   refine At.cF 37 K8 K11 ?_
   refine At.skip ?_
   refine At.s K13 K24 ?_
   refine At.s K14 K15 ?_
   refine At.rg 4 [0, 1, 2] ?_
   refine Seq.u 38 (.string s0) ?_
   refine Seq.o ?_
   refine OpTo.cl (some 39) call31 (h.cont fun v_3 σ1_3 h2 => ?_); replace h := h2; clear h2
   obtain ⟨t39, rfl, h⟩ := h
   refine Seq.u 40 (.bool (!t39)) ?_
   refine Seq.done ?_
   cases hb : (!t39) with
   | true =>
    replace h := h.1 (Tw.nt hb)
    refine At.cT 40 K16 K23 ?_
    refine At.s K17 K18 ?_
    refine At.rg 5 [0, 1, 2, 3, 4, 5, 6, 7, 8] ?_
    refine Seq.us [(42, .pointer q29a), (43, .string s0), (44, .slice p1 n1 c1)] ?_
    refine Seq.o ?_
    refine OpTo.cl (some 45) call32 (h.cont fun v_4 σ1_4 h2 => ?_); replace h := h2; clear h2
    obtain ⟨x45a, x45b, rfl, h⟩ := h
    refine Seq.us [(41, .tuple #[(.int .u64 x45a), (.int .i64 x45b)]), (46, .int .u64 x45a), (47, .int .i64 x45b), (11, .int .u64 x45a), (12, .int .i64 x45b)] ?_
    refine Seq.done ?_
    refine At.s K19 K20 ?_
    refine At.rg 6 [0, 1, 2, 3, 4, 5, 6, 7, 8, 9] ?_
    refine Seq.us [(49, .pointer q29a), (50, .string s0)] ?_
    refine Seq.o ?_
    refine OpTo.cl (some 51) call33 (h.cont fun v_5 σ1_5 h2 => ?_); replace h := h2; clear h2
    obtain ⟨p51a, n51a, c51a, x51b, x51c, rfl, h⟩ := h
    refine Seq.us [(48, .tuple #[(.slice p51a n51a c51a), (.int .u64 x51b), (.int .i64 x51c)]), (52, .slice p51a n51a c51a), (53, .int .u64 x51b), (54, .int .i64 x51c), (13, .slice p51a n51a c51a), (14, .int .u64 x51b), (15, .int .i64 x51c)] ?_
    refine Seq.done ?_
    refine At.L [(12, (.int .i64 x45b)), (15, (.int .i64 x51c))] fun J => ?_
    refine At.s K21 K22 ?_
    refine At.rg 7 [0, 1, 2, 3, 4, 5, 6, 7, 8, 9] ?_
    refine Seq.us [(55, .int .i64 x45b), (56, .bool (decide ((x45b : Int) = 120))), (57, .bool (decide ((x45b : Int) = 120)))] ?_
    cases hb : (decide ((x45b : Int) = 120)) with
    | true =>
     replace h := h.1 (of_decide_eq_true hb)
     refine Seq.us [(58, .int .i64 x51c), (59, .bool (decide ((x51c : Int) = 120))), (60, .bool (decide ((x51c : Int) = 120))), (61, .bool (decide ((x51c : Int) = 120)))] ?_
     cases hb : (decide ((x51c : Int) = 120)) with
     | true =>
      replace h := h.1 (of_decide_eq_true hb)
      refine Seq.o ?_
      refine OpTo.cl (some 62) call34 (h.cont fun v_6 σ1_6 h2 => ?_); replace h := h2; clear h2
      obtain ⟨t62, rfl, h⟩ := h
      refine Seq.us [(63, .bool t62), (8, .bool t62)] ?_
      refine Seq.done ?_
      exact At.rt [.tmp 8] [(.bool t62)] func8 ⟨_, rfl, rfl⟩ h
     | false =>
      replace h := h.2 (of_decide_eq_false hb)
      refine Seq.n 62 ?_
      refine Seq.us [(63, .bool false), (8, .bool false)] ?_
      refine Seq.done ?_
      exact At.rt [.tmp 8] [(.bool false)] func8 ⟨_, rfl, rfl⟩ h
    | false =>
     replace h := h.2 (of_decide_eq_false hb)
     refine Seq.n 58 ?_
     refine Seq.n 59 ?_
     refine Seq.us [(60, .bool false), (61, .bool false)] ?_
     refine Seq.n 62 ?_
     refine Seq.us [(63, .bool false), (8, .bool false)] ?_
     refine Seq.done ?_
     exact At.rt [.tmp 8] [(.bool false)] func8 ⟨_, rfl, rfl⟩ h
   | false =>
    replace h := h.2 (Tw.nf hb)
    refine At.cF 40 K16 K23 ?_
    refine At.skip ?_
    refine At.s K25 K32 ?_
    refine At.s K26 K27 ?_
    refine At.rg 8 [0, 1, 2, 3, 4, 5, 6, 7] ?_
    refine Seq.u 64 (.slice p1 n1 c1) ?_
    refine Seq.z 65 (.call { callee := .builtin .len, args := #[(.tmp 64)], argTypes := #[23] }) 3 (.int .i64 (n1 : Int)) (Y.lenS underlying23 rfl rfl) ?_
    refine Seq.us [(66, .bool (decide ((60000 : Int) < (n1 : Int)))), (67, .bool (decide ((60000 : Int) < (n1 : Int))))] ?_
    cases hb : (decide ((60000 : Int) < (n1 : Int))) with
    | true =>
     replace h := h.1 (of_decide_eq_true hb)
     refine Seq.n 68 ?_
     refine Seq.n 69 ?_
     refine Seq.n 70 ?_
     refine Seq.u 71 (.bool true) ?_
     refine Seq.done ?_
     refine At.cT 71 K28 K31 ?_
     refine At.s K29 K30 ?_
     refine At.rg 9 [0, 1] ?_
     refine Seq.o ?_
     refine OpTo.cl (some 72) call34 (h.cont fun v_4 σ1_4 h2 => ?_); replace h := h2; clear h2
     obtain ⟨t72, rfl, h⟩ := h
     refine Seq.u 8 (.bool t72) ?_
     refine Seq.done ?_
     exact At.rt [.tmp 8] [(.bool t72)] func8 ⟨_, rfl, rfl⟩ h
    | false =>
     replace h := h.2 (of_decide_eq_false hb)
     refine Seq.u 68 (.slice p2 n2 c2) ?_
     refine Seq.zg 69 (.call { callee := .builtin .len, args := #[(.tmp 68)], argTypes := #[23] }) 3 (3, false) (.int .i64 (n2 : Int)) (Y.lenS underlying23 rfl rfl) ?_
     refine Seq.us [(70, .bool (decide ((60000 : Int) < (n2 : Int)))), (71, .bool (decide ((60000 : Int) < (n2 : Int))))] ?_
     refine Seq.done ?_
     cases hb : (decide ((60000 : Int) < (n2 : Int))) with
     | true =>
      replace h := h.1 (of_decide_eq_true hb)
      refine At.cT 71 K28 K31 ?_
      refine At.s K29 K30 ?_
      refine At.rg 9 [0, 1] ?_
      refine Seq.o ?_
      refine OpTo.cl (some 72) call34 (h.cont fun v_4 σ1_4 h2 => ?_); replace h := h2; clear h2
      obtain ⟨t72, rfl, h⟩ := h
      refine Seq.u 8 (.bool t72) ?_
      refine Seq.done ?_
      exact At.rt [.tmp 8] [(.bool t72)] func8 ⟨_, rfl, rfl⟩ h
     | false =>
      replace h := h.2 (of_decide_eq_false hb)
      refine At.cF 71 K28 K31 ?_
      refine At.skip ?_
      refine At.s K33 K61 ?_
      refine At.s K34 K35 ?_
      refine At.rg 10 [0] ?_
      refine Seq.u 16 (.int .i64 0) ?_
      refine Seq.done ?_
      refine At.L [(0, (.string s0)), (1, (.slice p1 n1 c1)), (2, (.slice p2 n2 c2)), (3, (.int .i64 x3)), (9, (.pointer q29a)), (16, (.int .i64 0))] fun J => ?_
      refine At.b 0 K36 ?_
      refine At.loop (x := K37) (by kernel_rfl) ?_
      refine At.s K38 K43 ?_
      refine At.s K39 K40 ?_
      exact At.v [(0, (.string s0)), (1, (.slice p1 n1 c1)), (2, (.slice p2 n2 c2)), (3, (.int .i64 x3)), (9, (.pointer q29a)), (16, (.int .i64 0))] (h _)
theorem pt39_of {R : Ending → Hp → Prop} {s0 : ByteArray} {p1 p2 q9 : Option Addr} {n1 c1 n2 c2 : Nat} {x3 x16 : Int} {σ : Hp} (h : Spec prog 20 #[(.int .i64 x3)] σ (Cont R (fun v σ1 => ∃ x75 : Int, v = (.int .i64 x75) ∧ 5 ≠ (0 : Int) ∧ ∀ x76 : Int, x76 = Int.tmod x75 5 → I64 (1 + x76) ∧ ((x16 : Int) < (1 + x76) → Spec prog 33 #[(.pointer q9), (.string s0)] σ1 (Cont R (fun v_2 σ1_2 => ∃ p84a : Option Addr, ∃ n84a : Nat, ∃ c84a : Nat, ∃ x84b : Int, ∃ x84c : Int, v_2 = (.tuple #[(.slice p84a n84a c84a), (.int .u64 x84b), (.int .i64 x84c)]) ∧ Spec prog 14 #[(.slice p1 n1 c1)] σ1_2 (Cont R (fun v_3 σ1_3 => ∃ p92 : Option Addr, ∃ n92 : Nat, ∃ c92 : Nat, v_3 = (.slice p92 n92 c92) ∧ Spec prog 32 #[(.pointer q9), (.string s0), (.slice p92 n92 c92), (.int .u64 x84b)] σ1_3 (Cont R (fun v_4 σ1_4 => ∃ x94a : Int, ∃ x94b : Int, v_4 = (.tuple #[(.int .u64 x94a), (.int .i64 x94b)]) ∧ Spec prog 14 #[(.slice p2 n2 c2)] σ1_4 (Cont R (fun v_5 σ1_5 => ∃ p101 : Option Addr, ∃ n101 : Nat, ∃ c101 : Nat, v_5 = (.slice p101 n101 c101) ∧ Spec prog 32 #[(.pointer q9), (.string s0), (.slice p101 n101 c101), (.int .u64 x84b)] σ1_5 (Cont R (fun v_6 σ1_6 => ∃ x103a : Int, ∃ x103b : Int, v_6 = (.tuple #[(.int .u64 x103a), (.int .i64 x103b)]) ∧ Spec prog 33 #[(.pointer q9), (.string s0)] σ1_6 (Cont R (fun v_7 σ1_7 => ∃ p109a : Option Addr, ∃ n109a : Nat, ∃ c109a : Nat, ∃ x109b : Int, ∃ x109c : Int, v_7 = (.tuple #[(.slice p109a n109a c109a), (.int .u64 x109b), (.int .i64 x109c)]) ∧ ((x84c : Int) ≠ 0 → R (.returned (.bool false)) σ1_7) ∧ (¬ ((x84c : Int) ≠ 0) → ((x94b : Int) ≠ 0 → R (.returned (.bool false)) σ1_7) ∧ (¬ ((x94b : Int) ≠ 0) → ((x103b : Int) ≠ 121 → R (.returned (.bool false)) σ1_7) ∧ (¬ ((x103b : Int) ≠ 121) → ((x109c : Int) ≠ 0 → R (.returned (.bool false)) σ1_7) ∧ (¬ ((x109c : Int) ≠ 0) → ∀ x130 : Int, x130 = IntKind.u64.wrap (x84b + 1) → ((x94a : Int) ≠ x130 → R (.returned (.bool false)) σ1_7) ∧ (¬ ((x94a : Int) ≠ x130) → ∀ x136 : Int, x136 = IntKind.u64.wrap (x84b + 1) → ((x103a : Int) ≠ x136 → R (.returned (.bool false)) σ1_7) ∧ (¬ ((x103a : Int) ≠ x136) → ∀ x142 : Int, x142 = IntKind.u64.wrap (x84b + 1) → ((x109b : Int) ≠ x142 → R (.returned (.bool false)) σ1_7) ∧ (¬ ((x109b : Int) ≠ x142) → Spec prog 35 #[(.slice p109a n109a c109a), (.slice p1 n1 c1)] σ1_7 (Cont R (fun v_8 σ1_8 => ∃ t148 : Bool, v_8 = (.bool t148) ∧ (t148 = false → R (.returned (.bool false)) σ1_8) ∧ (t148 = true → I64 (x16 + 1) ∧ pt39 R s0 p1 n1 c1 p2 n2 c2 x3 q9 ((x16 + 1)) σ1_8))))))))))))))))))))))) ∧ (¬ ((x16 : Int) < (1 + x76)) → Spec prog 34 #[] σ1 (Cont R (fun v_2 σ1_2 => ∃ t151 : Bool, v_2 = (.bool t151) ∧ R (.returned (.bool t151)) σ1_2)))))) : pt39 R s0 p1 n1 c1 p2 n2 c2 x3 q9 x16 σ := by
 intro J
 show At (gl R) _ _ _ _
 refine At.rg 11 [0, 1, 2, 3, 4, 5] ?_
 refine Seq.us [(73, .int .i64 x16), (74, .int .i64 x3)] ?_
 refine Seq.o ?_
 refine OpTo.cl (some 75) call20 (h.cont fun v σ1 h2 => ?_); replace h := h2; clear h2
 obtain ⟨x75, rfl, h⟩ := h
 obtain ⟨hc, h⟩ := h
 obtain ⟨x76, hwx76⟩ : ∃ y, y = Int.tmod x75 5 := ⟨_, rfl⟩
 replace h := h x76 hwx76
 refine Seq.y (d := (some 76)) (op := (.binOp .rem 3 (.tmp 75) (.const (.int .i64 5)) 3)) (ty := 3) (v := (.int .i64 x76)) (by kernel_rfl) rfl (hwx76 ▸ Y.rem hc rfl rfl) ?_
 obtain ⟨hi, h⟩ := h
 refine Seq.z 77 (.binOp .add 3 (.const (.int .i64 1)) (.tmp 76) 3) 3 (.int .i64 (1 + x76)) (Y.addI hi rfl rfl) ?_
 refine Seq.u 78 (.bool (decide ((x16 : Int) < (1 + x76)))) ?_
 refine Seq.done ?_
 cases hb : (decide ((x16 : Int) < (1 + x76))) with
 | true =>
  replace h := h.1 (of_decide_eq_true hb)
  refine At.cT 78 K41 K42 ?_
  refine At.skip ?_
  refine At.s K44 K60 ?_
  refine At.b 1 K45 ?_
  refine At.s K46 K47 ?_
  refine At.rg 13 [0, 1, 2, 3, 4, 5, 6, 7, 8, 9] ?_
  refine Seq.us [(82, .pointer q9), (83, .string s0)] ?_
  refine Seq.o ?_
  refine OpTo.cl (some 84) call33 (h.cont fun v_2 σ1_2 h2 => ?_); replace h := h2; clear h2
  obtain ⟨p84a, n84a, c84a, x84b, x84c, rfl, h⟩ := h
  refine Seq.us [(81, .tuple #[(.slice p84a n84a c84a), (.int .u64 x84b), (.int .i64 x84c)]), (85, .slice p84a n84a c84a), (86, .int .u64 x84b), (87, .int .i64 x84c), (17, .slice p84a n84a c84a), (18, .int .u64 x84b), (19, .int .i64 x84c)] ?_
  refine Seq.done ?_
  refine At.s K48 K49 ?_
  refine At.rg 14 [0, 1, 2, 3, 4, 5, 6, 7, 8, 9, 10] ?_
  refine Seq.us [(89, .pointer q9), (90, .string s0), (91, .slice p1 n1 c1)] ?_
  refine Seq.o ?_
  refine OpTo.cl (some 92) call14 (h.cont fun v_3 σ1_3 h2 => ?_); replace h := h2; clear h2
  obtain ⟨p92, n92, c92, rfl, h⟩ := h
  refine Seq.u 93 (.int .u64 x84b) ?_
  refine Seq.o ?_
  refine OpTo.cl (some 94) call32 (h.cont fun v_4 σ1_4 h2 => ?_); replace h := h2; clear h2
  obtain ⟨x94a, x94b, rfl, h⟩ := h
  refine Seq.us [(88, .tuple #[(.int .u64 x94a), (.int .i64 x94b)]), (95, .int .u64 x94a), (96, .int .i64 x94b), (20, .int .u64 x94a), (21, .int .i64 x94b)] ?_
  refine Seq.done ?_
  refine At.s K50 K51 ?_
  refine At.rg 15 [0, 1, 2, 3, 4, 5, 6, 7, 8, 9, 10] ?_
  refine Seq.us [(98, .pointer q9), (99, .string s0), (100, .slice p2 n2 c2)] ?_
  refine Seq.o ?_
  refine OpTo.cl (some 101) call14 (h.cont fun v_5 σ1_5 h2 => ?_); replace h := h2; clear h2
  obtain ⟨p101, n101, c101, rfl, h⟩ := h
  refine Seq.u 102 (.int .u64 x84b) ?_
  refine Seq.o ?_
  refine OpTo.cl (some 103) call32 (h.cont fun v_6 σ1_6 h2 => ?_); replace h := h2; clear h2
  obtain ⟨x103a, x103b, rfl, h⟩ := h
  refine Seq.us [(97, .tuple #[(.int .u64 x103a), (.int .i64 x103b)]), (104, .int .u64 x103a), (105, .int .i64 x103b), (22, .int .u64 x103a), (23, .int .i64 x103b)] ?_
  refine Seq.done ?_
  refine At.s K52 K53 ?_
  refine At.rg 16 [0, 1, 2, 3, 4, 5, 6, 7, 8, 9] ?_
  refine Seq.us [(107, .pointer q9), (108, .string s0)] ?_
  refine Seq.o ?_
  refine OpTo.cl (some 109) call33 (h.cont fun v_7 σ1_7 h2 => ?_); replace h := h2; clear h2
  obtain ⟨p109a, n109a, c109a, x109b, x109c, rfl, h⟩ := h
  refine Seq.us [(106, .tuple #[(.slice p109a n109a c109a), (.int .u64 x109b), (.int .i64 x109c)]), (110, .slice p109a n109a c109a), (111, .int .u64 x109b), (112, .int .i64 x109c), (24, .slice p109a n109a c109a), (25, .int .u64 x109b), (26, .int .i64 x109c)] ?_
  refine Seq.done ?_
  refine At.L [(0, (.string s0)), (1, (.slice p1 n1 c1)), (2, (.slice p2 n2 c2)), (3, (.int .i64 x3)), (9, (.pointer q9)), (16, (.int .i64 x16)), (18, (.int .u64 x84b)), (19, (.int .i64 x84c)), (20, (.int .u64 x94a)), (21, (.int .i64 x94b)), (22, (.int .u64 x103a)), (23, (.int .i64 x103b)), (24, (.slice p109a n109a c109a)), (25, (.int .u64 x109b)), (26, (.int .i64 x109c))] fun J => ?_
  refine At.s K54 K55 ?_
  refine At.rg 17 [0, 1, 2, 3, 4, 5, 6, 7, 8, 9, 10, 11, 12, 13, 14, 15, 16, 17, 18, 19, 20, 21, 22, 23, 24, 25, 26, 27, 28, 29, 30, 31, 32, 33, 34, 35, 36, 37] ?_
  refine Seq.us [(113, .int .i64 x84c), (114, .bool (decide ((x84c : Int) ≠ 0))), (115, .bool (decide ((x84c : Int) ≠ 0)))] ?_
  cases hb : (decide ((x84c : Int) ≠ 0)) with
  | true =>
   replace h := h.1 (of_decide_eq_true hb)
   refine Seq.n 116 ?_
   refine Seq.n 117 ?_
   refine Seq.us [(118, .bool true), (119, .bool true)] ?_
   refine Seq.n 120 ?_
   refine Seq.n 121 ?_
   refine Seq.us [(122, .bool true), (123, .bool true)] ?_
   refine Seq.n 124 ?_
   refine Seq.n 125 ?_
   refine Seq.us [(126, .bool true), (127, .bool true)] ?_
   refine Seq.n 128 ?_
   refine Seq.n 129 ?_
   refine Seq.n 130 ?_
   refine Seq.n 131 ?_
   refine Seq.us [(132, .bool true), (133, .bool true)] ?_
   refine Seq.n 134 ?_
   refine Seq.n 135 ?_
   refine Seq.n 136 ?_
   refine Seq.n 137 ?_
   refine Seq.us [(138, .bool true), (139, .bool true)] ?_
   refine Seq.n 140 ?_
   refine Seq.n 141 ?_
   refine Seq.n 142 ?_
   refine Seq.n 143 ?_
   refine Seq.us [(144, .bool true), (145, .bool true)] ?_
   refine Seq.n 146 ?_
   refine Seq.n 147 ?_
   refine Seq.n 148 ?_
   refine Seq.n 149 ?_
   refine Seq.u 150 (.bool true) ?_
   refine Seq.done ?_
   refine At.cT 150 K56 K59 ?_
   refine At.s K57 K58 ?_
   refine At.rg 18 [0] ?_
   refine Seq.u 8 (.bool false) ?_
   refine Seq.done ?_
   exact At.rt [.tmp 8] [(.bool false)] func8 ⟨_, rfl, rfl⟩ h
  | false =>
   replace h := h.2 (of_decide_eq_false hb)
   refine Seq.us [(116, .int .i64 x94b), (117, .bool (decide ((x94b : Int) ≠ 0))), (118, .bool (decide ((x94b : Int) ≠ 0))), (119, .bool (decide ((x94b : Int) ≠ 0)))] ?_
   cases hb : (decide ((x94b : Int) ≠ 0)) with
   | true =>
    replace h := h.1 (of_decide_eq_true hb)
    refine Seq.n 120 ?_
    refine Seq.n 121 ?_
    refine Seq.us [(122, .bool true), (123, .bool true)] ?_
    refine Seq.n 124 ?_
    refine Seq.n 125 ?_
    refine Seq.us [(126, .bool true), (127, .bool true)] ?_
    refine Seq.n 128 ?_
    refine Seq.n 129 ?_
    refine Seq.n 130 ?_
    refine Seq.n 131 ?_
    refine Seq.us [(132, .bool true), (133, .bool true)] ?_
    refine Seq.n 134 ?_
    refine Seq.n 135 ?_
    refine Seq.n 136 ?_
    refine Seq.n 137 ?_
    refine Seq.us [(138, .bool true), (139, .bool true)] ?_
    refine Seq.n 140 ?_
    refine Seq.n 141 ?_
    refine Seq.n 142 ?_
    refine Seq.n 143 ?_
    refine Seq.us [(144, .bool true), (145, .bool true)] ?_
    refine Seq.n 146 ?_
    refine Seq.n 147 ?_
    refine Seq.n 148 ?_
    refine Seq.n 149 ?_
    refine Seq.u 150 (.bool true) ?_
    refine Seq.done ?_
    refine At.L [(0, (.string s0)), (1, (.slice p1 n1 c1)), (2, (.slice p2 n2 c2)), (3, (.int .i64 x3)), (9, (.pointer q9)), (16, (.int .i64 x16)), (150, (.bool true))] fun J => ?_
    refine At.cT 150 K56 K59 ?_
    refine At.s K57 K58 ?_
    refine At.rg 18 [0] ?_
    refine Seq.u 8 (.bool false) ?_
    refine Seq.done ?_
    exact At.rt [.tmp 8] [(.bool false)] func8 ⟨_, rfl, rfl⟩ h
   | false =>
    replace h := h.2 (of_decide_eq_false hb)
    refine Seq.us [(120, .int .i64 x103b), (121, .bool (decide ((x103b : Int) ≠ 121))), (122, .bool (decide ((x103b : Int) ≠ 121))), (123, .bool (decide ((x103b : Int) ≠ 121)))] ?_
    cases hb : (decide ((x103b : Int) ≠ 121)) with
    | true =>
     replace h := h.1 (of_decide_eq_true hb)
     refine Seq.n 124 ?_
     refine Seq.n 125 ?_
     refine Seq.us [(126, .bool true), (127, .bool true)] ?_
     refine Seq.n 128 ?_
     refine Seq.n 129 ?_
     refine Seq.n 130 ?_
     refine Seq.n 131 ?_
     refine Seq.us [(132, .bool true), (133, .bool true)] ?_
     refine Seq.n 134 ?_
     refine Seq.n 135 ?_
     refine Seq.n 136 ?_
     refine Seq.n 137 ?_
     refine Seq.us [(138, .bool true), (139, .bool true)] ?_
     refine Seq.n 140 ?_
     refine Seq.n 141 ?_
     refine Seq.n 142 ?_
     refine Seq.n 143 ?_
     refine Seq.us [(144, .bool true), (145, .bool true)] ?_
     refine Seq.n 146 ?_
     refine Seq.n 147 ?_
     refine Seq.n 148 ?_
     refine Seq.n 149 ?_
     refine Seq.u 150 (.bool true) ?_
     refine Seq.done ?_
     refine At.cT 150 K56 K59 ?_
     refine At.s K57 K58 ?_
     refine At.rg 18 [0] ?_
     refine Seq.u 8 (.bool false) ?_
     refine Seq.done ?_
     exact At.rt [.tmp 8] [(.bool false)] func8 ⟨_, rfl, rfl⟩ h
    | false =>
     replace h := h.2 (of_decide_eq_false hb)
     refine Seq.us [(124, .int .i64 x109c), (125, .bool (decide ((x109c : Int) ≠ 0))), (126, .bool (decide ((x109c : Int) ≠ 0))), (127, .bool (decide ((x109c : Int) ≠ 0)))] ?_
     cases hb : (decide ((x109c : Int) ≠ 0)) with
     | true =>
      replace h := h.1 (of_decide_eq_true hb)
      refine Seq.n 128 ?_
      refine Seq.n 129 ?_
      refine Seq.n 130 ?_
      refine Seq.n 131 ?_
      refine Seq.us [(132, .bool true), (133, .bool true)] ?_
      refine Seq.n 134 ?_
      refine Seq.n 135 ?_
      refine Seq.n 136 ?_
      refine Seq.n 137 ?_
      refine Seq.us [(138, .bool true), (139, .bool true)] ?_
      refine Seq.n 140 ?_
      refine Seq.n 141 ?_
      refine Seq.n 142 ?_
      refine Seq.n 143 ?_
      refine Seq.us [(144, .bool true), (145, .bool true)] ?_
      refine Seq.n 146 ?_
      refine Seq.n 147 ?_
      refine Seq.n 148 ?_
      refine Seq.n 149 ?_
      refine Seq.u 150 (.bool true) ?_
      refine Seq.done ?_
      refine At.L [(0, (.string s0)), (1, (.slice p1 n1 c1)), (2, (.slice p2 n2 c2)), (3, (.int .i64 x3)), (9, (.pointer q9)), (16, (.int .i64 x16)), (150, (.bool true))] fun J => ?_
      refine At.cT 150 K56 K59 ?_
      refine At.s K57 K58 ?_
      refine At.rg 18 [0] ?_
      refine Seq.u 8 (.bool false) ?_
      refine Seq.done ?_
      exact At.rt [.tmp 8] [(.bool false)] func8 ⟨_, rfl, rfl⟩ h
     | false =>
      replace h := h.2 (of_decide_eq_false hb)
      refine Seq.us [(128, .int .u64 x94a), (129, .int .u64 x84b)] ?_
      obtain ⟨x130, hwx130⟩ : ∃ y, y = IntKind.u64.wrap (x84b + 1) := ⟨_, rfl⟩
      replace h := h x130 hwx130
      refine Seq.yg (d := (some 130)) (op := (.binOp .add 56 (.tmp 129) (.const (.int .u64 1)) 56)) (ty := 56) (gd := (some (14, false))) (v := (.int .u64 x130)) (by kernel_rfl) rfl rfl (hwx130 ▸ Y.add rfl rfl) ?_
      refine Seq.us [(131, .bool (decide ((x94a : Int) ≠ x130))), (132, .bool (decide ((x94a : Int) ≠ x130))), (133, .bool (decide ((x94a : Int) ≠ x130)))] ?_
      cases hb : (decide ((x94a : Int) ≠ x130)) with
      | true =>
       replace h := h.1 (of_decide_eq_true hb)
       refine Seq.n 134 ?_
       refine Seq.n 135 ?_
       refine Seq.n 136 ?_
       refine Seq.n 137 ?_
       refine Seq.us [(138, .bool true), (139, .bool true)] ?_
       refine Seq.n 140 ?_
       refine Seq.n 141 ?_
       refine Seq.n 142 ?_
       refine Seq.n 143 ?_
       refine Seq.us [(144, .bool true), (145, .bool true)] ?_
       refine Seq.n 146 ?_
       refine Seq.n 147 ?_
       refine Seq.n 148 ?_
       refine Seq.n 149 ?_
       refine Seq.u 150 (.bool true) ?_
       refine Seq.done ?_
       refine At.cT 150 K56 K59 ?_
       refine At.s K57 K58 ?_
       refine At.rg 18 [0] ?_
       refine Seq.u 8 (.bool false) ?_
       refine Seq.done ?_
       exact At.rt [.tmp 8] [(.bool false)] func8 ⟨_, rfl, rfl⟩ h
      | false =>
       replace h := h.2 (of_decide_eq_false hb)
       refine Seq.us [(134, .int .u64 x103a), (135, .int .u64 x84b)] ?_
       obtain ⟨x136, hwx136⟩ : ∃ y, y = IntKind.u64.wrap (x84b + 1) := ⟨_, rfl⟩
       replace h := h x136 hwx136
       refine Seq.yg (d := (some 136)) (op := (.binOp .add 56 (.tmp 135) (.const (.int .u64 1)) 56)) (ty := 56) (gd := (some (20, false))) (v := (.int .u64 x136)) (by kernel_rfl) rfl rfl (hwx136 ▸ Y.add rfl rfl) ?_
       refine Seq.us [(137, .bool (decide ((x103a : Int) ≠ x136))), (138, .bool (decide ((x103a : Int) ≠ x136))), (139, .bool (decide ((x103a : Int) ≠ x136)))] ?_
       cases hb : (decide ((x103a : Int) ≠ x136)) with
       | true =>
        replace h := h.1 (of_decide_eq_true hb)
        refine Seq.n 140 ?_
        refine Seq.n 141 ?_
        refine Seq.n 142 ?_
        refine Seq.n 143 ?_
        refine Seq.us [(144, .bool true), (145, .bool true)] ?_
        refine Seq.n 146 ?_
        refine Seq.n 147 ?_
        refine Seq.n 148 ?_
        refine Seq.n 149 ?_
        refine Seq.u 150 (.bool true) ?_
        refine Seq.done ?_
        refine At.L [(0, (.string s0)), (1, (.slice p1 n1 c1)), (2, (.slice p2 n2 c2)), (3, (.int .i64 x3)), (9, (.pointer q9)), (16, (.int .i64 x16)), (150, (.bool true))] fun J => ?_
        refine At.cT 150 K56 K59 ?_
        refine At.s K57 K58 ?_
        refine At.rg 18 [0] ?_
        refine Seq.u 8 (.bool false) ?_
        refine Seq.done ?_
        exact At.rt [.tmp 8] [(.bool false)] func8 ⟨_, rfl, rfl⟩ h
       | false =>
        replace h := h.2 (of_decide_eq_false hb)
        refine Seq.us [(140, .int .u64 x109b), (141, .int .u64 x84b)] ?_
        obtain ⟨x142, hwx142⟩ : ∃ y, y = IntKind.u64.wrap (x84b + 1) := ⟨_, rfl⟩
        replace h := h x142 hwx142
        refine Seq.yg (d := (some 142)) (op := (.binOp .add 56 (.tmp 141) (.const (.int .u64 1)) 56)) (ty := 56) (gd := (some (26, false))) (v := (.int .u64 x142)) (by kernel_rfl) rfl rfl (hwx142 ▸ Y.add rfl rfl) ?_
        refine Seq.us [(143, .bool (decide ((x109b : Int) ≠ x142))), (144, .bool (decide ((x109b : Int) ≠ x142))), (145, .bool (decide ((x109b : Int) ≠ x142)))] ?_
        cases hb : (decide ((x109b : Int) ≠ x142)) with
        | true =>
         replace h := h.1 (of_decide_eq_true hb)
         refine Seq.n 146 ?_
         refine Seq.n 147 ?_
         refine Seq.n 148 ?_
         refine Seq.n 149 ?_
         refine Seq.u 150 (.bool true) ?_
         refine Seq.done ?_
         refine At.cT 150 K56 K59 ?_
         refine At.s K57 K58 ?_
         refine At.rg 18 [0] ?_
         refine Seq.u 8 (.bool false) ?_
         refine Seq.done ?_
         exact At.rt [.tmp 8] [(.bool false)] func8 ⟨_, rfl, rfl⟩ h
        | false =>
         replace h := h.2 (of_decide_eq_false hb)
         refine Seq.us [(146, .slice p109a n109a c109a), (147, .slice p1 n1 c1)] ?_
         refine Seq.o ?_
         refine OpTo.cl (some 148) call35 (h.cont fun v_8 σ1_8 h2 => ?_); replace h := h2; clear h2
         obtain ⟨t148, rfl, h⟩ := h
         refine Seq.us [(149, .bool (!t148)), (150, .bool (!t148))] ?_
         refine Seq.done ?_
         cases hb : (!t148) with
         | true =>
          replace h := h.1 (Tw.nt hb)
          refine At.cT 150 K56 K59 ?_
          refine At.s K57 K58 ?_
          refine At.rg 18 [0] ?_
          refine Seq.u 8 (.bool false) ?_
          refine Seq.done ?_
          exact At.rt [.tmp 8] [(.bool false)] func8 ⟨_, rfl, rfl⟩ h
         | false =>
          replace h := h.2 (Tw.nf hb)
          refine At.cF 150 K56 K59 ?_
          refine At.skip ?_
          refine At.inBlock ?_
          refine At.rg 12 [0, 1, 2] ?_
          refine Seq.u 79 (.int .i64 x16) ?_
          obtain ⟨hi, h⟩ := h
          refine Seq.z 80 (.binOp .add 3 (.tmp 79) (.const (.int .i64 1)) 3) 3 (.int .i64 (x16 + 1)) (Y.addI hi rfl rfl) ?_
          refine Seq.u 16 (.int .i64 (x16 + 1)) ?_
          refine Seq.done ?_
          refine At.inLoop ?_
          refine At.s K38 K43 ?_
          refine At.s K39 K40 ?_
          exact At.v [(0, (.string s0)), (1, (.slice p1 n1 c1)), (2, (.slice p2 n2 c2)), (3, (.int .i64 x3)), (9, (.pointer q9)), (16, (.int .i64 (x16 + 1)))] (h _)
 | false =>
  replace h := h.2 (of_decide_eq_false hb)
  refine At.cF 78 K41 K42 ?_
  refine At.x 0 [.code K61] ?_
  refine At.s K62 K63 ?_
  refine At.rg 19 [0, 1] ?_
  refine Seq.o ?_
  refine OpTo.cl (some 151) call34 (h.cont fun v_2 σ1_2 h2 => ?_); replace h := h2; clear h2
  obtain ⟨t151, rfl, h⟩ := h
  refine Seq.u 8 (.bool t151) ?_
  refine Seq.done ?_
  exact At.rt [.tmp 8] [(.bool t151)] func8 ⟨_, rfl, rfl⟩ h
end law12_KvTwo

end
end TwW
end
