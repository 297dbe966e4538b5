/-
  Part 5 of the proof that the law WalFoldersUptoCardSaid of the given program answers true for every input of the given statement; the input reads behind the call as it did. (The texts: WY WZ HE HE XA XB XC TwN XF XN XO.)
-/
import Derived.Test.YtchjlpgaanjafaaGreatDoorA4
import Derived.ProofKit
import Derived.SizedLaws
import Derived.Deep.Slices
import Derived.Test.YtchjlpgaanjafaaGreatDoorCards
import Derived.Test.YtchjlpgaanjafaaGreatDoorTie
import Derived.WalkKit
import Derived.OpenShut
import Derived.Deep.DeepHandedRow
import Derived.Deep.DeepWitnessRowRef
import Derived.Lib.LaidTab
import Derived.Stop.LaidErr
set_option linter.all false
section
set_option linter.unusedVariables false
/-! A log is cut. -/
namespace TwW
open Go Tw Go.RowKit Go.Proofs.Tryz

section
variable {fs gs : Fs} {cnt safe : Nat} {W : Wl} {rc keep : Recs} {sg : Sg}

theorem LogOk.laid (h : LogOk fs cnt W rc sg safe) (hc : cnt < 99999998) (hk : Good keep) : Shape (laid fs W.dir (fname W.dir kc W.opn) (joinF keep)) W.dir (cnt + 1) W.opn keep [] [] := by
  have ho := h.opn
  have hb : W.opn < 100000000 := by omega
  have hn := numOf_fname (dir := W.dir) (kind := kc) hb
  have hold : ∀ s, (TwW.laid fs W.dir (fname W.dir kc W.opn) (joinF keep) s).isSome = true → s = fname W.dir kc W.opn ∨ (fs s).isSome = true := fun s hs => by
    by_cases h1 : s = fname W.dir kc W.opn
    · exact .inl h1
    · by_cases h2 : s = fnew W.dir
      · simp [TwW.laid, h1, h2] at hs
        have := (fnew_ne (dir := W.dir) (kind := kc) (a := W.opn) (.inl rfl))
        exact absurd hs this
      · simp only [TwW.laid, h1, h2, if_false] at hs; exact .inr hs
  refine ⟨fun _ => ⟨⟨joinF keep, (joinF keep).length⟩, by simp [TwW.laid], rfl⟩, fun e => by omega, fun s hs => ?_, ho.2.1, (fun x hx => by cases hx), List.Pairwise.nil, fun s hs hlt => ?_, (fun k x hx => by simp at hx), fun _ => rfl, torn_nil, hk, (fun x hx => by cases hx), fun a ha => by cases ha⟩
  · rcases hold s hs with rfl | h1
    · omega
    · have := h.sh.old s h1; omega
  · exfalso
    rcases hold s hs with rfl | h1
    · have := num_kinds (dir := W.dir) (s := fname W.dir kc W.opn) (by omega); omega
    · obtain ⟨x, hx, e⟩ := h.sh.seg s h1 (by omega)
      have := ho.2.2 x hx; omega

theorem Shape.delAny {dir s : ByteArray} {check : Nat} (h : Shape fs dir cnt check keep [] []) (hs : s ≠ fname dir kc check) : Shape (fput fs s none) dir cnt check keep [] [] :=
  h.congr (Nat.le_refl _) (fun _ => fput_ne hs.symm) (fun x hx => by cases hx) fun t ht => by
    by_cases hts : t = s
    · subst hts; rw [fput_same] at ht; cases ht
    · rw [fput_ne hts] at ht; exact .inl ht

theorem Shape.crash0 {dir : ByteArray} {check : Nat} (h : Shape fs dir cnt check keep [] []) (hs : ∀ f, fs (fname dir kc check) = some f → f.syn = f.data.length) (hc : Crash fs gs) : OpenOk gs dir cnt keep :=
  ⟨check, keep, [], [], { h with chk := fun h0 => hc.whole (h.chk h0) hs, old := fun s hs => h.old s (hc.isS hs), seg := fun s hs => h.seg s (hc.isS hs), file := fun k x hx => by simp at hx }, by simp [toldS], hc.kept, fun h => (by cases h)⟩
end

section
variable {σ ρ τ : Hp} {d b : Nat} {D : Dk} {W : Wl} {R : Ending → Hp → Prop} {fs : Fs} {cnt safe : Nat} {rc keep : Recs} {sg : Sg}

/-- What a cut leads to. -/
structure CutU (d b : Nat) (D : Dk) (W : Wl) (τ : Hp) (rc : Recs) (sg : Sg) (safe : Nat) (keep : Recs) (rok : Hp → Prop) (rbad : Hp → Prop) : Prop where
  ok : ∀ σ' D' W', LogU σ' d b D' W' τ → D'.up = true → D'.armed = D.armed → D'.cnt = D.cnt + 1 → W'.dir = W.dir → W'.segs = [] → LogOk D'.files D'.cnt W' keep [] keep.length → Out W.dir D.files D'.files → D'.files (fnew W.dir) = none → rok σ'
  bad : D.armed = true → ∀ σ' D' told, DiskU σ' d D' τ → D'.up = false → D'.armed = false → D'.cnt = D.cnt + 1 → OpenOk D'.files W.dir D'.cnt told → (told = keep ∨ (told <+: rc ++ toldS sg ∧ safe ≤ told.length)) → rbad σ'

theorem en54 : Enters prog wal_Wal_Cut_1.fid := fun args w => call54 args w

theorem cut15 {b0 : Nat} {armed : Bool} {C : Nat} (hd : dirOk W.dir = true) (hC : C ≤ 1048576) (ht : Tb τ) (t0 : τ b0 = some (.cells #[.pointer (some ⟨b, 0, none⟩)] 26 (0, 0))) (hfs0 : Out W.dir D.files fs)
    (hok : ∀ σ' fs' W', LogU σ' d b ⟨fs', true, armed, C⟩ W' τ → W'.dir = W.dir → W'.segs = [] → LogOk fs' C W' keep [] keep.length → Out W.dir D.files fs' → fs' (fnew W.dir) = none → R (.returned (.tuple #[])) σ')
    (hbad : armed = true → ∀ σ' gs, OpenOk gs W.dir C keep → DiskU σ' d ⟨gs, false, false, C⟩ τ → R (.panicked (pan 60)) σ') :
    ∀ (m : Nat) (σ : Hp) (fs : Fs) (V : Wl), V.segs.length = m → V.dir = W.dir → V.check = V.opn → LogU σ d b ⟨fs, true, armed, C⟩ V τ → Shape fs W.dir C V.opn keep [] [] → 0 < V.opn → (∀ f, fs (fname W.dir kc V.opn) = some f → f.syn = f.data.length) → (∀ n ∈ V.segs, (fs (fname W.dir ks n)).isSome = true ∧ n ≤ C) → V.segs.Nodup → Out W.dir D.files fs → fs (fnew W.dir) = none →
      wal_Wal_Cut_1.pt15 R b0 σ := by
  intro m
  have hds : W.dir.size ≤ 32 := by simp [dirOk] at hd; exact hd.2
  induction m with
  | zero =>
    intro σ fs V hm hdir hco h hsh hpos hsy hsg hnd hout hnew
    have hr := h.rd
    have hx := h.ext
    obtain ⟨p, c, hc, hl, hrd⟩ := hr.segs
    have hnil : V.segs = [] := List.eq_nil_of_length_eq_zero hm
    have hcle := hsh.cle
    refine wal_Wal_Cut_1.pt15_of ⟨_, ld_of (hx _ _ t0) rfl, b, 0, rfl, p, _, c, hl, fun hh => by omega, fun _ => ⟨_, ld_of (hx _ _ t0) rfl, b, 0, rfl, V.opn, hr.opn, by unfold I64; omega, ?_⟩⟩
    have e : ((V.opn : Int) + 1) = ((V.opn + 1 : Nat) : Int) := by omega
    rw [e]
    refine h.st (i := 0 + 4) (W' := { V with opn := V.opn + 1 }) (by omega) rfl (fun p n c => rfl) fun σ1 h1 => ?_
    refine ⟨_, ld_of (h1.ext _ _ t0) rfl, b, 0, rfl, ?_⟩
    refine h1.st (i := 0 + 5) (x := 0) (W' := { V with opn := V.opn + 1, size := 0 }) (by omega) rfl (fun p n c => rfl) fun σ2 h2 => ?_
    refine hok σ2 fs _ h2 hdir hnil ⟨?_, by rw [hnil]; rfl, ⟨by simp only; omega, by simp only; omega, fun x hx => by cases hx⟩, (fun x hx => by cases hx), fun _ => rfl, fun f h0 hf => ?_, (fun x hx => by cases hx), (fun x hx => by cases hx), fun _ => by simp [toldS]⟩ hout hnew
    · simp only [hdir, hco]; exact hsh
    · simp only [hdir, hco] at hf; exact hsy f hf
  | succ m ih =>
    intro σ fs V hm hdir hco h hsh hpos hsy hsg hnd hout hnew
    have hr := h.rd
    have hx := h.ext
    obtain ⟨p, c, hc, hl, hrd⟩ := hr.segs
    obtain ⟨n0, l, hseg⟩ : ∃ n0 l, V.segs = n0 :: l := by
      cases hs : V.segs with
      | nil => rw [hs] at hm; cases hm
      | cons a l => exact ⟨a, l, rfl⟩
    have hge : (asI V.segs)[0]? = some ((n0 : Nat) : Int) := by rw [asI, hseg]; rfl
    obtain ⟨b50, o50, hp, hl50⟩ := hrd.at hge
    obtain ⟨hf0, hn0⟩ := hsg n0 (by rw [hseg]; simp)
    obtain ⟨f, hf⟩ := Option.isSome_iff_exists.1 hf0
    have hdirV : σ.ld ⟨b, 0 + 1, none⟩ = some (.string W.dir) := by rw [← hdir]; exact hr.dir
    have hnok : nameOk (fname W.dir ks n0) = true := fname_ok hd (.inr rfl) (by omega)
    refine wal_Wal_Cut_1.pt15_of ⟨_, ld_of (hx _ _ t0) rfl, b, 0, rfl, p, _, c, hl, fun _ => ⟨_, ld_of (hx _ _ t0) rfl, b, 0, rfl, _, hr.ptr, _, ld_of (hx _ _ t0) rfl, _, ld_of (hx _ _ t0) rfl, b, 0, rfl, p, _, c, hl, b50, o50, hp, by omega, n0, by simpa using hl50, ?_⟩, fun hh => by omega⟩
    refine fileW_spec (kind := ks) (dir := W.dir) hdirV hds (.inr rfl) (by omega) (ht.mono hx) fun σ1 hx1 => ⟨_, rfl, Kp.of_ext hx1, ?_⟩
    refine ldelete (h.mono hx1) rfl hnok hf ⟨fun σ2 h2 => ⟨_, rfl, must0 ?_⟩, fun ha σ2 gs hg hdu => ⟨_, rfl, must60 (hbad ha σ2 gs (hsh.crash0 hsy hg) hdu)⟩⟩
    obtain ⟨p2, c2, hc2, hl2, hrd2⟩ := h2.rd.segs
    refine ⟨_, ld_of (h2.ext _ _ t0) rfl, _, ld_of (h2.ext _ _ t0) rfl, b, 0, rfl, p2, _, c2, hl2, by omega, b, 0, rfl, ?_⟩
    refine h2.cut (l := l) (by rw [hseg]; rfl) (fun p' c' hpc => ?_) fun σ3 h3 => ?_
    · rw [hl2] at hpc
      cases hpc
      refine ⟨?_, fun ρ ho => ?_⟩
      · unfold slP
        cases p2 with
        | none => split <;> rfl
        | some a =>
          split
          · rfl
          · simp [blk, Addr.add]
      · have hlen : V.segs.length = l.length + 1 := by rw [hseg]; rfl
        obtain ⟨h1, h0, h4⟩ := ho
        refine ⟨by simp [asI]; omega, by omega, ?_⟩
        rcases h4 with ⟨_, e, _⟩ | ⟨bb, oo, arr, T, rfl, hb, hnc, hsz, hcs⟩
        · omega
        · by_cases hl0 : c2 = 1
          · have hl1 : l = [] := List.eq_nil_of_length_eq_zero (by omega)
            subst hl1 hl0
            exact .inr ⟨bb, oo, arr, T, by simp [slP], hb, by simp; omega, by omega, by simp [asI]; omega⟩
          · refine .inr ⟨bb, oo + 1, arr, T, by simp [slP, hl0, add_off], hb, by omega, by omega, ?_⟩
            have e : V.segs.length - 1 = l.length := by omega
            rw [hseg] at hcs
            have := congrArg (List.drop 1) hcs
            rw [List.drop_take, List.drop_drop] at this
            simp only [asI, List.map_cons, List.drop_succ_cons, List.drop_zero, List.length_cons] at this
            rw [hlen]
            simp only [asI]
            rw [← this]
            congr 1
    · have hne : ∀ k, fname W.dir ks n0 ≠ fname W.dir kc k := fun k e => fname_kinds e.symm
      have hn2 : n0 ∉ l ∧ l.Nodup := by rw [hseg] at hnd; exact List.nodup_cons.1 hnd
      refine ih σ3 _ { V with segs := l } (by rw [hseg] at hm; simpa using hm) hdir hco h3 (hsh.delAny (hne _)) hpos (fun f hf => hsy f (by rwa [fput_ne (hne _).symm] at hf)) (fun k hk => ?_) hn2.2 (hout.trans (Out.del begins_file)) ((fput_ne (fnew_ne (.inr rfl))).trans hnew)
      have hk2 := hsg k (by rw [hseg]; simp [show k ∈ l from hk])
      refine ⟨?_, hk2.2⟩
      rw [fput_ne]
      · exact hk2.1
      · intro e
        have := fname_inj (by omega) (by omega) e
        exact hn2.1 (this ▸ hk)

theorem cut1_spec {b0 b1 : Nat} {p : Option Addr} {n c : Nat} (h : LogU σ d b D W τ) (ht : Tb τ) (t0 : τ b0 = some (.cells #[.pointer (some ⟨b, 0, none⟩)] 26 (0, 0))) (t1 : τ b1 = some (.cells #[.slice p n c] 22 (0, 0)))
    (hx : RdLL τ p n keep) (hk : Good keep) (hlen : (joinF keep).length ≤ 4194304) (hup : D.up = true) (hcnt : D.cnt < 1048576) (hd : dirOk W.dir = true) (hok : LogOk D.files D.cnt W rc sg safe) (hnew : D.files (fnew W.dir) = none)
    (hR : CutU d b D W τ rc sg safe keep (fun σ' => R (.returned (.tuple #[])) σ') (fun σ' => R (.panicked (pan 60)) σ')) : Spec prog wal_Wal_Cut_1.fid #[.pointer (some ⟨b0, 0, none⟩), .pointer (some ⟨b1, 0, none⟩)] σ R := by
  have hr := h.rd
  have hxe := h.ext
  have hds : W.dir.size ≤ 32 := by simp [dirOk] at hd; exact hd.2
  have hopn := hok.opn
  have hnok : nameOk (fname W.dir kc W.opn) = true := fname_ok hd (.inl rfl) (by omega)
  refine wal_Wal_Cut_1.start ⟨_, ld_of (hxe _ _ t0) rfl, _, ld_of (hxe _ _ t0) rfl, _, ld_of (hxe _ _ t0) rfl, b, 0, rfl, W.opn, hr.opn, p, n, c, ld_of (hxe _ _ t1) rfl, ?_⟩
  refine fileW_spec (kind := kc) hr.dir hds (.inl rfl) (by omega) (ht.mono hxe) fun σ1 hx1 => ⟨_, rfl, Kp.of_ext hx1, ?_⟩
  obtain ⟨τw, S, q, cc, T, hdu, hwal, hxo⟩ := (h.mono hx1).opened
  have hτw : Ext τ τw := hxo.trans (Ext.of_off _ _)
  have hsh := hok.laid (keep := keep) (by omega) hk
  have cl : ∀ {σ' : Hp} {D' : Dk}, DiskU σ' d D' τw → LogU σ' d b D' W τ := fun h' => (LogU.close h' hwal).weak hxo
  refine replace_spec hdu hwal.logF hup hcnt hd hnok (hx.mono hτw) hk hlen hnew (fnew_ne (.inl rfl)).symm ⟨fun σ2 h2 => ?_, fun ha σ2 gs' gs hgs hg hdu2 => ?_⟩
  · have h2 := cl h2
    have hl1 : laid D.files W.dir (fname W.dir kc W.opn) (joinF keep) (fname W.dir kc W.opn) = some ⟨joinF keep, (joinF keep).length⟩ := by simp [laid]
    have hsy1 : ∀ f, laid D.files W.dir (fname W.dir kc W.opn) (joinF keep) (fname W.dir kc W.opn) = some f → f.syn = f.data.length := fun f hf => by rw [hl1] at hf; cases hf; rfl
    have hlo : ∀ s, s ≠ fname W.dir kc W.opn → s ≠ fnew W.dir → laid D.files W.dir (fname W.dir kc W.opn) (joinF keep) s = D.files s := fun s e1 e2 => by simp [laid, e1, e2]
    have hout : Out W.dir D.files (laid D.files W.dir (fname W.dir kc W.opn) (joinF keep)) := Out.laid (.inl rfl) (by omega) (by omega)
    have hnew2 : laid D.files W.dir (fname W.dir kc W.opn) (joinF keep) (fnew W.dir) = none := by simp [laid, fnew_ne (dir := W.dir) (kind := kc) (a := W.opn) (.inl rfl)]
    have bad : D.armed = true → ∀ σ' gs, OpenOk gs W.dir (D.cnt + 1) keep → DiskU σ' d ⟨gs, false, false, D.cnt + 1⟩ τ → R (.panicked (pan 60)) σ' := fun ha σ' gs ho hdu' => hR.bad ha σ' _ keep hdu' rfl rfl rfl ho (.inl rfl)
    have fin : ∀ (σ' : Hp) (fs : Fs), LogU σ' d b ⟨fs, true, D.armed, D.cnt + 1⟩ W τ → Shape fs W.dir (D.cnt + 1) W.opn keep [] [] → (∀ f, fs (fname W.dir kc W.opn) = some f → f.syn = f.data.length) → (∀ k ∈ W.segs, (fs (fname W.dir ks k)).isSome = true ∧ k ≤ D.cnt + 1) → Out W.dir D.files fs → fs (fnew W.dir) = none → wal_Wal_Cut_1.pt9 R b0 σ' := by
      intro σ' fs hl hs1 hsy hsg ho hn
      have hr' := hl.rd
      refine wal_Wal_Cut_1.pt9_of ⟨_, ld_of (hl.ext _ _ t0) rfl, _, ld_of (hl.ext _ _ t0) rfl, b, 0, rfl, W.opn, hr'.opn, b, 0, rfl, ?_⟩
      refine hl.st (i := 0 + 2) (W' := { W with check := W.opn }) (by omega) rfl (fun p n c => rfl) fun σ5 h5 => ?_
      refine cut15 (D := D) (fs := fs) (W := W) (keep := keep) (armed := D.armed) hd (by omega) ht t0 ho (fun σ6 fs6 W6 a1 a2 a3 a4 a5 a6 => hR.ok σ6 _ W6 a1 rfl rfl rfl a2 a3 a4 a5 a6) bad _ σ5 fs { W with check := W.opn } rfl rfl rfl h5 hs1 (by simp only; omega) hsy hsg ?_ ho hn
      have : W.segs.Pairwise (· < ·) := by rw [hok.segs, List.pairwise_map]; exact hok.sh.rise
      exact this.imp fun h => Nat.ne_of_lt h
    have hsegs : ∀ k ∈ W.segs, (laid D.files W.dir (fname W.dir kc W.opn) (joinF keep) (fname W.dir ks k)).isSome = true ∧ k ≤ D.cnt + 1 := fun k hk' => by
      rw [hok.segs] at hk'
      obtain ⟨x, hx, rfl⟩ := List.mem_map.1 hk'
      obtain ⟨i, hi⟩ := List.getElem?_of_mem hx
      have := (hok.sh.gt x hx).2
      exact ⟨by rw [hlo _ fname_kinds.symm (fnew_ne (.inr rfl)).symm]; exact (hok.sh.file i x hi).isS, by omega⟩
    refine ⟨rfl, _, ld_of (h2.ext _ _ t0) rfl, b, 0, rfl, W.check, h2.rd.check, fun hpos => ?_, fun hz => ?_⟩
    · have hcf : fname W.dir kc W.check ≠ fname W.dir kc W.opn := fun e => by
        have := fname_inj (by omega) (by omega) e; omega
      obtain ⟨f, hf⟩ := Option.isSome_iff_exists.1 (hok.sh.chk (by omega)).isS
      refine ⟨_, ld_of (h2.ext _ _ t0) rfl, b, 0, rfl, _, h2.rd.ptr, _, ld_of (h2.ext _ _ t0) rfl, _, ld_of (h2.ext _ _ t0) rfl, b, 0, rfl, W.check, h2.rd.check, ?_⟩
      refine fileW_spec (kind := kc) h2.rd.dir hds (.inl rfl) (by omega) (ht.mono h2.ext) fun σ3 hx3 => ⟨_, rfl, Kp.of_ext hx3, ?_⟩
      refine ldelete (h2.mono hx3) rfl (fname_ok hd (.inl rfl) (by omega)) (f := f) (by show laid D.files W.dir _ _ _ = _; rw [hlo _ hcf (fnew_ne (.inl rfl)).symm]; exact hf) ⟨fun σ4 h4 => ⟨_, rfl, must0 ?_⟩, fun ha σ4 gs hg hdu4 => ⟨_, rfl, must60 (bad ha σ4 gs (hsh.crash0 hsy1 hg) hdu4)⟩⟩
      refine fin σ4 _ h4 (hsh.delAny hcf) (fun f hf => hsy1 f ((fput_ne hcf.symm).symm.trans hf)) (fun k hk' => ?_) (hout.trans (Out.del begins_file)) ((fput_ne (fnew_ne (.inl rfl))).trans hnew2)
      rw [fput_ne fname_kinds.symm]
      exact hsegs k hk'
    · exact fin σ2 _ h2 hsh hsy1 hsegs hout hnew2
  · have hfr := hok.fresh (cnt' := D.cnt + 1) (by omega) hgs
    obtain ⟨told, g1, g2, g3⟩ := hfr.crash hg
    exact hR.bad ha σ2 _ told (cl hdu2).disk rfl rfl rfl g1 (.inr ⟨g2, g3⟩)

theorem wcut_spec {p : Option Addr} {n c : Nat} (h : LogU σ d b D W τ) (ht : Tb τ) (hx : RdLL τ p n keep) (h8 : ∀ r ∈ keep, By8 r) (hup : D.up = true) (hcnt : D.cnt < 1048576) (hd : dirOk W.dir = true) (hok : LogOk D.files D.cnt W rc sg safe) (hnew : D.files (fnew W.dir) = none)
    (hlong : ¬ Short keep → ∀ σ', LogU σ' d b D W τ → R (.returned (.int .i64 70)) σ')
    (hR : Short keep → (joinF keep).length ≤ 4194304 ∧ CutU d b D W τ rc sg safe keep (fun σ' => R (.returned (.int .i64 0)) σ') (fun σ' => R (.returned (.int .i64 60)) σ')) : Spec prog wal_Wal_Cut.fid #[.pointer (some ⟨b, 0, none⟩), .slice p n c] σ R := by
  have hkl : keep.length = n := hx.1
  refine wal_Wal_Cut.start fun b2 hb2 b3 hb3 => ?_
  obtain ⟨τ2, h2, x2, t2⟩ := h.box (o := .cells #[.pointer (some ⟨b, 0, none⟩)] 26 (0, 0)) hb2
  obtain ⟨τ3, h3, x3, t3⟩ := h2.box (o := .cells #[.slice p n c] 22 (0, 0)) hb3
  have hxx := x2.trans x3
  refine ⟨p, n, c, ld_of (h3.ext _ _ t3) rfl, ?_⟩
  have hx3 := hx.mono hxx
  suffices H : ∀ m k : Nat, n - k = m → k ≤ n → Short (keep.take k) → wal_Wal_Cut.pt8 R b2 b3 p n c n k _ from H n 0 rfl (Nat.zero_le _) (fun r hr => by simp at hr)
  intro m
  induction m with
  | zero =>
    intro k hm hk hs
    rw [List.take_of_length_le (by omega)] at hs
    refine wal_Wal_Cut.pt8_of ⟨fun hh => by omega, fun _ => caught_spec en54 ?_⟩
    obtain ⟨hl, hRc⟩ := hR hs
    exact cut1_spec h3 (ht.mono hxx) (x3 _ _ t2) t3 hx3 (fun r hr => ⟨hs r hr, h8 r hr⟩) hl hup hcnt hd hok hnew ⟨fun σ' D' W' a1 a2 a3 a4 a5 a6 a7 a8 a9 => .inl ⟨rfl, _, rfl, hRc.ok σ' D' W' (a1.weak hxx) a2 a3 a4 a5 a6 a7 a8 a9⟩, fun ha σ' D' told a1 a2 a3 a4 a5 a6 => .inr ⟨60, rfl, _, rfl, hRc.bad ha σ' D' told (a1.weak hxx) a2 a3 a4 a5 a6⟩⟩
  | succ m ih =>
    intro k hm hk hs
    obtain ⟨x, hxk⟩ : ∃ x, keep[k]? = some x := ⟨_, List.getElem?_eq_getElem (by omega)⟩
    obtain ⟨b11, o11, p12, n12, c12, rfl, hl, _, hrd⟩ := (hx3.mono h3.ext).at hxk
    have hn12 : x.length = n12 := hrd.1
    have hnb := hx.big
    refine wal_Wal_Cut.pt8_of ⟨fun _ => ⟨b11, o11, rfl, by omega, p12, n12, c12, by simpa using hl, fun hh => hlong (fun hs' => ?_) _ (h3.weak hxx), fun hh => ⟨by unfold I64; omega, ih (k + 1) (by omega) (by omega) ?_⟩⟩, fun hh => by omega⟩
    · have := hs' x (List.mem_of_getElem? hxk); omega
    · rw [take_succ' hxk]
      intro r hr
      rcases List.mem_append.1 hr with hr | hr
      · exact hs r hr
      · simp at hr; subst hr; omega

theorem segments_spec (h : LogU σ d b D W τ) (hR : R (.returned (.int .i64 (W.segs.length : Nat))) σ) : Spec prog wal_Wal_Segments.fid #[.pointer (some ⟨b, 0, none⟩)] σ R := by
  obtain ⟨p, c, hc, hl, hrd⟩ := h.rd.segs
  exact wal_Wal_Segments.start ⟨b, 0, rfl, p, _, c, hl, hR⟩
end
end TwW
end
section
set_option linter.unusedVariables false
/-! The laws' own helpers. -/
namespace TwW
open Go Tw Go.RowKit Go.Proofs.Tryz

theorem take_eq_of {α : Type} {xs ys : List α} {k : Nat} {x y : α} (hx : xs[k]? = some x) (hy : ys[k]? = some y) (h : xs.take k = ys.take k) (he : x = y) : xs.take (k + 1) = ys.take (k + 1) := by
  rw [take_succ' hx, take_succ' hy, h, he]



theorem sameBytes_spec {R : Ending → Hp → Prop} {σ : Hp} {p q : Option Addr} {n c m d : Nat} {xs ys : List Int} (hr : RdI .u8 σ p n xs) (hs : RdI .u8 σ q m ys) (h : R (.returned (.bool (decide (xs = ys)))) σ) :
    Spec prog law0_SameBytes.fid #[.slice p n c, .slice q m d] σ R := by
  refine law0_SameBytes.start ⟨fun hne => ?_, fun he => ?_⟩
  · have : xs ≠ ys := fun e => hne (by rw [← hr.1, ← hs.1, e])
    simpa [this] using h
  · obtain rfl : n = m := by omega
    suffices H : ∀ d' k : Nat, n - k = d' → k ≤ n → xs.take k = ys.take k → law0_SameBytes.pt17 R p n c q n d k σ from H n 0 rfl (Nat.zero_le _) (by simp)
    intro d'
    induction d' with
    | zero =>
      intro k hd hk hno
      refine law0_SameBytes.pt17_of ⟨fun hlt => by omega, fun _ => ?_⟩
      rw [List.take_of_length_le (by rw [hr.1]; omega), List.take_of_length_le (by rw [hs.1]; omega)] at hno
      simpa [hno] using h
    | succ d' ih =>
      intro k hd hk hno
      refine law0_SameBytes.pt17_of ⟨fun hlt => ?_, fun hge => by omega⟩
      have hk' : k < n := by omega
      obtain ⟨x, hx⟩ := hr.ex hk'
      obtain ⟨y, hy⟩ := hs.ex hk'
      obtain ⟨b, o, rfl, hl⟩ := hr.at hx
      obtain ⟨b', o', rfl, hl'⟩ := hs.at hy
      refine ⟨b, o, rfl, by omega, x, by simpa using hl, b', o', rfl, by omega, y, by simpa using hl', fun hne => ?_, fun he => ⟨i64_succ hk' hr.big, ih (k + 1) (by omega) (by omega) (take_eq_of hx hy hno (by simpa using he))⟩⟩
      have : xs ≠ ys := fun e => hne (by rw [e, hy] at hx; cases hx; rfl)
      simpa [this] using h


section
variable {σ ρ τ : Hp} {d b : Nat} {D : Dk} {W : Wl} {R : Ending → Hp → Prop}
/-- append to what is beside the log. -/
theorem LogU.app_own {T E ty : TypeId} {s bs : Nat} [SlT prog T E s bs] {p q : Option Addr} {n c m d' : Nat} {cs ys : List Value} {Φ : Value → Hp → Prop} (h : LogU σ d b D W ρ) (ho : Own s ρ p n c cs) (hy : RdC s ρ q m ys) (h1 : OneC ys) (hb : (n + m) * bs ≤ 140737488355328)
    (hΦ : ∀ p' c' σ' ρ', LogU σ' d b D W ρ' → Own s ρ' p' (n + m) c' (cs ++ ys) → Ext (ρ.del p) (ρ'.del p') → Φ (.slice p' (n + m) c') σ') : Eff prog (Builtin.append_ #[T, T] ty #[.slice p n c, .slice q m d']) σ Φ := by
  have hx := h.ext
  obtain ⟨Sd, S, q0, cc, T0, g1, g2, g3⟩ := h
  refine app_eff2 (ho.mono hx) (hy.mono hx) h1 hb fun p' c' σ' ho2 hx2 _ => ?_
  rw [Hp.del_off, Hp.del_off] at hx2
  have keep : ∀ j o, j ∉ blk p → σ j = some o → σ' j = some o ∧ j ∉ blk p' := fun j o h4 h5 => by
    have := Hp.off_some.1 (hx2 j o (Hp.off_some.2 ⟨h4, h5⟩)); exact ⟨this.2, this.1⟩
  have hp : ∀ j ∈ blk p, j ∉ S ∧ j ∉ Sd := fun j hj => by
    cases p with
    | none => cases hj
    | some a =>
      simp [blk] at hj
      subst hj
      cases hr : ρ a.block with
      | none => exact absurd hr (ho.block a rfl)
      | some o =>
        have h4 := Hp.off_some.1 (g3 _ _ hr)
        exact ⟨h4.1, (Hp.off_some.1 h4.2).1⟩
  have hSd : ∀ j ∈ Sd, σ' j = σ j ∧ j ∉ blk p' := fun j hj => by
    cases hs : σ j with
    | none => exact absurd hs (g1.known j hj)
    | some o => exact keep j o (fun hb => (hp j hb).2 hj) hs
  have hS : ∀ j ∈ S, (σ'.off Sd) j = (σ.off Sd) j ∧ j ∉ blk p' := fun j hj => by
    cases hs : (σ.off Sd) j with
    | none => exact absurd hs (g2.known j hj)
    | some o =>
      have h4 := Hp.off_some.1 hs
      have h5 := keep j o (fun hb => (hp j hb).1 hj) h4.2
      exact ⟨by rw [Hp.off_out h4.1]; exact h5.1, h5.2⟩
  refine hΦ p' c' σ' ((σ'.off Sd).off S) ⟨Sd, S, q0, cc, T0, g1.loc fun j hj => (hSd j hj).1, g2.loc fun j hj => (hS j hj).1, Ext.refl _⟩ ?_ ?_
  · exact TwW.Own.loc ho2 fun j hj => by rw [Hp.off_out fun hs => (hS j hs).2 hj, Hp.off_out fun hs => (hSd j hs).2 hj]
  · rw [Hp.del_off, Hp.del_off]
    intro j o hj
    have h4 := Hp.off_some.1 hj
    have h5 := Hp.off_some.1 (g3 _ _ h4.2)
    have h6 := Hp.off_some.1 h5.2
    have h7 := keep j o h4.1 h6.2
    exact Hp.off_some.2 ⟨h7.2, Hp.off_some.2 ⟨h5.1, Hp.off_some.2 ⟨h6.1, h7.1⟩⟩⟩

theorem LogU.appLL {ty : TypeId} {p q : Option Addr} {n c m d' : Nat} {xs ys : Recs} {Φ : Value → Hp → Prop} (h : LogU σ d b D W ρ) (hx : Ext τ (ρ.del p)) (ho : OwnLL ρ p n c xs) (hy : RdLL (ρ.del p) q m ys) (hb : n + m ≤ 4194304)
    (hΦ : ∀ p' c' σ' ρ', LogU σ' d b D W ρ' → OwnLL ρ' p' (n + m) c' (xs ++ ys) → Ext τ (ρ'.del p') → Φ (.slice p' (n + m) c') σ') : Eff prog (Builtin.append_ #[22, 22] ty #[.slice p n c, .slice q m d']) σ Φ := by
  obtain ⟨hxl, cs, ho1, hc1⟩ := ho
  obtain ⟨hyl, ds, hy1, hc2⟩ := hy
  refine h.app_own (T := 22) ho1 (hy1.mono (Ext.of_del _ _)) ?_ (by omega) fun p' c' σ' ρ' h' ho' hx' => hΦ p' c' σ' ρ' h' ⟨by rw [List.length_append]; omega, _, ho', ?_⟩ (hx.trans hx')
  · exact Ch.oneC (fun _ vs x ⟨p, n, c, e, _⟩ => by subst e; exact fun u hu => by simp at hu; subst hu; rfl) hc2 (by decide)
  · exact (hc1.mono EBy.mono hx').append (hc2.mono EBy.mono hx')
end

section
variable {σ : Hp} {R : Ending → Hp → Prop}
theorem copyBytes_spec {p : Option Addr} {n c : Nat} {xs : List Int} (hr : RdI .u8 σ p n xs) (hb : n ≤ 140737488355328)
    (h : ∀ p' c' σ', OwnI .u8 (σ.new σ') p' n c' xs → Ext σ σ' → R (.returned (.slice p' n c')) σ') : Spec prog law0_CopyBytes.fid #[.slice p n c] σ R := by
  refine law0_CopyBytes.start fun b hn => ?_
  refine app_eff Own.empty ((RdC.of_map hr).mono (.set hn)) OneC.map_int (by omega) fun p' c' σ' hown hext => ?_
  have hq : ∀ a : Addr, (some (⟨b, 0, none⟩ : Addr)) = some a → σ a.block = none := fun a ha => by cases ha; exact hn
  refine ⟨p', 0 + n, c', rfl, ?_⟩
  rw [Nat.zero_add] at hown ⊢
  exact h p' c' σ' (Own.to_new hown (new_block hq hext (.set hn))) (ext_new hq hext (.set hn))

theorem low_spec {x : Int} (h : ∀ y : Int, 0 ≤ y → y ≤ 9223372036854775807 → R (.returned (.int .i64 y)) σ) : Spec prog law0_Low.fid #[.int .i64 x] σ R := by
  refine law0_Low.start fun x4 h4 => h x4 ?_ ?_
  · rw [h4]
    have h2 : (BitVec.ofInt 64 9223372036854775807).toNat = 9223372036854775807 := rfl
    have e : Go.bits .and .i64 x 9223372036854775807 = IntKind.i64.wrap (((BitVec.ofInt 64 x) &&& (BitVec.ofInt 64 9223372036854775807)).toNat : Int) := rfl
    rw [e, BitVec.toNat_and, h2]
    have hle : (BitVec.ofInt 64 x).toNat &&& 9223372036854775807 ≤ 9223372036854775807 := Nat.and_le_right
    generalize (BitVec.ofInt 64 x).toNat &&& 9223372036854775807 = y at hle
    simp [IntKind.wrap, IntKind.bits, IntKind.signed]; omega
  · rw [h4]
    have := (bits_within .and .i64 x 9223372036854775807).2
    have e2 : IntKind.max .i64 = 9223372036854775807 := rfl
    rw [e2] at this; exact this

theorem sameLists_spec {p q : Option Addr} {n c m d : Nat} {xs ys : Recs} (hr : RdLL σ p n xs) (hs : RdLL σ q m ys) (h : R (.returned (.bool (decide (xs = ys)))) σ) : Spec prog law0_SameLists.fid #[.slice p n c, .slice q m d] σ R := by
  refine law0_SameLists.start ⟨fun hne => ?_, fun he => ?_⟩
  · have : xs ≠ ys := fun e => hne (by rw [← hr.1, ← hs.1, e])
    simpa [this] using h
  · obtain rfl : n = m := by omega
    suffices H : ∀ d' k : Nat, n - k = d' → k ≤ n → xs.take k = ys.take k → law0_SameLists.pt17 R p n c q n d k σ from H n 0 rfl (Nat.zero_le _) (by simp)
    intro d'
    induction d' with
    | zero =>
      intro k hd hk hno
      refine law0_SameLists.pt17_of ⟨fun hlt => by omega, fun _ => ?_⟩
      rw [List.take_of_length_le (by rw [hr.1]; omega), List.take_of_length_le (by rw [hs.1]; omega)] at hno
      simpa [hno] using h
    | succ d' ih =>
      intro k hd hk hno
      refine law0_SameLists.pt17_of ⟨fun hlt => ?_, fun hge => by omega⟩
      have hk' : k < n := by omega
      obtain ⟨x, hx⟩ := hr.ex hk'
      obtain ⟨y, hy⟩ := hs.ex hk'
      obtain ⟨b, o, p1, n1, c1, rfl, hl, _, hr1⟩ := hr.at hx
      obtain ⟨b', o', p2, n2, c2, rfl, hl', _, hr2⟩ := hs.at hy
      refine ⟨b, o, rfl, by omega, p1, n1, c1, by simpa using hl, b', o', rfl, by omega, p2, n2, c2, by simpa using hl', sameBytes_spec hr1 hr2 ⟨_, rfl, fun hne => ?_, fun he => ⟨i64_succ hk' hr.big, ?_⟩⟩⟩
      · have : xs ≠ ys := fun e => by
          rw [decide_eq_false_iff_not] at hne
          exact hne (by rw [e, hy] at hx; cases hx; rfl)
        simpa [this] using h
      · have e := of_decide_eq_true he
        exact ih (k + 1) (by omega) (by omega) (take_eq_of hx hy hno e)

theorem copyLists_spec {p : Option Addr} {n c : Nat} {xs : Recs} (hr : RdLL σ p n xs) (hb : n ≤ 4194304) (hx : ∀ x ∈ xs, x.length ≤ 140737488355328)
    (h : ∀ p' c' σ', OwnLL (σ.new σ') p' n c' xs → Ext σ σ' → R (.returned (.slice p' n c')) σ') : Spec prog law0_CopyLists.fid #[.slice p n c] σ R := by
  refine law0_CopyLists.start ?_
  suffices H : ∀ (d k : Nat) (p' : Option Addr) (c' : Nat) (σ' : Hp), n - k = d → k ≤ n → OwnLL (σ.new σ') p' k c' (xs.take k) → Ext σ σ' → law0_CopyLists.pt11 R p n c p' k c' k σ' from H n 0 none 0 σ rfl (Nat.zero_le _) OwnL.nil (Ext.refl _)
  have hln : xs.length = n := hr.1
  intro d
  induction d with
  | zero =>
    intro k p' c' σ' hd hk ho hx'
    have : k = n := by omega
    subst this
    rw [List.take_of_length_le (by omega)] at ho
    exact law0_CopyLists.pt11_of ⟨fun hh => by omega, fun _ => h p' c' σ' ho hx'⟩
  | succ d ih =>
    intro k p' c' σ' hd hk ho hx'
    obtain ⟨x, hxk⟩ := hr.ex (k := k) (by omega)
    obtain ⟨b, o, p2, n2, c2, rfl, hl, hc2, hrd⟩ := hr.at hxk
    have hxl := hx x (List.mem_of_getElem? hxk)
    have hn2 : x.length = n2 := hrd.1
    refine law0_CopyLists.pt11_of ⟨fun _ => ⟨b, o, rfl, by omega, p2, n2, c2, by simpa using hx'.ld hl, copyBytes_spec (hrd.mono hx') (by omega) fun p3 c3 σ3 ho3 hx3 => ⟨p3, n2, c3, rfl, fun b17 hb17 => ?_⟩⟩, fun hh => by omega⟩
    have hb2 : ∀ a, p' = some a → σ' a.block ≠ none := fun a ha e => ho.block a ha (by
      cases hh : (σ.new σ') a.block with
      | none => rfl
      | some u => rw [(new_some.1 hh).2] at e; cases e)
    refine OwnL.app1 (T := 22) EBy.mono (hx'.trans hx3) (OwnL.mono EBy.mono (Ext.new_mono hx3) ho) rfl (fun u hu => by simp at hu; subst hu; rfl) (x := x) ⟨p3, n2, c3, rfl, Own.cap ho3, (OwnI.rd ho3).mono (Ext.new_into hx' hb2)⟩ (by omega) (fun p4 c4 σ4 ho4 hx4 => ⟨p4, _, c4, rfl, i64_succ (by omega) hr.big, ih (k + 1) p4 c4 σ4 (by omega) (by omega) ?_ hx4⟩) hb17
    rw [take_succ' hxk]; exact ho4
end
end TwW
end
section
/- written by gen.py: program points and what leads to them -/
set_option linter.unusedVariables false
set_option maxRecDepth 100000
namespace TwW
open Go Tw Go.Proofs.Tryz
noncomputable section
namespace law7_WalFolders
abbrev fid : Nat := 4
noncomputable def K0 := f4.body.getD .skip
def K1 := cl K0
def K2 := cr K0
def K3 := cl K2
def K4 := cr K2
def K5 := cl K4
def K6 := cr K4
def K7 := cl K6
def K8 := cr K6
def K9 := cl K8
def K10 := cl K9
def K11 := cr K9
def K12 := cl K11
def K13 := cl K12
def K14 := cr K12
def K15 := cr K11
def K16 := cr K8
def K17 := cl K16
def K18 := cl K17
def K19 := cr K17
def K20 := cl K19
def K21 := cl K20
def K22 := cl K21
def K23 := cl K22
def K24 := cr K22
def K25 := cl K24
def K26 := cr K24
def K27 := cr K21
def K28 := cl K27
def K29 := cl K28
def K30 := cl K29
def K31 := cr K29
def K32 := cl K31
def K33 := cl K32
def K34 := cr K32
def K35 := cr K31
def K36 := cr K27
def K37 := cr K16
def K38 := cl K37
def K39 := cr K37
def K40 := cl K39
def K41 := cr K39
def K42 := cl K41
def K43 := cr K41
def K44 := cl K43
def K45 := cr K43
def K46 := cl K45
def K47 := cr K45
def K48 := cl K47
def K49 := cr K47
abbrev gl (R : Ending → Hp → Prop) : Gl := Gl.fn prog 4 167 R
def pt23 (R : Ending → Hp → Prop) (p0 : Option Addr) (n0 c0 : Nat) (p1 : Option Addr) (n1 c1 : Nat) (s2 : ByteArray) (q7 q8 q11 : Option Addr) (x14 : Int) (σ : Hp) : Prop := ∀ (J : Env), At (gl R) [.code K23, .code K24, .code K27, .inLoop K21, .inBlock 0, .code K37] (upds J [(0, (.slice p0 n0 c0)), (1, (.slice p1 n1 c1)), (2, (.string s2)), (7, (.pointer q7)), (8, (.pointer q8)), (11, (.pointer q11)), (14, (.int .i64 x14))]) [] σ
theorem start {R : Ending → Hp → Prop} {p0 p1 : Option Addr} {n0 c0 n1 c1 : Nat} {s2 : ByteArray} {σ : Hp} (h : Spec prog 11 #[] σ (Cont R (fun v σ1 => ∃ q25 : Option Addr, v = (.pointer q25) ∧ Spec prog 12 #[(.pointer q25), (.string (ByteArray.mk #[120]))] σ1 (Cont R (fun v_2 σ1_2 => ∃ q28a : Option Addr, ∃ p28b : Option Addr, ∃ n28b : Nat, ∃ c28b : Nat, ∃ x28c : Int, v_2 = (.tuple #[(.pointer q28a), (.slice p28b n28b c28b), (.int .i64 x28c)]) ∧ Spec prog 12 #[(.pointer q25), (.string (ByteArray.mk #[121, 47, 122]))] σ1_2 (Cont R (fun v_3 σ1_3 => ∃ q34a : Option Addr, ∃ p34b : Option Addr, ∃ n34b : Nat, ∃ c34b : Nat, ∃ x34c : Int, v_3 = (.tuple #[(.pointer q34a), (.slice p34b n34b c34b), (.int .i64 x34c)]) ∧ ((x28c : Int) ≠ 0 → R (.returned (.bool false)) σ1_3) ∧ (¬ ((x28c : Int) ≠ 0) → ((x34c : Int) ≠ 0 → R (.returned (.bool false)) σ1_3) ∧ (¬ ((x34c : Int) ≠ 0) → ((Option.isNone q28a) = true → R (.returned (.bool false)) σ1_3) ∧ ((Option.isNone q28a) = false → ((Option.isNone q34a) = true → R (.returned (.bool false)) σ1_3) ∧ ((Option.isNone q34a) = false → pt23 R p0 n0 c0 p1 n1 c1 s2 q25 q28a q34a 0 σ1_3))))))))))) : Spec prog 4 #[(.slice p0 n0 c0), (.slice p1 n1 c1), (.string s2)] σ R := by
 refine Spec.of_at (fn := f4) (c := K0) func4 (by kernel_rfl) (Nat.le_of_ble_eq_true (by kernel_rfl)) (fun e he => ?_)
 refine At.ofL (l := [(0, (.slice p0 n0 c0)), (1, (.slice p1 n1 c1)), (2, (.string s2))]) ⟨he 0, he 1, he 2, trivial⟩ (fun J => ?_)
 show At (gl R) _ _ _ _
 refine At.s K1 K2 ?_
 refine At.rg 0 [0] ?_
 refine Seq.u 6 (.bool false) ?_
 refine Seq.done ?_
 refine At.s K3 K4 ?_
 refine At.rg 1 [0, 1] ?_
 refine Seq.o ?_
 refine OpTo.cl (some 25) call11 (h.cont fun v σ1 h2 => ?_); replace h := h2; clear h2
 obtain ⟨q25, rfl, h⟩ := h
 refine Seq.u 7 (.pointer q25) ?_
 refine Seq.done ?_
 refine At.s K5 K6 ?_
 refine At.rg 2 [0, 1, 2, 3, 4, 5, 6, 7, 8] ?_
 refine Seq.u 27 (.pointer q25) ?_
 refine Seq.o ?_
 refine OpTo.cl (some 28) call12 (h.cont fun v_2 σ1_2 h2 => ?_); replace h := h2; clear h2
 obtain ⟨q28a, p28b, n28b, c28b, x28c, rfl, h⟩ := h
 refine Seq.us [(26, .tuple #[(.pointer q28a), (.slice p28b n28b c28b), (.int .i64 x28c)]), (29, .pointer q28a), (30, .slice p28b n28b c28b), (31, .int .i64 x28c), (8, .pointer q28a), (9, .slice p28b n28b c28b), (10, .int .i64 x28c)] ?_
 refine Seq.done ?_
 refine At.s K7 K8 ?_
 refine At.rg 3 [0, 1, 2, 3, 4, 5, 6, 7, 8] ?_
 refine Seq.u 33 (.pointer q25) ?_
 refine Seq.o ?_
 refine OpTo.cl (some 34) call12 (h.cont fun v_3 σ1_3 h2 => ?_); replace h := h2; clear h2
 obtain ⟨q34a, p34b, n34b, c34b, x34c, rfl, h⟩ := h
 refine Seq.us [(32, .tuple #[(.pointer q34a), (.slice p34b n34b c34b), (.int .i64 x34c)]), (35, .pointer q34a), (36, .slice p34b n34b c34b), (37, .int .i64 x34c), (11, .pointer q34a), (12, .slice p34b n34b c34b), (13, .int .i64 x34c)] ?_
 refine Seq.done ?_
 refine At.s K9 K16 ?_
 refine At.s K10 K11 ?_
 refine At.rg 4 [0, 1, 2, 3, 4, 5, 6, 7, 8, 9, 10, 11, 12, 13] ?_
 refine Seq.us [(38, .int .i64 x28c), (39, .bool (decide ((x28c : Int) ≠ 0))), (40, .bool (decide ((x28c : Int) ≠ 0)))] ?_
 cases hb : (decide ((x28c : Int) ≠ 0)) with
 | true =>
  replace h := h.1 (of_decide_eq_true hb)
  refine Seq.n 41 ?_
  refine Seq.n 42 ?_
  refine Seq.us [(43, .bool true), (44, .bool true)] ?_
  refine Seq.n 45 ?_
  refine Seq.n 46 ?_
  refine Seq.us [(47, .bool true), (48, .bool true)] ?_
  refine Seq.n 49 ?_
  refine Seq.n 50 ?_
  refine Seq.u 51 (.bool true) ?_
  refine Seq.done ?_
  refine At.cT 51 K12 K15 ?_
  refine At.s K13 K14 ?_
  refine At.rg 5 [0] ?_
  refine Seq.u 6 (.bool false) ?_
  refine Seq.done ?_
  exact At.rt [.tmp 6] [(.bool false)] func4 ⟨_, rfl, rfl⟩ h
 | false =>
  replace h := h.2 (of_decide_eq_false hb)
  refine Seq.us [(41, .int .i64 x34c), (42, .bool (decide ((x34c : Int) ≠ 0))), (43, .bool (decide ((x34c : Int) ≠ 0))), (44, .bool (decide ((x34c : Int) ≠ 0)))] ?_
  cases hb : (decide ((x34c : Int) ≠ 0)) with
  | true =>
   replace h := h.1 (of_decide_eq_true hb)
   refine Seq.n 45 ?_
   refine Seq.n 46 ?_
   refine Seq.us [(47, .bool true), (48, .bool true)] ?_
   refine Seq.n 49 ?_
   refine Seq.n 50 ?_
   refine Seq.u 51 (.bool true) ?_
   refine Seq.done ?_
   refine At.L [(0, (.slice p0 n0 c0)), (1, (.slice p1 n1 c1)), (2, (.string s2)), (7, (.pointer q25)), (8, (.pointer q28a)), (11, (.pointer q34a)), (51, (.bool true))] fun J => ?_
   refine At.cT 51 K12 K15 ?_
   refine At.s K13 K14 ?_
   refine At.rg 5 [0] ?_
   refine Seq.u 6 (.bool false) ?_
   refine Seq.done ?_
   exact At.rt [.tmp 6] [(.bool false)] func4 ⟨_, rfl, rfl⟩ h
  | false =>
   replace h := h.2 (of_decide_eq_false hb)
   refine Seq.u 45 (.pointer q28a) ?_
   refine Seq.zg 46 (.binOp .eql 26 (.tmp 45) (.const (.pointer none)) 26) 4 (6, false) (.bool (Option.isNone q28a)) (Y.eqlNil underlying26 rfl rfl) ?_
   refine Seq.us [(47, .bool (Option.isNone q28a)), (48, .bool (Option.isNone q28a))] ?_
   cases hb : (Option.isNone q28a) with
   | true =>
    replace h := h.1 hb
    refine Seq.n 49 ?_
    refine Seq.n 50 ?_
    refine Seq.u 51 (.bool true) ?_
    refine Seq.done ?_
    refine At.cT 51 K12 K15 ?_
    refine At.s K13 K14 ?_
    refine At.rg 5 [0] ?_
    refine Seq.u 6 (.bool false) ?_
    refine Seq.done ?_
    exact At.rt [.tmp 6] [(.bool false)] func4 ⟨_, rfl, rfl⟩ h
   | false =>
    replace h := h.2 hb
    refine Seq.u 49 (.pointer q34a) ?_
    refine Seq.zg 50 (.binOp .eql 26 (.tmp 49) (.const (.pointer none)) 26) 4 (10, false) (.bool (Option.isNone q34a)) (Y.eqlNil underlying26 rfl rfl) ?_
    refine Seq.u 51 (.bool (Option.isNone q34a)) ?_
    refine Seq.done ?_
    cases hb : (Option.isNone q34a) with
    | true =>
     replace h := h.1 hb
     refine At.cT 51 K12 K15 ?_
     refine At.s K13 K14 ?_
     refine At.rg 5 [0] ?_
     refine Seq.u 6 (.bool false) ?_
     refine Seq.done ?_
     exact At.rt [.tmp 6] [(.bool false)] func4 ⟨_, rfl, rfl⟩ h
    | false =>
     replace h := h.2 hb
     refine At.cF 51 K12 K15 ?_
     refine At.skip ?_
     refine At.s K17 K37 ?_
     refine At.s K18 K19 ?_
     refine At.rg 6 [0] ?_
     refine Seq.u 14 (.int .i64 0) ?_
     refine Seq.done ?_
     refine At.b 0 K20 ?_
     refine At.loop (x := K21) (by kernel_rfl) ?_
     refine At.s K22 K27 ?_
     refine At.s K23 K24 ?_
     exact At.v [(0, (.slice p0 n0 c0)), (1, (.slice p1 n1 c1)), (2, (.string s2)), (7, (.pointer q25)), (8, (.pointer q28a)), (11, (.pointer q34a)), (14, (.int .i64 0))] (h _)
theorem pt23_of {R : Ending → Hp → Prop} {p0 p1 q7 q8 q11 : Option Addr} {n0 c0 n1 c1 : Nat} {s2 : ByteArray} {x14 : Int} {σ : Hp} (h : ((x14 : Int) < (n0 : Int) → ((x14 : Int) < (n0 : Int) → ∃ (b71 o71 : Nat), p0 = some ⟨b71, o71, none⟩ ∧ ((0 : Int) ≤ x14 ∧ x14 < (n0 : Int)) ∧ ∃ p72 : Option Addr, ∃ n72 : Nat, ∃ c72 : Nat, Hp.ld σ ⟨b71, (o71 + Int.toNat x14 * 1), none⟩ = some (.slice p72 n72 c72) ∧ ((500 : Int) < (n72 : Int) → Spec prog 15 #[] σ (Cont R (fun v σ1 => ∃ t110 : Bool, v = (.bool t110) ∧ R (.returned (.bool t110)) σ1))) ∧ (¬ ((500 : Int) < (n72 : Int)) → ((0 : Int) ≤ x14 ∧ x14 < (n0 : Int)) ∧ ∃ p80 : Option Addr, ∃ n80 : Nat, ∃ c80 : Nat, Hp.ld σ ⟨b71, (o71 + Int.toNat x14 * 1), none⟩ = some (.slice p80 n80 c80) ∧ Spec prog 14 #[(.slice p80 n80 c80)] σ (Cont R (fun v σ1 => ∃ p81 : Option Addr, ∃ n81 : Nat, ∃ c81 : Nat, v = (.slice p81 n81 c81) ∧ Spec prog 13 #[(.pointer q8), (.slice p81 n81 c81)] σ1 (Cont R (fun v_2 σ1_2 => ∃ x82 : Int, v_2 = (.int .i64 x82) ∧ ((x82 : Int) ≠ 0 → Spec prog 15 #[] σ1_2 (Cont R (fun v_3 σ1_3 => ∃ t110 : Bool, v_3 = (.bool t110) ∧ R (.returned (.bool t110)) σ1_3))) ∧ (¬ ((x82 : Int) ≠ 0) → ((x14 : Int) < (n1 : Int) → ∃ (b94 o94 : Nat), p1 = some ⟨b94, o94, none⟩ ∧ ((0 : Int) ≤ x14 ∧ x14 < (n1 : Int)) ∧ ∃ p95 : Option Addr, ∃ n95 : Nat, ∃ c95 : Nat, Hp.ld σ1_2 ⟨b94, (o94 + Int.toNat x14 * 1), none⟩ = some (.slice p95 n95 c95) ∧ ((500 : Int) < (n95 : Int) → Spec prog 15 #[] σ1_2 (Cont R (fun v_3 σ1_3 => ∃ t110 : Bool, v_3 = (.bool t110) ∧ R (.returned (.bool t110)) σ1_3))) ∧ (¬ ((500 : Int) < (n95 : Int)) → ((0 : Int) ≤ x14 ∧ x14 < (n1 : Int)) ∧ ∃ p103 : Option Addr, ∃ n103 : Nat, ∃ c103 : Nat, Hp.ld σ1_2 ⟨b94, (o94 + Int.toNat x14 * 1), none⟩ = some (.slice p103 n103 c103) ∧ Spec prog 14 #[(.slice p103 n103 c103)] σ1_2 (Cont R (fun v_3 σ1_3 => ∃ p104 : Option Addr, ∃ n104 : Nat, ∃ c104 : Nat, v_3 = (.slice p104 n104 c104) ∧ Spec prog 13 #[(.pointer q11), (.slice p104 n104 c104)] σ1_3 (Cont R (fun v_4 σ1_4 => ∃ x105 : Int, v_4 = (.int .i64 x105) ∧ ((x105 : Int) ≠ 0 → Spec prog 15 #[] σ1_4 (Cont R (fun v_5 σ1_5 => ∃ t110 : Bool, v_5 = (.bool t110) ∧ R (.returned (.bool t110)) σ1_5))) ∧ (¬ ((x105 : Int) ≠ 0) → I64 (x14 + 1) ∧ pt23 R ((some ⟨b71, o71, none⟩)) n0 c0 ((some ⟨b94, o94, none⟩)) n1 c1 s2 q7 q8 q11 ((x14 + 1)) σ1_4))))))) ∧ (¬ ((x14 : Int) < (n1 : Int)) → I64 (x14 + 1) ∧ pt23 R ((some ⟨b71, o71, none⟩)) n0 c0 p1 n1 c1 s2 q7 q8 q11 ((x14 + 1)) σ1_2)))))))) ∧ (¬ ((x14 : Int) < (n0 : Int)) → ((x14 : Int) < (n1 : Int) → ∃ (b94 o94 : Nat), p1 = some ⟨b94, o94, none⟩ ∧ ((0 : Int) ≤ x14 ∧ x14 < (n1 : Int)) ∧ ∃ p95 : Option Addr, ∃ n95 : Nat, ∃ c95 : Nat, Hp.ld σ ⟨b94, (o94 + Int.toNat x14 * 1), none⟩ = some (.slice p95 n95 c95) ∧ ((500 : Int) < (n95 : Int) → Spec prog 15 #[] σ (Cont R (fun v σ1 => ∃ t110 : Bool, v = (.bool t110) ∧ R (.returned (.bool t110)) σ1))) ∧ (¬ ((500 : Int) < (n95 : Int)) → ((0 : Int) ≤ x14 ∧ x14 < (n1 : Int)) ∧ ∃ p103 : Option Addr, ∃ n103 : Nat, ∃ c103 : Nat, Hp.ld σ ⟨b94, (o94 + Int.toNat x14 * 1), none⟩ = some (.slice p103 n103 c103) ∧ Spec prog 14 #[(.slice p103 n103 c103)] σ (Cont R (fun v σ1 => ∃ p104 : Option Addr, ∃ n104 : Nat, ∃ c104 : Nat, v = (.slice p104 n104 c104) ∧ Spec prog 13 #[(.pointer q11), (.slice p104 n104 c104)] σ1 (Cont R (fun v_2 σ1_2 => ∃ x105 : Int, v_2 = (.int .i64 x105) ∧ ((x105 : Int) ≠ 0 → Spec prog 15 #[] σ1_2 (Cont R (fun v_3 σ1_3 => ∃ t110 : Bool, v_3 = (.bool t110) ∧ R (.returned (.bool t110)) σ1_3))) ∧ (¬ ((x105 : Int) ≠ 0) → I64 (x14 + 1) ∧ pt23 R p0 n0 c0 ((some ⟨b94, o94, none⟩)) n1 c1 s2 q7 q8 q11 ((x14 + 1)) σ1_2))))))) ∧ (¬ ((x14 : Int) < (n1 : Int)) → I64 (x14 + 1) ∧ pt23 R p0 n0 c0 p1 n1 c1 s2 q7 q8 q11 ((x14 + 1)) σ))) ∧ (¬ ((x14 : Int) < (n0 : Int)) → ((x14 : Int) < (n1 : Int) → ((x14 : Int) < (n0 : Int) → ∃ (b71 o71 : Nat), p0 = some ⟨b71, o71, none⟩ ∧ ((0 : Int) ≤ x14 ∧ x14 < (n0 : Int)) ∧ ∃ p72 : Option Addr, ∃ n72 : Nat, ∃ c72 : Nat, Hp.ld σ ⟨b71, (o71 + Int.toNat x14 * 1), none⟩ = some (.slice p72 n72 c72) ∧ ((500 : Int) < (n72 : Int) → Spec prog 15 #[] σ (Cont R (fun v σ1 => ∃ t110 : Bool, v = (.bool t110) ∧ R (.returned (.bool t110)) σ1))) ∧ (¬ ((500 : Int) < (n72 : Int)) → ((0 : Int) ≤ x14 ∧ x14 < (n0 : Int)) ∧ ∃ p80 : Option Addr, ∃ n80 : Nat, ∃ c80 : Nat, Hp.ld σ ⟨b71, (o71 + Int.toNat x14 * 1), none⟩ = some (.slice p80 n80 c80) ∧ Spec prog 14 #[(.slice p80 n80 c80)] σ (Cont R (fun v σ1 => ∃ p81 : Option Addr, ∃ n81 : Nat, ∃ c81 : Nat, v = (.slice p81 n81 c81) ∧ Spec prog 13 #[(.pointer q8), (.slice p81 n81 c81)] σ1 (Cont R (fun v_2 σ1_2 => ∃ x82 : Int, v_2 = (.int .i64 x82) ∧ ((x82 : Int) ≠ 0 → Spec prog 15 #[] σ1_2 (Cont R (fun v_3 σ1_3 => ∃ t110 : Bool, v_3 = (.bool t110) ∧ R (.returned (.bool t110)) σ1_3))) ∧ (¬ ((x82 : Int) ≠ 0) → ((x14 : Int) < (n1 : Int) → ∃ (b94 o94 : Nat), p1 = some ⟨b94, o94, none⟩ ∧ ((0 : Int) ≤ x14 ∧ x14 < (n1 : Int)) ∧ ∃ p95 : Option Addr, ∃ n95 : Nat, ∃ c95 : Nat, Hp.ld σ1_2 ⟨b94, (o94 + Int.toNat x14 * 1), none⟩ = some (.slice p95 n95 c95) ∧ ((500 : Int) < (n95 : Int) → Spec prog 15 #[] σ1_2 (Cont R (fun v_3 σ1_3 => ∃ t110 : Bool, v_3 = (.bool t110) ∧ R (.returned (.bool t110)) σ1_3))) ∧ (¬ ((500 : Int) < (n95 : Int)) → ((0 : Int) ≤ x14 ∧ x14 < (n1 : Int)) ∧ ∃ p103 : Option Addr, ∃ n103 : Nat, ∃ c103 : Nat, Hp.ld σ1_2 ⟨b94, (o94 + Int.toNat x14 * 1), none⟩ = some (.slice p103 n103 c103) ∧ Spec prog 14 #[(.slice p103 n103 c103)] σ1_2 (Cont R (fun v_3 σ1_3 => ∃ p104 : Option Addr, ∃ n104 : Nat, ∃ c104 : Nat, v_3 = (.slice p104 n104 c104) ∧ Spec prog 13 #[(.pointer q11), (.slice p104 n104 c104)] σ1_3 (Cont R (fun v_4 σ1_4 => ∃ x105 : Int, v_4 = (.int .i64 x105) ∧ ((x105 : Int) ≠ 0 → Spec prog 15 #[] σ1_4 (Cont R (fun v_5 σ1_5 => ∃ t110 : Bool, v_5 = (.bool t110) ∧ R (.returned (.bool t110)) σ1_5))) ∧ (¬ ((x105 : Int) ≠ 0) → I64 (x14 + 1) ∧ pt23 R ((some ⟨b71, o71, none⟩)) n0 c0 ((some ⟨b94, o94, none⟩)) n1 c1 s2 q7 q8 q11 ((x14 + 1)) σ1_4))))))) ∧ (¬ ((x14 : Int) < (n1 : Int)) → I64 (x14 + 1) ∧ pt23 R ((some ⟨b71, o71, none⟩)) n0 c0 p1 n1 c1 s2 q7 q8 q11 ((x14 + 1)) σ1_2)))))))) ∧ (¬ ((x14 : Int) < (n0 : Int)) → ((x14 : Int) < (n1 : Int) → ∃ (b94 o94 : Nat), p1 = some ⟨b94, o94, none⟩ ∧ ((0 : Int) ≤ x14 ∧ x14 < (n1 : Int)) ∧ ∃ p95 : Option Addr, ∃ n95 : Nat, ∃ c95 : Nat, Hp.ld σ ⟨b94, (o94 + Int.toNat x14 * 1), none⟩ = some (.slice p95 n95 c95) ∧ ((500 : Int) < (n95 : Int) → Spec prog 15 #[] σ (Cont R (fun v σ1 => ∃ t110 : Bool, v = (.bool t110) ∧ R (.returned (.bool t110)) σ1))) ∧ (¬ ((500 : Int) < (n95 : Int)) → ((0 : Int) ≤ x14 ∧ x14 < (n1 : Int)) ∧ ∃ p103 : Option Addr, ∃ n103 : Nat, ∃ c103 : Nat, Hp.ld σ ⟨b94, (o94 + Int.toNat x14 * 1), none⟩ = some (.slice p103 n103 c103) ∧ Spec prog 14 #[(.slice p103 n103 c103)] σ (Cont R (fun v σ1 => ∃ p104 : Option Addr, ∃ n104 : Nat, ∃ c104 : Nat, v = (.slice p104 n104 c104) ∧ Spec prog 13 #[(.pointer q11), (.slice p104 n104 c104)] σ1 (Cont R (fun v_2 σ1_2 => ∃ x105 : Int, v_2 = (.int .i64 x105) ∧ ((x105 : Int) ≠ 0 → Spec prog 15 #[] σ1_2 (Cont R (fun v_3 σ1_3 => ∃ t110 : Bool, v_3 = (.bool t110) ∧ R (.returned (.bool t110)) σ1_3))) ∧ (¬ ((x105 : Int) ≠ 0) → I64 (x14 + 1) ∧ pt23 R p0 n0 c0 ((some ⟨b94, o94, none⟩)) n1 c1 s2 q7 q8 q11 ((x14 + 1)) σ1_2))))))) ∧ (¬ ((x14 : Int) < (n1 : Int)) → I64 (x14 + 1) ∧ pt23 R p0 n0 c0 p1 n1 c1 s2 q7 q8 q11 ((x14 + 1)) σ))) ∧ (¬ ((x14 : Int) < (n1 : Int)) → Spec prog 23 #[(.slice p0 n0 c0)] σ (Cont R (fun v σ1 => ∃ p113 : Option Addr, ∃ n113 : Nat, ∃ c113 : Nat, v = (.slice p113 n113 c113) ∧ Spec prog 22 #[(.pointer q8), (.slice p113 n113 c113)] σ1 (Cont R (fun v_2 σ1_2 => ∃ x114 : Int, v_2 = (.int .i64 x114) ∧ Spec prog 12 #[(.pointer q7), (.string (ByteArray.mk #[120]))] σ1_2 (Cont R (fun v_3 σ1_3 => ∃ q117a : Option Addr, ∃ p117b : Option Addr, ∃ n117b : Nat, ∃ c117b : Nat, ∃ x117c : Int, v_3 = (.tuple #[(.pointer q117a), (.slice p117b n117b c117b), (.int .i64 x117c)]) ∧ Spec prog 12 #[(.pointer q7), (.string (ByteArray.mk #[121, 47, 122]))] σ1_3 (Cont R (fun v_4 σ1_4 => ∃ q123a : Option Addr, ∃ p123b : Option Addr, ∃ n123b : Nat, ∃ c123b : Nat, ∃ x123c : Int, v_4 = (.tuple #[(.pointer q123a), (.slice p123b n123b c123b), (.int .i64 x123c)]) ∧ Spec prog 11 #[] σ1_4 (Cont R (fun v_5 σ1_5 => ∃ q128 : Option Addr, v_5 = (.pointer q128) ∧ Spec prog 12 #[(.pointer q128), (.string s2)] σ1_5 (Cont R (fun v_6 σ1_6 => ∃ q130a : Option Addr, ∃ p130b : Option Addr, ∃ n130b : Nat, ∃ c130b : Nat, ∃ x130c : Int, v_6 = (.tuple #[(.pointer q130a), (.slice p130b n130b c130b), (.int .i64 x130c)]) ∧ ((32 : Int) < ((ByteArray.size s2 : Nat) : Int) → ((x117c : Int) = 0 → ((x123c : Int) = 0 → Spec prog 21 #[(.slice p117b n117b c117b), (.slice p0 n0 c0)] σ1_6 (Cont R (fun v_7 σ1_7 => ∃ t151 : Bool, v_7 = (.bool t151) ∧ (t151 = true → Spec prog 21 #[(.slice p123b n123b c123b), (.slice p1 n1 c1)] σ1_7 (Cont R (fun v_8 σ1_8 => ∃ t156 : Bool, v_8 = (.bool t156) ∧ (t156 = true → ((x130c : Int) = 71 → Spec prog 15 #[] σ1_8 (Cont R (fun v_9 σ1_9 => ∃ t165 : Bool, v_9 = (.bool t165) ∧ R (.returned (.bool t165)) σ1_9))) ∧ (¬ ((x130c : Int) = 71) → R (.returned (.bool false)) σ1_8)) ∧ (t156 = false → R (.returned (.bool false)) σ1_8)))) ∧ (t151 = false → R (.returned (.bool false)) σ1_7)))) ∧ (¬ ((x123c : Int) = 0) → R (.returned (.bool false)) σ1_6)) ∧ (¬ ((x117c : Int) = 0) → R (.returned (.bool false)) σ1_6)) ∧ (¬ ((32 : Int) < ((ByteArray.size s2 : Nat) : Int)) → Spec prog 24 #[(.string s2)] σ1_6 (Cont R (fun v_7 σ1_7 => ∃ t139 : Bool, v_7 = (.bool t139) ∧ ((x117c : Int) = 0 → ((x123c : Int) = 0 → Spec prog 21 #[(.slice p117b n117b c117b), (.slice p0 n0 c0)] σ1_7 (Cont R (fun v_8 σ1_8 => ∃ t151 : Bool, v_8 = (.bool t151) ∧ (t151 = true → Spec prog 21 #[(.slice p123b n123b c123b), (.slice p1 n1 c1)] σ1_8 (Cont R (fun v_9 σ1_9 => ∃ t156 : Bool, v_9 = (.bool t156) ∧ (t156 = true → ((x130c : Int) = 71 → (t139 = false → Spec prog 15 #[] σ1_9 (Cont R (fun v_10 σ1_10 => ∃ t165 : Bool, v_10 = (.bool t165) ∧ R (.returned (.bool t165)) σ1_10))) ∧ (t139 = true → R (.returned (.bool false)) σ1_9)) ∧ (¬ ((x130c : Int) = 71) → (t139 = false → R (.returned (.bool false)) σ1_9) ∧ (t139 = true → Spec prog 15 #[] σ1_9 (Cont R (fun v_10 σ1_10 => ∃ t165 : Bool, v_10 = (.bool t165) ∧ R (.returned (.bool t165)) σ1_10))))) ∧ (t156 = false → R (.returned (.bool false)) σ1_9)))) ∧ (t151 = false → R (.returned (.bool false)) σ1_8)))) ∧ (¬ ((x123c : Int) = 0) → R (.returned (.bool false)) σ1_7)) ∧ (¬ ((x117c : Int) = 0) → R (.returned (.bool false)) σ1_7))))))))))))))))))) : pt23 R p0 n0 c0 p1 n1 c1 s2 q7 q8 q11 x14 σ := by
 intro J
 show At (gl R) _ _ _ _
 refine At.rg 7 [0, 1, 2, 3, 4, 5, 6, 7, 8, 9] ?_
 refine Seq.us [(52, .int .i64 x14), (53, .slice p0 n0 c0)] ?_
 refine Seq.z 54 (.call { callee := .builtin .len, args := #[(.tmp 53)], argTypes := #[22] }) 3 (.int .i64 (n0 : Int)) (Y.lenS underlying22 rfl rfl) ?_
 refine Seq.us [(55, .bool (decide ((x14 : Int) < (n0 : Int)))), (56, .bool (decide ((x14 : Int) < (n0 : Int))))] ?_
 cases hb : (decide ((x14 : Int) < (n0 : Int))) with
 | true =>
  replace h := h.1 (of_decide_eq_true hb)
  refine Seq.n 57 ?_
  refine Seq.n 58 ?_
  refine Seq.n 59 ?_
  refine Seq.n 60 ?_
  refine Seq.u 61 (.bool true) ?_
  refine Seq.done ?_
  refine At.cT 61 K25 K26 ?_
  refine At.skip ?_
  refine At.s K28 K36 ?_
  refine At.b 1 K29 ?_
  refine At.s K30 K31 ?_
  refine At.rg 9 [0, 1, 2, 3, 4, 5, 6, 7, 8, 9, 10, 11, 12, 13, 14, 15, 16, 17, 18, 19, 20, 21, 22, 23, 24, 25, 26, 27, 28, 29, 30, 31, 32, 33, 34, 35, 36, 37, 38, 39, 40, 41, 42, 43, 44, 45] ?_
  refine Seq.us [(64, .int .i64 x14), (65, .slice p0 n0 c0)] ?_
  refine Seq.z 66 (.call { callee := .builtin .len, args := #[(.tmp 65)], argTypes := #[22] }) 3 (.int .i64 (n0 : Int)) (Y.lenS underlying22 rfl rfl) ?_
  refine Seq.us [(67, .bool (decide ((x14 : Int) < (n0 : Int)))), (68, .bool (decide ((x14 : Int) < (n0 : Int))))] ?_
  cases hb : (decide ((x14 : Int) < (n0 : Int))) with
  | true =>
   replace h := h.1 (of_decide_eq_true hb)
   refine Seq.us [(69, .slice p0 n0 c0), (70, .int .i64 x14)] ?_
   obtain ⟨b71, o71, hq, h⟩ := h
   subst hq
   obtain ⟨hi, h⟩ := h
   refine Seq.zg 71 (.indexAddr 22 (.tmp 69) (.tmp 70)) 0 (4, true) (.pointer (some ⟨b71, (o71 + Int.toNat x14 * 1), none⟩)) (Y.idx underlying22 sizeOf23 rfl rfl hi rfl) ?_
   obtain ⟨p72, n72, c72, hl, h⟩ := h
   refine Seq.zg 72 (.load 23 (.tmp 71)) 23 (4, true) (.slice p72 n72 c72) (Y.ld isAgg23 rfl hl) ?_
   refine Seq.zg 73 (.call { callee := .builtin .len, args := #[(.tmp 72)], argTypes := #[23] }) 3 (4, true) (.int .i64 (n72 : Int)) (Y.lenS underlying23 rfl rfl) ?_
   refine Seq.us [(74, .bool (decide ((500 : Int) < (n72 : Int)))), (75, .bool (decide ((500 : Int) < (n72 : Int))))] ?_
   cases hb : (decide ((500 : Int) < (n72 : Int))) with
   | true =>
    replace h := h.1 (of_decide_eq_true hb)
    refine Seq.n 76 ?_
    refine Seq.n 77 ?_
    refine Seq.n 78 ?_
    refine Seq.n 79 ?_
    refine Seq.n 80 ?_
    refine Seq.n 81 ?_
    refine Seq.n 82 ?_
    refine Seq.n 83 ?_
    refine Seq.us [(84, .bool true), (85, .bool true), (86, .bool true)] ?_
    refine Seq.n 87 ?_
    refine Seq.n 88 ?_
    refine Seq.n 89 ?_
    refine Seq.n 90 ?_
    refine Seq.n 91 ?_
    refine Seq.n 92 ?_
    refine Seq.n 93 ?_
    refine Seq.n 94 ?_
    refine Seq.n 95 ?_
    refine Seq.n 96 ?_
    refine Seq.n 97 ?_
    refine Seq.n 98 ?_
    refine Seq.n 99 ?_
    refine Seq.n 100 ?_
    refine Seq.n 101 ?_
    refine Seq.n 102 ?_
    refine Seq.n 103 ?_
    refine Seq.n 104 ?_
    refine Seq.n 105 ?_
    refine Seq.n 106 ?_
    refine Seq.n 107 ?_
    refine Seq.n 108 ?_
    refine Seq.u 109 (.bool true) ?_
    refine Seq.done ?_
    refine At.L [(0, (.slice (some ⟨b71, o71, none⟩) n0 c0)), (1, (.slice p1 n1 c1)), (2, (.string s2)), (7, (.pointer q7)), (8, (.pointer q8)), (11, (.pointer q11)), (14, (.int .i64 x14)), (109, (.bool true))] fun J => ?_
    refine At.cT 109 K32 K35 ?_
    refine At.s K33 K34 ?_
    refine At.rg 10 [0, 1] ?_
    refine Seq.o ?_
    refine OpTo.cl (some 110) call15 (h.cont fun v σ1 h2 => ?_); replace h := h2; clear h2
    obtain ⟨t110, rfl, h⟩ := h
    refine Seq.u 6 (.bool t110) ?_
    refine Seq.done ?_
    exact At.rt [.tmp 6] [(.bool t110)] func4 ⟨_, rfl, rfl⟩ h
   | false =>
    replace h := h.2 (of_decide_eq_false hb)
    refine Seq.us [(76, .pointer q8), (77, .slice (some ⟨b71, o71, none⟩) n0 c0), (78, .int .i64 x14)] ?_
    obtain ⟨hi, h⟩ := h
    refine Seq.zg 79 (.indexAddr 22 (.tmp 77) (.tmp 78)) 0 (11, false) (.pointer (some ⟨b71, (o71 + Int.toNat x14 * 1), none⟩)) (Y.idx underlying22 sizeOf23 rfl rfl hi rfl) ?_
    obtain ⟨p80, n80, c80, hl, h⟩ := h
    refine Seq.zg 80 (.load 23 (.tmp 79)) 23 (11, false) (.slice p80 n80 c80) (Y.ld isAgg23 rfl hl) ?_
    refine Seq.o ?_
    refine OpTo.cl (some 81) call14 (h.cont fun v σ1 h2 => ?_); replace h := h2; clear h2
    obtain ⟨p81, n81, c81, rfl, h⟩ := h
    refine Seq.o ?_
    refine OpTo.cl (some 82) call13 (h.cont fun v_2 σ1_2 h2 => ?_); replace h := h2; clear h2
    obtain ⟨x82, rfl, h⟩ := h
    refine Seq.us [(83, .bool (decide ((x82 : Int) ≠ 0))), (84, .bool (decide ((x82 : Int) ≠ 0))), (85, .bool (decide ((x82 : Int) ≠ 0))), (86, .bool (decide ((x82 : Int) ≠ 0)))] ?_
    cases hb : (decide ((x82 : Int) ≠ 0)) with
    | true =>
     replace h := h.1 (of_decide_eq_true hb)
     refine Seq.n 87 ?_
     refine Seq.n 88 ?_
     refine Seq.n 89 ?_
     refine Seq.n 90 ?_
     refine Seq.n 91 ?_
     refine Seq.n 92 ?_
     refine Seq.n 93 ?_
     refine Seq.n 94 ?_
     refine Seq.n 95 ?_
     refine Seq.n 96 ?_
     refine Seq.n 97 ?_
     refine Seq.n 98 ?_
     refine Seq.n 99 ?_
     refine Seq.n 100 ?_
     refine Seq.n 101 ?_
     refine Seq.n 102 ?_
     refine Seq.n 103 ?_
     refine Seq.n 104 ?_
     refine Seq.n 105 ?_
     refine Seq.n 106 ?_
     refine Seq.n 107 ?_
     refine Seq.n 108 ?_
     refine Seq.u 109 (.bool true) ?_
     refine Seq.done ?_
     refine At.cT 109 K32 K35 ?_
     refine At.s K33 K34 ?_
     refine At.rg 10 [0, 1] ?_
     refine Seq.o ?_
     refine OpTo.cl (some 110) call15 (h.cont fun v_3 σ1_3 h2 => ?_); replace h := h2; clear h2
     obtain ⟨t110, rfl, h⟩ := h
     refine Seq.u 6 (.bool t110) ?_
     refine Seq.done ?_
     exact At.rt [.tmp 6] [(.bool t110)] func4 ⟨_, rfl, rfl⟩ h
    | false =>
     replace h := h.2 (of_decide_eq_false hb)
     refine Seq.us [(87, .int .i64 x14), (88, .slice p1 n1 c1)] ?_
     refine Seq.zg 89 (.call { callee := .builtin .len, args := #[(.tmp 88)], argTypes := #[22] }) 3 (22, false) (.int .i64 (n1 : Int)) (Y.lenS underlying22 rfl rfl) ?_
     refine Seq.us [(90, .bool (decide ((x14 : Int) < (n1 : Int)))), (91, .bool (decide ((x14 : Int) < (n1 : Int))))] ?_
     cases hb : (decide ((x14 : Int) < (n1 : Int))) with
     | true =>
      replace h := h.1 (of_decide_eq_true hb)
      refine Seq.us [(92, .slice p1 n1 c1), (93, .int .i64 x14)] ?_
      obtain ⟨b94, o94, hq, h⟩ := h
      subst hq
      obtain ⟨hi, h⟩ := h
      refine Seq.zg 94 (.indexAddr 22 (.tmp 92) (.tmp 93)) 0 (27, true) (.pointer (some ⟨b94, (o94 + Int.toNat x14 * 1), none⟩)) (Y.idx underlying22 sizeOf23 rfl rfl hi rfl) ?_
      obtain ⟨p95, n95, c95, hl, h⟩ := h
      refine Seq.zg 95 (.load 23 (.tmp 94)) 23 (27, true) (.slice p95 n95 c95) (Y.ld isAgg23 rfl hl) ?_
      refine Seq.zg 96 (.call { callee := .builtin .len, args := #[(.tmp 95)], argTypes := #[23] }) 3 (27, true) (.int .i64 (n95 : Int)) (Y.lenS underlying23 rfl rfl) ?_
      refine Seq.us [(97, .bool (decide ((500 : Int) < (n95 : Int)))), (98, .bool (decide ((500 : Int) < (n95 : Int))))] ?_
      cases hb : (decide ((500 : Int) < (n95 : Int))) with
      | true =>
       replace h := h.1 (of_decide_eq_true hb)
       refine Seq.n 99 ?_
       refine Seq.n 100 ?_
       refine Seq.n 101 ?_
       refine Seq.n 102 ?_
       refine Seq.n 103 ?_
       refine Seq.n 104 ?_
       refine Seq.n 105 ?_
       refine Seq.n 106 ?_
       refine Seq.us [(107, .bool true), (108, .bool true), (109, .bool true)] ?_
       refine Seq.done ?_
       refine At.L [(0, (.slice (some ⟨b71, o71, none⟩) n0 c0)), (1, (.slice (some ⟨b94, o94, none⟩) n1 c1)), (2, (.string s2)), (7, (.pointer q7)), (8, (.pointer q8)), (11, (.pointer q11)), (14, (.int .i64 x14)), (109, (.bool true))] fun J => ?_
       refine At.cT 109 K32 K35 ?_
       refine At.s K33 K34 ?_
       refine At.rg 10 [0, 1] ?_
       refine Seq.o ?_
       refine OpTo.cl (some 110) call15 (h.cont fun v_3 σ1_3 h2 => ?_); replace h := h2; clear h2
       obtain ⟨t110, rfl, h⟩ := h
       refine Seq.u 6 (.bool t110) ?_
       refine Seq.done ?_
       exact At.rt [.tmp 6] [(.bool t110)] func4 ⟨_, rfl, rfl⟩ h
      | false =>
       replace h := h.2 (of_decide_eq_false hb)
       refine Seq.us [(99, .pointer q11), (100, .slice (some ⟨b94, o94, none⟩) n1 c1), (101, .int .i64 x14)] ?_
       obtain ⟨hi, h⟩ := h
       refine Seq.zg 102 (.indexAddr 22 (.tmp 100) (.tmp 101)) 0 (34, false) (.pointer (some ⟨b94, (o94 + Int.toNat x14 * 1), none⟩)) (Y.idx underlying22 sizeOf23 rfl rfl hi rfl) ?_
       obtain ⟨p103, n103, c103, hl, h⟩ := h
       refine Seq.zg 103 (.load 23 (.tmp 102)) 23 (34, false) (.slice p103 n103 c103) (Y.ld isAgg23 rfl hl) ?_
       refine Seq.o ?_
       refine OpTo.cl (some 104) call14 (h.cont fun v_3 σ1_3 h2 => ?_); replace h := h2; clear h2
       obtain ⟨p104, n104, c104, rfl, h⟩ := h
       refine Seq.o ?_
       refine OpTo.cl (some 105) call13 (h.cont fun v_4 σ1_4 h2 => ?_); replace h := h2; clear h2
       obtain ⟨x105, rfl, h⟩ := h
       refine Seq.us [(106, .bool (decide ((x105 : Int) ≠ 0))), (107, .bool (decide ((x105 : Int) ≠ 0))), (108, .bool (decide ((x105 : Int) ≠ 0))), (109, .bool (decide ((x105 : Int) ≠ 0)))] ?_
       refine Seq.done ?_
       cases hb : (decide ((x105 : Int) ≠ 0)) with
       | true =>
        replace h := h.1 (of_decide_eq_true hb)
        refine At.cT 109 K32 K35 ?_
        refine At.s K33 K34 ?_
        refine At.rg 10 [0, 1] ?_
        refine Seq.o ?_
        refine OpTo.cl (some 110) call15 (h.cont fun v_5 σ1_5 h2 => ?_); replace h := h2; clear h2
        obtain ⟨t110, rfl, h⟩ := h
        refine Seq.u 6 (.bool t110) ?_
        refine Seq.done ?_
        exact At.rt [.tmp 6] [(.bool t110)] func4 ⟨_, rfl, rfl⟩ h
       | false =>
        replace h := h.2 (of_decide_eq_false hb)
        refine At.cF 109 K32 K35 ?_
        refine At.skip ?_
        refine At.inBlock ?_
        refine At.rg 8 [0, 1, 2] ?_
        refine Seq.u 62 (.int .i64 x14) ?_
        obtain ⟨hi, h⟩ := h
        refine Seq.z 63 (.binOp .add 3 (.tmp 62) (.const (.int .i64 1)) 3) 3 (.int .i64 (x14 + 1)) (Y.addI hi rfl rfl) ?_
        refine Seq.u 14 (.int .i64 (x14 + 1)) ?_
        refine Seq.done ?_
        refine At.inLoop ?_
        refine At.s K22 K27 ?_
        refine At.s K23 K24 ?_
        exact At.v [(0, (.slice (some ⟨b71, o71, none⟩) n0 c0)), (1, (.slice (some ⟨b94, o94, none⟩) n1 c1)), (2, (.string s2)), (7, (.pointer q7)), (8, (.pointer q8)), (11, (.pointer q11)), (14, (.int .i64 (x14 + 1)))] (h _)
     | false =>
      replace h := h.2 (of_decide_eq_false hb)
      refine Seq.n 92 ?_
      refine Seq.n 93 ?_
      refine Seq.n 94 ?_
      refine Seq.n 95 ?_
      refine Seq.n 96 ?_
      refine Seq.n 97 ?_
      refine Seq.n 98 ?_
      refine Seq.n 99 ?_
      refine Seq.n 100 ?_
      refine Seq.n 101 ?_
      refine Seq.n 102 ?_
      refine Seq.n 103 ?_
      refine Seq.n 104 ?_
      refine Seq.n 105 ?_
      refine Seq.n 106 ?_
      refine Seq.n 107 ?_
      refine Seq.us [(108, .bool false), (109, .bool false)] ?_
      refine Seq.done ?_
      refine At.cF 109 K32 K35 ?_
      refine At.skip ?_
      refine At.inBlock ?_
      refine At.rg 8 [0, 1, 2] ?_
      refine Seq.u 62 (.int .i64 x14) ?_
      obtain ⟨hi, h⟩ := h
      refine Seq.z 63 (.binOp .add 3 (.tmp 62) (.const (.int .i64 1)) 3) 3 (.int .i64 (x14 + 1)) (Y.addI hi rfl rfl) ?_
      refine Seq.u 14 (.int .i64 (x14 + 1)) ?_
      refine Seq.done ?_
      refine At.L [(0, (.slice (some ⟨b71, o71, none⟩) n0 c0)), (1, (.slice p1 n1 c1)), (2, (.string s2)), (7, (.pointer q7)), (8, (.pointer q8)), (11, (.pointer q11)), (14, (.int .i64 (x14 + 1)))] fun J => ?_
      refine At.inLoop ?_
      refine At.s K22 K27 ?_
      refine At.s K23 K24 ?_
      exact At.v [(0, (.slice (some ⟨b71, o71, none⟩) n0 c0)), (1, (.slice p1 n1 c1)), (2, (.string s2)), (7, (.pointer q7)), (8, (.pointer q8)), (11, (.pointer q11)), (14, (.int .i64 (x14 + 1)))] (h _)
  | false =>
   replace h := h.2 (of_decide_eq_false hb)
   refine Seq.n 69 ?_
   refine Seq.n 70 ?_
   refine Seq.n 71 ?_
   refine Seq.n 72 ?_
   refine Seq.n 73 ?_
   refine Seq.n 74 ?_
   refine Seq.n 75 ?_
   refine Seq.n 76 ?_
   refine Seq.n 77 ?_
   refine Seq.n 78 ?_
   refine Seq.n 79 ?_
   refine Seq.n 80 ?_
   refine Seq.n 81 ?_
   refine Seq.n 82 ?_
   refine Seq.n 83 ?_
   refine Seq.n 84 ?_
   refine Seq.us [(85, .bool false), (86, .bool false), (87, .int .i64 x14), (88, .slice p1 n1 c1)] ?_
   refine Seq.zg 89 (.call { callee := .builtin .len, args := #[(.tmp 88)], argTypes := #[22] }) 3 (22, false) (.int .i64 (n1 : Int)) (Y.lenS underlying22 rfl rfl) ?_
   refine Seq.us [(90, .bool (decide ((x14 : Int) < (n1 : Int)))), (91, .bool (decide ((x14 : Int) < (n1 : Int))))] ?_
   cases hb : (decide ((x14 : Int) < (n1 : Int))) with
   | true =>
    replace h := h.1 (of_decide_eq_true hb)
    refine Seq.us [(92, .slice p1 n1 c1), (93, .int .i64 x14)] ?_
    obtain ⟨b94, o94, hq, h⟩ := h
    subst hq
    obtain ⟨hi, h⟩ := h
    refine Seq.zg 94 (.indexAddr 22 (.tmp 92) (.tmp 93)) 0 (27, true) (.pointer (some ⟨b94, (o94 + Int.toNat x14 * 1), none⟩)) (Y.idx underlying22 sizeOf23 rfl rfl hi rfl) ?_
    obtain ⟨p95, n95, c95, hl, h⟩ := h
    refine Seq.zg 95 (.load 23 (.tmp 94)) 23 (27, true) (.slice p95 n95 c95) (Y.ld isAgg23 rfl hl) ?_
    refine Seq.zg 96 (.call { callee := .builtin .len, args := #[(.tmp 95)], argTypes := #[23] }) 3 (27, true) (.int .i64 (n95 : Int)) (Y.lenS underlying23 rfl rfl) ?_
    refine Seq.us [(97, .bool (decide ((500 : Int) < (n95 : Int)))), (98, .bool (decide ((500 : Int) < (n95 : Int))))] ?_
    cases hb : (decide ((500 : Int) < (n95 : Int))) with
    | true =>
     replace h := h.1 (of_decide_eq_true hb)
     refine Seq.n 99 ?_
     refine Seq.n 100 ?_
     refine Seq.n 101 ?_
     refine Seq.n 102 ?_
     refine Seq.n 103 ?_
     refine Seq.n 104 ?_
     refine Seq.n 105 ?_
     refine Seq.n 106 ?_
     refine Seq.us [(107, .bool true), (108, .bool true), (109, .bool true)] ?_
     refine Seq.done ?_
     refine At.cT 109 K32 K35 ?_
     refine At.s K33 K34 ?_
     refine At.rg 10 [0, 1] ?_
     refine Seq.o ?_
     refine OpTo.cl (some 110) call15 (h.cont fun v σ1 h2 => ?_); replace h := h2; clear h2
     obtain ⟨t110, rfl, h⟩ := h
     refine Seq.u 6 (.bool t110) ?_
     refine Seq.done ?_
     refine At.L [(6, (.bool t110))] fun J => ?_
     exact At.rt [.tmp 6] [(.bool t110)] func4 ⟨_, rfl, rfl⟩ h
    | false =>
     replace h := h.2 (of_decide_eq_false hb)
     refine Seq.us [(99, .pointer q11), (100, .slice (some ⟨b94, o94, none⟩) n1 c1), (101, .int .i64 x14)] ?_
     obtain ⟨hi, h⟩ := h
     refine Seq.zg 102 (.indexAddr 22 (.tmp 100) (.tmp 101)) 0 (34, false) (.pointer (some ⟨b94, (o94 + Int.toNat x14 * 1), none⟩)) (Y.idx underlying22 sizeOf23 rfl rfl hi rfl) ?_
     obtain ⟨p103, n103, c103, hl, h⟩ := h
     refine Seq.zg 103 (.load 23 (.tmp 102)) 23 (34, false) (.slice p103 n103 c103) (Y.ld isAgg23 rfl hl) ?_
     refine Seq.o ?_
     refine OpTo.cl (some 104) call14 (h.cont fun v σ1 h2 => ?_); replace h := h2; clear h2
     obtain ⟨p104, n104, c104, rfl, h⟩ := h
     refine Seq.o ?_
     refine OpTo.cl (some 105) call13 (h.cont fun v_2 σ1_2 h2 => ?_); replace h := h2; clear h2
     obtain ⟨x105, rfl, h⟩ := h
     refine Seq.us [(106, .bool (decide ((x105 : Int) ≠ 0))), (107, .bool (decide ((x105 : Int) ≠ 0))), (108, .bool (decide ((x105 : Int) ≠ 0))), (109, .bool (decide ((x105 : Int) ≠ 0)))] ?_
     refine Seq.done ?_
     cases hb : (decide ((x105 : Int) ≠ 0)) with
     | true =>
      replace h := h.1 (of_decide_eq_true hb)
      refine At.cT 109 K32 K35 ?_
      refine At.s K33 K34 ?_
      refine At.rg 10 [0, 1] ?_
      refine Seq.o ?_
      refine OpTo.cl (some 110) call15 (h.cont fun v_3 σ1_3 h2 => ?_); replace h := h2; clear h2
      obtain ⟨t110, rfl, h⟩ := h
      refine Seq.u 6 (.bool t110) ?_
      refine Seq.done ?_
      exact At.rt [.tmp 6] [(.bool t110)] func4 ⟨_, rfl, rfl⟩ h
     | false =>
      replace h := h.2 (of_decide_eq_false hb)
      refine At.cF 109 K32 K35 ?_
      refine At.skip ?_
      refine At.inBlock ?_
      refine At.rg 8 [0, 1, 2] ?_
      refine Seq.u 62 (.int .i64 x14) ?_
      obtain ⟨hi, h⟩ := h
      refine Seq.z 63 (.binOp .add 3 (.tmp 62) (.const (.int .i64 1)) 3) 3 (.int .i64 (x14 + 1)) (Y.addI hi rfl rfl) ?_
      refine Seq.u 14 (.int .i64 (x14 + 1)) ?_
      refine Seq.done ?_
      refine At.inLoop ?_
      refine At.s K22 K27 ?_
      refine At.s K23 K24 ?_
      exact At.v [(0, (.slice p0 n0 c0)), (1, (.slice (some ⟨b94, o94, none⟩) n1 c1)), (2, (.string s2)), (7, (.pointer q7)), (8, (.pointer q8)), (11, (.pointer q11)), (14, (.int .i64 (x14 + 1)))] (h _)
   | false =>
    replace h := h.2 (of_decide_eq_false hb)
    refine Seq.n 92 ?_
    refine Seq.n 93 ?_
    refine Seq.n 94 ?_
    refine Seq.n 95 ?_
    refine Seq.n 96 ?_
    refine Seq.n 97 ?_
    refine Seq.n 98 ?_
    refine Seq.n 99 ?_
    refine Seq.n 100 ?_
    refine Seq.n 101 ?_
    refine Seq.n 102 ?_
    refine Seq.n 103 ?_
    refine Seq.n 104 ?_
    refine Seq.n 105 ?_
    refine Seq.n 106 ?_
    refine Seq.n 107 ?_
    refine Seq.us [(108, .bool false), (109, .bool false)] ?_
    refine Seq.done ?_
    refine At.cF 109 K32 K35 ?_
    refine At.skip ?_
    refine At.inBlock ?_
    refine At.rg 8 [0, 1, 2] ?_
    refine Seq.u 62 (.int .i64 x14) ?_
    obtain ⟨hi, h⟩ := h
    refine Seq.z 63 (.binOp .add 3 (.tmp 62) (.const (.int .i64 1)) 3) 3 (.int .i64 (x14 + 1)) (Y.addI hi rfl rfl) ?_
    refine Seq.u 14 (.int .i64 (x14 + 1)) ?_
    refine Seq.done ?_
    refine At.inLoop ?_
    refine At.s K22 K27 ?_
    refine At.s K23 K24 ?_
    exact At.v [(0, (.slice p0 n0 c0)), (1, (.slice p1 n1 c1)), (2, (.string s2)), (7, (.pointer q7)), (8, (.pointer q8)), (11, (.pointer q11)), (14, (.int .i64 (x14 + 1)))] (h _)
 | false =>
  replace h := h.2 (of_decide_eq_false hb)
  refine Seq.us [(57, .int .i64 x14), (58, .slice p1 n1 c1)] ?_
  refine Seq.zg 59 (.call { callee := .builtin .len, args := #[(.tmp 58)], argTypes := #[22] }) 3 (4, false) (.int .i64 (n1 : Int)) (Y.lenS underlying22 rfl rfl) ?_
  refine Seq.us [(60, .bool (decide ((x14 : Int) < (n1 : Int)))), (61, .bool (decide ((x14 : Int) < (n1 : Int))))] ?_
  refine Seq.done ?_
  refine At.L [(0, (.slice p0 n0 c0)), (1, (.slice p1 n1 c1)), (2, (.string s2)), (7, (.pointer q7)), (8, (.pointer q8)), (11, (.pointer q11)), (14, (.int .i64 x14)), (61, (.bool (decide ((x14 : Int) < (n1 : Int)))))] fun J => ?_
  cases hb : (decide ((x14 : Int) < (n1 : Int))) with
  | true =>
   replace h := h.1 (of_decide_eq_true hb)
   refine At.cT 61 K25 K26 ?_
   refine At.skip ?_
   refine At.s K28 K36 ?_
   refine At.b 1 K29 ?_
   refine At.s K30 K31 ?_
   refine At.rg 9 [0, 1, 2, 3, 4, 5, 6, 7, 8, 9, 10, 11, 12, 13, 14, 15, 16, 17, 18, 19, 20, 21, 22, 23, 24, 25, 26, 27, 28, 29, 30, 31, 32, 33, 34, 35, 36, 37, 38, 39, 40, 41, 42, 43, 44, 45] ?_
   refine Seq.us [(64, .int .i64 x14), (65, .slice p0 n0 c0)] ?_
   refine Seq.z 66 (.call { callee := .builtin .len, args := #[(.tmp 65)], argTypes := #[22] }) 3 (.int .i64 (n0 : Int)) (Y.lenS underlying22 rfl rfl) ?_
   refine Seq.us [(67, .bool (decide ((x14 : Int) < (n0 : Int)))), (68, .bool (decide ((x14 : Int) < (n0 : Int))))] ?_
   cases hb : (decide ((x14 : Int) < (n0 : Int))) with
   | true =>
    replace h := h.1 (of_decide_eq_true hb)
    refine Seq.us [(69, .slice p0 n0 c0), (70, .int .i64 x14)] ?_
    obtain ⟨b71, o71, hq, h⟩ := h
    subst hq
    obtain ⟨hi, h⟩ := h
    refine Seq.zg 71 (.indexAddr 22 (.tmp 69) (.tmp 70)) 0 (4, true) (.pointer (some ⟨b71, (o71 + Int.toNat x14 * 1), none⟩)) (Y.idx underlying22 sizeOf23 rfl rfl hi rfl) ?_
    obtain ⟨p72, n72, c72, hl, h⟩ := h
    refine Seq.zg 72 (.load 23 (.tmp 71)) 23 (4, true) (.slice p72 n72 c72) (Y.ld isAgg23 rfl hl) ?_
    refine Seq.zg 73 (.call { callee := .builtin .len, args := #[(.tmp 72)], argTypes := #[23] }) 3 (4, true) (.int .i64 (n72 : Int)) (Y.lenS underlying23 rfl rfl) ?_
    refine Seq.us [(74, .bool (decide ((500 : Int) < (n72 : Int)))), (75, .bool (decide ((500 : Int) < (n72 : Int))))] ?_
    cases hb : (decide ((500 : Int) < (n72 : Int))) with
    | true =>
     replace h := h.1 (of_decide_eq_true hb)
     refine Seq.n 76 ?_
     refine Seq.n 77 ?_
     refine Seq.n 78 ?_
     refine Seq.n 79 ?_
     refine Seq.n 80 ?_
     refine Seq.n 81 ?_
     refine Seq.n 82 ?_
     refine Seq.n 83 ?_
     refine Seq.us [(84, .bool true), (85, .bool true), (86, .bool true)] ?_
     refine Seq.n 87 ?_
     refine Seq.n 88 ?_
     refine Seq.n 89 ?_
     refine Seq.n 90 ?_
     refine Seq.n 91 ?_
     refine Seq.n 92 ?_
     refine Seq.n 93 ?_
     refine Seq.n 94 ?_
     refine Seq.n 95 ?_
     refine Seq.n 96 ?_
     refine Seq.n 97 ?_
     refine Seq.n 98 ?_
     refine Seq.n 99 ?_
     refine Seq.n 100 ?_
     refine Seq.n 101 ?_
     refine Seq.n 102 ?_
     refine Seq.n 103 ?_
     refine Seq.n 104 ?_
     refine Seq.n 105 ?_
     refine Seq.n 106 ?_
     refine Seq.n 107 ?_
     refine Seq.n 108 ?_
     refine Seq.u 109 (.bool true) ?_
     refine Seq.done ?_
     refine At.L [(0, (.slice (some ⟨b71, o71, none⟩) n0 c0)), (1, (.slice p1 n1 c1)), (2, (.string s2)), (7, (.pointer q7)), (8, (.pointer q8)), (11, (.pointer q11)), (14, (.int .i64 x14)), (109, (.bool true))] fun J => ?_
     refine At.cT 109 K32 K35 ?_
     refine At.s K33 K34 ?_
     refine At.rg 10 [0, 1] ?_
     refine Seq.o ?_
     refine OpTo.cl (some 110) call15 (h.cont fun v σ1 h2 => ?_); replace h := h2; clear h2
     obtain ⟨t110, rfl, h⟩ := h
     refine Seq.u 6 (.bool t110) ?_
     refine Seq.done ?_
     exact At.rt [.tmp 6] [(.bool t110)] func4 ⟨_, rfl, rfl⟩ h
    | false =>
     replace h := h.2 (of_decide_eq_false hb)
     refine Seq.us [(76, .pointer q8), (77, .slice (some ⟨b71, o71, none⟩) n0 c0), (78, .int .i64 x14)] ?_
     obtain ⟨hi, h⟩ := h
     refine Seq.zg 79 (.indexAddr 22 (.tmp 77) (.tmp 78)) 0 (11, false) (.pointer (some ⟨b71, (o71 + Int.toNat x14 * 1), none⟩)) (Y.idx underlying22 sizeOf23 rfl rfl hi rfl) ?_
     obtain ⟨p80, n80, c80, hl, h⟩ := h
     refine Seq.zg 80 (.load 23 (.tmp 79)) 23 (11, false) (.slice p80 n80 c80) (Y.ld isAgg23 rfl hl) ?_
     refine Seq.o ?_
     refine OpTo.cl (some 81) call14 (h.cont fun v σ1 h2 => ?_); replace h := h2; clear h2
     obtain ⟨p81, n81, c81, rfl, h⟩ := h
     refine Seq.o ?_
     refine OpTo.cl (some 82) call13 (h.cont fun v_2 σ1_2 h2 => ?_); replace h := h2; clear h2
     obtain ⟨x82, rfl, h⟩ := h
     refine Seq.us [(83, .bool (decide ((x82 : Int) ≠ 0))), (84, .bool (decide ((x82 : Int) ≠ 0))), (85, .bool (decide ((x82 : Int) ≠ 0))), (86, .bool (decide ((x82 : Int) ≠ 0)))] ?_
     cases hb : (decide ((x82 : Int) ≠ 0)) with
     | true =>
      replace h := h.1 (of_decide_eq_true hb)
      refine Seq.n 87 ?_
      refine Seq.n 88 ?_
      refine Seq.n 89 ?_
      refine Seq.n 90 ?_
      refine Seq.n 91 ?_
      refine Seq.n 92 ?_
      refine Seq.n 93 ?_
      refine Seq.n 94 ?_
      refine Seq.n 95 ?_
      refine Seq.n 96 ?_
      refine Seq.n 97 ?_
      refine Seq.n 98 ?_
      refine Seq.n 99 ?_
      refine Seq.n 100 ?_
      refine Seq.n 101 ?_
      refine Seq.n 102 ?_
      refine Seq.n 103 ?_
      refine Seq.n 104 ?_
      refine Seq.n 105 ?_
      refine Seq.n 106 ?_
      refine Seq.n 107 ?_
      refine Seq.n 108 ?_
      refine Seq.u 109 (.bool true) ?_
      refine Seq.done ?_
      refine At.cT 109 K32 K35 ?_
      refine At.s K33 K34 ?_
      refine At.rg 10 [0, 1] ?_
      refine Seq.o ?_
      refine OpTo.cl (some 110) call15 (h.cont fun v_3 σ1_3 h2 => ?_); replace h := h2; clear h2
      obtain ⟨t110, rfl, h⟩ := h
      refine Seq.u 6 (.bool t110) ?_
      refine Seq.done ?_
      exact At.rt [.tmp 6] [(.bool t110)] func4 ⟨_, rfl, rfl⟩ h
     | false =>
      replace h := h.2 (of_decide_eq_false hb)
      refine Seq.us [(87, .int .i64 x14), (88, .slice p1 n1 c1)] ?_
      refine Seq.zg 89 (.call { callee := .builtin .len, args := #[(.tmp 88)], argTypes := #[22] }) 3 (22, false) (.int .i64 (n1 : Int)) (Y.lenS underlying22 rfl rfl) ?_
      refine Seq.us [(90, .bool (decide ((x14 : Int) < (n1 : Int)))), (91, .bool (decide ((x14 : Int) < (n1 : Int))))] ?_
      cases hb : (decide ((x14 : Int) < (n1 : Int))) with
      | true =>
       replace h := h.1 (of_decide_eq_true hb)
       refine Seq.us [(92, .slice p1 n1 c1), (93, .int .i64 x14)] ?_
       obtain ⟨b94, o94, hq, h⟩ := h
       subst hq
       obtain ⟨hi, h⟩ := h
       refine Seq.zg 94 (.indexAddr 22 (.tmp 92) (.tmp 93)) 0 (27, true) (.pointer (some ⟨b94, (o94 + Int.toNat x14 * 1), none⟩)) (Y.idx underlying22 sizeOf23 rfl rfl hi rfl) ?_
       obtain ⟨p95, n95, c95, hl, h⟩ := h
       refine Seq.zg 95 (.load 23 (.tmp 94)) 23 (27, true) (.slice p95 n95 c95) (Y.ld isAgg23 rfl hl) ?_
       refine Seq.zg 96 (.call { callee := .builtin .len, args := #[(.tmp 95)], argTypes := #[23] }) 3 (27, true) (.int .i64 (n95 : Int)) (Y.lenS underlying23 rfl rfl) ?_
       refine Seq.us [(97, .bool (decide ((500 : Int) < (n95 : Int)))), (98, .bool (decide ((500 : Int) < (n95 : Int))))] ?_
       cases hb : (decide ((500 : Int) < (n95 : Int))) with
       | true =>
        replace h := h.1 (of_decide_eq_true hb)
        refine Seq.n 99 ?_
        refine Seq.n 100 ?_
        refine Seq.n 101 ?_
        refine Seq.n 102 ?_
        refine Seq.n 103 ?_
        refine Seq.n 104 ?_
        refine Seq.n 105 ?_
        refine Seq.n 106 ?_
        refine Seq.us [(107, .bool true), (108, .bool true), (109, .bool true)] ?_
        refine Seq.done ?_
        refine At.L [(0, (.slice (some ⟨b71, o71, none⟩) n0 c0)), (1, (.slice (some ⟨b94, o94, none⟩) n1 c1)), (2, (.string s2)), (7, (.pointer q7)), (8, (.pointer q8)), (11, (.pointer q11)), (14, (.int .i64 x14)), (109, (.bool true))] fun J => ?_
        refine At.cT 109 K32 K35 ?_
        refine At.s K33 K34 ?_
        refine At.rg 10 [0, 1] ?_
        refine Seq.o ?_
        refine OpTo.cl (some 110) call15 (h.cont fun v_3 σ1_3 h2 => ?_); replace h := h2; clear h2
        obtain ⟨t110, rfl, h⟩ := h
        refine Seq.u 6 (.bool t110) ?_
        refine Seq.done ?_
        exact At.rt [.tmp 6] [(.bool t110)] func4 ⟨_, rfl, rfl⟩ h
       | false =>
        replace h := h.2 (of_decide_eq_false hb)
        refine Seq.us [(99, .pointer q11), (100, .slice (some ⟨b94, o94, none⟩) n1 c1), (101, .int .i64 x14)] ?_
        obtain ⟨hi, h⟩ := h
        refine Seq.zg 102 (.indexAddr 22 (.tmp 100) (.tmp 101)) 0 (34, false) (.pointer (some ⟨b94, (o94 + Int.toNat x14 * 1), none⟩)) (Y.idx underlying22 sizeOf23 rfl rfl hi rfl) ?_
        obtain ⟨p103, n103, c103, hl, h⟩ := h
        refine Seq.zg 103 (.load 23 (.tmp 102)) 23 (34, false) (.slice p103 n103 c103) (Y.ld isAgg23 rfl hl) ?_
        refine Seq.o ?_
        refine OpTo.cl (some 104) call14 (h.cont fun v_3 σ1_3 h2 => ?_); replace h := h2; clear h2
        obtain ⟨p104, n104, c104, rfl, h⟩ := h
        refine Seq.o ?_
        refine OpTo.cl (some 105) call13 (h.cont fun v_4 σ1_4 h2 => ?_); replace h := h2; clear h2
        obtain ⟨x105, rfl, h⟩ := h
        refine Seq.us [(106, .bool (decide ((x105 : Int) ≠ 0))), (107, .bool (decide ((x105 : Int) ≠ 0))), (108, .bool (decide ((x105 : Int) ≠ 0))), (109, .bool (decide ((x105 : Int) ≠ 0)))] ?_
        refine Seq.done ?_
        cases hb : (decide ((x105 : Int) ≠ 0)) with
        | true =>
         replace h := h.1 (of_decide_eq_true hb)
         refine At.cT 109 K32 K35 ?_
         refine At.s K33 K34 ?_
         refine At.rg 10 [0, 1] ?_
         refine Seq.o ?_
         refine OpTo.cl (some 110) call15 (h.cont fun v_5 σ1_5 h2 => ?_); replace h := h2; clear h2
         obtain ⟨t110, rfl, h⟩ := h
         refine Seq.u 6 (.bool t110) ?_
         refine Seq.done ?_
         exact At.rt [.tmp 6] [(.bool t110)] func4 ⟨_, rfl, rfl⟩ h
        | false =>
         replace h := h.2 (of_decide_eq_false hb)
         refine At.cF 109 K32 K35 ?_
         refine At.skip ?_
         refine At.inBlock ?_
         refine At.rg 8 [0, 1, 2] ?_
         refine Seq.u 62 (.int .i64 x14) ?_
         obtain ⟨hi, h⟩ := h
         refine Seq.z 63 (.binOp .add 3 (.tmp 62) (.const (.int .i64 1)) 3) 3 (.int .i64 (x14 + 1)) (Y.addI hi rfl rfl) ?_
         refine Seq.u 14 (.int .i64 (x14 + 1)) ?_
         refine Seq.done ?_
         refine At.inLoop ?_
         refine At.s K22 K27 ?_
         refine At.s K23 K24 ?_
         exact At.v [(0, (.slice (some ⟨b71, o71, none⟩) n0 c0)), (1, (.slice (some ⟨b94, o94, none⟩) n1 c1)), (2, (.string s2)), (7, (.pointer q7)), (8, (.pointer q8)), (11, (.pointer q11)), (14, (.int .i64 (x14 + 1)))] (h _)
      | false =>
       replace h := h.2 (of_decide_eq_false hb)
       refine Seq.n 92 ?_
       refine Seq.n 93 ?_
       refine Seq.n 94 ?_
       refine Seq.n 95 ?_
       refine Seq.n 96 ?_
       refine Seq.n 97 ?_
       refine Seq.n 98 ?_
       refine Seq.n 99 ?_
       refine Seq.n 100 ?_
       refine Seq.n 101 ?_
       refine Seq.n 102 ?_
       refine Seq.n 103 ?_
       refine Seq.n 104 ?_
       refine Seq.n 105 ?_
       refine Seq.n 106 ?_
       refine Seq.n 107 ?_
       refine Seq.us [(108, .bool false), (109, .bool false)] ?_
       refine Seq.done ?_
       refine At.cF 109 K32 K35 ?_
       refine At.skip ?_
       refine At.inBlock ?_
       refine At.rg 8 [0, 1, 2] ?_
       refine Seq.u 62 (.int .i64 x14) ?_
       obtain ⟨hi, h⟩ := h
       refine Seq.z 63 (.binOp .add 3 (.tmp 62) (.const (.int .i64 1)) 3) 3 (.int .i64 (x14 + 1)) (Y.addI hi rfl rfl) ?_
       refine Seq.u 14 (.int .i64 (x14 + 1)) ?_
       refine Seq.done ?_
       refine At.L [(0, (.slice (some ⟨b71, o71, none⟩) n0 c0)), (1, (.slice p1 n1 c1)), (2, (.string s2)), (7, (.pointer q7)), (8, (.pointer q8)), (11, (.pointer q11)), (14, (.int .i64 (x14 + 1)))] fun J => ?_
       refine At.inLoop ?_
       refine At.s K22 K27 ?_
       refine At.s K23 K24 ?_
       exact At.v [(0, (.slice (some ⟨b71, o71, none⟩) n0 c0)), (1, (.slice p1 n1 c1)), (2, (.string s2)), (7, (.pointer q7)), (8, (.pointer q8)), (11, (.pointer q11)), (14, (.int .i64 (x14 + 1)))] (h _)
   | false =>
    replace h := h.2 (of_decide_eq_false hb)
    refine Seq.n 69 ?_
    refine Seq.n 70 ?_
    refine Seq.n 71 ?_
    refine Seq.n 72 ?_
    refine Seq.n 73 ?_
    refine Seq.n 74 ?_
    refine Seq.n 75 ?_
    refine Seq.n 76 ?_
    refine Seq.n 77 ?_
    refine Seq.n 78 ?_
    refine Seq.n 79 ?_
    refine Seq.n 80 ?_
    refine Seq.n 81 ?_
    refine Seq.n 82 ?_
    refine Seq.n 83 ?_
    refine Seq.n 84 ?_
    refine Seq.us [(85, .bool false), (86, .bool false), (87, .int .i64 x14), (88, .slice p1 n1 c1)] ?_
    refine Seq.zg 89 (.call { callee := .builtin .len, args := #[(.tmp 88)], argTypes := #[22] }) 3 (22, false) (.int .i64 (n1 : Int)) (Y.lenS underlying22 rfl rfl) ?_
    refine Seq.us [(90, .bool (decide ((x14 : Int) < (n1 : Int)))), (91, .bool (decide ((x14 : Int) < (n1 : Int))))] ?_
    cases hb : (decide ((x14 : Int) < (n1 : Int))) with
    | true =>
     replace h := h.1 (of_decide_eq_true hb)
     refine Seq.us [(92, .slice p1 n1 c1), (93, .int .i64 x14)] ?_
     obtain ⟨b94, o94, hq, h⟩ := h
     subst hq
     obtain ⟨hi, h⟩ := h
     refine Seq.zg 94 (.indexAddr 22 (.tmp 92) (.tmp 93)) 0 (27, true) (.pointer (some ⟨b94, (o94 + Int.toNat x14 * 1), none⟩)) (Y.idx underlying22 sizeOf23 rfl rfl hi rfl) ?_
     obtain ⟨p95, n95, c95, hl, h⟩ := h
     refine Seq.zg 95 (.load 23 (.tmp 94)) 23 (27, true) (.slice p95 n95 c95) (Y.ld isAgg23 rfl hl) ?_
     refine Seq.zg 96 (.call { callee := .builtin .len, args := #[(.tmp 95)], argTypes := #[23] }) 3 (27, true) (.int .i64 (n95 : Int)) (Y.lenS underlying23 rfl rfl) ?_
     refine Seq.us [(97, .bool (decide ((500 : Int) < (n95 : Int)))), (98, .bool (decide ((500 : Int) < (n95 : Int))))] ?_
     cases hb : (decide ((500 : Int) < (n95 : Int))) with
     | true =>
      replace h := h.1 (of_decide_eq_true hb)
      refine Seq.n 99 ?_
      refine Seq.n 100 ?_
      refine Seq.n 101 ?_
      refine Seq.n 102 ?_
      refine Seq.n 103 ?_
      refine Seq.n 104 ?_
      refine Seq.n 105 ?_
      refine Seq.n 106 ?_
      refine Seq.us [(107, .bool true), (108, .bool true), (109, .bool true)] ?_
      refine Seq.done ?_
      refine At.cT 109 K32 K35 ?_
      refine At.s K33 K34 ?_
      refine At.rg 10 [0, 1] ?_
      refine Seq.o ?_
      refine OpTo.cl (some 110) call15 (h.cont fun v σ1 h2 => ?_); replace h := h2; clear h2
      obtain ⟨t110, rfl, h⟩ := h
      refine Seq.u 6 (.bool t110) ?_
      refine Seq.done ?_
      refine At.L [(6, (.bool t110))] fun J => ?_
      exact At.rt [.tmp 6] [(.bool t110)] func4 ⟨_, rfl, rfl⟩ h
     | false =>
      replace h := h.2 (of_decide_eq_false hb)
      refine Seq.us [(99, .pointer q11), (100, .slice (some ⟨b94, o94, none⟩) n1 c1), (101, .int .i64 x14)] ?_
      obtain ⟨hi, h⟩ := h
      refine Seq.zg 102 (.indexAddr 22 (.tmp 100) (.tmp 101)) 0 (34, false) (.pointer (some ⟨b94, (o94 + Int.toNat x14 * 1), none⟩)) (Y.idx underlying22 sizeOf23 rfl rfl hi rfl) ?_
      obtain ⟨p103, n103, c103, hl, h⟩ := h
      refine Seq.zg 103 (.load 23 (.tmp 102)) 23 (34, false) (.slice p103 n103 c103) (Y.ld isAgg23 rfl hl) ?_
      refine Seq.o ?_
      refine OpTo.cl (some 104) call14 (h.cont fun v σ1 h2 => ?_); replace h := h2; clear h2
      obtain ⟨p104, n104, c104, rfl, h⟩ := h
      refine Seq.o ?_
      refine OpTo.cl (some 105) call13 (h.cont fun v_2 σ1_2 h2 => ?_); replace h := h2; clear h2
      obtain ⟨x105, rfl, h⟩ := h
      refine Seq.us [(106, .bool (decide ((x105 : Int) ≠ 0))), (107, .bool (decide ((x105 : Int) ≠ 0))), (108, .bool (decide ((x105 : Int) ≠ 0))), (109, .bool (decide ((x105 : Int) ≠ 0)))] ?_
      refine Seq.done ?_
      cases hb : (decide ((x105 : Int) ≠ 0)) with
      | true =>
       replace h := h.1 (of_decide_eq_true hb)
       refine At.cT 109 K32 K35 ?_
       refine At.s K33 K34 ?_
       refine At.rg 10 [0, 1] ?_
       refine Seq.o ?_
       refine OpTo.cl (some 110) call15 (h.cont fun v_3 σ1_3 h2 => ?_); replace h := h2; clear h2
       obtain ⟨t110, rfl, h⟩ := h
       refine Seq.u 6 (.bool t110) ?_
       refine Seq.done ?_
       exact At.rt [.tmp 6] [(.bool t110)] func4 ⟨_, rfl, rfl⟩ h
      | false =>
       replace h := h.2 (of_decide_eq_false hb)
       refine At.cF 109 K32 K35 ?_
       refine At.skip ?_
       refine At.inBlock ?_
       refine At.rg 8 [0, 1, 2] ?_
       refine Seq.u 62 (.int .i64 x14) ?_
       obtain ⟨hi, h⟩ := h
       refine Seq.z 63 (.binOp .add 3 (.tmp 62) (.const (.int .i64 1)) 3) 3 (.int .i64 (x14 + 1)) (Y.addI hi rfl rfl) ?_
       refine Seq.u 14 (.int .i64 (x14 + 1)) ?_
       refine Seq.done ?_
       refine At.inLoop ?_
       refine At.s K22 K27 ?_
       refine At.s K23 K24 ?_
       exact At.v [(0, (.slice p0 n0 c0)), (1, (.slice (some ⟨b94, o94, none⟩) n1 c1)), (2, (.string s2)), (7, (.pointer q7)), (8, (.pointer q8)), (11, (.pointer q11)), (14, (.int .i64 (x14 + 1)))] (h _)
    | false =>
     replace h := h.2 (of_decide_eq_false hb)
     refine Seq.n 92 ?_
     refine Seq.n 93 ?_
     refine Seq.n 94 ?_
     refine Seq.n 95 ?_
     refine Seq.n 96 ?_
     refine Seq.n 97 ?_
     refine Seq.n 98 ?_
     refine Seq.n 99 ?_
     refine Seq.n 100 ?_
     refine Seq.n 101 ?_
     refine Seq.n 102 ?_
     refine Seq.n 103 ?_
     refine Seq.n 104 ?_
     refine Seq.n 105 ?_
     refine Seq.n 106 ?_
     refine Seq.n 107 ?_
     refine Seq.us [(108, .bool false), (109, .bool false)] ?_
     refine Seq.done ?_
     refine At.cF 109 K32 K35 ?_
     refine At.skip ?_
     refine At.inBlock ?_
     refine At.rg 8 [0, 1, 2] ?_
     refine Seq.u 62 (.int .i64 x14) ?_
     obtain ⟨hi, h⟩ := h
     refine Seq.z 63 (.binOp .add 3 (.tmp 62) (.const (.int .i64 1)) 3) 3 (.int .i64 (x14 + 1)) (Y.addI hi rfl rfl) ?_
     refine Seq.u 14 (.int .i64 (x14 + 1)) ?_
     refine Seq.done ?_
     refine At.inLoop ?_
     refine At.s K22 K27 ?_
     refine At.s K23 K24 ?_
     exact At.v [(0, (.slice p0 n0 c0)), (1, (.slice p1 n1 c1)), (2, (.string s2)), (7, (.pointer q7)), (8, (.pointer q8)), (11, (.pointer q11)), (14, (.int .i64 (x14 + 1)))] (h _)
  | false =>
   replace h := h.2 (of_decide_eq_false hb)
   refine At.cF 61 K25 K26 ?_
   refine At.x 0 [.code K37] ?_
   refine At.s K38 K39 ?_
   refine At.rg 11 [0, 1, 2, 3] ?_
   refine Seq.us [(111, .pointer q8), (112, .slice p0 n0 c0)] ?_
   refine Seq.o ?_
   refine OpTo.cl (some 113) call23 (h.cont fun v σ1 h2 => ?_); replace h := h2; clear h2
   obtain ⟨p113, n113, c113, rfl, h⟩ := h
   refine Seq.o ?_
   refine OpTo.cl (some 114) call22 (h.cont fun v_2 σ1_2 h2 => ?_); replace h := h2; clear h2
   obtain ⟨x114, rfl, h⟩ := h
   refine Seq.done ?_
   refine At.L [(0, (.slice p0 n0 c0)), (1, (.slice p1 n1 c1)), (2, (.string s2)), (7, (.pointer q7))] fun J => ?_
   refine At.s K40 K41 ?_
   refine At.rg 12 [0, 1, 2, 3, 4, 5, 6, 7, 8] ?_
   refine Seq.u 116 (.pointer q7) ?_
   refine Seq.o ?_
   refine OpTo.cl (some 117) call12 (h.cont fun v_3 σ1_3 h2 => ?_); replace h := h2; clear h2
   obtain ⟨q117a, p117b, n117b, c117b, x117c, rfl, h⟩ := h
   refine Seq.us [(115, .tuple #[(.pointer q117a), (.slice p117b n117b c117b), (.int .i64 x117c)]), (118, .pointer q117a), (119, .slice p117b n117b c117b), (120, .int .i64 x117c), (15, .pointer q117a), (16, .slice p117b n117b c117b), (17, .int .i64 x117c)] ?_
   refine Seq.done ?_
   refine At.s K42 K43 ?_
   refine At.rg 13 [0, 1, 2, 3, 4, 5, 6, 7, 8] ?_
   refine Seq.u 122 (.pointer q7) ?_
   refine Seq.o ?_
   refine OpTo.cl (some 123) call12 (h.cont fun v_4 σ1_4 h2 => ?_); replace h := h2; clear h2
   obtain ⟨q123a, p123b, n123b, c123b, x123c, rfl, h⟩ := h
   refine Seq.us [(121, .tuple #[(.pointer q123a), (.slice p123b n123b c123b), (.int .i64 x123c)]), (124, .pointer q123a), (125, .slice p123b n123b c123b), (126, .int .i64 x123c), (18, .pointer q123a), (19, .slice p123b n123b c123b), (20, .int .i64 x123c)] ?_
   refine Seq.done ?_
   refine At.s K44 K45 ?_
   refine At.rg 14 [0, 1, 2, 3, 4, 5, 6, 7, 8, 9] ?_
   refine Seq.o ?_
   refine OpTo.cl (some 128) call11 (h.cont fun v_5 σ1_5 h2 => ?_); replace h := h2; clear h2
   obtain ⟨q128, rfl, h⟩ := h
   refine Seq.u 129 (.string s2) ?_
   refine Seq.o ?_
   refine OpTo.cl (some 130) call12 (h.cont fun v_6 σ1_6 h2 => ?_); replace h := h2; clear h2
   obtain ⟨q130a, p130b, n130b, c130b, x130c, rfl, h⟩ := h
   refine Seq.us [(127, .tuple #[(.pointer q130a), (.slice p130b n130b c130b), (.int .i64 x130c)]), (131, .pointer q130a), (132, .slice p130b n130b c130b), (133, .int .i64 x130c), (21, .pointer q130a), (22, .slice p130b n130b c130b), (23, .int .i64 x130c)] ?_
   refine Seq.done ?_
   refine At.s K46 K47 ?_
   refine At.rg 15 [0, 1, 2, 3, 4, 5, 6, 7, 8] ?_
   refine Seq.u 134 (.string s2) ?_
   refine Seq.z 135 (.call { callee := .builtin .len, args := #[(.tmp 134)], argTypes := #[9] }) 3 (.int .i64 ((ByteArray.size s2 : Nat) : Int)) (Y.lenStr underlying9 rfl rfl) ?_
   refine Seq.us [(136, .bool (decide ((32 : Int) < ((ByteArray.size s2 : Nat) : Int)))), (137, .bool (decide ((32 : Int) < ((ByteArray.size s2 : Nat) : Int))))] ?_
   cases hb : (decide ((32 : Int) < ((ByteArray.size s2 : Nat) : Int))) with
   | true =>
    replace h := h.1 (of_decide_eq_true hb)
    refine Seq.n 138 ?_
    refine Seq.n 139 ?_
    refine Seq.n 140 ?_
    refine Seq.us [(141, .bool true), (24, .bool true)] ?_
    refine Seq.done ?_
    refine At.s K48 K49 ?_
    refine At.rg 16 [0, 1, 2, 3, 4, 5, 6, 7, 8, 9, 10, 11, 12, 13, 14, 15, 16, 17, 18, 19, 20, 21, 22, 23, 24, 25] ?_
    refine Seq.us [(142, .int .i64 x117c), (143, .bool (decide ((x117c : Int) = 0))), (144, .bool (decide ((x117c : Int) = 0)))] ?_
    cases hb : (decide ((x117c : Int) = 0)) with
    | true =>
     replace h := h.1 (of_decide_eq_true hb)
     refine Seq.us [(145, .int .i64 x123c), (146, .bool (decide ((x123c : Int) = 0))), (147, .bool (decide ((x123c : Int) = 0))), (148, .bool (decide ((x123c : Int) = 0)))] ?_
     cases hb : (decide ((x123c : Int) = 0)) with
     | true =>
      replace h := h.1 (of_decide_eq_true hb)
      refine Seq.us [(149, .slice p117b n117b c117b), (150, .slice p0 n0 c0)] ?_
      refine Seq.o ?_
      refine OpTo.cl (some 151) call21 (h.cont fun v_7 σ1_7 h2 => ?_); replace h := h2; clear h2
      obtain ⟨t151, rfl, h⟩ := h
      refine Seq.us [(152, .bool t151), (153, .bool t151)] ?_
      cases hb : t151 with
      | true =>
       replace h := h.1 hb
       refine Seq.us [(154, .slice p123b n123b c123b), (155, .slice p1 n1 c1)] ?_
       refine Seq.o ?_
       refine OpTo.cl (some 156) call21 (h.cont fun v_8 σ1_8 h2 => ?_); replace h := h2; clear h2
       obtain ⟨t156, rfl, h⟩ := h
       refine Seq.us [(157, .bool t156), (158, .bool t156)] ?_
       cases hb : t156 with
       | true =>
        replace h := h.1 hb
        refine Seq.us [(159, .int .i64 x130c), (160, .bool (decide ((x130c : Int) = 71))), (161, .bool true)] ?_
        cases hb : (decide ((x130c : Int) = 71)) with
        | true =>
         replace h := h.1 (of_decide_eq_true hb)
         refine Seq.zg 162 (.binOp .eql 4 (.tmp 160) (.tmp 161) 4) 4 (16, true) (.bool true) (Y.eqlB (a := true) (b := true) underlying4 rfl rfl) ?_
         refine Seq.us [(163, .bool true), (164, .bool true)] ?_
         refine Seq.o ?_
         refine OpTo.cl (some 165) call15 (h.cont fun v_9 σ1_9 h2 => ?_); replace h := h2; clear h2
         obtain ⟨t165, rfl, h⟩ := h
         refine Seq.us [(166, .bool t165), (6, .bool t165)] ?_
         refine Seq.done ?_
         refine At.L [(6, (.bool t165))] fun J => ?_
         exact At.rt [.tmp 6] [(.bool t165)] func4 ⟨_, rfl, rfl⟩ h
        | false =>
         replace h := h.2 (of_decide_eq_false hb)
         refine Seq.zg 162 (.binOp .eql 4 (.tmp 160) (.tmp 161) 4) 4 (16, true) (.bool false) (Y.eqlB (a := false) (b := true) underlying4 rfl rfl) ?_
         refine Seq.us [(163, .bool false), (164, .bool false)] ?_
         refine Seq.n 165 ?_
         refine Seq.us [(166, .bool false), (6, .bool false)] ?_
         refine Seq.done ?_
         exact At.rt [.tmp 6] [(.bool false)] func4 ⟨_, rfl, rfl⟩ h
       | false =>
        replace h := h.2 hb
        refine Seq.n 159 ?_
        refine Seq.n 160 ?_
        refine Seq.n 161 ?_
        refine Seq.n 162 ?_
        refine Seq.us [(163, .bool false), (164, .bool false)] ?_
        refine Seq.n 165 ?_
        refine Seq.us [(166, .bool false), (6, .bool false)] ?_
        refine Seq.done ?_
        exact At.rt [.tmp 6] [(.bool false)] func4 ⟨_, rfl, rfl⟩ h
      | false =>
       replace h := h.2 hb
       refine Seq.n 154 ?_
       refine Seq.n 155 ?_
       refine Seq.n 156 ?_
       refine Seq.us [(157, .bool false), (158, .bool false)] ?_
       refine Seq.n 159 ?_
       refine Seq.n 160 ?_
       refine Seq.n 161 ?_
       refine Seq.n 162 ?_
       refine Seq.us [(163, .bool false), (164, .bool false)] ?_
       refine Seq.n 165 ?_
       refine Seq.us [(166, .bool false), (6, .bool false)] ?_
       refine Seq.done ?_
       exact At.rt [.tmp 6] [(.bool false)] func4 ⟨_, rfl, rfl⟩ h
     | false =>
      replace h := h.2 (of_decide_eq_false hb)
      refine Seq.n 149 ?_
      refine Seq.n 150 ?_
      refine Seq.n 151 ?_
      refine Seq.us [(152, .bool false), (153, .bool false)] ?_
      refine Seq.n 154 ?_
      refine Seq.n 155 ?_
      refine Seq.n 156 ?_
      refine Seq.us [(157, .bool false), (158, .bool false)] ?_
      refine Seq.n 159 ?_
      refine Seq.n 160 ?_
      refine Seq.n 161 ?_
      refine Seq.n 162 ?_
      refine Seq.us [(163, .bool false), (164, .bool false)] ?_
      refine Seq.n 165 ?_
      refine Seq.us [(166, .bool false), (6, .bool false)] ?_
      refine Seq.done ?_
      refine At.L [(6, (.bool false))] fun J => ?_
      exact At.rt [.tmp 6] [(.bool false)] func4 ⟨_, rfl, rfl⟩ h
    | false =>
     replace h := h.2 (of_decide_eq_false hb)
     refine Seq.n 145 ?_
     refine Seq.n 146 ?_
     refine Seq.us [(147, .bool false), (148, .bool false)] ?_
     refine Seq.n 149 ?_
     refine Seq.n 150 ?_
     refine Seq.n 151 ?_
     refine Seq.us [(152, .bool false), (153, .bool false)] ?_
     refine Seq.n 154 ?_
     refine Seq.n 155 ?_
     refine Seq.n 156 ?_
     refine Seq.us [(157, .bool false), (158, .bool false)] ?_
     refine Seq.n 159 ?_
     refine Seq.n 160 ?_
     refine Seq.n 161 ?_
     refine Seq.n 162 ?_
     refine Seq.us [(163, .bool false), (164, .bool false)] ?_
     refine Seq.n 165 ?_
     refine Seq.us [(166, .bool false), (6, .bool false)] ?_
     refine Seq.done ?_
     exact At.rt [.tmp 6] [(.bool false)] func4 ⟨_, rfl, rfl⟩ h
   | false =>
    replace h := h.2 (of_decide_eq_false hb)
    refine Seq.u 138 (.string s2) ?_
    refine Seq.o ?_
    refine OpTo.cl (some 139) call24 (h.cont fun v_7 σ1_7 h2 => ?_); replace h := h2; clear h2
    obtain ⟨t139, rfl, h⟩ := h
    refine Seq.us [(140, .bool (!t139)), (141, .bool (!t139)), (24, .bool (!t139))] ?_
    refine Seq.done ?_
    refine At.s K48 K49 ?_
    refine At.rg 16 [0, 1, 2, 3, 4, 5, 6, 7, 8, 9, 10, 11, 12, 13, 14, 15, 16, 17, 18, 19, 20, 21, 22, 23, 24, 25] ?_
    refine Seq.us [(142, .int .i64 x117c), (143, .bool (decide ((x117c : Int) = 0))), (144, .bool (decide ((x117c : Int) = 0)))] ?_
    cases hb : (decide ((x117c : Int) = 0)) with
    | true =>
     replace h := h.1 (of_decide_eq_true hb)
     refine Seq.us [(145, .int .i64 x123c), (146, .bool (decide ((x123c : Int) = 0))), (147, .bool (decide ((x123c : Int) = 0))), (148, .bool (decide ((x123c : Int) = 0)))] ?_
     cases hb : (decide ((x123c : Int) = 0)) with
     | true =>
      replace h := h.1 (of_decide_eq_true hb)
      refine Seq.us [(149, .slice p117b n117b c117b), (150, .slice p0 n0 c0)] ?_
      refine Seq.o ?_
      refine OpTo.cl (some 151) call21 (h.cont fun v_8 σ1_8 h2 => ?_); replace h := h2; clear h2
      obtain ⟨t151, rfl, h⟩ := h
      refine Seq.us [(152, .bool t151), (153, .bool t151)] ?_
      cases hb : t151 with
      | true =>
       replace h := h.1 hb
       refine Seq.us [(154, .slice p123b n123b c123b), (155, .slice p1 n1 c1)] ?_
       refine Seq.o ?_
       refine OpTo.cl (some 156) call21 (h.cont fun v_9 σ1_9 h2 => ?_); replace h := h2; clear h2
       obtain ⟨t156, rfl, h⟩ := h
       refine Seq.us [(157, .bool t156), (158, .bool t156)] ?_
       cases hb : t156 with
       | true =>
        replace h := h.1 hb
        refine Seq.us [(159, .int .i64 x130c), (160, .bool (decide ((x130c : Int) = 71))), (161, .bool (!t139))] ?_
        cases hb : (decide ((x130c : Int) = 71)) with
        | true =>
         replace h := h.1 (of_decide_eq_true hb)
         cases hb : (!t139) with
         | true =>
          replace h := h.1 (Tw.nt hb)
          refine Seq.zg 162 (.binOp .eql 4 (.tmp 160) (.tmp 161) 4) 4 (16, true) (.bool true) (Y.eqlB (a := true) (b := true) underlying4 rfl rfl) ?_
          refine Seq.us [(163, .bool true), (164, .bool true)] ?_
          refine Seq.o ?_
          refine OpTo.cl (some 165) call15 (h.cont fun v_10 σ1_10 h2 => ?_); replace h := h2; clear h2
          obtain ⟨t165, rfl, h⟩ := h
          refine Seq.us [(166, .bool t165), (6, .bool t165)] ?_
          refine Seq.done ?_
          refine At.L [(6, (.bool t165))] fun J => ?_
          exact At.rt [.tmp 6] [(.bool t165)] func4 ⟨_, rfl, rfl⟩ h
         | false =>
          replace h := h.2 (Tw.nf hb)
          refine Seq.zg 162 (.binOp .eql 4 (.tmp 160) (.tmp 161) 4) 4 (16, true) (.bool false) (Y.eqlB (a := true) (b := false) underlying4 rfl rfl) ?_
          refine Seq.us [(163, .bool false), (164, .bool false)] ?_
          refine Seq.n 165 ?_
          refine Seq.us [(166, .bool false), (6, .bool false)] ?_
          refine Seq.done ?_
          exact At.rt [.tmp 6] [(.bool false)] func4 ⟨_, rfl, rfl⟩ h
        | false =>
         replace h := h.2 (of_decide_eq_false hb)
         cases hb : (!t139) with
         | true =>
          replace h := h.1 (Tw.nt hb)
          refine Seq.zg 162 (.binOp .eql 4 (.tmp 160) (.tmp 161) 4) 4 (16, true) (.bool false) (Y.eqlB (a := false) (b := true) underlying4 rfl rfl) ?_
          refine Seq.us [(163, .bool false), (164, .bool false)] ?_
          refine Seq.n 165 ?_
          refine Seq.us [(166, .bool false), (6, .bool false)] ?_
          refine Seq.done ?_
          exact At.rt [.tmp 6] [(.bool false)] func4 ⟨_, rfl, rfl⟩ h
         | false =>
          replace h := h.2 (Tw.nf hb)
          refine Seq.zg 162 (.binOp .eql 4 (.tmp 160) (.tmp 161) 4) 4 (16, true) (.bool true) (Y.eqlB (a := false) (b := false) underlying4 rfl rfl) ?_
          refine Seq.us [(163, .bool true), (164, .bool true)] ?_
          refine Seq.o ?_
          refine OpTo.cl (some 165) call15 (h.cont fun v_10 σ1_10 h2 => ?_); replace h := h2; clear h2
          obtain ⟨t165, rfl, h⟩ := h
          refine Seq.us [(166, .bool t165), (6, .bool t165)] ?_
          refine Seq.done ?_
          exact At.rt [.tmp 6] [(.bool t165)] func4 ⟨_, rfl, rfl⟩ h
       | false =>
        replace h := h.2 hb
        refine Seq.n 159 ?_
        refine Seq.n 160 ?_
        refine Seq.n 161 ?_
        refine Seq.n 162 ?_
        refine Seq.us [(163, .bool false), (164, .bool false)] ?_
        refine Seq.n 165 ?_
        refine Seq.us [(166, .bool false), (6, .bool false)] ?_
        refine Seq.done ?_
        exact At.rt [.tmp 6] [(.bool false)] func4 ⟨_, rfl, rfl⟩ h
      | false =>
       replace h := h.2 hb
       refine Seq.n 154 ?_
       refine Seq.n 155 ?_
       refine Seq.n 156 ?_
       refine Seq.us [(157, .bool false), (158, .bool false)] ?_
       refine Seq.n 159 ?_
       refine Seq.n 160 ?_
       refine Seq.n 161 ?_
       refine Seq.n 162 ?_
       refine Seq.us [(163, .bool false), (164, .bool false)] ?_
       refine Seq.n 165 ?_
       refine Seq.us [(166, .bool false), (6, .bool false)] ?_
       refine Seq.done ?_
       refine At.L [(6, (.bool false))] fun J => ?_
       exact At.rt [.tmp 6] [(.bool false)] func4 ⟨_, rfl, rfl⟩ h
     | false =>
      replace h := h.2 (of_decide_eq_false hb)
      refine Seq.n 149 ?_
      refine Seq.n 150 ?_
      refine Seq.n 151 ?_
      refine Seq.us [(152, .bool false), (153, .bool false)] ?_
      refine Seq.n 154 ?_
      refine Seq.n 155 ?_
      refine Seq.n 156 ?_
      refine Seq.us [(157, .bool false), (158, .bool false)] ?_
      refine Seq.n 159 ?_
      refine Seq.n 160 ?_
      refine Seq.n 161 ?_
      refine Seq.n 162 ?_
      refine Seq.us [(163, .bool false), (164, .bool false)] ?_
      refine Seq.n 165 ?_
      refine Seq.us [(166, .bool false), (6, .bool false)] ?_
      refine Seq.done ?_
      exact At.rt [.tmp 6] [(.bool false)] func4 ⟨_, rfl, rfl⟩ h
    | false =>
     replace h := h.2 (of_decide_eq_false hb)
     refine Seq.n 145 ?_
     refine Seq.n 146 ?_
     refine Seq.us [(147, .bool false), (148, .bool false)] ?_
     refine Seq.n 149 ?_
     refine Seq.n 150 ?_
     refine Seq.n 151 ?_
     refine Seq.us [(152, .bool false), (153, .bool false)] ?_
     refine Seq.n 154 ?_
     refine Seq.n 155 ?_
     refine Seq.n 156 ?_
     refine Seq.us [(157, .bool false), (158, .bool false)] ?_
     refine Seq.n 159 ?_
     refine Seq.n 160 ?_
     refine Seq.n 161 ?_
     refine Seq.n 162 ?_
     refine Seq.us [(163, .bool false), (164, .bool false)] ?_
     refine Seq.n 165 ?_
     refine Seq.us [(166, .bool false), (6, .bool false)] ?_
     refine Seq.done ?_
     exact At.rt [.tmp 6] [(.bool false)] func4 ⟨_, rfl, rfl⟩ h
end law7_WalFolders

end
end TwW
end
section
/- written by gen.py: program points and what leads to them -/
set_option linter.unusedVariables false
set_option maxRecDepth 100000
namespace TwW
open Go Tw Go.Proofs.Tryz
noncomputable section
namespace law7_awake
abbrev fid : Nat := 15
noncomputable def K0 := f15.body.getD .skip
def K1 := cl K0
def K2 := cr K0
def K3 := cl K2
def K4 := cr K2
def K5 := cl K4
def K6 := cr K4
def K7 := cl K6
def K8 := cl K7
def K9 := cr K7
def K10 := cl K9
def K11 := cl K10
def K12 := cr K10
def K13 := cr K9
def K14 := cr K6
def K15 := cl K14
def K16 := cr K14
def K17 := cl K16
def K18 := cr K16
def K19 := cl K18
def K20 := cr K18
def K21 := cl K20
def K22 := cr K20
def K23 := cl K22
def K24 := cr K22
def K25 := cl K24
def K26 := cl K25
def K27 := cr K25
def K28 := cl K27
def K29 := cl K28
def K30 := cr K28
def K31 := cr K27
def K32 := cr K24
def K33 := cl K32
def K34 := cr K32
def K35 := cl K34
def K36 := cr K34
def K37 := cl K36
def K38 := cr K36
abbrev gl (R : Ending → Hp → Prop) : Gl := Gl.fn prog 15 104 R
theorem start {R : Ending → Hp → Prop} {σ : Hp} (h : Spec prog 11 #[] σ (Cont R (fun v σ1 => ∃ q16 : Option Addr, v = (.pointer q16) ∧ Spec prog 12 #[(.pointer q16), (.string (ByteArray.mk #[120]))] σ1 (Cont R (fun v_2 σ1_2 => ∃ q19a : Option Addr, ∃ p19b : Option Addr, ∃ n19b : Nat, ∃ c19b : Nat, ∃ x19c : Int, v_2 = (.tuple #[(.pointer q19a), (.slice p19b n19b c19b), (.int .i64 x19c)]) ∧ ((x19c : Int) ≠ 0 → R (.returned (.bool false)) σ1_2) ∧ (¬ ((x19c : Int) ≠ 0) → ((Option.isNone q19a) = true → R (.returned (.bool false)) σ1_2) ∧ ((Option.isNone q19a) = false → (((n19b : Int) : Int) ≠ 0 → R (.returned (.bool false)) σ1_2) ∧ (¬ (((n19b : Int) : Int) ≠ 0) → ∀ b35 : Nat, σ1_2 b35 = none → Spec prog 13 #[(.pointer q19a), (.slice (some ⟨b35, 0, none⟩) 1 1)] (Hp.set σ1_2 b35 (.cells #[(.int .u8 1)] 5 (0, 0))) (Cont R (fun v_3 σ1_3 => ∃ x36 : Int, v_3 = (.int .i64 x36) ∧ Spec prog 16 #[(.pointer q19a)] σ1_3 (Cont R (fun v_4 σ1_4 => ∃ x38 : Int, v_4 = (.int .i64 x38) ∧ ∀ b40 : Nat, σ1_4 b40 = none → Spec prog 13 #[(.pointer q19a), (.slice (some ⟨b40, 0, none⟩) 1 1)] (Hp.set σ1_4 b40 (.cells #[(.int .u8 2)] 5 (0, 0))) (Cont R (fun v_5 σ1_5 => ∃ x41 : Int, v_5 = (.int .i64 x41) ∧ Spec prog 25 #[(.pointer q19a)] σ1_5 (Cont R (fun v_6 σ1_6 => ∃ x43 : Int, v_6 = (.int .i64 x43) ∧ Spec prog 28 #[(.pointer q16), (.int .i64 0)] σ1_6 (Cont R (fun v_7 σ1_7 => v_7 = (.tuple #[]) ∧ Spec prog 29 #[(.pointer q16)] σ1_7 (Cont R (fun v_8 σ1_8 => v_8 = (.tuple #[]) ∧ Spec prog 12 #[(.pointer q16), (.string (ByteArray.mk #[120]))] σ1_8 (Cont R (fun v_9 σ1_9 => ∃ q50a : Option Addr, ∃ p50b : Option Addr, ∃ n50b : Nat, ∃ c50b : Nat, ∃ x50c : Int, v_9 = (.tuple #[(.pointer q50a), (.slice p50b n50b c50b), (.int .i64 x50c)]) ∧ ((x50c : Int) ≠ 0 → R (.returned (.bool false)) σ1_9) ∧ (¬ ((x50c : Int) ≠ 0) → ((Option.isNone q50a) = true → R (.returned (.bool false)) σ1_9) ∧ ((Option.isNone q50a) = false → ∀ b61 : Nat, σ1_9 b61 = none → ∀ b62 : Nat, (Hp.set σ1_9 b61 (.cells #[(.int .u8 3)] 5 (0, 0))) b62 = none → Spec prog 22 #[(.pointer q50a), (.slice (some ⟨b62, 0, none⟩) 1 1)] (Hp.set (Hp.set σ1_9 b61 (.cells #[(.int .u8 3)] 5 (0, 0))) b62 (.cells #[(.slice (some ⟨b61, 0, none⟩) 1 1)] 23 (0, 0))) (Cont R (fun v_10 σ1_10 => ∃ x63 : Int, v_10 = (.int .i64 x63) ∧ Spec prog 12 #[(.pointer q16), (.string (ByteArray.mk #[120]))] σ1_10 (Cont R (fun v_11 σ1_11 => ∃ q66a : Option Addr, ∃ p66b : Option Addr, ∃ n66b : Nat, ∃ c66b : Nat, ∃ x66c : Int, v_11 = (.tuple #[(.pointer q66a), (.slice p66b n66b c66b), (.int .i64 x66c)]) ∧ ((x36 : Int) = 0 → ((x38 : Int) = 0 → ((x41 : Int) = 0 → ((x43 : Int) = 1 → ∀ b86 : Nat, σ1_11 b86 = none → ∀ b87 : Nat, (Hp.set σ1_11 b86 (.cells #[(.int .u8 1)] 5 (0, 0))) b87 = none → Spec prog 21 #[(.slice p50b n50b c50b), (.slice (some ⟨b87, 0, none⟩) 1 1)] (Hp.set (Hp.set σ1_11 b86 (.cells #[(.int .u8 1)] 5 (0, 0))) b87 (.cells #[(.slice (some ⟨b86, 0, none⟩) 1 1)] 23 (0, 0))) (Cont R (fun v_12 σ1_12 => ∃ t88 : Bool, v_12 = (.bool t88) ∧ (t88 = true → ((x63 : Int) = 0 → ((x66c : Int) = 0 → ∀ b100 : Nat, σ1_12 b100 = none → ∀ b101 : Nat, (Hp.set σ1_12 b100 (.cells #[(.int .u8 3)] 5 (0, 0))) b101 = none → Spec prog 21 #[(.slice p66b n66b c66b), (.slice (some ⟨b101, 0, none⟩) 1 1)] (Hp.set (Hp.set σ1_12 b100 (.cells #[(.int .u8 3)] 5 (0, 0))) b101 (.cells #[(.slice (some ⟨b100, 0, none⟩) 1 1)] 23 (0, 0))) (Cont R (fun v_13 σ1_13 => ∃ t102 : Bool, v_13 = (.bool t102) ∧ R (.returned (.bool t102)) σ1_13))) ∧ (¬ ((x66c : Int) = 0) → R (.returned (.bool false)) σ1_12)) ∧ (¬ ((x63 : Int) = 0) → R (.returned (.bool false)) σ1_12)) ∧ (t88 = false → R (.returned (.bool false)) σ1_12)))) ∧ (¬ ((x43 : Int) = 1) → R (.returned (.bool false)) σ1_11)) ∧ (¬ ((x41 : Int) = 0) → R (.returned (.bool false)) σ1_11)) ∧ (¬ ((x38 : Int) = 0) → R (.returned (.bool false)) σ1_11)) ∧ (¬ ((x36 : Int) = 0) → R (.returned (.bool false)) σ1_11))))))))))))))))))))))))))))) : Spec prog 15 #[] σ R := by
 refine Spec.of_at (fn := f15) (c := K0) func15 (by kernel_rfl) (Nat.le_of_ble_eq_true (by kernel_rfl)) (fun e he => ?_)
 show At (gl R) _ _ _ _
 refine At.s K1 K2 ?_
 refine At.rg 0 [0] ?_
 refine Seq.u 0 (.bool false) ?_
 refine Seq.done ?_
 refine At.s K3 K4 ?_
 refine At.rg 1 [0, 1] ?_
 refine Seq.o ?_
 refine OpTo.cl (some 16) call11 (h.cont fun v σ1 h2 => ?_); replace h := h2; clear h2
 obtain ⟨q16, rfl, h⟩ := h
 refine Seq.u 1 (.pointer q16) ?_
 refine Seq.done ?_
 refine At.s K5 K6 ?_
 refine At.rg 2 [0, 1, 2, 3, 4, 5, 6, 7, 8] ?_
 refine Seq.u 18 (.pointer q16) ?_
 refine Seq.o ?_
 refine OpTo.cl (some 19) call12 (h.cont fun v_2 σ1_2 h2 => ?_); replace h := h2; clear h2
 obtain ⟨q19a, p19b, n19b, c19b, x19c, rfl, h⟩ := h
 refine Seq.us [(17, .tuple #[(.pointer q19a), (.slice p19b n19b c19b), (.int .i64 x19c)]), (20, .pointer q19a), (21, .slice p19b n19b c19b), (22, .int .i64 x19c), (2, .pointer q19a), (3, .slice p19b n19b c19b), (4, .int .i64 x19c)] ?_
 refine Seq.done ?_
 refine At.s K7 K14 ?_
 refine At.s K8 K9 ?_
 refine At.rg 3 [0, 1, 2, 3, 4, 5, 6, 7, 8, 9, 10] ?_
 refine Seq.us [(23, .int .i64 x19c), (24, .bool (decide ((x19c : Int) ≠ 0))), (25, .bool (decide ((x19c : Int) ≠ 0)))] ?_
 cases hb : (decide ((x19c : Int) ≠ 0)) with
 | true =>
  replace h := h.1 (of_decide_eq_true hb)
  refine Seq.n 26 ?_
  refine Seq.n 27 ?_
  refine Seq.us [(28, .bool true), (29, .bool true)] ?_
  refine Seq.n 30 ?_
  refine Seq.n 31 ?_
  refine Seq.n 32 ?_
  refine Seq.u 33 (.bool true) ?_
  refine Seq.done ?_
  refine At.cT 33 K10 K13 ?_
  refine At.s K11 K12 ?_
  refine At.rg 4 [0] ?_
  refine Seq.u 0 (.bool false) ?_
  refine Seq.done ?_
  exact At.rt [.tmp 0] [(.bool false)] func15 ⟨_, rfl, rfl⟩ h
 | false =>
  replace h := h.2 (of_decide_eq_false hb)
  refine Seq.u 26 (.pointer q19a) ?_
  refine Seq.zg 27 (.binOp .eql 26 (.tmp 26) (.const (.pointer none)) 26) 4 (2, false) (.bool (Option.isNone q19a)) (Y.eqlNil underlying26 rfl rfl) ?_
  refine Seq.us [(28, .bool (Option.isNone q19a)), (29, .bool (Option.isNone q19a))] ?_
  cases hb : (Option.isNone q19a) with
  | true =>
   replace h := h.1 hb
   refine Seq.n 30 ?_
   refine Seq.n 31 ?_
   refine Seq.n 32 ?_
   refine Seq.u 33 (.bool true) ?_
   refine Seq.done ?_
   refine At.cT 33 K10 K13 ?_
   refine At.s K11 K12 ?_
   refine At.rg 4 [0] ?_
   refine Seq.u 0 (.bool false) ?_
   refine Seq.done ?_
   exact At.rt [.tmp 0] [(.bool false)] func15 ⟨_, rfl, rfl⟩ h
  | false =>
   replace h := h.2 hb
   refine Seq.u 30 (.slice p19b n19b c19b) ?_
   refine Seq.zg 31 (.call { callee := .builtin .len, args := #[(.tmp 30)], argTypes := #[22] }) 3 (6, false) (.int .i64 (n19b : Int)) (Y.lenS underlying22 rfl rfl) ?_
   refine Seq.us [(32, .bool (decide (((n19b : Int) : Int) ≠ 0))), (33, .bool (decide (((n19b : Int) : Int) ≠ 0)))] ?_
   refine Seq.done ?_
   refine At.L [(1, (.pointer q16)), (2, (.pointer q19a)), (33, (.bool (decide (((n19b : Int) : Int) ≠ 0))))] fun J => ?_
   cases hb : (decide (((n19b : Int) : Int) ≠ 0)) with
   | true =>
    replace h := h.1 (of_decide_eq_true hb)
    refine At.cT 33 K10 K13 ?_
    refine At.s K11 K12 ?_
    refine At.rg 4 [0] ?_
    refine Seq.u 0 (.bool false) ?_
    refine Seq.done ?_
    exact At.rt [.tmp 0] [(.bool false)] func15 ⟨_, rfl, rfl⟩ h
   | false =>
    replace h := h.2 (of_decide_eq_false hb)
    refine At.cF 33 K10 K13 ?_
    refine At.skip ?_
    refine At.s K15 K16 ?_
    refine At.rg 5 [0, 1, 2, 3, 4, 5, 6, 7, 8, 9, 10] ?_
    refine Seq.u 34 (.pointer q19a) ?_
    refine Seq.o ?_
    refine OpTo.bslice (T := 23) (E := 5) (m := 1) (ps := #[(0, (.const (.int .u8 1)))]) (d := (some 35)) (ty := 23) (gd := none) (vs := [(0, (.int .u8 1))]) (cs := #[(.int .u8 1)]) underlying23 (by kernel_rfl) rfl rfl rfl (by kernel_rfl) (fun b35 hn => ?_)
    replace h := h b35 hn
    refine Seq.o ?_
    refine OpTo.cl (some 36) call13 (h.cont fun v_3 σ1_3 h2 => ?_); replace h := h2; clear h2
    obtain ⟨x36, rfl, h⟩ := h
    refine Seq.u 37 (.pointer q19a) ?_
    refine Seq.o ?_
    refine OpTo.cl (some 38) call16 (h.cont fun v_4 σ1_4 h2 => ?_); replace h := h2; clear h2
    obtain ⟨x38, rfl, h⟩ := h
    refine Seq.u 39 (.pointer q19a) ?_
    refine Seq.o ?_
    refine OpTo.bslice (T := 23) (E := 5) (m := 1) (ps := #[(0, (.const (.int .u8 2)))]) (d := (some 40)) (ty := 23) (gd := none) (vs := [(0, (.int .u8 2))]) (cs := #[(.int .u8 2)]) underlying23 (by kernel_rfl) rfl rfl rfl (by kernel_rfl) (fun b40 hn => ?_)
    replace h := h b40 hn
    refine Seq.o ?_
    refine OpTo.cl (some 41) call13 (h.cont fun v_5 σ1_5 h2 => ?_); replace h := h2; clear h2
    obtain ⟨x41, rfl, h⟩ := h
    refine Seq.us [(5, .int .i64 x36), (6, .int .i64 x38), (7, .int .i64 x41)] ?_
    refine Seq.done ?_
    refine At.s K17 K18 ?_
    refine At.rg 6 [0, 1, 2] ?_
    refine Seq.u 42 (.pointer q19a) ?_
    refine Seq.o ?_
    refine OpTo.cl (some 43) call25 (h.cont fun v_6 σ1_6 h2 => ?_); replace h := h2; clear h2
    obtain ⟨x43, rfl, h⟩ := h
    refine Seq.u 8 (.int .i64 x43) ?_
    refine Seq.done ?_
    refine At.s K19 K20 ?_
    refine At.rg 7 [0, 1] ?_
    refine Seq.u 44 (.pointer q16) ?_
    refine Seq.o ?_
    refine OpTo.cl (some 45) call28 (h.cont fun v_7 σ1_7 h2 => ?_); replace h := h2; clear h2
    obtain ⟨rfl, h⟩ := h
    refine Seq.done ?_
    refine At.s K21 K22 ?_
    refine At.rg 8 [0, 1] ?_
    refine Seq.u 46 (.pointer q16) ?_
    refine Seq.o ?_
    refine OpTo.cl (some 47) call29 (h.cont fun v_8 σ1_8 h2 => ?_); replace h := h2; clear h2
    obtain ⟨rfl, h⟩ := h
    refine Seq.done ?_
    refine At.s K23 K24 ?_
    refine At.rg 9 [0, 1, 2, 3, 4, 5, 6, 7, 8] ?_
    refine Seq.u 49 (.pointer q16) ?_
    refine Seq.o ?_
    refine OpTo.cl (some 50) call12 (h.cont fun v_9 σ1_9 h2 => ?_); replace h := h2; clear h2
    obtain ⟨q50a, p50b, n50b, c50b, x50c, rfl, h⟩ := h
    refine Seq.us [(48, .tuple #[(.pointer q50a), (.slice p50b n50b c50b), (.int .i64 x50c)]), (51, .pointer q50a), (52, .slice p50b n50b c50b), (53, .int .i64 x50c), (9, .pointer q50a), (10, .slice p50b n50b c50b), (11, .int .i64 x50c)] ?_
    refine Seq.done ?_
    refine At.s K25 K32 ?_
    refine At.s K26 K27 ?_
    refine At.rg 10 [0, 1, 2, 3, 4, 5] ?_
    refine Seq.us [(54, .int .i64 x50c), (55, .bool (decide ((x50c : Int) ≠ 0))), (56, .bool (decide ((x50c : Int) ≠ 0)))] ?_
    cases hb : (decide ((x50c : Int) ≠ 0)) with
    | true =>
     replace h := h.1 (of_decide_eq_true hb)
     refine Seq.n 57 ?_
     refine Seq.n 58 ?_
     refine Seq.u 59 (.bool true) ?_
     refine Seq.done ?_
     refine At.cT 59 K28 K31 ?_
     refine At.s K29 K30 ?_
     refine At.rg 11 [0] ?_
     refine Seq.u 0 (.bool false) ?_
     refine Seq.done ?_
     exact At.rt [.tmp 0] [(.bool false)] func15 ⟨_, rfl, rfl⟩ h
    | false =>
     replace h := h.2 (of_decide_eq_false hb)
     refine Seq.u 57 (.pointer q50a) ?_
     refine Seq.zg 58 (.binOp .eql 26 (.tmp 57) (.const (.pointer none)) 26) 4 (2, false) (.bool (Option.isNone q50a)) (Y.eqlNil underlying26 rfl rfl) ?_
     refine Seq.u 59 (.bool (Option.isNone q50a)) ?_
     refine Seq.done ?_
     refine At.L [(1, (.pointer q16)), (5, (.int .i64 x36)), (6, (.int .i64 x38)), (7, (.int .i64 x41)), (8, (.int .i64 x43)), (9, (.pointer q50a)), (10, (.slice p50b n50b c50b)), (59, (.bool (Option.isNone q50a)))] fun J => ?_
     cases hb : (Option.isNone q50a) with
     | true =>
      replace h := h.1 hb
      refine At.cT 59 K28 K31 ?_
      refine At.s K29 K30 ?_
      refine At.rg 11 [0] ?_
      refine Seq.u 0 (.bool false) ?_
      refine Seq.done ?_
      exact At.rt [.tmp 0] [(.bool false)] func15 ⟨_, rfl, rfl⟩ h
     | false =>
      replace h := h.2 hb
      refine At.cF 59 K28 K31 ?_
      refine At.skip ?_
      refine At.s K33 K34 ?_
      refine At.rg 12 [0, 1, 2, 3, 4] ?_
      refine Seq.u 60 (.pointer q50a) ?_
      refine Seq.o ?_
      refine OpTo.bslice (T := 23) (E := 5) (m := 1) (ps := #[(0, (.const (.int .u8 3)))]) (d := (some 61)) (ty := 23) (gd := none) (vs := [(0, (.int .u8 3))]) (cs := #[(.int .u8 3)]) underlying23 (by kernel_rfl) rfl rfl rfl (by kernel_rfl) (fun b61 hn => ?_)
      replace h := h b61 hn
      refine Seq.o ?_
      refine OpTo.bslice (T := 22) (E := 23) (m := 1) (ps := #[(0, (.tmp 61))]) (d := (some 62)) (ty := 22) (gd := none) (vs := [(0, (.slice (some ⟨b61, 0, none⟩) 1 1))]) (cs := #[(.slice (some ⟨b61, 0, none⟩) 1 1)]) underlying22 (by kernel_rfl) rfl rfl rfl (by kernel_rfl) (fun b62 hn => ?_)
      replace h := h b62 hn
      refine Seq.o ?_
      refine OpTo.cl (some 63) call22 (h.cont fun v_10 σ1_10 h2 => ?_); replace h := h2; clear h2
      obtain ⟨x63, rfl, h⟩ := h
      refine Seq.u 12 (.int .i64 x63) ?_
      refine Seq.done ?_
      refine At.s K35 K36 ?_
      refine At.rg 13 [0, 1, 2, 3, 4, 5, 6, 7, 8] ?_
      refine Seq.u 65 (.pointer q16) ?_
      refine Seq.o ?_
      refine OpTo.cl (some 66) call12 (h.cont fun v_11 σ1_11 h2 => ?_); replace h := h2; clear h2
      obtain ⟨q66a, p66b, n66b, c66b, x66c, rfl, h⟩ := h
      refine Seq.us [(64, .tuple #[(.pointer q66a), (.slice p66b n66b c66b), (.int .i64 x66c)]), (67, .pointer q66a), (68, .slice p66b n66b c66b), (69, .int .i64 x66c), (13, .pointer q66a), (14, .slice p66b n66b c66b), (15, .int .i64 x66c)] ?_
      refine Seq.done ?_
      refine At.s K37 K38 ?_
      refine At.rg 14 [0, 1, 2, 3, 4, 5, 6, 7, 8, 9, 10, 11, 12, 13, 14, 15, 16, 17, 18, 19, 20, 21, 22, 23, 24, 25, 26, 27, 28, 29, 30, 31, 32, 33, 34] ?_
      refine Seq.us [(70, .int .i64 x36), (71, .bool (decide ((x36 : Int) = 0))), (72, .bool (decide ((x36 : Int) = 0)))] ?_
      cases hb : (decide ((x36 : Int) = 0)) with
      | true =>
       replace h := h.1 (of_decide_eq_true hb)
       refine Seq.us [(73, .int .i64 x38), (74, .bool (decide ((x38 : Int) = 0))), (75, .bool (decide ((x38 : Int) = 0))), (76, .bool (decide ((x38 : Int) = 0)))] ?_
       cases hb : (decide ((x38 : Int) = 0)) with
       | true =>
        replace h := h.1 (of_decide_eq_true hb)
        refine Seq.us [(77, .int .i64 x41), (78, .bool (decide ((x41 : Int) = 0))), (79, .bool (decide ((x41 : Int) = 0))), (80, .bool (decide ((x41 : Int) = 0)))] ?_
        cases hb : (decide ((x41 : Int) = 0)) with
        | true =>
         replace h := h.1 (of_decide_eq_true hb)
         refine Seq.us [(81, .int .i64 x43), (82, .bool (decide ((x43 : Int) = 1))), (83, .bool (decide ((x43 : Int) = 1))), (84, .bool (decide ((x43 : Int) = 1)))] ?_
         cases hb : (decide ((x43 : Int) = 1)) with
         | true =>
          replace h := h.1 (of_decide_eq_true hb)
          refine Seq.u 85 (.slice p50b n50b c50b) ?_
          refine Seq.o ?_
          refine OpTo.bslice (T := 23) (E := 5) (m := 1) (ps := #[(0, (.const (.int .u8 1)))]) (d := (some 86)) (ty := 23) (gd := (some (14, true))) (vs := [(0, (.int .u8 1))]) (cs := #[(.int .u8 1)]) underlying23 (by kernel_rfl) rfl rfl rfl (by kernel_rfl) (fun b86 hn => ?_)
          replace h := h b86 hn
          refine Seq.o ?_
          refine OpTo.bslice (T := 22) (E := 23) (m := 1) (ps := #[(0, (.tmp 86))]) (d := (some 87)) (ty := 22) (gd := (some (14, true))) (vs := [(0, (.slice (some ⟨b86, 0, none⟩) 1 1))]) (cs := #[(.slice (some ⟨b86, 0, none⟩) 1 1)]) underlying22 (by kernel_rfl) rfl rfl rfl (by kernel_rfl) (fun b87 hn => ?_)
          replace h := h b87 hn
          refine Seq.o ?_
          refine OpTo.cl (some 88) call21 (h.cont fun v_12 σ1_12 h2 => ?_); replace h := h2; clear h2
          obtain ⟨t88, rfl, h⟩ := h
          refine Seq.us [(89, .bool t88), (90, .bool t88)] ?_
          cases hb : t88 with
          | true =>
           replace h := h.1 hb
           refine Seq.us [(91, .int .i64 x63), (92, .bool (decide ((x63 : Int) = 0))), (93, .bool (decide ((x63 : Int) = 0))), (94, .bool (decide ((x63 : Int) = 0)))] ?_
           cases hb : (decide ((x63 : Int) = 0)) with
           | true =>
            replace h := h.1 (of_decide_eq_true hb)
            refine Seq.us [(95, .int .i64 x66c), (96, .bool (decide ((x66c : Int) = 0))), (97, .bool (decide ((x66c : Int) = 0))), (98, .bool (decide ((x66c : Int) = 0)))] ?_
            cases hb : (decide ((x66c : Int) = 0)) with
            | true =>
             replace h := h.1 (of_decide_eq_true hb)
             refine Seq.u 99 (.slice p66b n66b c66b) ?_
             refine Seq.o ?_
             refine OpTo.bslice (T := 23) (E := 5) (m := 1) (ps := #[(0, (.const (.int .u8 3)))]) (d := (some 100)) (ty := 23) (gd := (some (28, true))) (vs := [(0, (.int .u8 3))]) (cs := #[(.int .u8 3)]) underlying23 (by kernel_rfl) rfl rfl rfl (by kernel_rfl) (fun b100 hn => ?_)
             replace h := h b100 hn
             refine Seq.o ?_
             refine OpTo.bslice (T := 22) (E := 23) (m := 1) (ps := #[(0, (.tmp 100))]) (d := (some 101)) (ty := 22) (gd := (some (28, true))) (vs := [(0, (.slice (some ⟨b100, 0, none⟩) 1 1))]) (cs := #[(.slice (some ⟨b100, 0, none⟩) 1 1)]) underlying22 (by kernel_rfl) rfl rfl rfl (by kernel_rfl) (fun b101 hn => ?_)
             replace h := h b101 hn
             refine Seq.o ?_
             refine OpTo.cl (some 102) call21 (h.cont fun v_13 σ1_13 h2 => ?_); replace h := h2; clear h2
             obtain ⟨t102, rfl, h⟩ := h
             refine Seq.us [(103, .bool t102), (0, .bool t102)] ?_
             refine Seq.done ?_
             refine At.L [(0, (.bool t102))] fun J => ?_
             exact At.rt [.tmp 0] [(.bool t102)] func15 ⟨_, rfl, rfl⟩ h
            | false =>
             replace h := h.2 (of_decide_eq_false hb)
             refine Seq.n 99 ?_
             refine Seq.n 100 ?_
             refine Seq.n 101 ?_
             refine Seq.n 102 ?_
             refine Seq.us [(103, .bool false), (0, .bool false)] ?_
             refine Seq.done ?_
             exact At.rt [.tmp 0] [(.bool false)] func15 ⟨_, rfl, rfl⟩ h
           | false =>
            replace h := h.2 (of_decide_eq_false hb)
            refine Seq.n 95 ?_
            refine Seq.n 96 ?_
            refine Seq.us [(97, .bool false), (98, .bool false)] ?_
            refine Seq.n 99 ?_
            refine Seq.n 100 ?_
            refine Seq.n 101 ?_
            refine Seq.n 102 ?_
            refine Seq.us [(103, .bool false), (0, .bool false)] ?_
            refine Seq.done ?_
            exact At.rt [.tmp 0] [(.bool false)] func15 ⟨_, rfl, rfl⟩ h
          | false =>
           replace h := h.2 hb
           refine Seq.n 91 ?_
           refine Seq.n 92 ?_
           refine Seq.us [(93, .bool false), (94, .bool false)] ?_
           refine Seq.n 95 ?_
           refine Seq.n 96 ?_
           refine Seq.us [(97, .bool false), (98, .bool false)] ?_
           refine Seq.n 99 ?_
           refine Seq.n 100 ?_
           refine Seq.n 101 ?_
           refine Seq.n 102 ?_
           refine Seq.us [(103, .bool false), (0, .bool false)] ?_
           refine Seq.done ?_
           exact At.rt [.tmp 0] [(.bool false)] func15 ⟨_, rfl, rfl⟩ h
         | false =>
          replace h := h.2 (of_decide_eq_false hb)
          refine Seq.n 85 ?_
          refine Seq.n 86 ?_
          refine Seq.n 87 ?_
          refine Seq.n 88 ?_
          refine Seq.us [(89, .bool false), (90, .bool false)] ?_
          refine Seq.n 91 ?_
          refine Seq.n 92 ?_
          refine Seq.us [(93, .bool false), (94, .bool false)] ?_
          refine Seq.n 95 ?_
          refine Seq.n 96 ?_
          refine Seq.us [(97, .bool false), (98, .bool false)] ?_
          refine Seq.n 99 ?_
          refine Seq.n 100 ?_
          refine Seq.n 101 ?_
          refine Seq.n 102 ?_
          refine Seq.us [(103, .bool false), (0, .bool false)] ?_
          refine Seq.done ?_
          refine At.L [(0, (.bool false))] fun J => ?_
          exact At.rt [.tmp 0] [(.bool false)] func15 ⟨_, rfl, rfl⟩ h
        | false =>
         replace h := h.2 (of_decide_eq_false hb)
         refine Seq.n 81 ?_
         refine Seq.n 82 ?_
         refine Seq.us [(83, .bool false), (84, .bool false)] ?_
         refine Seq.n 85 ?_
         refine Seq.n 86 ?_
         refine Seq.n 87 ?_
         refine Seq.n 88 ?_
         refine Seq.us [(89, .bool false), (90, .bool false)] ?_
         refine Seq.n 91 ?_
         refine Seq.n 92 ?_
         refine Seq.us [(93, .bool false), (94, .bool false)] ?_
         refine Seq.n 95 ?_
         refine Seq.n 96 ?_
         refine Seq.us [(97, .bool false), (98, .bool false)] ?_
         refine Seq.n 99 ?_
         refine Seq.n 100 ?_
         refine Seq.n 101 ?_
         refine Seq.n 102 ?_
         refine Seq.us [(103, .bool false), (0, .bool false)] ?_
         refine Seq.done ?_
         exact At.rt [.tmp 0] [(.bool false)] func15 ⟨_, rfl, rfl⟩ h
       | false =>
        replace h := h.2 (of_decide_eq_false hb)
        refine Seq.n 77 ?_
        refine Seq.n 78 ?_
        refine Seq.us [(79, .bool false), (80, .bool false)] ?_
        refine Seq.n 81 ?_
        refine Seq.n 82 ?_
        refine Seq.us [(83, .bool false), (84, .bool false)] ?_
        refine Seq.n 85 ?_
        refine Seq.n 86 ?_
        refine Seq.n 87 ?_
        refine Seq.n 88 ?_
        refine Seq.us [(89, .bool false), (90, .bool false)] ?_
        refine Seq.n 91 ?_
        refine Seq.n 92 ?_
        refine Seq.us [(93, .bool false), (94, .bool false)] ?_
        refine Seq.n 95 ?_
        refine Seq.n 96 ?_
        refine Seq.us [(97, .bool false), (98, .bool false)] ?_
        refine Seq.n 99 ?_
        refine Seq.n 100 ?_
        refine Seq.n 101 ?_
        refine Seq.n 102 ?_
        refine Seq.us [(103, .bool false), (0, .bool false)] ?_
        refine Seq.done ?_
        refine At.L [(0, (.bool false))] fun J => ?_
        exact At.rt [.tmp 0] [(.bool false)] func15 ⟨_, rfl, rfl⟩ h
      | false =>
       replace h := h.2 (of_decide_eq_false hb)
       refine Seq.n 73 ?_
       refine Seq.n 74 ?_
       refine Seq.us [(75, .bool false), (76, .bool false)] ?_
       refine Seq.n 77 ?_
       refine Seq.n 78 ?_
       refine Seq.us [(79, .bool false), (80, .bool false)] ?_
       refine Seq.n 81 ?_
       refine Seq.n 82 ?_
       refine Seq.us [(83, .bool false), (84, .bool false)] ?_
       refine Seq.n 85 ?_
       refine Seq.n 86 ?_
       refine Seq.n 87 ?_
       refine Seq.n 88 ?_
       refine Seq.us [(89, .bool false), (90, .bool false)] ?_
       refine Seq.n 91 ?_
       refine Seq.n 92 ?_
       refine Seq.us [(93, .bool false), (94, .bool false)] ?_
       refine Seq.n 95 ?_
       refine Seq.n 96 ?_
       refine Seq.us [(97, .bool false), (98, .bool false)] ?_
       refine Seq.n 99 ?_
       refine Seq.n 100 ?_
       refine Seq.n 101 ?_
       refine Seq.n 102 ?_
       refine Seq.us [(103, .bool false), (0, .bool false)] ?_
       refine Seq.done ?_
       exact At.rt [.tmp 0] [(.bool false)] func15 ⟨_, rfl, rfl⟩ h
end law7_awake

end
end TwW
end
section
set_option linter.unusedVariables false
/-! What every log answers. -/
namespace TwW
open Go Tw Go.RowKit Go.Proofs.Tryz

def dx : ByteArray := ⟨#[120]⟩
theorem dx_ok : dirOk dx = true := by decide

section
variable {σ τ : Hp} {d b : Nat} {D : Dk} {W : Wl} {R : Ending → Hp → Prop} {fs : Fs} {dir : ByteArray} {cnt : Nat}

theorem OpenOk.none' (h : ∀ s, (fs s).isSome = true → numOf dir kc s = 0 ∧ numOf dir ks s = 0) : OpenW fs dir cnt [] true :=
  ⟨0, [], [], [], ⟨fun h0 => absurd h0 (by omega), fun _ => rfl, fun s hs => by rw [(h s hs).1]; omega, Nat.zero_le _, fun x hx => (by cases hx), List.Pairwise.nil, fun s hs hlt => (by rw [(h s hs).2] at hlt; omega), fun k x hx => (by simp at hx), fun _ => rfl, torn_nil, Good.nil, fun x hx => (by cases hx), fun a ha => (by cases ha)⟩, rfl, ⟨fun f h0 => absurd h0 (by omega), fun k x hx => (by simp at hx)⟩, fun _ => rfl⟩

theorem OpenOk.one {n syn : Nat} {rs : Recs} (hn : 0 < n ∧ n ≤ cnt) (hc : cnt < 99999999) (h : ∀ s, (fs s).isSome = true → s = fname dir ks n) (hf : fs (fname dir ks n) = some ⟨joinF rs, syn⟩) (hg : Good rs) : OpenW fs dir cnt rs true := by
  have e := numOf_fname (dir := dir) (kind := ks) (no := n) (by omega)
  refine ⟨0, [], [(n, rs)], [], ⟨fun h0 => absurd h0 (by omega), fun _ => rfl, fun s hs => ?_, Nat.zero_le _, fun x hx => ?_, by simp, fun s hs hlt => ?_, fun k x hx => ?_, fun e => by simp at e, torn_nil, Good.nil, fun x hx => ?_, fun a ha => (by cases ha)⟩, by simp [toldS], ⟨fun f h0 => absurd h0 (by omega), fun k x hx hk => (by simp at hk)⟩, fun _ => rfl⟩
  · rw [h s hs]
    rcases Nat.eq_zero_or_pos (numOf dir kc (fname dir ks n)) with h0 | h0
    · omega
    · have := num_kinds h0; omega
  · simp at hx; subst hx; exact hn
  · refine ⟨(n, rs), by simp, ?_⟩
    rw [h s hs, e]
  · have hk : k = 0 := by
      have := (List.getElem?_eq_some_iff.1 hx).1
      simp at this; exact this
    subst hk
    simp at hx
    subst hx
    exact ⟨_, hf, by simp⟩
  · simp at hx; subst hx; exact hg

theorem one_rd {b : Nat} {x : Int} {T : TypeId} (h : τ b = some (.cells #[.int .u8 x] T (0, 0))) : RdI .u8 τ (some ⟨b, 0, none⟩) 1 [x] :=
  RdI.of_rdc ⟨rfl, by omega, .inr ⟨b, 0, rfl, ld_of h rfl, trivial⟩⟩
theorem one_rdLL {b2 n c : Nat} {p : Option Addr} {x : List Int} {T : TypeId} (h : τ b2 = some (.cells #[.slice p n c] T (0, 0))) (hc : n ≤ c) (hr : RdI .u8 τ p n x) : RdLL τ (some ⟨b2, 0, none⟩) 1 [x] :=
  ⟨rfl, [.slice p n c], ⟨rfl, by omega, .inr ⟨b2, 0, rfl, ld_of h rfl, trivial⟩⟩, Ch.one rfl ⟨p, n, c, rfl, hc, hr⟩⟩
theorem by8_one {x : Int} (h : 0 ≤ x ∧ x < 256) : By8 [x] := fun y hy => by simp at hy; subst hy; exact h

/-- A log over an empty disk. -/
theorem open_empty (h : DiskU σ d D τ) (ht : Tb τ) (hup : D.up = true) (harm : D.armed = false) (hd : dirOk dir = true) (hc : D.cnt < 1048576) (hf : ∀ s, D.files s = none)
    (hR : ∀ b σ' W ρ p n c fs' cnt', LogU σ' d b (dk fs' cnt') W ρ → Ext τ ρ → RdLL ρ p n [] → W.dir = dir → W.segs = [] → W.check = 0 → LogOk fs' cnt' W [] [] 0 → (∀ s, fs' s = none) → D.cnt ≤ cnt' → cnt' ≤ D.cnt → R (.returned (.tuple #[.pointer (some ⟨b, 0, none⟩), .slice p n c, .int .i64 0])) σ') : Spec prog wal_Open.fid #[.pointer (some ⟨d, 0, none⟩), .string dir] σ R := by
  refine open_spec (told := []) h ht hup harm hd hc (OpenOk.none' fun s hs => by rw [hf s] at hs; cases hs) (by simp) fun b σ' W rc sg ρ p n c fs' cnt' a1 a2 a3 a4 a5 a6 a7 a8 a9 a10 a11 a12 => ?_
  have hfs : ∀ s, fs' s = none := fun s => by
    cases hh : fs' s with
    | none => rfl
    | some f => have := a8 s (by rw [hh]; rfl); rw [hf s] at this; cases this
  have hsg : sg = [] := by
    cases sg with
    | nil => rfl
    | cons x l =>
      obtain ⟨f, hx, _⟩ := a5.sh.file 0 x rfl
      rw [hfs] at hx; cases hx
  have hch : W.check = 0 := by
    rcases Nat.eq_zero_or_pos W.check with h0 | h0
    · exact h0
    · obtain ⟨f, hx, _⟩ := a5.sh.chk h0
      rw [hfs] at hx; cases hx
  subst hsg
  have hrc : rc = [] := a5.sh.chk0 hch
  subst hrc
  exact hR b σ' W ρ p n c fs' cnt' a1 a2 a3 a4 (by rw [a5.segs]; rfl) hch a5 hfs a10 (Nat.le_of_eq (a12 rfl).1)
end
end TwW
end
section
set_option linter.unusedVariables false
/-! What every log answers: awake. -/
namespace TwW
open Go Tw Go.RowKit Go.Proofs.Tryz

section
variable {σ τ : Hp} {d b : Nat} {D : Dk} {W : Wl} {R : Ending → Hp → Prop}

theorem frame1_len (x : Int) : (frame [x]).length ≤ 8 := frame_small (r := [x]) (by simp)

theorem hasB_one {n : Nat} (h : W.segs = [n]) (ho : W.opn = n) : hasB W = true := by simp [hasB, h, ho]

theorem awake_spec (ht : Tb σ) (hR : ∀ σ', Ext σ σ' → R (.returned (.bool true)) σ') : Spec prog law7_awake.fid #[] σ R := by
  refine law7_awake.start (disk_new_spec fun d σ0 S0 hd0 hx0 => ⟨_, rfl, ?_⟩)
  have h0 : DiskU σ0 d ⟨fun _ => none, true, false, 0⟩ σ := ⟨S0, hd0, hx0⟩
  refine open_empty (dir := dx) h0 ht rfl rfl dx_ok (by show (0 : Nat) < _; omega) (fun _ => rfl) fun b σ1 W1 τ1 p1 n1 c1 fs1 k1 h1 x1 r1 e1 e2 e3 hok1 hf1 hk1 hk1' => ?_
  have hk1' : k1 ≤ 1 := Nat.le_trans hk1' (by decide)
  have hn1 : n1 = 0 := by have := r1.1; simpa using this.symm
  subst hn1
  refine ⟨_, _, _, _, _, rfl, fun hh => absurd rfl hh, fun _ => ⟨fun hh => (by cases hh), fun _ => ⟨fun hh => absurd rfl hh, fun _ b35 hb35 => ?_⟩⟩⟩
  -- the first record
  obtain ⟨τ2, h2, x2, t2⟩ := h1.box (o := .cells #[.int .u8 1] 5 (0, 0)) hb35
  have ht2 : Tb τ2 := ht.mono (x1.trans x2)
  have hdir1 : dirOk W1.dir = true := by rw [e1]; exact dx_ok
  have hb1 : hasB W1 = false := by simp [hasB, e2]
  have hsz1 : W1.size = 0 := hok1.size0 fun x hx => by cases hx
  refine wappend_spec h2 ht2 (one_rd t2) (by8_one (by omega)) rfl (by show k1 < _; omega) hdir1 hok1 (fun hh => by omega) fun _ => ⟨fun σ3 D3 W3 sg3 sf3 h3 u3 a3 k3 d3 _ hok3 s3 told3 out3 new3 ch3 hn3 hh3 ff3 => ⟨_, rfl, ?_⟩, fun ha => by cases ha⟩
  obtain ⟨g3, o3, z3⟩ := hn3 hb1
  have ff3 := ff3 (.inl hb1)
  have hfl1 := frame1_len 1
  have hb3 : hasB W3 = true := hasB_one (by rw [g3, e2]; rfl) o3
  have hk3 : D3.cnt ≤ 2 := by rw [k3]; show k1 + 1 ≤ 2; omega
  have hdir3 : dirOk W3.dir = true := by rw [d3]; exact hdir1
  refine wsync_spec h3 ht2 u3 (by omega) hdir3 hok3 (fun σ4 D4 h4 u4 a4 k4 hok4 out4 new4 ff4 => ⟨_, rfl, fun b40 hb40 => ?_⟩) (fun ha => by rw [a3] at ha; cases ha)
  obtain ⟨f4, hf4, ff4⟩ := ff4 hb3
  -- the second record
  obtain ⟨τ5, h5, x5, t5⟩ := h4.box (o := .cells #[.int .u8 2] 5 (0, 0)) hb40
  refine wappend_spec h5 (ht2.mono x5) (one_rd t5) (by8_one (by omega)) u4 (by omega) hdir3 hok4 (fun hh => by omega) fun _ => ⟨fun σ6 D6 W6 sg6 sf6 h6 u6 a6 k6 d6 _ hok6 s6 told6 out6 new6 ch6 hn6 hh6 ff6 => ⟨_, rfl, ?_⟩, fun ha => by rw [a4, a3] at ha; cases ha⟩
  have hz3 : W3.size < 4096 := by rw [z3, hsz1]; omega
  obtain ⟨g6, o6, z6⟩ := hh6 hb3 hz3
  have ff6 := ff6 (.inr hz3)
  refine segments_spec h6 ⟨_, rfl, ?_⟩
  have hseg6 : W6.segs.length = 1 := by rw [g6, g3, e2]; rfl
  -- what lies on the disk
  have hopn : W3.opn = W1.opn := o3
  have hdx3 : W3.dir = dx := d3.trans e1
  have hfn1 : W1.dir = dx := e1
  have hf4e : f4 = ⟨frame [1], 0⟩ := by
    rw [ff3, hdx3, hopn] at hf4
    rw [hfn1] at hf4
    simp [appd, fput, hf1] at hf4
    exact hf4.symm
  have hall6 : ∀ s, D6.files s = if s = fname dx ks W1.opn then some ⟨frame [1] ++ frame [2], (frame [1]).length⟩ else none := fun s => by
    rw [ff6, ff4, ff3, hdx3, hopn, hfn1, hf4e]
    by_cases hs : s = fname dx ks W1.opn
    · subst hs; simp [appd, fput]
    · simp [appd, fput, hs, hf1]
  -- the power goes
  have h6d := h6.disk
  obtain ⟨S6, hd6, hx6⟩ := h6d
  refine off_spec hd6 (fun hh => by rw [u6] at hh; cases hh) fun _ σ7 S7 gs hg hg0 hd7 hx7 => ⟨rfl, ?_⟩
  refine on_spec hd7 fun σ8 hd8 hx8 => ⟨rfl, ?_⟩
  have h8 : DiskU σ8 d ⟨gs, true, false, D6.cnt⟩ τ5 := ⟨S7, hd8, hx6.trans (hx7.trans hx8)⟩
  have hopn1 := hok1.opn
  have hgs : gs (fname dx ks W1.opn) = some ⟨joinF [[1]], (frame [1]).length⟩ := by
    have := hg0 rfl (fname dx ks W1.opn) ⟨frame [1] ++ frame [2], (frame [1]).length⟩ (by rw [hall6, if_pos rfl])
    rw [this, List.take_left]; simp [joinF]
  have hk6 : D6.cnt = k1 + 2 := by rw [k6, k4, k3]
  have hxσ5 : Ext σ τ5 := x1.trans (x2.trans x5)
  refine open_spec (told := [[1]]) h8 (ht2.mono x5) rfl rfl dx_ok (by show D6.cnt < _; omega) (OpenOk.one (n := W1.opn) ⟨by omega, by show W1.opn ≤ D6.cnt; omega⟩ (by show D6.cnt < _; omega) (fun s hs => ?_) hgs (fun r hr => by simp at hr; subst hr; exact ⟨by simp, by8_one (by omega)⟩)) (by simp) fun b9 σ9 W9 rc9 sg9 τ9 p9 n9 c9 fs9 k9 h9 x9 r9 e9 hok9 told9 out9 sub9 new9 hk9 hk9' _ => ?_
  · have h10 := hg.isS hs
    rw [hall6] at h10
    by_cases hh : s = fname dx ks W1.opn
    · exact hh
    · rw [if_neg hh] at h10; cases h10
  refine ⟨_, _, _, _, _, rfl, fun hh => absurd rfl hh, fun _ => ⟨fun hh => (by cases hh), fun _ b61 hb61 b62 hb62 => ?_⟩⟩
  obtain ⟨τa, ha, xa, ta⟩ := h9.box (o := .cells #[.int .u8 3] 5 (0, 0)) hb61
  obtain ⟨τb, hb, xb, tb⟩ := ha.box (o := .cells #[.slice (some ⟨b61, 0, none⟩) 1 1] 23 (0, 0)) hb62
  have hdir9 : dirOk W9.dir = true := by rw [e9]; exact dx_ok
  have htb : Tb τb := (((ht2.mono x5).mono x9).mono xa).mono xb
  have hk9b : k9 ≤ k1 + 3 := by have : k9 ≤ D6.cnt + 1 := hk9'; omega
  have hfl3 := frame1_len 3
  refine wcut_spec (keep := [[3]]) hb htb (one_rdLL tb (Nat.le_refl _) ((one_rd ta).mono xb)) (fun r hr => by simp at hr; subst hr; exact by8_one (by omega)) rfl (by show k9 < _; omega) hdir9 hok9 (by rw [e9]; exact new9) (fun hh => absurd (fun r hr => by simp at hr; subst hr; simp) hh) fun _ => ⟨by simp [joinF]; omega, ⟨fun σc Dc Wc hc uc ac kc' dc _ hokc outc newc => ⟨_, rfl, ?_⟩, fun ha => by cases ha⟩⟩
  have hopc := hokc.openOk
  rw [dc, e9] at hopc
  refine open_spec (told := [[3]]) (hc.disk) htb uc ac dx_ok (by rw [kc']; show k9 + 1 < _; omega) (by simpa [toldS] using hopc) (by simp) fun be σe We rce sge τe pe ne ce fse ke he xe re ee hoke tolde oute sube newe hke hke' _ => ?_
  have hxfin : Ext σ τe := hxσ5.trans (x9.trans (xa.trans (xb.trans xe)))
  refine ⟨_, _, _, _, _, rfl, fun _ => ⟨fun _ => ⟨fun _ => ⟨fun _ b86 hb86 b87 hb87 => ?_, fun hh => absurd (by rw [hseg6]; rfl) hh⟩, fun hh => absurd rfl hh⟩, fun hh => absurd rfl hh⟩, fun hh => absurd rfl hh⟩
  obtain ⟨τf, hf, xf, tf⟩ := he.box (o := .cells #[.int .u8 1] 5 (0, 0)) hb86
  obtain ⟨τg, hg', xg, tg⟩ := hf.box (o := .cells #[.slice (some ⟨b86, 0, none⟩) 1 1] 23 (0, 0)) hb87
  have hrs : RdLL _ p9 n9 [[1]] := RdLL.mono ((xa.trans (xb.trans (xe.trans (xf.trans xg)))).trans hg'.ext) r9
  refine sameLists_spec hrs ((one_rdLL tg (Nat.le_refl _) ((one_rd tf).mono xg)).mono hg'.ext) ⟨_, rfl, fun _ => ⟨fun _ => ⟨fun _ b100 hb100 b101 hb101 => ?_, fun hh => absurd rfl hh⟩, fun hh => absurd rfl hh⟩, fun hh => by simp at hh⟩
  obtain ⟨τi, hi, xi, ti⟩ := hg'.box (o := .cells #[.int .u8 3] 5 (0, 0)) hb100
  obtain ⟨τj, hj, xj, tj⟩ := hi.box (o := .cells #[.slice (some ⟨b100, 0, none⟩) 1 1] 23 (0, 0)) hb101
  have hrt : RdLL _ pe ne [[3]] := RdLL.mono ((xf.trans (xg.trans (xi.trans xj))).trans hj.ext) re
  refine sameLists_spec hrt ((one_rdLL tj (Nat.le_refl _) ((one_rd ti).mono xj)).mono hj.ext) ⟨_, rfl, ?_⟩
  have := hR _ ((hxfin.trans (xf.trans (xg.trans (xi.trans xj)))).trans hj.ext)
  simpa using this
end
end TwW
end
section
set_option linter.unusedVariables false
/-! WalTwice. -/
namespace TwW
open Go Tw Go.RowKit Go.Proofs.Tryz

/-- All files are segments'. -/
def OnlyS (fs : Fs) : Prop := ∀ s, (fs s).isSome = true → 0 < numOf dx ks s
theorem onlyS_swept {fs : Fs} {L : List ByteArray} (h : OnlyS fs) (hL : Names fs (dx ++ slash) L) : swept fs dx L = fs := by
  have hm : maxC dx L = 0 := foldl_max _ _ _ (Nat.le_refl _) (fun n hn => by
    obtain ⟨s, hs, rfl⟩ := List.mem_map.1 hn
    have h1 := h s ((hL.mem s).1 hs).1
    rcases Nat.eq_zero_or_pos (numOf dx kc s) with h0 | h0
    · omega
    · have := num_kinds h0; omega) (.inl rfl)
  unfold swept
  rw [hm]
  funext s
  unfold delF
  have hj : junk dx 0 s = false := by
    simp only [junk, Bool.or_eq_false_iff, Bool.and_eq_false_iff, decide_eq_false_iff_not]; omega
  rw [if_neg (by rw [hj]; simp)]
  by_cases hn : s ∈ L ∧ isNew dx s = true
  · exfalso
    have h1 := h s ((hL.mem s).1 hn.1).1
    have h2 := hn.2
    simp only [isNew, decide_eq_true_eq] at h2
    rw [h2, num_new (.inr rfl)] at h1; omega
  · rw [if_neg hn]

theorem xs_eq : (⟨#[120, 47, 115]⟩ : ByteArray) = cat dx ks := by rfl
theorem onlyS_names {fs : Fs} {L : List ByteArray} (h : OnlyS fs) (hL : Names fs (cat dx ks) L) : Names fs (dx ++ slash) L ∧ ∀ s ∈ L, 0 < numOf dx ks s := by
  refine ⟨⟨hL.sorted, hL.nodup, fun s => ?_⟩, fun s hs => h s ((hL.mem s).1 hs).1⟩
  rw [hL.mem]
  constructor
  · rintro ⟨h1, h2⟩; exact ⟨h1, begins_num (h s h1)⟩
  · rintro ⟨h1, h2⟩
    refine ⟨h1, ?_⟩
    rw [(numOf_pos (h s h1)).1]
    exact (begins_fname dx ks _).1
theorem segNums_len {L : List ByteArray} (h : ∀ s ∈ L, 0 < numOf dx ks s) : (segNums dx 0 L).length = L.length := by
  unfold segNums
  rw [List.filter_eq_self.2 (fun n hn => by obtain ⟨s, hs, rfl⟩ := List.mem_map.1 hn; simpa using h s hs), List.length_map]

abbrev RdBo (σ : Hp) (p : Option Addr) (n : Nat) (bs : List Bool) : Prop := RdC 1 σ p n (bs.map .bool)
theorem RdBo.at {σ : Hp} {p : Option Addr} {n k : Nat} {L : List Bool} {s : Bool} (h : RdBo σ p n L) (hk : L[k]? = some s) : ∃ b o, p = some ⟨b, o, none⟩ ∧ σ.ld ⟨b, o + k * 1, none⟩ = some (.bool s) := by
  obtain ⟨h1, _, h2⟩ := h
  have hlt := (List.getElem?_eq_some_iff.1 hk).1
  rcases h2 with h2 | ⟨b, o, hp, hl⟩
  · simp at h1; omega
  · refine ⟨b, o, hp, ?_⟩
    rw [Nat.mul_one]
    exact hl.get (by rw [List.getElem?_map, hk]; rfl)

section
variable {σ τ : Hp} {d b : Nat} {D : Dk} {W : Wl} {R : Ending → Hp → Prop}

/-- The log of the law, in the midst of it. -/
structure Tw2 (D : Dk) (W : Wl) (sg : Sg) (sf : Nat) : Prop where
  up : D.up = true
  arm : D.armed = false
  dir : W.dir = dx
  check : W.check = 0
  ok : LogOk D.files D.cnt W [] sg sf
  only : OnlyS D.files
  new : D.files (fnew dx) = none

/-- Opened again it is the same. -/
theorem reopen {sg : Sg} {sf : Nat} (h : DiskU σ d D τ) (ht : Tb τ) (ho : Tw2 D W sg sf) (hc : D.cnt < 1048576) (hbig : (toldS sg).length ≤ 4194304)
    (hR : ∀ b σ' W' sg' ρ p n c, LogU σ' d b D W' ρ → Ext τ ρ → RdLL ρ p n (toldS sg) → Tw2 D W' sg' 0 → toldS sg' = toldS sg → W'.segs = W.segs → R (.returned (.tuple #[.pointer (some ⟨b, 0, none⟩), .slice p n c, .int .i64 0])) σ') : Spec prog wal_Open.fid #[.pointer (some ⟨d, 0, none⟩), .string dx] σ R := by
  obtain ⟨fs, up, arm, cnt⟩ := D
  obtain ⟨hu, ha, hdir, hch, hok, hon, hnw⟩ := ho
  simp only at hu ha
  subst hu ha
  have hopen := hok.openOk
  rw [hdir, List.nil_append] at hopen
  refine open_spec (told := toldS sg) h ht rfl rfl dx_ok hc hopen hbig fun b σ' W' rc' sg' ρ p n c fs' cnt' a1 a2 a3 a4 a5 a6 a7 a8 a9 a10 a11 a12 => ?_
  obtain ⟨hcnt, L, hL, hfs⟩ := a12 rfl
  have hfs' : fs' = fs := hfs.trans (onlyS_swept hon hL)
  have hcnt' : cnt' = cnt := hcnt
  subst hfs' hcnt'
  have hch' : W'.check = 0 := by
    rcases Nat.eq_zero_or_pos W'.check with h0 | h0
    · exact h0
    · have h1 := hon _ (a5.sh.chk h0).isS
      have hcle := a5.sh.cle
      have hc' : cnt' < 1048576 := hc
      have h2 := numOf_fname (dir := W'.dir) (kind := kc) (no := W'.check) (by omega)
      rw [a4] at h2
      rw [a4] at h1
      have := num_kinds (dir := dx) (s := fname dx kc W'.check) (by omega)
      omega
  have hrc : rc' = [] := a5.sh.chk0 hch'
  subst hrc
  rw [List.nil_append] at a6
  have hc' : cnt' < 1048576 := hc
  have hseg : W'.segs = W.segs := by
    have s1 := segNums_eq a5.sh (by omega) (L := L) (by rw [a4]; exact hL)
    have s2 := segNums_eq hok.sh (by omega) (L := L) (by rw [hdir]; exact hL)
    rw [a5.segs, hok.segs, ← s1, ← s2, a4, hdir, hch, hch']
  exact hR b σ' W' sg' ρ p n c a1 a2 a3 ⟨rfl, rfl, a4, hch', a5, hon, a9⟩ a6 hseg
end
end TwW
end
section
/-
  Tw, part N: from a contract to a row: what an argument reads as; what a law leaves.
-/
set_option linter.unusedVariables false
namespace Tw
open Go Go.RowKit Go.ChangeShapes Go.WideShapes Go.Deep

/-- All that a memory holds. -/
def full (w : World) : Hp := fun b => w.heap[b]?
theorem full_sat (w : World) : Sat (full w) w := fun _ _ h => h
theorem full_ld {w : World} {a : Addr} {v : Value} (h : w.cell? a = some v) : (full w).ld a = some v := h

theorem below_of {w w' : World} {σ' : Hp} (hx : Ext (full w) σ') (hs : Sat σ' w') (ho : SameOs w w') (hout : w'.output = w.output) (hg : w.heap.size ≤ w'.heap.size) : Below w.heap.size w w' :=
  ⟨ho.1, ho.2.1, hout, hg, fun k hk => by
    have h1 : w.heap[k]? = some w.heap[k] := Array.getElem?_eq_getElem hk
    rw [h1]; exact hs _ _ (hx _ _ h1)⟩

/-- A law: true, and all that was there stays. -/
def Lawful (P : Program) (f : FuncId) (args : Array Value) (w : World) : Prop := Spec P f args (full w) (fun e σ' => e = .returned (.bool true) ∧ Ext (full w) σ')
theorem Lawful.calls {P : Program} {f : FuncId} {args : Array Value} {w : World} (h : Lawful P f args w) : Calls P f args w fun e w' => e = .returned (.bool true) ∧ Below w.heap.size w w' :=
  (h w (fun _ => False) (full_sat w) (fun _ h => h.elim)).mono fun e w' ⟨σ', ⟨he, hx⟩, hf⟩ => ⟨he, below_of hx hf.sat hf.os hf.out hf.grow⟩

section
variable {H : Type} {enc : TypeId × Value → H} {P : Program}

theorem trodAll_below (hl : laidOutB P = true) {W W' : World} (hb : Below W.heap.size W W') : ∀ {ts : List TypeId} {vs : List Value} {ds : List (DataW H)} {ps : List MemPlace}, (ts.all fun t => P.readableRec t && Nat.blt t P.types.size) = true → (∀ x ∈ ps, x.block < W.heap.size) →
    DataW.TrodAll enc P W 0 (fun _ => true) true ts vs ds ps → DataW.TrodAll enc P W' 0 (fun b => decide (b < W.heap.size)) true ts vs ds ps
  | [], [], [], ps, _, _, h => h
  | t :: ts, v :: vs, d :: ds, ps, hr, hlt, ⟨p, q, h1, h2, e⟩ => by
    simp only [List.all_cons, Bool.and_eq_true] at hr
    subst e
    exact ⟨p, q, Below.trod hl hr.1.1 (Nat.le_of_ble_eq_true hr.1.2) h1 hb (fun x hx => hlt x (List.mem_append_left _ hx)), trodAll_below hl hb hr.2 (fun x hx => hlt x (List.mem_append_right _ hx)) h2, rfl⟩
  | [], _ :: _, _, _, _, _, h => h.elim
  | [], [], _ :: _, _, _, _, h => h.elim
  | _ :: _, [], _, _, _, _, h => h.elim
  | _ :: _, _ :: _, [], _, _, _, h => h.elim

/-- What a law leaves. -/
theorem law_post {f : Func} {s : ChangeSpec} {W W' : World} {args : Array Value} {ds gs : List (DataW H)} {before : List MemPlace} {tb : TypeId} (hl : laidOutB P = true) (hr : (f.params.toList.all fun t => P.readableRec t && Nat.blt t P.types.size) = true)
    (hrt : f.resultTypes = #[tb]) (htb : P.underlying tb = some .bool) (hv : s.vars = []) (hfn : (s.fn H (ds ++ gs)).results = [.lit (.bool true)] ∧ (s.fn H (ds ++ gs)).args = ds ∧ (s.fn H (ds ++ gs)).vars = [])
    (hW : DataW.Whole enc P f.params.toList s.vars false W args.toList ds gs before) (hb : Below W.heap.size W W') : s.post enc P f false true false false W args (.bool true) W' := by
  have hlt : ∀ p ∈ before, p.block < W.heap.size := fun p hp => hW.lt p hp
  have hW' := hW
  obtain ⟨p, q, hA, hV, rfl, hfz, _⟩ := hW'
  refine ⟨ds, gs, p ++ q, [], p, [], hW, ?_, ?_, ?_, World.keptBut_mono (fun x hx => ⟨hx, ?_⟩) (hb.frame (· ∈ p ++ q)), fun h => by cases h⟩
  · rw [hfn.1, hrt]
    exact trodAll_mk1 (shut_bool htb true)
  · rw [hfn.2.1]
    exact trodAll_below hl hb hr (fun x hx => hlt x (List.mem_append_left _ hx)) hA
  · rw [hfn.2.2, hv]; rfl
  · rw [hv] at hV
    have : q = [] := by
      cases gs with
      | nil => exact hV
      | cons _ _ => exact hV.elim
    subst this
    exact .inr (.inl (by simpa using hx))

/-! What values read as -/
def Rdt (P : Program) {α : Type} (t : TypeId) (E : Hp → List Value → α → Prop) (I : α → Prop) : Prop :=
  ∀ {H : Type} {enc : TypeId × Value → H} {w : World} {base : Nat} {sp : Nat → Bool} {held : Bool} {fuel : Nat} {cs : List Value} {x : DataW H × List MemPlace},
    DataW.trod enc P w base sp held fuel t cs = some x → (∀ n ∈ x.1.weights P t, n ≤ reachBytes) → ∃ y, E (full w) cs y ∧ I y

theorem Rdt.int {t : TypeId} {k : IntKind} (ht : P.underlying t = some (.int k)) : Rdt P t (EInt k) (fun x => (Lit.int k x).wf = true) := fun h _ => by
  obtain ⟨n, rfl, rfl, hw⟩ := DataW.trod_int ht h
  exact ⟨n, rfl, hw⟩

theorem weights_mem {e : TypeId} : ∀ {l : List (DataW H)} {d : DataW H}, d ∈ l → ∀ n ∈ d.weights P e, n ∈ DataW.weightsAll P e l
  | x :: l, d, hd, n, hn => by
    simp only [DataW.weightsAll, List.mem_append]
    rcases List.mem_cons.1 hd with rfl | hd
    · exact .inl hn
    · exact .inr (weights_mem hd n hn)
theorem weights_each {n : Nat} : ∀ {ts : List TypeId} {l : List (DataW H)} {j : Nat} {t : TypeId} {d : DataW H}, ts[j]? = some t → l[j]? = some d → n ∈ d.weights P t → n ∈ DataW.weightsEach P ts l := fun ht hd hn => DataW.weights_mem_each ht hd n hn

theorem LdL.snoc {σ : Hp} {b : Nat} : ∀ {l m : List Value} {o : Nat}, LdL σ b o l → LdL σ b (o + l.length) m → LdL σ b o (l ++ m)
  | [], m, o, _, h => by simpa using h
  | v :: l, m, o, h, h' => ⟨h.1, LdL.snoc h.2 (by simpa [Nat.add_assoc, Nat.add_comm 1] using h')⟩

theorem RdS.mk' {α : Type} {s : Nat} {E : Hp → List Value → α → Prop} {I : α → Prop} {σ : Hp} {b o : Nat} : ∀ {n : Nat}, n ≤ 4611686018427387904 → (∀ i, i < n → ∃ vs x, vs.length = s ∧ LdL σ b (o + i * s) vs ∧ E σ vs x ∧ I x) →
    ∃ xs, RdS s E σ (some ⟨b, o, none⟩) n xs ∧ ∀ x ∈ xs, I x
  | 0, _, _ => ⟨[], RdS.nil, by simp⟩
  | n + 1, hn, h => by
    obtain ⟨xs, ⟨h1, cs, ⟨hl, _, h2⟩, h3⟩, hI⟩ := RdS.mk' (n := n) (by omega) (fun i hi => h i (by omega))
    obtain ⟨vs, x, hv, hld, hE, hx⟩ := h n (by omega)
    have hcs : LdL σ b o cs := by
      rcases h2 with rfl | ⟨b', o', hp, hl'⟩
      · have : cs = [] := List.eq_nil_of_length_eq_zero (by simpa using hl)
        subst this; trivial
      · cases hp; exact hl'
    refine ⟨xs ++ [x], ⟨by simp [h1], cs ++ vs, ⟨by rw [List.length_append, hl, hv, Nat.add_mul]; omega, hn, .inr ⟨b, o, rfl, hcs.snoc (by rw [hl]; exact hld)⟩⟩, h3.snoc hv hE⟩, fun y hy => ?_⟩
    rcases List.mem_append.1 hy with hy | hy
    · exact hI y hy
    · simp at hy; subst hy; exact hx

def ESl {α : Type} (s : Nat) (E : Hp → List Value → α → Prop) (σ : Hp) (vs : List Value) (xs : List α) : Prop := ∃ p n c, vs = [.slice p n c] ∧ RdS s E σ p n xs

theorem cell_spot {w : World} {a : Addr} {v : Value} (h : w.cell? a = some v) : a.spot = none := by
  unfold World.cell? at h
  split at h
  · split at h
    · cases h
    · rename_i hs; simpa using hs
  · cases h

theorem Rdt.slice {α : Type} {t e : TypeId} {s bs : Nat} {E : Hp → List Value → α → Prop} {I : α → Prop} (ht : P.underlying t = some (.slice e)) (hs : P.cellsOf e = s) (hbs : P.bytesOf e = bs) (hs0 : 0 < s) (hb0 : 0 < bs) (he : Rdt P e E I) :
    Rdt P t (ESl s E) (fun xs => (∀ x ∈ xs, I x) ∧ xs.length * bs ≤ reachBytes) := by
  intro H enc w base sp held fuel cs x h hw
  subst hs hbs
  rcases open_slice ht h with ⟨rfl, rfl⟩ | ⟨a, len, cap, m, n, D, Pl, rfl, hb, hl, hm, hmm, rfl, hi⟩
  · exact ⟨[], ⟨none, 0, 0, rfl, RdS.nil⟩, by simp, by simp⟩
  · have hlm : len ≤ m := by rw [hmm]; split <;> omega
    have hw1 : len * P.bytesOf e ≤ reachBytes := by
      have := hw _ (by simp only [DataW.weights, ht]; exact List.mem_cons_self ..)
      simp only [List.length_map, List.length_range] at this
      exact Nat.le_trans (Nat.mul_le_mul_right _ (by omega)) this
    have hlen : len ≤ reachBytes := Nat.le_trans (Nat.le_mul_of_pos_right _ hb0) hw1
    have hlen62 : len ≤ 4611686018427387904 := Nat.le_trans hlen (by decide)
    have hweight : ∀ i, i < len → ∀ k ∈ (D i).weights P e, k ≤ reachBytes := fun i hi' k hk => hw k (by
      simp only [DataW.weights, ht]
      exact List.mem_cons_of_mem _ (List.mem_append_left _ (weights_mem (List.mem_map.2 ⟨i, List.mem_range.2 hi', rfl⟩) k hk)))
    by_cases h0 : len = 0
    · subst h0
      exact ⟨[], ⟨some a, 0, cap, rfl, RdS.nil⟩, by simp, by simp⟩
    · have hspot : a.spot = none := by
        obtain ⟨cs', hc, _⟩ := hi 0 (by omega)
        obtain ⟨_, hcl, hat⟩ := World.cells?_some hc
        have h1 := hat 0 hs0
        rw [List.getElem?_eq_getElem (by omega)] at h1
        have := cell_spot h1
        simpa [Addr.add] using this
      obtain ⟨b, o, sp'⟩ := a
      simp only at hspot
      subst hspot
      obtain ⟨xs, hr, hI⟩ := RdS.mk' (s := P.cellsOf e) (E := E) (I := I) (σ := full w) (b := b) (o := o) hlen62 (fun i hi' => by
        obtain ⟨cs', hc, ht'⟩ := hi i (by omega)
        obtain ⟨_, hcl, hat⟩ := World.cells?_some hc
        obtain ⟨y, hE, hy⟩ := he ht' (hweight i hi')
        refine ⟨cs', y, hcl, LdL.of fun j v hj => ?_, hE, hy⟩
        have hj' : j < P.cellsOf e := by have := (List.getElem?_eq_some_iff.1 hj).1; omega
        have h1 := hat j hj'
        rw [hj, add_off, add_off] at h1
        exact full_ld h1)
      exact ⟨xs, ⟨some ⟨b, o, none⟩, len, cap, rfl, hr⟩, hI, by rw [hr.1]; exact hw1⟩
end
end Tw
end
section
set_option linter.unusedVariables false
/-! The rows: what is laid, what arguments read as. -/
namespace TwW
open Go Tw Go.RowKit Go.ChangeShapes Go.WideShapes Go.ChangeAt Go.Deep Go.Proofs.Tryz
namespace Rw
open Go.Proofs.YtchjlpgaanjafaaGreatDoor

theorem own : ownKnob prog.godebug = none := by kernel_rfl
theorem laidOut : laidOutB prog = true := by kernel_rfl

/-! A world in which all is laid. -/
def cellsOf : DataW Unit → Array Value
  | .agg l => (l.map fun x => match x with | .lit (.int k z) => Value.int k z | _ => .nilFunc).toArray
  | _ => #[]
def strOf : DataW Unit → Value
  | .iface _ (.ptr (.agg [.lit (.string s)])) => .string ⟨s.toArray⟩
  | _ => .nilFunc
noncomputable def laidWorld (os : Os) : World :=
  let N := (World.settled prog os).heap.size
  let w0 := World.holding prog os ⟨#[.cells #[strOf Rows.laid_strconv_ErrSyntax] 186, .cells #[strOf Rows.laid_strconv_ErrRange] 186], #[], []⟩
  let put (h : Array Obj) (g : Nat) (cs : Array Value) : Array Obj := h.modify g fun
    | .cells _ t frozen => .cells cs t frozen
    | o => o
  let h0 := put (put w0.heap 0 #[.iface 184 (.pointer (some ⟨N, 0, none⟩))]) 1 #[.iface 184 (.pointer (some ⟨N + 1, 0, none⟩))]
  { w0 with heap := put (put (put h0 2 (cellsOf Rows.laid_internal_strconv_uint64pow10)) 4 (cellsOf Rows.laid_math_bits_deBruijn32tab)) 5 (cellsOf Rows.laid_math_bits_deBruijn64tab) }
abbrev Laid : List (String × DataW Unit) := [("math/bits.deBruijn32tab", Rows.laid_math_bits_deBruijn32tab), ("math/bits.deBruijn64tab", Rows.laid_math_bits_deBruijn64tab), ("internal/strconv.uint64pow10", Rows.laid_internal_strconv_uint64pow10), ("strconv.ErrRange", Rows.laid_strconv_ErrRange), ("strconv.ErrSyntax", Rows.laid_strconv_ErrSyntax)]
theorem laid_met (os : Os) (args : Array Value) : laidMet prog Laid ((laidWorld os).forCall (fun _ _ => 0) ⟨#[], args, []⟩).memory :=
  laidMet_of_run' 8 (by kernel_rfl) (by kernel_rfl)

theorem tab_heap {W : World} {cs : Array Value} (h : W.var? prog "internal/strconv.uint64pow10" = some cs) : ∃ T fr, W.heap[2]? = some (.cells cs T fr) := by
  unfold World.var? at h
  rw [show prog.globalNamed "internal/strconv.uint64pow10" = some 2 by kernel_rfl] at h
  simp only [Option.bind_some] at h
  split at h
  · rename_i c T fr hc
    cases h
    exact ⟨T, fr, hc⟩
  · cases h
theorem tb_of {W : World} (h : laidMetH prog Laid W) : Tb (full W) := by
  have h1 : laidMet prog Laid W := h
  have h2 : laidMet prog (("internal/strconv.uint64pow10", Lib.tabData .u64 Lib.pow10Tab) :: [("strconv.ErrRange", Rows.laid_strconv_ErrRange), ("strconv.ErrSyntax", Rows.laid_strconv_ErrSyntax)]) W := laidMet.tail (laidMet.tail h1)
  have h3 := Lib.tabIs_of_head (g := 2) (t := 180) (e := 56) (n := 20) (by kernel_rfl) (by kernel_rfl) underlying180 underlying56 (by kernel_rfl) (by kernel_rfl) h2
  obtain ⟨T, fr, h4⟩ := tab_heap h3
  exact ⟨2, T, fr, by kernel_rfl, h4⟩

/-! What values read as, and how much they are. -/
theorem bulk_pos {H : Type} (d : DataW H) : 1 ≤ Rows.uptoBulk d := by
  cases d with
  | lit l => cases l <;> simp [Rows.uptoBulk]
  | _ => simp [Rows.uptoBulk]
theorem bulk_part {H : Type} {d : DataW H} : ∀ {l : List (DataW H)}, d ∈ l → Rows.uptoBulk d ≤ Rows.uptoBulkAll l
  | x :: l, h => by
    simp only [Rows.uptoBulkAll]
    rcases List.mem_cons.1 h with rfl | h
    · omega
    · have := bulk_part h; omega
theorem bulk_append {H : Type} (l r : List (DataW H)) : Rows.uptoBulkAll (l ++ r) = Rows.uptoBulkAll l + Rows.uptoBulkAll r := by
  induction l with
  | nil => simp [Rows.uptoBulkAll]
  | cons x l ih => simp only [List.cons_append, Rows.uptoBulkAll, ih]; omega
theorem bulk_len {H : Type} (l : List (DataW H)) : l.length ≤ Rows.uptoBulkAll l := by
  induction l with
  | nil => simp
  | cons x l ih => have := bulk_pos x; simp only [Rows.uptoBulkAll, List.length_cons]; omega

def RdtB {α : Type} (t : TypeId) (E : Hp → List Value → α → Prop) (I : α → Prop) (sz : α → Nat) : Prop :=
  ∀ {H : Type} {enc : TypeId × Value → H} {w : World} {base : Nat} {sp : Nat → Bool} {held : Bool} {fuel : Nat} {cs : List Value} {x : DataW H × List MemPlace},
    DataW.trod enc prog w base sp held fuel t cs = some x → Rows.uptoBulk x.1 ≤ 1048576 → ∃ y, E (full w) cs y ∧ I y ∧ sz y ≤ Rows.uptoBulk x.1

theorem RdtB.int {t : TypeId} {k : IntKind} (ht : prog.underlying t = some (.int k)) : RdtB t (EInt k) (fun x => (Lit.int k x).wf = true) (fun _ => 1) := fun h _ => by
  obtain ⟨n, rfl, rfl, hw⟩ := DataW.trod_int ht h
  exact ⟨n, rfl, hw, by simp [Rows.uptoBulk]⟩
def EBo (_ : Hp) (vs : List Value) (b : Bool) : Prop := vs = [.bool b]
theorem RdtB.bool {t : TypeId} (ht : prog.underlying t = some .bool) : RdtB t EBo (fun _ => True) (fun _ => 1) := fun h _ => by
  obtain ⟨n, rfl, rfl⟩ := DataW.trod_bool ht h
  exact ⟨n, rfl, trivial, by simp [Rows.uptoBulk]⟩

theorem mkB {α : Type} {s : Nat} {E : Hp → List Value → α → Prop} {I : α → Prop} {sz : α → Nat} {σ : Hp} {b o : Nat} {H : Type} {D : Nat → DataW H} : ∀ {n : Nat}, n ≤ 4611686018427387904 → (∀ i, i < n → ∃ vs x, vs.length = s ∧ LdL σ b (o + i * s) vs ∧ E σ vs x ∧ I x ∧ sz x ≤ Rows.uptoBulk (D i)) →
    ∃ xs, RdS s E σ (some ⟨b, o, none⟩) n xs ∧ (∀ x ∈ xs, I x) ∧ (xs.map sz).sum ≤ Rows.uptoBulkAll ((List.range n).map D)
  | 0, _, _ => ⟨[], RdS.nil, by simp, by simp⟩
  | n + 1, hn, h => by
    obtain ⟨xs, ⟨h1, cs, ⟨hl, _, h2⟩, h3⟩, hI, hs⟩ := mkB (n := n) (D := D) (by omega) (fun i hi => h i (by omega))
    obtain ⟨vs, x, hv, hld, hE, hx, hz⟩ := h n (by omega)
    have hcs : LdL σ b o cs := by
      rcases h2 with rfl | ⟨b', o', hp, hl'⟩
      · have : cs = [] := List.eq_nil_of_length_eq_zero (by simpa using hl)
        subst this; trivial
      · cases hp; exact hl'
    refine ⟨xs ++ [x], ⟨by simp [h1], cs ++ vs, ⟨by rw [List.length_append, hl, hv, Nat.add_mul]; omega, hn, .inr ⟨b, o, rfl, hcs.snoc (by rw [hl]; exact hld)⟩⟩, h3.snoc hv hE⟩, fun y hy => ?_, ?_⟩
    · rcases List.mem_append.1 hy with hy | hy
      · exact hI y hy
      · simp at hy; subst hy; exact hx
    · rw [List.range_succ, List.map_append, List.map_append, bulk_append, List.sum_append]
      simp only [List.map_cons, List.map_nil, List.sum_cons, List.sum_nil, Rows.uptoBulkAll]
      omega

def ESc {α : Type} (s : Nat) (E : Hp → List Value → α → Prop) (σ : Hp) (vs : List Value) (xs : List α) : Prop := ∃ p n c, vs = [.slice p n c] ∧ n ≤ c ∧ RdS s E σ p n xs

theorem RdtB.slice {α : Type} {t e : TypeId} {s : Nat} {E : Hp → List Value → α → Prop} {I : α → Prop} {sz : α → Nat} (ht : prog.underlying t = some (.slice e)) (hs : prog.cellsOf e = s) (hs0 : 0 < s) (he : RdtB e E I sz) :
    RdtB t (ESc s E) (fun xs => ∀ x ∈ xs, I x) (fun xs => (xs.map sz).sum + 1) := by
  intro H enc w base sp held fuel cs x h hw
  subst hs
  rcases open_slice ht h with ⟨rfl, rfl⟩ | ⟨a, len, cap, m, n, D, Pl, rfl, hb, hl, hm, hmm, rfl, hi⟩
  · exact ⟨[], ⟨none, 0, 0, rfl, Nat.le_refl _, RdS.nil⟩, by simp, by simp [Rows.uptoBulk]⟩
  · have hlm : len ≤ m := by rw [hmm]; split <;> omega
    have hbk : Rows.uptoBulkAll ((List.range len).map D) + 1 ≤ Rows.uptoBulk (DataW.slice ((List.range len).map D) ((List.range (m - len)).map fun j => D (len + j))) := by
      simp only [Rows.uptoBulk]; omega
    have hlen := bulk_len ((List.range len).map D)
    rw [List.length_map, List.length_range] at hlen
    have hwD : ∀ i, i < len → Rows.uptoBulk (D i) ≤ 1048576 := fun i hi' => by
      have := bulk_part (List.mem_map.2 ⟨i, List.mem_range.2 hi', rfl⟩ : D i ∈ (List.range len).map D)
      simp only at hw
      omega
    by_cases h0 : len = 0
    · subst h0
      exact ⟨[], ⟨some a, 0, cap, rfl, Nat.zero_le _, RdS.nil⟩, by simp, by simp only [Rows.uptoBulk, List.map_nil, List.sum_nil]; omega⟩
    · have hspot : a.spot = none := by
        obtain ⟨cs', hc, _⟩ := hi 0 (by omega)
        obtain ⟨_, hcl, hat⟩ := World.cells?_some hc
        have h1 := hat 0 hs0
        rw [List.getElem?_eq_getElem (by omega)] at h1
        have := cell_spot h1
        simpa [Addr.add] using this
      obtain ⟨b, o, sp'⟩ := a
      simp only at hspot
      subst hspot
      obtain ⟨xs, hr, hI, hz⟩ := mkB (s := prog.cellsOf e) (E := E) (I := I) (sz := sz) (σ := full w) (b := b) (o := o) (D := D) (n := len) (by simp only at hw; omega) (fun i hi' => by
        obtain ⟨cs', hc, ht'⟩ := hi i (by omega)
        obtain ⟨_, hcl, hat⟩ := World.cells?_some hc
        obtain ⟨y, hE, hy, hyz⟩ := he ht' (hwD i hi')
        refine ⟨cs', y, hcl, LdL.of fun j v hj => ?_, hE, hy, hyz⟩
        have hj' : j < prog.cellsOf e := by have := (List.getElem?_eq_some_iff.1 hj).1; omega
        have h1 := hat j hj'
        rw [hj, add_off, add_off] at h1
        exact full_ld h1)
      exact ⟨xs, ⟨some ⟨b, o, none⟩, len, cap, rfl, hl, hr⟩, hI, by simp only at hz hbk ⊢; omega⟩

theorem wf8 {x : Int} (h : (Lit.int .u8 x).wf = true) : 0 ≤ x ∧ x < 256 := by
  simp [Lit.wf, IntKind.min, IntKind.max, IntKind.signed, IntKind.bits] at h
  omega

theorem rd_by : RdtB 23 EBy By8 (fun xs => xs.length + 1) := by
  have h : RdtB 23 (ESc 1 (EInt .u8)) (fun xs => ∀ x ∈ xs, (Lit.int .u8 x).wf = true) (fun xs => (xs.map fun _ => 1).sum + 1) := RdtB.slice (s := 1) (sz := fun _ => 1) underlying23 (by kernel_rfl) (by decide) (RdtB.int underlying5)
  intro H enc w base sp held fuel cs x ht hw
  obtain ⟨y, ⟨p, n, c, e, hc, hr⟩, hI, hz⟩ := h ht hw
  refine ⟨y, ⟨p, n, c, e, hc, hr⟩, fun a ha => wf8 (hI a ha), ?_⟩
  have : ∀ l : List Int, (l.map fun _ => 1).sum = l.length := fun l => by induction l with
    | nil => rfl
    | cons a l ih => simp; omega
  have hz' : (y.map fun _ => 1).sum + 1 ≤ Rows.uptoBulk x.1 := hz
  rw [this] at hz'
  exact hz'
theorem rd_LL : RdtB 22 (ESc 1 EBy) (fun xs => ∀ x ∈ xs, By8 x) (fun xs => (xs.map fun x => x.length + 1).sum + 1) :=
  RdtB.slice (s := 1) underlying22 (by kernel_rfl) (by decide) rd_by
theorem rd_bo : RdtB 46 (ESc 1 EBo) (fun xs => ∀ x ∈ xs, True) (fun xs => (xs.map fun _ => 1).sum + 1) :=
  RdtB.slice (s := 1) underlying46 (by kernel_rfl) (by decide) (RdtB.bool underlying4)

theorem ch_bo {σ : Hp} : ∀ {cs : List Value} {xs : List Bool}, Ch 1 EBo σ cs xs → cs = xs.map .bool := by
  rintro cs xs ⟨h1, h2⟩
  refine List.ext_getElem? fun i => ?_
  rw [List.getElem?_map]
  cases hx : xs[i]? with
  | none =>
    have := List.getElem?_eq_none_iff.1 hx
    simp only [Option.map_none]
    exact List.getElem?_eq_none_iff.2 (by omega)
  | some x =>
    have := h2 i x hx
    simp only [EBo] at this
    have h3 := congrArg (·[0]?) this
    simp at h3
    simpa using h3

section
variable {H : Type} {enc : TypeId × Value → H} {W : World} {base : Nat} {v : Value} {d : DataW H} {ps : List MemPlace} {r : Reach}
set_option maxRecDepth 100000 in
/-- Records that come in. -/
theorem open_LL (hv : Value.okWide prog W r base 22 v) (h : DataW.Trod enc prog W 0 (fun _ => true) true 22 v d ps) (hw : Rows.uptoBulk d ≤ 1048576) :
    ∃ p n c xs, v = .slice p n c ∧ RdLL (full W) p n xs ∧ (∀ x ∈ xs, By8 x) ∧ (xs.map fun x => x.length + 1).sum + 1 ≤ Rows.uptoBulk d := by
  obtain ⟨a, l, c, rfl⟩ := okWide_slice underlying22 hv
  obtain ⟨fuel, hf⟩ := h
  obtain ⟨xs, ⟨p, n, c', e, _, hr⟩, hI, hz⟩ := rd_LL hf hw
  have e' : [Value.slice a l c] = [.slice p n c'] := by simpa [Value.cells] using e
  cases e'
  exact ⟨a, l, c, xs, rfl, hr, hI, hz⟩
set_option maxRecDepth 100000 in
theorem open_by (hv : Value.okWide prog W r base 23 v) (h : DataW.Trod enc prog W 0 (fun _ => true) true 23 v d ps) (hw : Rows.uptoBulk d ≤ 1048576) :
    ∃ p n c xs, v = .slice p n c ∧ n ≤ c ∧ RdI .u8 (full W) p n xs ∧ By8 xs ∧ xs.length + 1 ≤ Rows.uptoBulk d := by
  obtain ⟨a, l, c, rfl⟩ := okWide_slice underlying23 hv
  obtain ⟨fuel, hf⟩ := h
  obtain ⟨xs, ⟨p, n, c', e, hc, hr⟩, hI, hz⟩ := rd_by hf hw
  have e' : [Value.slice a l c] = [.slice p n c'] := by simpa [Value.cells] using e
  cases e'
  exact ⟨a, l, c, xs, rfl, hc, hr, hI, hz⟩
set_option maxRecDepth 100000 in
theorem open_bo (hv : Value.okWide prog W r base 46 v) (h : DataW.Trod enc prog W 0 (fun _ => true) true 46 v d ps) (hw : Rows.uptoBulk d ≤ 1048576) :
    ∃ p n c bs, v = .slice p n c ∧ RdBo (full W) p n bs := by
  obtain ⟨a, l, c, rfl⟩ := okWide_slice underlying46 hv
  obtain ⟨fuel, hf⟩ := h
  obtain ⟨xs, ⟨p, n, c', e, _, hr⟩, hI, hz⟩ := rd_bo hf hw
  have e' : [Value.slice a l c] = [.slice p n c'] := by simpa [Value.cells] using e
  cases e'
  obtain ⟨_, cs, h1, h2⟩ := hr
  rw [ch_bo h2] at h1
  exact ⟨a, l, c, xs, rfl, h1⟩
end

theorem law_of {f : FuncId} {fn : Func} {s : ChangeSpec} {H : Type} {enc : TypeId × Value → H} {W : World} {args : Array Value} {ds gs : List (DataW H)} {before : List MemPlace} (hr : (fn.params.toList.all fun t => prog.readableRec t && Nat.blt t prog.types.size) = true)
    (hrt : fn.resultTypes = #[4]) (hv : s.vars = []) (hfn : (s.fn H (ds ++ gs)).results = [.lit (.bool true)] ∧ (s.fn H (ds ++ gs)).args = ds ∧ (s.fn H (ds ++ gs)).vars = [])
    (hW : DataW.Whole enc prog fn.params.toList s.vars false W args.toList ds gs before) (h : Lawful prog f args W) :
    Calls prog f args W fun e W' => ∃ v, e = .returned v ∧ s.post enc prog fn false true false false W args v W' :=
  h.calls.mono fun e W' ⟨he, hb⟩ => ⟨_, he, law_post laidOut hr hrt underlying4 hv hfn hW hb⟩

theorem sum_len {α : Type} (l : List (List α)) : l.length ≤ (l.map fun x => x.length + 1).sum := by
  induction l with
  | nil => simp
  | cons a l ih => simp; omega
end Rw
end TwW
end
section
set_option linter.unusedVariables false
/-! Two logs over a disk; a cut that the disk refuses; names. -/
namespace TwW
open Go Tw Go.RowKit Go.Proofs.Tryz

theorem refName_spec {R : Ending → Hp → Prop} {σ : Hp} {s : ByteArray} (h : R (.returned (.bool (nameOk s))) σ) : Spec prog ref6_Name.fid #[.string s] σ R := by
  refine ref6_Name.start ⟨fun h0 => ?_, fun h0 => ⟨fun h1 => ?_, fun h1 => ?_⟩⟩
  · have : nameOk s = false := by
      have : ¬ 0 < s.size := by omega
      simp only [nameOk, decide_eq_false this, Bool.false_and]
    rwa [this] at h
  · have : nameOk s = false := by
      have : ¬ s.size ≤ 64 := by omega
      simp only [nameOk, decide_eq_false this, Bool.and_false, Bool.false_and]
    rwa [this] at h
  · have hs0 : 0 < s.size := by omega
    have hs1 : s.size ≤ 64 := by omega
    have hsz : s.data.toList.length = s.size := rfl
    suffices H : ∀ d k : Nat, s.size - k = d → k ≤ s.size → (s.data.toList.take k).all okc = true → ref6_Name.pt17 R s k σ from H s.size 0 rfl (Nat.zero_le _) rfl
    intro d
    induction d with
    | zero =>
      intro k hd hk hall
      rw [List.take_of_length_le (by omega)] at hall
      have hn : nameOk s = true := by simp only [nameOk, hall, decide_eq_true hs0, decide_eq_true hs1, Bool.and_true]
      rw [hn] at h
      exact ref6_Name.pt17_of ⟨fun hlt => by omega, fun _ => h⟩
    | succ d ih =>
      intro k hd hk hall
      have hk' : k < s.size := by omega
      obtain ⟨u, hu⟩ : ∃ u, s.data.toList[k]? = some u := ⟨_, List.getElem?_eq_getElem (by omega)⟩
      have hu' : s.data[Int.toNat (k : Int)]? = some u := by simpa using hu
      have hi : I64 ((k : Int) + 1) := by unfold I64; omega
      have step : okc u = true → ref6_Name.pt17 R s ((k : Int) + 1) σ := fun hc => ih (k + 1) (by omega) (by omega) (by rw [take_succ' hu, List.all_append, hall]; simpa using hc)
      have bad : okc u = false → R (.returned (.bool false)) σ := fun hc => by
        have : nameOk s = false := by
          have : s.data.toList.all okc = false := by
            rw [List.all_eq_false]
            exact ⟨u, List.mem_of_getElem? hu, by simp [hc]⟩
          simp [nameOk, this]
        rwa [this] at h
      have e1 : (okc u = true) ↔ ((97 ≤ u.toNat ∧ u.toNat ≤ 122) ∨ (48 ≤ u.toNat ∧ u.toNat ≤ 57) ∨ u.toNat = 47 ∨ u.toNat = 46 ∨ u.toNat = 45) := by
        simp [okc, or_assoc]
      have good : ((97 ≤ u.toNat ∧ u.toNat ≤ 122) ∨ (48 ≤ u.toNat ∧ u.toNat ≤ 57) ∨ u.toNat = 47 ∨ u.toNat = 46 ∨ u.toNat = 45) → I64 ((k : Int) + 1) ∧ ref6_Name.pt17 R s ((k : Int) + 1) σ := fun hc => ⟨hi, step (e1.2 hc)⟩
      have bad' : ¬ ((97 ≤ u.toNat ∧ u.toNat ≤ 122) ∨ (48 ≤ u.toNat ∧ u.toNat ≤ 57) ∨ u.toNat = 47 ∨ u.toNat = 46 ∨ u.toNat = 45) → R (.returned (.bool false)) σ := fun hc => bad (by
        cases ho : okc u with
        | false => rfl
        | true => exact absurd (e1.1 ho) hc)
      clear step bad e1 h ih
      refine ref6_Name.pt17_of ⟨fun hlt => ⟨u, by omega, hu', ?_⟩, fun hge => by omega⟩
      generalize u.toNat = n at good bad'
      repeat' (first | refine ⟨fun _ => ?_, fun _ => ?_⟩ | exact good (by omega) | exact bad' (by omega))

section
variable {σ τ ρ : Hp} {d b b1 b2 : Nat} {D : Dk} {S : List Nat} {W W1 W2 : Wl} {R : Ending → Hp → Prop}

/-! A cut that the disk refuses -/
theorem write_full {f1 f2 f3 : Nat} {c1 c2 c3 : Array Value} {code : Int} (hd : DiskAt σ d D S) (hup : D.up = true) (e1 : Enters prog f1) (hc : code ≠ 0)
    (h1 : ∀ R : Ending → Hp → Prop, R (.returned (.int .i64 code)) σ → Spec prog f1 c1 σ R) (hR : R (.returned (.int .i64 code)) σ) :
    Spec prog disk_Disk_write.fid #[.pointer (some ⟨d, 0, none⟩), .func (.func f1) #[] c1, .func (.func f2) #[] c2, .func (.func f3) #[] c3] σ R := by
  obtain ⟨m, cl, rows, T, a, b, e, hd⟩ := hd
  obtain ⟨dfs, dup, darm, dcnt⟩ := D
  simp only at hup
  subst hup
  refine disk_Disk_write.start ⟨d, 0, rfl, true, ld_of hd.obj rfl, fun h => by simp at h, fun _ => ⟨f1, #[], c1, rfl, e1, ?_⟩⟩
  simp only [Array.empty_append]
  exact h1 _ ⟨code, rfl, fun _ => hR, fun h => absurd hc h⟩
theorem append2_full {s : ByteArray} {p : Option Addr} {n c b0 b1 b2 : Nat} (hd : DiskAt σ d D S) (h0 : (σ.off S) b0 = some (.cells #[.pointer (some ⟨d, 0, none⟩)] 24 (0, 0))) (h1 : (σ.off S) b1 = some (.cells #[.string s] 9 (0, 0)))
    (h2 : (σ.off S) b2 = some (.cells #[.slice p n c] 23 (0, 0))) (hn : nameOk s = true) (hc : D.cnt < 1048576) (hf : D.files s = none) (hlen : 4194304 < n) (h : R (.returned (.int .i64 63)) σ) :
    Spec prog disk_Disk_Append_2.fid #[.pointer (some ⟨b1, 0, none⟩), .pointer (some ⟨b0, 0, none⟩), .pointer (some ⟨b2, 0, none⟩)] σ R := by
  obtain ⟨m, cl, rows, T, a, b, e, hd⟩ := hd
  have h0' := Hp.off_some.1 h0
  have h1' := Hp.off_some.1 h1
  have h2' := Hp.off_some.1 h2
  refine disk_Disk_Append_2.start ⟨s, ld_of h1'.2 rfl, name_spec ⟨_, rfl, fun hf => (by rw [hn] at hf; cases hf), fun _ => ⟨_, ld_of h0'.2 rfl, d, 0, rfl, some m, ld_of hd.obj rfl, s, ld_of h1'.2 rfl, hd.look (fun _ hfs => ⟨none, rfl, fun _ => ?_, fun hh => by simp at hh⟩) fun r1 r r2 hrows hname hfs => (by rw [hf] at hfs; cases hfs)⟩⟩⟩
  exact ⟨_, ld_of h0'.2 rfl, d, 0, rfl, some m, ld_of hd.obj rfl, _, len_yf hd.map, fun hh => h, fun _ => ⟨p, n, c, ld_of h2'.2 rfl, fun _ => h, fun hh => absurd (by omega) hh⟩⟩
theorem append_full {s : ByteArray} {p : Option Addr} {n c : Nat} (hd : DiskAt σ d D S) (hup : D.up = true) (hn : nameOk s = true) (hc : D.cnt < 1048576) (hf : D.files s = none) (hlen : 4194304 < n)
    (hR : ∀ σ', DiskAt σ' d D S → Ext (σ.off S) (σ'.off S) → R (.returned (.int .i64 63)) σ') : Spec prog disk_Disk_Append.fid #[.pointer (some ⟨d, 0, none⟩), .string s, .slice p n c] σ R := by
  refine disk_Disk_Append.start fun b3 hb3 b4 hb4 b5 hb5 => ?_
  obtain ⟨q3, d3, x3⟩ := box_off (o := .cells #[.pointer (some ⟨d, 0, none⟩)] 24 (0, 0)) hd hb3
  obtain ⟨q4, d4, x4⟩ := box_off (o := .cells #[.string s] 9 (0, 0)) d3 hb4
  obtain ⟨q5, d5, x5⟩ := box_off (o := .cells #[.slice p n c] 23 (0, 0)) d4 hb5
  have q3' := x5 _ _ (x4 _ _ q3)
  have q4' := x5 _ _ q4
  exact ⟨_, ld_of (Hp.off_some.1 q3').2 rfl, write_full d5 hup en53 (by decide) (fun R h => append2_full d5 q3' q4' q5 hn hc hf hlen h) ⟨63, rfl, hR _ d5 (x3.trans (x4.trans x5))⟩⟩
theorem must63 {K : Hp → Prop} (h : R (.panicked (pan 63)) σ) : Spec prog wal_must.fid #[.int .i64 63] σ (Cont R fun v σ1 => v = .tuple #[] ∧ K σ1) :=
  wal_must.start ⟨fun _ => h, fun hh => absurd (by decide) hh⟩

theorem cut1_full {b0 b1 : Nat} {p : Option Addr} {n c : Nat} {keep rc : Recs} {sg : Sg} {safe : Nat} (h : LogU σ d b D W τ) (ht : Tb τ) (t0 : τ b0 = some (.cells #[.pointer (some ⟨b, 0, none⟩)] 26 (0, 0))) (t1 : τ b1 = some (.cells #[.slice p n c] 22 (0, 0)))
    (hx : RdLL τ p n keep) (hk : Short keep) (hlen : 4194304 < (joinF keep).length) (hlen2 : (joinF keep).length ≤ 70368744177664) (hup : D.up = true) (hcnt : D.cnt < 1048576) (hd : dirOk W.dir = true) (hok : LogOk D.files D.cnt W rc sg safe) (hnew : D.files (fnew W.dir) = none)
    (hR : ∀ σ', LogU σ' d b D W τ → R (.panicked (pan 63)) σ') : Spec prog wal_Wal_Cut_1.fid #[.pointer (some ⟨b0, 0, none⟩), .pointer (some ⟨b1, 0, none⟩)] σ R := by
  have hr := h.rd
  have hxe := h.ext
  have hds : W.dir.size ≤ 32 := by simp [dirOk] at hd; exact hd.2
  have hopn := hok.opn
  refine wal_Wal_Cut_1.start ⟨_, ld_of (hxe _ _ t0) rfl, _, ld_of (hxe _ _ t0) rfl, _, ld_of (hxe _ _ t0) rfl, b, 0, rfl, W.opn, hr.opn, p, n, c, ld_of (hxe _ _ t1) rfl, ?_⟩
  refine fileW_spec (kind := kc) hr.dir hds (.inl rfl) (by omega) (ht.mono hxe) fun σ1 hx1 => ⟨_, rfl, Kp.of_ext hx1, ?_⟩
  have h1 := h.mono hx1
  have hw : LogF σ1 d b W.dir := ⟨h1.rd.ptr, h1.rd.dir⟩
  have fr : ∀ {σ' : Hp} {K : Ending → Hp → Prop}, Ext σ1 σ' → K (.returned (.string (fnew W.dir))) σ' → Spec prog wal_Wal_fresh.fid #[.pointer (some ⟨b, 0, none⟩)] σ' K := fun hl hk => fresh_spec (dir := W.dir) (hl.ld hw.dir) hds hk
  refine wal_Wal_replace.start ⟨b, 0, rfl, _, hw.ptr, fr (Ext.refl _) ⟨_, rfl, fun _ _ _ hb => hb, join_spec (RdLL.mono h1.ext hx) hk hlen2 fun p' n' c' σ2 ho hx2 => ⟨p', n', c', rfl, Kp.of_ext hx2, ?_⟩⟩⟩
  have hfl : (joinF keep).length = n' := by have := ho.1; simpa using this
  have h2 := h1.mono hx2
  obtain ⟨Sd, Sw, q, cc, T, g1, g2, g3⟩ := h2
  refine append_full g1 hup (fnew_ok hd) hcnt hnew (by omega) fun σ3 g4 x4 => ⟨63, rfl, must63 (hR σ3 (LogU.step g2 g3 g4 x4))⟩

theorem wcut_full {p : Option Addr} {n c : Nat} {keep rc : Recs} {sg : Sg} {safe : Nat} (h : LogU σ d b D W τ) (ht : Tb τ) (hx : RdLL τ p n keep) (hk : Short keep) (hlen : 4194304 < (joinF keep).length) (hlen2 : (joinF keep).length ≤ 70368744177664) (hup : D.up = true) (hcnt : D.cnt < 1048576) (hd : dirOk W.dir = true) (hok : LogOk D.files D.cnt W rc sg safe) (hnew : D.files (fnew W.dir) = none)
    (hR : ∀ σ', LogU σ' d b D W τ → R (.returned (.int .i64 63)) σ') : Spec prog wal_Wal_Cut.fid #[.pointer (some ⟨b, 0, none⟩), .slice p n c] σ R := by
  have hkl : keep.length = n := hx.1
  refine wal_Wal_Cut.start fun b2 hb2 b3 hb3 => ?_
  obtain ⟨τ2, h2, x2, t2⟩ := h.box (o := .cells #[.pointer (some ⟨b, 0, none⟩)] 26 (0, 0)) hb2
  obtain ⟨τ3, h3, x3, t3⟩ := h2.box (o := .cells #[.slice p n c] 22 (0, 0)) hb3
  have hxx := x2.trans x3
  refine ⟨p, n, c, ld_of (h3.ext _ _ t3) rfl, ?_⟩
  have hx3 := hx.mono hxx
  suffices H : ∀ m k : Nat, n - k = m → k ≤ n → wal_Wal_Cut.pt8 R b2 b3 p n c n k _ from H n 0 rfl (Nat.zero_le _)
  intro m
  induction m with
  | zero =>
    intro k hm hk'
    refine wal_Wal_Cut.pt8_of ⟨fun hh => by omega, fun _ => caught_spec en54 ?_⟩
    exact cut1_full h3 (ht.mono hxx) (x3 _ _ t2) t3 hx3 hk hlen hlen2 hup hcnt hd hok hnew fun σ' h' => .inr ⟨63, rfl, _, rfl, hR σ' (h'.weak hxx)⟩
  | succ m ih =>
    intro k hm hk'
    obtain ⟨x, hxk⟩ : ∃ x, keep[k]? = some x := ⟨_, List.getElem?_eq_getElem (by omega)⟩
    obtain ⟨b11, o11, p12, n12, c12, rfl, hl, _, hrd⟩ := (hx3.mono h3.ext).at hxk
    have hn12 : x.length = n12 := hrd.1
    have hnb := hx.big
    have hs := hk x (List.mem_of_getElem? hxk)
    exact wal_Wal_Cut.pt8_of ⟨fun _ => ⟨b11, o11, rfl, by omega, p12, n12, c12, by simpa using hl, fun hh => by omega, fun hh => ⟨by unfold I64; omega, ih (k + 1) (by omega) (by omega)⟩⟩, fun hh => by omega⟩

/-! Two logs -/
/-- A log that lies beside. -/
def Beside (τ1 : Hp) (b d : Nat) (W : Wl) (τ : Hp) : Prop := ∃ S p c T, WalAt τ1 b d W S p c T ∧ Ext τ (τ1.off S)
theorem Beside.mono {τ1 τ2 : Hp} (h : Beside τ1 b d W τ) (hx : Ext τ1 τ2) : Beside τ2 b d W τ := let ⟨S, p, c, T, h1, h2⟩ := h; ⟨S, p, c, T, h1.mono hx, h2.trans (hx.off S)⟩
theorem Beside.ext {τ1 : Hp} (h : Beside τ1 b d W τ) : Ext τ τ1 := let ⟨S, p, c, T, h1, h2⟩ := h; h2.trans (Ext.of_off _ _)
theorem LogU.swap {τ1 : Hp} (h : LogU σ d b1 D W1 τ1) (hb : Beside τ1 b2 d W2 τ) : ∃ τ2, LogU σ d b2 D W2 τ2 ∧ Beside τ2 b1 d W1 τ := by
  obtain ⟨τ', S1, p1, c1, T1, hd, w1, x1⟩ := h.opened
  obtain ⟨S2, p2, c2, T2, w2, x2⟩ := hb
  have w2' := w2.mono x1
  refine ⟨τ'.off S2, LogU.close hd (w2'.mono (Ext.of_off _ _)), S1, p1, c1, T1, w1.loc fun k hk => Hp.off_out fun hk2 => ?_, ?_⟩
  · exact w2'.known k hk2 (Hp.off_in hk)
  · rw [Hp.off_comm]; exact x2.trans (x1.off S2)

/-- A log's files, when another folder's change. -/
theorem LogOk.beside {fs gs : Fs} {cnt cnt' safe : Nat} {rc : Recs} {sg : Sg} {dir : ByteArray} (h : LogOk fs cnt W rc sg safe) (out : Out dir fs gs) (hap : ∀ s, begins s (dir ++ slash) = true → begins s (W.dir ++ slash) = true → False) (hc : cnt ≤ cnt') : LogOk gs cnt' W rc sg safe := by
  have key : ∀ s, begins s (W.dir ++ slash) = true → gs s = fs s := fun s hs => out.out s (by
    cases hb : begins s (dir ++ slash) with
    | false => rfl
    | true => exact (hap s hb hs).elim)
  refine h.congr hc (fun _ => key _ begins_file) (fun x _ => key _ begins_file) fun s hs => ?_
  have num0 : ∀ kind, begins s (dir ++ slash) = true → numOf W.dir kind s = 0 := fun kind hb => by
    rcases Nat.eq_zero_or_pos (numOf W.dir kind s) with h0 | h0
    · exact h0
    · exact (hap s hb (begins_num h0)).elim
  rcases out.new s hs with h1 | h1 | h1 | h1
  · exact .inl h1
  · exact .inr ⟨num0 kc (begins_num h1), num0 ks (begins_num h1)⟩
  · exact .inr ⟨num0 kc (begins_num h1), num0 ks (begins_num h1)⟩
  · subst h1; exact .inr ⟨num0 kc begins_new, num0 ks begins_new⟩
end
end TwW
end
section
set_option linter.unusedVariables false
/-! WalFolders. -/
namespace TwW
open Go Tw Go.RowKit Go.Proofs.Tryz

def dyz : ByteArray := ⟨#[121, 47, 122]⟩
theorem dyz_ok : dirOk dyz = true := by decide
theorem begins_head {s p : ByteArray} {u : UInt8} (h : begins s p = true) (hp : p.data.toList[0]? = some u) : s.data.toList[0]? = some u := by
  simp only [begins, decide_eq_true_eq] at h
  obtain ⟨t, ht⟩ := h
  rw [← ht, List.getElem?_append_left (List.getElem?_eq_some_iff.1 hp).1]; exact hp
theorem apart_xy (s : ByteArray) (h : begins s (dx ++ slash) = true) (g : begins s (dyz ++ slash) = true) : False := by
  have h1 := begins_head h (u := 120) rfl
  have h2 := begins_head g (u := 121) rfl
  rw [h1] at h2; cases h2

theorem joinF_bulk : ∀ {rs : Recs}, Short rs → (joinF rs).length ≤ 8 * (rs.map fun r => r.length + 1).sum
  | [], _ => by simp [joinF]
  | r :: rs, h => by
    rw [joinF_cons, List.length_append]
    have h1 := frame_small (h r (by simp))
    have h2 := joinF_bulk (rs := rs) fun x hx => h x (by simp [hx])
    rw [List.map_cons, List.sum_cons]
    omega

section
variable {σ τ ρ : Hp} {d b b1 b2 : Nat} {D : Dk} {W W1 W2 : Wl} {R : Ending → Hp → Prop} {p0 p1 : Option Addr} {n0 c0 n1 c1 : Nat} {ra rb : Recs} {s2 : ByteArray}

/-- The two logs of the law. -/
structure Two (D : Dk) (W1 W2 : Wl) (ta tb : Recs) : Prop where
  up : D.up = true
  arm : D.armed = false
  d1 : W1.dir = dx
  d2 : W2.dir = dyz
  l1 : ∃ sg sf, LogOk D.files D.cnt W1 [] sg sf ∧ toldS sg = ta
  l2 : ∃ sg sf, LogOk D.files D.cnt W2 [] sg sf ∧ toldS sg = tb
  new : D.files (fnew dx) = none

theorem fnew_apart {fs gs : Fs} (h : Out dyz fs gs) : gs (fnew dx) = fs (fnew dx) := h.out _ (by
  cases hb : begins (fnew dx) (dyz ++ slash) with
  | false => rfl
  | true => exact (apart_xy _ begins_new hb).elim)

/-- One step of the law's loop, over the first log: or behind its records. -/
theorem two_a {ta tb : Recs} {x : List Int} {A K : Hp → Prop} {p : Option Addr} {n c : Nat} (ht : Tb ρ) (h : LogU σ d b1 D W1 ρ) (hb : Beside ρ b2 d W2 τ) (ho : Two D W1 W2 ta tb) (hx : RdI .u8 ρ p n x) (h8 : By8 x) (hn : n ≤ 500) (hc : D.cnt < 1048576)
    (hR : ∀ σ' D' W1' ρ', LogU σ' d b1 D' W1' ρ' → Beside ρ' b2 d W2 τ → Ext ρ ρ' → Two D' W1' W2 (ta ++ [x]) tb → D'.cnt = D.cnt + 1 → K σ') :
    Spec prog law0_CopyBytes.fid #[.slice p n c] σ (Cont R fun v σ1 => ∃ p57 : Option Addr, ∃ n57 : Nat, ∃ c57 : Nat, v = (.slice p57 n57 c57) ∧ Spec prog wal_Wal_Append.fid #[.pointer (some ⟨b1, 0, none⟩), .slice p57 n57 c57] σ1 (Cont R fun v_2 σ2 => ∃ x82 : Int, v_2 = .int .i64 x82 ∧ (x82 ≠ 0 → A σ2) ∧ (¬ (x82 ≠ 0) → K σ2))) := by
  have hxl : x.length = n := hx.1
  refine copyBytes_spec (hx.mono h.ext) (by omega) fun p57 c57 σ1 ho1 hx1 => ⟨_, _, _, rfl, ?_⟩
  obtain ⟨ρ1, h1, x1, x1n⟩ := h.grow hx1
  obtain ⟨sg, sf, hok, htold⟩ := ho.l1
  refine wappend_spec h1 (ht.mono x1) ((OwnI.rd ho1).mono x1n) h8 ho.up hc (by rw [ho.d1]; exact dx_ok) hok (fun hh => by omega) fun _ => ⟨fun σ2 D2 W2' sg2 sf2 h2 u2 a2 k2 d2 _ hok2 s2 told2 out2 new2 ch2 _ _ _ => ⟨0, rfl, fun hh => absurd rfl hh, fun _ => ?_⟩, fun hh => by rw [ho.arm] at hh; cases hh⟩
  obtain ⟨sgb, sfb, hokb, htoldb⟩ := ho.l2
  rw [ho.d1] at out2
  refine hR σ2 D2 W2' ρ1 h2 (hb.mono x1) x1 ⟨u2, a2.trans ho.arm, d2.trans ho.d1, ho.d2, ⟨sg2, sf2, hok2, by rw [told2, htold]⟩, ⟨sgb, sfb, hokb.beside out2 (by rw [ho.d2]; exact apart_xy) (by omega), htoldb⟩, ?_⟩ k2
  have := new2; rw [ho.d1] at this; exact this.trans ho.new

theorem two_b {ta tb : Recs} {x : List Int} {A K : Hp → Prop} {p : Option Addr} {n c : Nat} (ht : Tb ρ) (h : LogU σ d b2 D W2 ρ) (hb : Beside ρ b1 d W1 τ) (ho : Two D W1 W2 ta tb) (hx : RdI .u8 ρ p n x) (h8 : By8 x) (hn : n ≤ 500) (hc : D.cnt < 1048576)
    (hR : ∀ σ' D' W2' ρ', LogU σ' d b2 D' W2' ρ' → Beside ρ' b1 d W1 τ → Ext ρ ρ' → Two D' W1 W2' ta (tb ++ [x]) → D'.cnt = D.cnt + 1 → K σ') :
    Spec prog law0_CopyBytes.fid #[.slice p n c] σ (Cont R fun v σ1 => ∃ p57 : Option Addr, ∃ n57 : Nat, ∃ c57 : Nat, v = (.slice p57 n57 c57) ∧ Spec prog wal_Wal_Append.fid #[.pointer (some ⟨b2, 0, none⟩), .slice p57 n57 c57] σ1 (Cont R fun v_2 σ2 => ∃ x82 : Int, v_2 = .int .i64 x82 ∧ (x82 ≠ 0 → A σ2) ∧ (¬ (x82 ≠ 0) → K σ2))) := by
  have hxl : x.length = n := hx.1
  refine copyBytes_spec (hx.mono h.ext) (by omega) fun p57 c57 σ1 ho1 hx1 => ⟨_, _, _, rfl, ?_⟩
  obtain ⟨ρ1, h1, x1, x1n⟩ := h.grow hx1
  obtain ⟨sg, sf, hok, htold⟩ := ho.l2
  refine wappend_spec h1 (ht.mono x1) ((OwnI.rd ho1).mono x1n) h8 ho.up hc (by rw [ho.d2]; exact dyz_ok) hok (fun hh => by omega) fun _ => ⟨fun σ2 D2 W2' sg2 sf2 h2 u2 a2 k2 d2 _ hok2 s2 told2 out2 new2 ch2 _ _ _ => ⟨0, rfl, fun hh => absurd rfl hh, fun _ => ?_⟩, fun hh => by rw [ho.arm] at hh; cases hh⟩
  obtain ⟨sga, sfa, hoka, htolda⟩ := ho.l1
  rw [ho.d2] at out2
  refine hR σ2 D2 W2' ρ1 h2 (hb.mono x1) x1 ⟨u2, a2.trans ho.arm, ho.d1, d2.trans ho.d2, ⟨sga, sfa, hoka.beside out2 (by rw [ho.d1]; exact fun s a b => apart_xy s b a) (by omega), htolda⟩, ⟨sg2, sf2, hok2, by rw [told2, htold]⟩, (fnew_apart out2).trans ho.new⟩ k2


/-- The second log's turn. -/
def folB (R : Ending → Hp → Prop) (p0 : Option Addr) (n0 c0 : Nat) (p1 : Option Addr) (n1 c1 : Nat) (s2 : ByteArray) (q7 q8 q11 : Option Addr) (k : Nat) (σ : Hp) : Prop :=
  ((k : Int) < (n1 : Int) → ∃ (b94 o94 : Nat), p1 = some ⟨b94, o94, none⟩ ∧ ((0 : Int) ≤ k ∧ k < (n1 : Int)) ∧ ∃ p95 : Option Addr, ∃ n95 : Nat, ∃ c95 : Nat, Hp.ld σ ⟨b94, (o94 + Int.toNat k * 1), none⟩ = some (.slice p95 n95 c95) ∧ ((500 : Int) < (n95 : Int) → Spec prog 15 #[] σ (Cont R (fun v_3 σ1_3 => ∃ t110 : Bool, v_3 = (.bool t110) ∧ R (.returned (.bool t110)) σ1_3))) ∧ (¬ ((500 : Int) < (n95 : Int)) → ((0 : Int) ≤ k ∧ k < (n1 : Int)) ∧ ∃ p103 : Option Addr, ∃ n103 : Nat, ∃ c103 : Nat, Hp.ld σ ⟨b94, (o94 + Int.toNat k * 1), none⟩ = some (.slice p103 n103 c103) ∧ Spec prog 14 #[(.slice p103 n103 c103)] σ (Cont R (fun v_3 σ1_3 => ∃ p104 : Option Addr, ∃ n104 : Nat, ∃ c104 : Nat, v_3 = (.slice p104 n104 c104) ∧ Spec prog 13 #[(.pointer q11), (.slice p104 n104 c104)] σ1_3 (Cont R (fun v_4 σ1_4 => ∃ x105 : Int, v_4 = (.int .i64 x105) ∧ ((x105 : Int) ≠ 0 → Spec prog 15 #[] σ1_4 (Cont R (fun v_5 σ1_5 => ∃ t110 : Bool, v_5 = (.bool t110) ∧ R (.returned (.bool t110)) σ1_5))) ∧ (¬ ((x105 : Int) ≠ 0) → I64 (k + 1) ∧ law7_WalFolders.pt23 R p0 n0 c0 ((some ⟨b94, o94, none⟩)) n1 c1 s2 q7 q8 q11 ((k + 1)) σ1_4))))))) ∧ (¬ ((k : Int) < (n1 : Int)) → I64 (k + 1) ∧ law7_WalFolders.pt23 R p0 n0 c0 p1 n1 c1 s2 q7 q8 q11 ((k + 1)) σ)
/-- Behind the cut. -/
def folEnd (R : Ending → Hp → Prop) (p0 : Option Addr) (n0 c0 : Nat) (p1 : Option Addr) (n1 c1 : Nat) (s2 : ByteArray) (q7 : Option Addr) (σ : Hp) : Prop :=
  Spec prog 12 #[(.pointer q7), (.string (ByteArray.mk #[120]))] σ (Cont R (fun v_3 σ1_3 => ∃ q117a : Option Addr, ∃ p117b : Option Addr, ∃ n117b : Nat, ∃ c117b : Nat, ∃ x117c : Int, v_3 = (.tuple #[(.pointer q117a), (.slice p117b n117b c117b), (.int .i64 x117c)]) ∧ Spec prog 12 #[(.pointer q7), (.string (ByteArray.mk #[121, 47, 122]))] σ1_3 (Cont R (fun v_4 σ1_4 => ∃ q123a : Option Addr, ∃ p123b : Option Addr, ∃ n123b : Nat, ∃ c123b : Nat, ∃ x123c : Int, v_4 = (.tuple #[(.pointer q123a), (.slice p123b n123b c123b), (.int .i64 x123c)]) ∧ Spec prog 11 #[] σ1_4 (Cont R (fun v_5 σ1_5 => ∃ q128 : Option Addr, v_5 = (.pointer q128) ∧ Spec prog 12 #[(.pointer q128), (.string s2)] σ1_5 (Cont R (fun v_6 σ1_6 => ∃ q130a : Option Addr, ∃ p130b : Option Addr, ∃ n130b : Nat, ∃ c130b : Nat, ∃ x130c : Int, v_6 = (.tuple #[(.pointer q130a), (.slice p130b n130b c130b), (.int .i64 x130c)]) ∧ ((32 : Int) < ((ByteArray.size s2 : Nat) : Int) → ((x117c : Int) = 0 → ((x123c : Int) = 0 → Spec prog 21 #[(.slice p117b n117b c117b), (.slice p0 n0 c0)] σ1_6 (Cont R (fun v_7 σ1_7 => ∃ t151 : Bool, v_7 = (.bool t151) ∧ (t151 = true → Spec prog 21 #[(.slice p123b n123b c123b), (.slice p1 n1 c1)] σ1_7 (Cont R (fun v_8 σ1_8 => ∃ t156 : Bool, v_8 = (.bool t156) ∧ (t156 = true → ((x130c : Int) = 71 → Spec prog 15 #[] σ1_8 (Cont R (fun v_9 σ1_9 => ∃ t165 : Bool, v_9 = (.bool t165) ∧ R (.returned (.bool t165)) σ1_9))) ∧ (¬ ((x130c : Int) = 71) → R (.returned (.bool false)) σ1_8)) ∧ (t156 = false → R (.returned (.bool false)) σ1_8)))) ∧ (t151 = false → R (.returned (.bool false)) σ1_7)))) ∧ (¬ ((x123c : Int) = 0) → R (.returned (.bool false)) σ1_6)) ∧ (¬ ((x117c : Int) = 0) → R (.returned (.bool false)) σ1_6)) ∧ (¬ ((32 : Int) < ((ByteArray.size s2 : Nat) : Int)) → Spec prog 24 #[(.string s2)] σ1_6 (Cont R (fun v_7 σ1_7 => ∃ t139 : Bool, v_7 = (.bool t139) ∧ ((x117c : Int) = 0 → ((x123c : Int) = 0 → Spec prog 21 #[(.slice p117b n117b c117b), (.slice p0 n0 c0)] σ1_7 (Cont R (fun v_8 σ1_8 => ∃ t151 : Bool, v_8 = (.bool t151) ∧ (t151 = true → Spec prog 21 #[(.slice p123b n123b c123b), (.slice p1 n1 c1)] σ1_8 (Cont R (fun v_9 σ1_9 => ∃ t156 : Bool, v_9 = (.bool t156) ∧ (t156 = true → ((x130c : Int) = 71 → (t139 = false → Spec prog 15 #[] σ1_9 (Cont R (fun v_10 σ1_10 => ∃ t165 : Bool, v_10 = (.bool t165) ∧ R (.returned (.bool t165)) σ1_10))) ∧ (t139 = true → R (.returned (.bool false)) σ1_9)) ∧ (¬ ((x130c : Int) = 71) → (t139 = false → R (.returned (.bool false)) σ1_9) ∧ (t139 = true → Spec prog 15 #[] σ1_9 (Cont R (fun v_10 σ1_10 => ∃ t165 : Bool, v_10 = (.bool t165) ∧ R (.returned (.bool t165)) σ1_10))))) ∧ (t156 = false → R (.returned (.bool false)) σ1_9)))) ∧ (t151 = false → R (.returned (.bool false)) σ1_8)))) ∧ (¬ ((x123c : Int) = 0) → R (.returned (.bool false)) σ1_7)) ∧ (¬ ((x117c : Int) = 0) → R (.returned (.bool false)) σ1_7))))))))))))

theorem fol_end (hr0 : RdLL ρ p0 n0 ra) (hr1 : RdLL ρ p1 n1 rb) (ht : Tb ρ) (hx : Ext τ ρ) (h : DiskU σ d D ρ) (hu : D.up = true) (ha : D.armed = false) (hc : D.cnt + 1 < 1048576) (hna : n0 ≤ 4194304) (hnb : n1 ≤ 4194304)
    (l1 : ∃ rc sg sf, LogOk D.files D.cnt W1 rc sg sf ∧ rc ++ toldS sg = ra) (l2 : ∃ sg sf, LogOk D.files D.cnt W2 [] sg sf ∧ toldS sg = rb) (d1 : W1.dir = dx) (d2 : W2.dir = dyz) (hR : ∀ σ', Ext τ σ' → R (.returned (.bool true)) σ') : folEnd R p0 n0 c0 p1 n1 c1 s2 (some ⟨d, 0, none⟩) σ := by
  have hla : ra.length = n0 := hr0.1
  have hlb : rb.length = n1 := hr1.1
  obtain ⟨rc, sg, sf, hok, htold⟩ := l1
  obtain ⟨sgb, sfb, hokb, htoldb⟩ := l2
  have hop := hok.openOk.ok
  rw [d1, htold] at hop
  refine open_spec h ht hu ha dx_ok (by omega) hop (by omega) fun b3 σ3 W3 rc3 sg3 ρ3 p3 n3 c3 fs3 k3 h3 x3 r3 e3 ok3 told3 out3 _ new3 k3a k3b _ => ⟨_, _, _, _, _, rfl, ?_⟩
  have hopb := (hokb.beside out3 (by rw [d2]; exact apart_xy) k3a).openOk.ok
  rw [d2, List.nil_append, htoldb] at hopb
  refine open_spec h3.disk (ht.mono x3) rfl rfl dyz_ok (by show k3 < _; omega) hopb (by omega) fun b4 σ4 W4 rc4 sg4 ρ4 p4 n4 c4 fs4 k4 h4 x4 r4 e4 ok4 told4 out4 _ new4 k4a k4b _ => ⟨_, _, _, _, _, rfl, ?_⟩
  refine disk_new_spec fun d5 σ5 S5 hd5 hx5 => ⟨_, rfl, ?_⟩
  have h5 : DiskU σ5 d5 ⟨fun _ => none, true, false, 0⟩ σ4 := ⟨S5, hd5, hx5⟩
  have hx4 : Ext ρ σ4 := x3.trans (x4.trans h4.ext)
  have ht4 := ht.mono hx4
  have rr3 := RdLL.mono (x4.trans h4.ext) r3
  have rr4 := RdLL.mono h4.ext r4
  have rr0 := RdLL.mono hx4 hr0
  have rr1 := RdLL.mono hx4 hr1
  have aw : ∀ σ6, Ext σ4 σ6 → Spec prog 15 #[] σ6 (Cont R (fun v_9 σ1_9 => ∃ t165 : Bool, v_9 = (.bool t165) ∧ R (.returned (.bool t165)) σ1_9)) := fun σ6 hx6 => awake_spec (ht4.mono hx6) fun σ' hx' => ⟨_, rfl, hR σ' ((hx.trans hx4).trans (hx6.trans hx'))⟩
  by_cases hs : dirOk s2 = true
  · have hs' := hs
    simp only [dirOk, Bool.and_eq_true, decide_eq_true_eq] at hs'
    refine open_empty h5 ht4 rfl rfl hs (by simp) (fun _ => rfl) fun b6 σ6 W6 ρ6 p6 n6 c6 fs6 cnt6 a1 a2 a3 a4 a5 a6 a7 a8 a9 a10 => ⟨_, _, _, _, _, rfl, fun hh => absurd hs'.2 (by omega), fun _ => refName_spec ⟨_, rfl, fun _ => ⟨fun _ => ?_, fun hh => absurd rfl hh⟩, fun hh => absurd rfl hh⟩⟩
    have hx6 : Ext σ4 σ6 := a2.trans a1.ext
    refine sameLists_spec (RdLL.mono hx6 rr3) (RdLL.mono hx6 rr0) ⟨_, rfl, fun _ => ?_, fun hh => by simp at hh⟩
    refine sameLists_spec (RdLL.mono hx6 rr4) (RdLL.mono hx6 rr1) ⟨_, rfl, fun _ => ⟨fun hh => absurd hh (by decide), fun _ => ⟨fun hh => ?_, fun _ => aw σ6 hx6⟩⟩, fun hh => by simp at hh⟩
    rw [hs'.1] at hh; cases hh
  · have hs2 : dirOk s2 = false := by simpa using hs
    refine open_bad hs2 fun σ6 hx6' => ⟨_, _, _, _, _, rfl, fun _ => ⟨fun _ => ⟨fun _ => ?_, fun hh => absurd rfl hh⟩, fun hh => absurd rfl hh⟩, fun hsz => refName_spec ⟨_, rfl, fun _ => ⟨fun _ => ?_, fun hh => absurd rfl hh⟩, fun hh => absurd rfl hh⟩⟩
    · have hx6 : Ext σ4 σ6 := h5.ext.trans hx6'
      refine sameLists_spec (RdLL.mono hx6 rr3) (RdLL.mono hx6 rr0) ⟨_, rfl, fun _ => ?_, fun hh => by simp at hh⟩
      exact sameLists_spec (RdLL.mono hx6 rr4) (RdLL.mono hx6 rr1) ⟨_, rfl, fun _ => ⟨fun _ => aw σ6 hx6, fun hh => absurd rfl hh⟩, fun hh => by simp at hh⟩
    · have hx6 : Ext σ4 σ6 := h5.ext.trans hx6'
      refine sameLists_spec (RdLL.mono hx6 rr3) (RdLL.mono hx6 rr0) ⟨_, rfl, fun _ => ?_, fun hh => by simp at hh⟩
      refine sameLists_spec (RdLL.mono hx6 rr4) (RdLL.mono hx6 rr1) ⟨_, rfl, fun _ => ⟨fun _ => ⟨fun _ => aw σ6 hx6, fun hh => ?_⟩, fun hh => absurd rfl hh⟩, fun hh => by simp at hh⟩
      exfalso
      exact hs (by simp only [dirOk, hh, Bool.true_and, decide_eq_true_eq]; omega)

theorem fol_pt (ht : Tb τ) (hr0 : RdLL τ p0 n0 ra) (hr1 : RdLL τ p1 n1 rb) (h8a : ∀ r ∈ ra, By8 r) (h8b : ∀ r ∈ rb, By8 r) (hba : (ra.map fun r => r.length + 1).sum ≤ 1048576) (hn : n0 + n1 ≤ 1048573) (hR : ∀ σ', Ext τ σ' → R (.returned (.bool true)) σ') :
    ∀ (m k : Nat) (σ : Hp) (D : Dk) (W1 W2 : Wl) (ρ : Hp), max n0 n1 - k = m → k ≤ max n0 n1 → LogU σ d b1 D W1 ρ → Beside ρ b2 d W2 τ → Two D W1 W2 (ra.take k) (rb.take k) → D.cnt ≤ min k n0 + min k n1 → (∀ r ∈ ra.take k, r.length ≤ 500) →
      law7_WalFolders.pt23 R p0 n0 c0 p1 n1 c1 s2 (some ⟨d, 0, none⟩) (some ⟨b1, 0, none⟩) (some ⟨b2, 0, none⟩) k σ := by
  have hla : ra.length = n0 := hr0.1
  have hlb : rb.length = n1 := hr1.1
  intro m
  induction m with
  | zero =>
    intro k σ D W1 W2 ρ hm hk h hb ho hc hsa
    refine law7_WalFolders.pt23_of ⟨fun hh => (by omega), fun _ => ⟨fun hh => (by omega), fun _ => ?_⟩⟩
    rw [List.take_of_length_le (by omega)] at ho hsa
    rw [List.take_of_length_le (by omega)] at ho
    have hx := hb.ext
    obtain ⟨sg, sf, hok, htold⟩ := ho.l1
    refine copyLists_spec (RdLL.mono (hx.trans h.ext) hr0) (by omega) (fun x hx => by have := hsa x hx; omega) fun p113 c113 σ1 ho1 hx1 => ⟨_, _, _, rfl, ?_⟩
    obtain ⟨ρ1, h1, x1, x1n⟩ := h.grow hx1
    have hcopy : RdLL ρ1 p113 n0 ra := RdLL.mono x1n (OwnL.rd EBy.mono ho1)
    have ht1 : Tb ρ1 := ht.mono (hx.trans x1)
    have hsh : Short ra := fun r hr => by have := hsa r hr; omega
    have hdd : dirOk W1.dir = true := by rw [ho.d1]; exact dx_ok
    have hnew' : D.files (fnew W1.dir) = none := by rw [ho.d1]; exact ho.new
    have hj := joinF_bulk hsh
    have r0 := RdLL.mono (hx.trans x1) hr0
    have r1 := RdLL.mono (hx.trans x1) hr1
    rcases Nat.lt_or_ge 4194304 (joinF ra).length with hbig | hsm
    · refine wcut_full h1 ht1 hcopy hsh hbig (by omega) ho.up (by omega) hdd hok hnew' fun σ2 h2 => ⟨63, rfl, ?_⟩
      exact fol_end (W1 := W1) (W2 := W2) r0 r1 ht1 (hx.trans x1) h2.disk ho.up ho.arm (by omega) (by omega) (by omega) ⟨[], sg, sf, hok, by simpa using htold⟩ ho.l2 ho.d1 ho.d2 hR
    · refine wcut_spec h1 ht1 hcopy h8a ho.up (by omega) hdd hok hnew' (fun hh => absurd hsh hh) fun _ => ⟨hsm, ⟨fun σ2 D2 W1' h2 u2 a2 k2 d2 _ hok2 out2 new2 => ⟨0, rfl, ?_⟩, fun hh => by rw [ho.arm] at hh; cases hh⟩⟩
      obtain ⟨sgb, sfb, hokb, htoldb⟩ := ho.l2
      rw [ho.d1] at out2
      exact fol_end (W1 := W1') (W2 := W2) r0 r1 ht1 (hx.trans x1) h2.disk u2 (a2.trans ho.arm) (by omega) (by omega) (by omega) ⟨ra, [], _, hok2, by simp [toldS]⟩ ⟨sgb, sfb, hokb.beside out2 (by rw [ho.d2]; exact apart_xy) (by omega), htoldb⟩ (d2.trans ho.d1) ho.d2 hR
  | succ m ih =>
    intro k σ D W1 W2 ρ hm hk h hb ho hc hsa
    have aw : ∀ σ', Ext τ σ' → Spec prog 15 #[] σ' (Cont R (fun v_9 σ1_9 => ∃ t165 : Bool, v_9 = (.bool t165) ∧ R (.returned (.bool t165)) σ1_9)) := fun σ' hx' => awake_spec (ht.mono hx') fun σ'' hx'' => ⟨_, rfl, hR σ'' (hx'.trans hx'')⟩
    have B : ∀ σ D W1 W2 ρ, LogU σ d b1 D W1 ρ → Beside ρ b2 d W2 τ → Two D W1 W2 (ra.take (k + 1)) (rb.take k) → D.cnt ≤ min (k + 1) n0 + min k n1 → (∀ r ∈ ra.take (k + 1), r.length ≤ 500) → folB R p0 n0 c0 p1 n1 c1 s2 (some ⟨d, 0, none⟩) (some ⟨b1, 0, none⟩) (some ⟨b2, 0, none⟩) k σ := by
      intro σ D W1 W2 ρ h hb ho hc hsa
      refine ⟨fun hk1 => ?_, fun hk1 => ⟨by unfold I64; omega, ih (k + 1) σ D W1 W2 ρ (by omega) (by omega) h hb ?_ (by omega) hsa⟩⟩
      · obtain ⟨x, hxk⟩ := hr1.ex (k := k) (by omega)
        obtain ⟨b94, o94, p95, n95, c95, hp1, hl95, hc95, hrd⟩ := hr1.at hxk
        obtain ⟨ρ2, h2, hb2⟩ := h.swap hb
        have hσ : Ext τ σ := hb2.ext.trans h2.ext
        refine ⟨b94, o94, hp1, by omega, p95, n95, c95, by simpa using hσ.ld hl95, fun _ => aw σ hσ, fun hshort => ⟨by omega, p95, n95, c95, by simpa using hσ.ld hl95, ?_⟩⟩
        rw [← hp1]
        refine two_b (ht.mono hb2.ext) h2 hb2 ho (hrd.mono hb2.ext) (h8b x (List.mem_of_getElem? hxk)) (by omega) (by omega) fun σ' D' W2' ρ' h' hb' hx' ho' hc' => ?_
        obtain ⟨ρ3, h3, hb3⟩ := h'.swap hb'
        refine ⟨by unfold I64; omega, ih (k + 1) σ' D' W1 W2' ρ3 (by omega) (by omega) h3 hb3 ?_ (by omega) hsa⟩
        rw [take_succ' hxk]; exact ho'
      · have e1 : rb.take (k + 1) = rb.take k := by rw [List.take_of_length_le (by omega), List.take_of_length_le (by omega)]
        rw [e1]; exact ho
    rcases Nat.lt_or_ge k n0 with hk0 | hk0
    · obtain ⟨x, hxk⟩ := hr0.ex (k := k) hk0
      obtain ⟨b71, o71, p72, n72, c72, hp0, hl72, hc72, hrd⟩ := hr0.at hxk
      have hσ : Ext τ σ := hb.ext.trans h.ext
      have hxl : x.length = n72 := hrd.1
      refine law7_WalFolders.pt23_of ⟨fun _ => ⟨fun _ => ⟨b71, o71, hp0, by omega, p72, n72, c72, by simpa using hσ.ld hl72, fun _ => aw σ hσ, fun hshort => ⟨by omega, p72, n72, c72, by simpa using hσ.ld hl72, ?_⟩⟩, fun hh => absurd (by omega) hh⟩, fun hh => absurd (by omega) hh⟩
      rw [← hp0]
      refine two_a (ht.mono hb.ext) h hb ho (hrd.mono hb.ext) (h8a x (List.mem_of_getElem? hxk)) (by omega) (by omega) fun σ' D' W1' ρ' h' hb' hx' ho' hc' => B σ' D' W1' W2 ρ' h' hb' ?_ (by omega) ?_
      · rw [take_succ' hxk]; exact ho'
      · rw [take_succ' hxk]
        intro r hr
        rcases List.mem_append.1 hr with hr | hr
        · exact hsa r hr
        · simp at hr; subst hr; omega
    · refine law7_WalFolders.pt23_of ⟨fun hh => (by omega), fun _ => ⟨fun _ => ⟨fun hh => (by omega), fun _ => B σ D W1 W2 ρ h hb ?_ (by omega) ?_⟩, fun hh => absurd (by omega) hh⟩⟩
      · have e1 : ra.take (k + 1) = ra.take k := by rw [List.take_of_length_le (by omega), List.take_of_length_le (by omega)]
        rw [e1]; exact ho
      · have e1 : ra.take (k + 1) = ra.take k := by rw [List.take_of_length_le (by omega), List.take_of_length_le (by omega)]
        rw [e1]; exact hsa

theorem walFolders_spec (ht : Tb σ) (hr0 : RdLL σ p0 n0 ra) (hr1 : RdLL σ p1 n1 rb) (h8a : ∀ r ∈ ra, By8 r) (h8b : ∀ r ∈ rb, By8 r) (hba : (ra.map fun r => r.length + 1).sum ≤ 1048576) (hn : n0 + n1 ≤ 1048573) (hR : ∀ σ', Ext σ σ' → R (.returned (.bool true)) σ') :
    Spec prog law7_WalFolders.fid #[.slice p0 n0 c0, .slice p1 n1 c1, .string s2] σ R := by
  refine law7_WalFolders.start (disk_new_spec fun d σ1 S1 hd1 hx1 => ⟨_, rfl, ?_⟩)
  have h1 : DiskU σ1 d ⟨fun _ => none, true, false, 0⟩ σ := ⟨S1, hd1, hx1⟩
  refine open_empty h1 ht rfl rfl dx_ok (by simp) (fun _ => rfl) fun b σ2 W ρ p n c fs' cnt' a1 a2 a3 a4 a5 a6 a7 a8 a9 a10 => ⟨_, _, _, _, _, rfl, ?_⟩
  have hc0 : cnt' = 0 := by simp only at a10; omega
  subst hc0
  obtain ⟨τ', S, p', c', T, hdu, hw, hxo⟩ := a1.opened
  refine open_empty hdu (ht.mono (a2.trans (hxo.trans (Ext.of_off _ _)))) rfl rfl dyz_ok (by simp) a8 fun b2 σ3 W2 ρ2 p2 n2 c2 fs2 cnt2 e1 e2 e3 e4 e5 e6 e7 e8 e9 e10 => ⟨_, _, _, _, _, rfl, fun hh => absurd rfl hh, fun _ => ⟨fun hh => absurd rfl hh, fun _ => ⟨fun hh => (by cases hh), fun _ => ⟨fun hh => (by cases hh), fun _ => ?_⟩⟩⟩⟩
  have hc2 : cnt2 = 0 := by simp only at e10; omega
  subst hc2
  have hb : Beside ρ2 b d W σ := ⟨S, p', c', T, hw.mono e2, (a2.trans hxo).trans (e2.off S)⟩
  obtain ⟨ρ3, h3, hb3⟩ := e1.swap hb
  refine fol_pt ht hr0 hr1 h8a h8b hba hn hR (max n0 n1) 0 σ3 (dk fs2 0) W W2 ρ3 rfl (Nat.zero_le _) h3 hb3 ⟨rfl, rfl, a4, e4, ⟨[], 0, ?_, rfl⟩, ⟨[], 0, e7, rfl⟩, e8 _⟩ (Nat.zero_le _) (fun r hr => by simp at hr)
  have : fs2 = fs' := funext fun s => (e8 s).trans (a8 s).symm
  rw [this]; exact a7
end
end TwW
end
