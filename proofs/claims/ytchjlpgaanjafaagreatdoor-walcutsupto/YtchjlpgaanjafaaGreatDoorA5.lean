/-
  Part 5 of the proof that the law WalCutsUptoCardSaid of the given program answers true for every input of the given statement; the input reads behind the call as it did. (The texts: WY WZ HE HE HE HE XA XB XC XD XE TwN XF XH.)
-/
import Derived.Test.YtchjlpgaanjafaaGreatDoorA4
import Derived.ProofKit
import Derived.SizedLaws
import Derived.Deep.Slices
import Derived.Test.YtchjlpgaanjafaaGreatDoorCards
import Derived.Test.YtchjlpgaanjafaaGreatDoorTie
import Derived.WalkKit
import Derived.OpenShut
import Derived.Deep.DeepHandedRow
import Derived.Deep.DeepWitnessRowRef
import Derived.Lib.LaidTab
import Derived.Stop.LaidErr
set_option linter.all false
section
set_option linter.unusedVariables false
/-! A log is cut. -/
namespace TwW
open Go Tw Go.RowKit Go.Proofs.Tryz

section
variable {fs gs : Fs} {cnt safe : Nat} {W : Wl} {rc keep : Recs} {sg : Sg}

theorem LogOk.laid (h : LogOk fs cnt W rc sg safe) (hc : cnt < 99999998) (hk : Good keep) : Shape (laid fs W.dir (fname W.dir kc W.opn) (joinF keep)) W.dir (cnt + 1) W.opn keep [] [] := by
  have ho := h.opn
  have hb : W.opn < 100000000 := by omega
  have hn := numOf_fname (dir := W.dir) (kind := kc) hb
  have hold : ∀ s, (TwW.laid fs W.dir (fname W.dir kc W.opn) (joinF keep) s).isSome = true → s = fname W.dir kc W.opn ∨ (fs s).isSome = true := fun s hs => by
    by_cases h1 : s = fname W.dir kc W.opn
    · exact .inl h1
    · by_cases h2 : s = fnew W.dir
      · simp [TwW.laid, h1, h2] at hs
        have := (fnew_ne (dir := W.dir) (kind := kc) (a := W.opn) (.inl rfl))
        exact absurd hs this
      · simp only [TwW.laid, h1, h2, if_false] at hs; exact .inr hs
  refine ⟨fun _ => ⟨⟨joinF keep, (joinF keep).length⟩, by simp [TwW.laid], rfl⟩, fun e => by omega, fun s hs => ?_, ho.2.1, (fun x hx => by cases hx), List.Pairwise.nil, fun s hs hlt => ?_, (fun k x hx => by simp at hx), fun _ => rfl, torn_nil, hk, (fun x hx => by cases hx), fun a ha => by cases ha⟩
  · rcases hold s hs with rfl | h1
    · omega
    · have := h.sh.old s h1; omega
  · exfalso
    rcases hold s hs with rfl | h1
    · have := num_kinds (dir := W.dir) (s := fname W.dir kc W.opn) (by omega); omega
    · obtain ⟨x, hx, e⟩ := h.sh.seg s h1 (by omega)
      have := ho.2.2 x hx; omega

theorem Shape.delAny {dir s : ByteArray} {check : Nat} (h : Shape fs dir cnt check keep [] []) (hs : s ≠ fname dir kc check) : Shape (fput fs s none) dir cnt check keep [] [] :=
  h.congr (Nat.le_refl _) (fun _ => fput_ne hs.symm) (fun x hx => by cases hx) fun t ht => by
    by_cases hts : t = s
    · subst hts; rw [fput_same] at ht; cases ht
    · rw [fput_ne hts] at ht; exact .inl ht

theorem Shape.crash0 {dir : ByteArray} {check : Nat} (h : Shape fs dir cnt check keep [] []) (hs : ∀ f, fs (fname dir kc check) = some f → f.syn = f.data.length) (hc : Crash fs gs) : OpenOk gs dir cnt keep :=
  ⟨check, keep, [], [], { h with chk := fun h0 => hc.whole (h.chk h0) hs, old := fun s hs => h.old s (hc.isS hs), seg := fun s hs => h.seg s (hc.isS hs), file := fun k x hx => by simp at hx }, by simp [toldS], hc.kept, fun h => (by cases h)⟩
end

section
variable {σ ρ τ : Hp} {d b : Nat} {D : Dk} {W : Wl} {R : Ending → Hp → Prop} {fs : Fs} {cnt safe : Nat} {rc keep : Recs} {sg : Sg}

/-- What a cut leads to. -/
structure CutU (d b : Nat) (D : Dk) (W : Wl) (τ : Hp) (rc : Recs) (sg : Sg) (safe : Nat) (keep : Recs) (rok : Hp → Prop) (rbad : Hp → Prop) : Prop where
  ok : ∀ σ' D' W', LogU σ' d b D' W' τ → D'.up = true → D'.armed = D.armed → D'.cnt = D.cnt + 1 → W'.dir = W.dir → W'.segs = [] → LogOk D'.files D'.cnt W' keep [] keep.length → Out W.dir D.files D'.files → D'.files (fnew W.dir) = none → rok σ'
  bad : D.armed = true → ∀ σ' D' told, DiskU σ' d D' τ → D'.up = false → D'.armed = false → D'.cnt = D.cnt + 1 → OpenOk D'.files W.dir D'.cnt told → (told = keep ∨ (told <+: rc ++ toldS sg ∧ safe ≤ told.length)) → rbad σ'

theorem en54 : Enters prog wal_Wal_Cut_1.fid := fun args w => call54 args w

theorem cut15 {b0 : Nat} {armed : Bool} {C : Nat} (hd : dirOk W.dir = true) (hC : C ≤ 1048576) (ht : Tb τ) (t0 : τ b0 = some (.cells #[.pointer (some ⟨b, 0, none⟩)] 26 (0, 0))) (hfs0 : Out W.dir D.files fs)
    (hok : ∀ σ' fs' W', LogU σ' d b ⟨fs', true, armed, C⟩ W' τ → W'.dir = W.dir → W'.segs = [] → LogOk fs' C W' keep [] keep.length → Out W.dir D.files fs' → fs' (fnew W.dir) = none → R (.returned (.tuple #[])) σ')
    (hbad : armed = true → ∀ σ' gs, OpenOk gs W.dir C keep → DiskU σ' d ⟨gs, false, false, C⟩ τ → R (.panicked (pan 60)) σ') :
    ∀ (m : Nat) (σ : Hp) (fs : Fs) (V : Wl), V.segs.length = m → V.dir = W.dir → V.check = V.opn → LogU σ d b ⟨fs, true, armed, C⟩ V τ → Shape fs W.dir C V.opn keep [] [] → 0 < V.opn → (∀ f, fs (fname W.dir kc V.opn) = some f → f.syn = f.data.length) → (∀ n ∈ V.segs, (fs (fname W.dir ks n)).isSome = true ∧ n ≤ C) → V.segs.Nodup → Out W.dir D.files fs → fs (fnew W.dir) = none →
      wal_Wal_Cut_1.pt15 R b0 σ := by
  intro m
  have hds : W.dir.size ≤ 32 := by simp [dirOk] at hd; exact hd.2
  induction m with
  | zero =>
    intro σ fs V hm hdir hco h hsh hpos hsy hsg hnd hout hnew
    have hr := h.rd
    have hx := h.ext
    obtain ⟨p, c, hc, hl, hrd⟩ := hr.segs
    have hnil : V.segs = [] := List.eq_nil_of_length_eq_zero hm
    have hcle := hsh.cle
    refine wal_Wal_Cut_1.pt15_of ⟨_, ld_of (hx _ _ t0) rfl, b, 0, rfl, p, _, c, hl, fun hh => by omega, fun _ => ⟨_, ld_of (hx _ _ t0) rfl, b, 0, rfl, V.opn, hr.opn, by unfold I64; omega, ?_⟩⟩
    have e : ((V.opn : Int) + 1) = ((V.opn + 1 : Nat) : Int) := by omega
    rw [e]
    refine h.st (i := 0 + 4) (W' := { V with opn := V.opn + 1 }) (by omega) rfl (fun p n c => rfl) fun σ1 h1 => ?_
    refine ⟨_, ld_of (h1.ext _ _ t0) rfl, b, 0, rfl, ?_⟩
    refine h1.st (i := 0 + 5) (x := 0) (W' := { V with opn := V.opn + 1, size := 0 }) (by omega) rfl (fun p n c => rfl) fun σ2 h2 => ?_
    refine hok σ2 fs _ h2 hdir hnil ⟨?_, by rw [hnil]; rfl, ⟨by simp only; omega, by simp only; omega, fun x hx => by cases hx⟩, (fun x hx => by cases hx), fun _ => rfl, fun f h0 hf => ?_, (fun x hx => by cases hx), (fun x hx => by cases hx), fun _ => by simp [toldS]⟩ hout hnew
    · simp only [hdir, hco]; exact hsh
    · simp only [hdir, hco] at hf; exact hsy f hf
  | succ m ih =>
    intro σ fs V hm hdir hco h hsh hpos hsy hsg hnd hout hnew
    have hr := h.rd
    have hx := h.ext
    obtain ⟨p, c, hc, hl, hrd⟩ := hr.segs
    obtain ⟨n0, l, hseg⟩ : ∃ n0 l, V.segs = n0 :: l := by
      cases hs : V.segs with
      | nil => rw [hs] at hm; cases hm
      | cons a l => exact ⟨a, l, rfl⟩
    have hge : (asI V.segs)[0]? = some ((n0 : Nat) : Int) := by rw [asI, hseg]; rfl
    obtain ⟨b50, o50, hp, hl50⟩ := hrd.at hge
    obtain ⟨hf0, hn0⟩ := hsg n0 (by rw [hseg]; simp)
    obtain ⟨f, hf⟩ := Option.isSome_iff_exists.1 hf0
    have hdirV : σ.ld ⟨b, 0 + 1, none⟩ = some (.string W.dir) := by rw [← hdir]; exact hr.dir
    have hnok : nameOk (fname W.dir ks n0) = true := fname_ok hd (.inr rfl) (by omega)
    refine wal_Wal_Cut_1.pt15_of ⟨_, ld_of (hx _ _ t0) rfl, b, 0, rfl, p, _, c, hl, fun _ => ⟨_, ld_of (hx _ _ t0) rfl, b, 0, rfl, _, hr.ptr, _, ld_of (hx _ _ t0) rfl, _, ld_of (hx _ _ t0) rfl, b, 0, rfl, p, _, c, hl, b50, o50, hp, by omega, n0, by simpa using hl50, ?_⟩, fun hh => by omega⟩
    refine fileW_spec (kind := ks) (dir := W.dir) hdirV hds (.inr rfl) (by omega) (ht.mono hx) fun σ1 hx1 => ⟨_, rfl, Kp.of_ext hx1, ?_⟩
    refine ldelete (h.mono hx1) rfl hnok hf ⟨fun σ2 h2 => ⟨_, rfl, must0 ?_⟩, fun ha σ2 gs hg hdu => ⟨_, rfl, must60 (hbad ha σ2 gs (hsh.crash0 hsy hg) hdu)⟩⟩
    obtain ⟨p2, c2, hc2, hl2, hrd2⟩ := h2.rd.segs
    refine ⟨_, ld_of (h2.ext _ _ t0) rfl, _, ld_of (h2.ext _ _ t0) rfl, b, 0, rfl, p2, _, c2, hl2, by omega, b, 0, rfl, ?_⟩
    refine h2.cut (l := l) (by rw [hseg]; rfl) (fun p' c' hpc => ?_) fun σ3 h3 => ?_
    · rw [hl2] at hpc
      cases hpc
      refine ⟨?_, fun ρ ho => ?_⟩
      · unfold slP
        cases p2 with
        | none => split <;> rfl
        | some a =>
          split
          · rfl
          · simp [blk, Addr.add]
      · have hlen : V.segs.length = l.length + 1 := by rw [hseg]; rfl
        obtain ⟨h1, h0, h4⟩ := ho
        refine ⟨by simp [asI]; omega, by omega, ?_⟩
        rcases h4 with ⟨_, e, _⟩ | ⟨bb, oo, arr, T, rfl, hb, hnc, hsz, hcs⟩
        · omega
        · by_cases hl0 : c2 = 1
          · have hl1 : l = [] := List.eq_nil_of_length_eq_zero (by omega)
            subst hl1 hl0
            exact .inr ⟨bb, oo, arr, T, by simp [slP], hb, by simp; omega, by omega, by simp [asI]; omega⟩
          · refine .inr ⟨bb, oo + 1, arr, T, by simp [slP, hl0, add_off], hb, by omega, by omega, ?_⟩
            have e : V.segs.length - 1 = l.length := by omega
            rw [hseg] at hcs
            have := congrArg (List.drop 1) hcs
            rw [List.drop_take, List.drop_drop] at this
            simp only [asI, List.map_cons, List.drop_succ_cons, List.drop_zero, List.length_cons] at this
            rw [hlen]
            simp only [asI]
            rw [← this]
            congr 1
    · have hne : ∀ k, fname W.dir ks n0 ≠ fname W.dir kc k := fun k e => fname_kinds e.symm
      have hn2 : n0 ∉ l ∧ l.Nodup := by rw [hseg] at hnd; exact List.nodup_cons.1 hnd
      refine ih σ3 _ { V with segs := l } (by rw [hseg] at hm; simpa using hm) hdir hco h3 (hsh.delAny (hne _)) hpos (fun f hf => hsy f (by rwa [fput_ne (hne _).symm] at hf)) (fun k hk => ?_) hn2.2 (hout.trans (Out.del begins_file)) ((fput_ne (fnew_ne (.inr rfl))).trans hnew)
      have hk2 := hsg k (by rw [hseg]; simp [show k ∈ l from hk])
      refine ⟨?_, hk2.2⟩
      rw [fput_ne]
      · exact hk2.1
      · intro e
        have := fname_inj (by omega) (by omega) e
        exact hn2.1 (this ▸ hk)

theorem cut1_spec {b0 b1 : Nat} {p : Option Addr} {n c : Nat} (h : LogU σ d b D W τ) (ht : Tb τ) (t0 : τ b0 = some (.cells #[.pointer (some ⟨b, 0, none⟩)] 26 (0, 0))) (t1 : τ b1 = some (.cells #[.slice p n c] 22 (0, 0)))
    (hx : RdLL τ p n keep) (hk : Good keep) (hlen : (joinF keep).length ≤ 4194304) (hup : D.up = true) (hcnt : D.cnt < 1048576) (hd : dirOk W.dir = true) (hok : LogOk D.files D.cnt W rc sg safe) (hnew : D.files (fnew W.dir) = none)
    (hR : CutU d b D W τ rc sg safe keep (fun σ' => R (.returned (.tuple #[])) σ') (fun σ' => R (.panicked (pan 60)) σ')) : Spec prog wal_Wal_Cut_1.fid #[.pointer (some ⟨b0, 0, none⟩), .pointer (some ⟨b1, 0, none⟩)] σ R := by
  have hr := h.rd
  have hxe := h.ext
  have hds : W.dir.size ≤ 32 := by simp [dirOk] at hd; exact hd.2
  have hopn := hok.opn
  have hnok : nameOk (fname W.dir kc W.opn) = true := fname_ok hd (.inl rfl) (by omega)
  refine wal_Wal_Cut_1.start ⟨_, ld_of (hxe _ _ t0) rfl, _, ld_of (hxe _ _ t0) rfl, _, ld_of (hxe _ _ t0) rfl, b, 0, rfl, W.opn, hr.opn, p, n, c, ld_of (hxe _ _ t1) rfl, ?_⟩
  refine fileW_spec (kind := kc) hr.dir hds (.inl rfl) (by omega) (ht.mono hxe) fun σ1 hx1 => ⟨_, rfl, Kp.of_ext hx1, ?_⟩
  obtain ⟨τw, S, q, cc, T, hdu, hwal, hxo⟩ := (h.mono hx1).opened
  have hτw : Ext τ τw := hxo.trans (Ext.of_off _ _)
  have hsh := hok.laid (keep := keep) (by omega) hk
  have cl : ∀ {σ' : Hp} {D' : Dk}, DiskU σ' d D' τw → LogU σ' d b D' W τ := fun h' => (LogU.close h' hwal).weak hxo
  refine replace_spec hdu hwal.logF hup hcnt hd hnok (hx.mono hτw) hk hlen hnew (fnew_ne (.inl rfl)).symm ⟨fun σ2 h2 => ?_, fun ha σ2 gs' gs hgs hg hdu2 => ?_⟩
  · have h2 := cl h2
    have hl1 : laid D.files W.dir (fname W.dir kc W.opn) (joinF keep) (fname W.dir kc W.opn) = some ⟨joinF keep, (joinF keep).length⟩ := by simp [laid]
    have hsy1 : ∀ f, laid D.files W.dir (fname W.dir kc W.opn) (joinF keep) (fname W.dir kc W.opn) = some f → f.syn = f.data.length := fun f hf => by rw [hl1] at hf; cases hf; rfl
    have hlo : ∀ s, s ≠ fname W.dir kc W.opn → s ≠ fnew W.dir → laid D.files W.dir (fname W.dir kc W.opn) (joinF keep) s = D.files s := fun s e1 e2 => by simp [laid, e1, e2]
    have hout : Out W.dir D.files (laid D.files W.dir (fname W.dir kc W.opn) (joinF keep)) := Out.laid (.inl rfl) (by omega) (by omega)
    have hnew2 : laid D.files W.dir (fname W.dir kc W.opn) (joinF keep) (fnew W.dir) = none := by simp [laid, fnew_ne (dir := W.dir) (kind := kc) (a := W.opn) (.inl rfl)]
    have bad : D.armed = true → ∀ σ' gs, OpenOk gs W.dir (D.cnt + 1) keep → DiskU σ' d ⟨gs, false, false, D.cnt + 1⟩ τ → R (.panicked (pan 60)) σ' := fun ha σ' gs ho hdu' => hR.bad ha σ' _ keep hdu' rfl rfl rfl ho (.inl rfl)
    have fin : ∀ (σ' : Hp) (fs : Fs), LogU σ' d b ⟨fs, true, D.armed, D.cnt + 1⟩ W τ → Shape fs W.dir (D.cnt + 1) W.opn keep [] [] → (∀ f, fs (fname W.dir kc W.opn) = some f → f.syn = f.data.length) → (∀ k ∈ W.segs, (fs (fname W.dir ks k)).isSome = true ∧ k ≤ D.cnt + 1) → Out W.dir D.files fs → fs (fnew W.dir) = none → wal_Wal_Cut_1.pt9 R b0 σ' := by
      intro σ' fs hl hs1 hsy hsg ho hn
      have hr' := hl.rd
      refine wal_Wal_Cut_1.pt9_of ⟨_, ld_of (hl.ext _ _ t0) rfl, _, ld_of (hl.ext _ _ t0) rfl, b, 0, rfl, W.opn, hr'.opn, b, 0, rfl, ?_⟩
      refine hl.st (i := 0 + 2) (W' := { W with check := W.opn }) (by omega) rfl (fun p n c => rfl) fun σ5 h5 => ?_
      refine cut15 (D := D) (fs := fs) (W := W) (keep := keep) (armed := D.armed) hd (by omega) ht t0 ho (fun σ6 fs6 W6 a1 a2 a3 a4 a5 a6 => hR.ok σ6 _ W6 a1 rfl rfl rfl a2 a3 a4 a5 a6) bad _ σ5 fs { W with check := W.opn } rfl rfl rfl h5 hs1 (by simp only; omega) hsy hsg ?_ ho hn
      have : W.segs.Pairwise (· < ·) := by rw [hok.segs, List.pairwise_map]; exact hok.sh.rise
      exact this.imp fun h => Nat.ne_of_lt h
    have hsegs : ∀ k ∈ W.segs, (laid D.files W.dir (fname W.dir kc W.opn) (joinF keep) (fname W.dir ks k)).isSome = true ∧ k ≤ D.cnt + 1 := fun k hk' => by
      rw [hok.segs] at hk'
      obtain ⟨x, hx, rfl⟩ := List.mem_map.1 hk'
      obtain ⟨i, hi⟩ := List.getElem?_of_mem hx
      have := (hok.sh.gt x hx).2
      exact ⟨by rw [hlo _ fname_kinds.symm (fnew_ne (.inr rfl)).symm]; exact (hok.sh.file i x hi).isS, by omega⟩
    refine ⟨rfl, _, ld_of (h2.ext _ _ t0) rfl, b, 0, rfl, W.check, h2.rd.check, fun hpos => ?_, fun hz => ?_⟩
    · have hcf : fname W.dir kc W.check ≠ fname W.dir kc W.opn := fun e => by
        have := fname_inj (by omega) (by omega) e; omega
      obtain ⟨f, hf⟩ := Option.isSome_iff_exists.1 (hok.sh.chk (by omega)).isS
      refine ⟨_, ld_of (h2.ext _ _ t0) rfl, b, 0, rfl, _, h2.rd.ptr, _, ld_of (h2.ext _ _ t0) rfl, _, ld_of (h2.ext _ _ t0) rfl, b, 0, rfl, W.check, h2.rd.check, ?_⟩
      refine fileW_spec (kind := kc) h2.rd.dir hds (.inl rfl) (by omega) (ht.mono h2.ext) fun σ3 hx3 => ⟨_, rfl, Kp.of_ext hx3, ?_⟩
      refine ldelete (h2.mono hx3) rfl (fname_ok hd (.inl rfl) (by omega)) (f := f) (by show laid D.files W.dir _ _ _ = _; rw [hlo _ hcf (fnew_ne (.inl rfl)).symm]; exact hf) ⟨fun σ4 h4 => ⟨_, rfl, must0 ?_⟩, fun ha σ4 gs hg hdu4 => ⟨_, rfl, must60 (bad ha σ4 gs (hsh.crash0 hsy1 hg) hdu4)⟩⟩
      refine fin σ4 _ h4 (hsh.delAny hcf) (fun f hf => hsy1 f ((fput_ne hcf.symm).symm.trans hf)) (fun k hk' => ?_) (hout.trans (Out.del begins_file)) ((fput_ne (fnew_ne (.inl rfl))).trans hnew2)
      rw [fput_ne fname_kinds.symm]
      exact hsegs k hk'
    · exact fin σ2 _ h2 hsh hsy1 hsegs hout hnew2
  · have hfr := hok.fresh (cnt' := D.cnt + 1) (by omega) hgs
    obtain ⟨told, g1, g2, g3⟩ := hfr.crash hg
    exact hR.bad ha σ2 _ told (cl hdu2).disk rfl rfl rfl g1 (.inr ⟨g2, g3⟩)

theorem wcut_spec {p : Option Addr} {n c : Nat} (h : LogU σ d b D W τ) (ht : Tb τ) (hx : RdLL τ p n keep) (h8 : ∀ r ∈ keep, By8 r) (hup : D.up = true) (hcnt : D.cnt < 1048576) (hd : dirOk W.dir = true) (hok : LogOk D.files D.cnt W rc sg safe) (hnew : D.files (fnew W.dir) = none)
    (hlong : ¬ Short keep → ∀ σ', LogU σ' d b D W τ → R (.returned (.int .i64 70)) σ')
    (hR : Short keep → (joinF keep).length ≤ 4194304 ∧ CutU d b D W τ rc sg safe keep (fun σ' => R (.returned (.int .i64 0)) σ') (fun σ' => R (.returned (.int .i64 60)) σ')) : Spec prog wal_Wal_Cut.fid #[.pointer (some ⟨b, 0, none⟩), .slice p n c] σ R := by
  have hkl : keep.length = n := hx.1
  refine wal_Wal_Cut.start fun b2 hb2 b3 hb3 => ?_
  obtain ⟨τ2, h2, x2, t2⟩ := h.box (o := .cells #[.pointer (some ⟨b, 0, none⟩)] 26 (0, 0)) hb2
  obtain ⟨τ3, h3, x3, t3⟩ := h2.box (o := .cells #[.slice p n c] 22 (0, 0)) hb3
  have hxx := x2.trans x3
  refine ⟨p, n, c, ld_of (h3.ext _ _ t3) rfl, ?_⟩
  have hx3 := hx.mono hxx
  suffices H : ∀ m k : Nat, n - k = m → k ≤ n → Short (keep.take k) → wal_Wal_Cut.pt8 R b2 b3 p n c n k _ from H n 0 rfl (Nat.zero_le _) (fun r hr => by simp at hr)
  intro m
  induction m with
  | zero =>
    intro k hm hk hs
    rw [List.take_of_length_le (by omega)] at hs
    refine wal_Wal_Cut.pt8_of ⟨fun hh => by omega, fun _ => caught_spec en54 ?_⟩
    obtain ⟨hl, hRc⟩ := hR hs
    exact cut1_spec h3 (ht.mono hxx) (x3 _ _ t2) t3 hx3 (fun r hr => ⟨hs r hr, h8 r hr⟩) hl hup hcnt hd hok hnew ⟨fun σ' D' W' a1 a2 a3 a4 a5 a6 a7 a8 a9 => .inl ⟨rfl, _, rfl, hRc.ok σ' D' W' (a1.weak hxx) a2 a3 a4 a5 a6 a7 a8 a9⟩, fun ha σ' D' told a1 a2 a3 a4 a5 a6 => .inr ⟨60, rfl, _, rfl, hRc.bad ha σ' D' told (a1.weak hxx) a2 a3 a4 a5 a6⟩⟩
  | succ m ih =>
    intro k hm hk hs
    obtain ⟨x, hxk⟩ : ∃ x, keep[k]? = some x := ⟨_, List.getElem?_eq_getElem (by omega)⟩
    obtain ⟨b11, o11, p12, n12, c12, rfl, hl, _, hrd⟩ := (hx3.mono h3.ext).at hxk
    have hn12 : x.length = n12 := hrd.1
    have hnb := hx.big
    refine wal_Wal_Cut.pt8_of ⟨fun _ => ⟨b11, o11, rfl, by omega, p12, n12, c12, by simpa using hl, fun hh => hlong (fun hs' => ?_) _ (h3.weak hxx), fun hh => ⟨by unfold I64; omega, ih (k + 1) (by omega) (by omega) ?_⟩⟩, fun hh => by omega⟩
    · have := hs' x (List.mem_of_getElem? hxk); omega
    · rw [take_succ' hxk]
      intro r hr
      rcases List.mem_append.1 hr with hr | hr
      · exact hs r hr
      · simp at hr; subst hr; omega

theorem segments_spec (h : LogU σ d b D W τ) (hR : R (.returned (.int .i64 (W.segs.length : Nat))) σ) : Spec prog wal_Wal_Segments.fid #[.pointer (some ⟨b, 0, none⟩)] σ R := by
  obtain ⟨p, c, hc, hl, hrd⟩ := h.rd.segs
  exact wal_Wal_Segments.start ⟨b, 0, rfl, p, _, c, hl, hR⟩
end
end TwW
end
section
set_option linter.unusedVariables false
/-! The laws' own helpers. -/
namespace TwW
open Go Tw Go.RowKit Go.Proofs.Tryz

theorem take_eq_of {α : Type} {xs ys : List α} {k : Nat} {x y : α} (hx : xs[k]? = some x) (hy : ys[k]? = some y) (h : xs.take k = ys.take k) (he : x = y) : xs.take (k + 1) = ys.take (k + 1) := by
  rw [take_succ' hx, take_succ' hy, h, he]



theorem sameBytes_spec {R : Ending → Hp → Prop} {σ : Hp} {p q : Option Addr} {n c m d : Nat} {xs ys : List Int} (hr : RdI .u8 σ p n xs) (hs : RdI .u8 σ q m ys) (h : R (.returned (.bool (decide (xs = ys)))) σ) :
    Spec prog law0_SameBytes.fid #[.slice p n c, .slice q m d] σ R := by
  refine law0_SameBytes.start ⟨fun hne => ?_, fun he => ?_⟩
  · have : xs ≠ ys := fun e => hne (by rw [← hr.1, ← hs.1, e])
    simpa [this] using h
  · obtain rfl : n = m := by omega
    suffices H : ∀ d' k : Nat, n - k = d' → k ≤ n → xs.take k = ys.take k → law0_SameBytes.pt17 R p n c q n d k σ from H n 0 rfl (Nat.zero_le _) (by simp)
    intro d'
    induction d' with
    | zero =>
      intro k hd hk hno
      refine law0_SameBytes.pt17_of ⟨fun hlt => by omega, fun _ => ?_⟩
      rw [List.take_of_length_le (by rw [hr.1]; omega), List.take_of_length_le (by rw [hs.1]; omega)] at hno
      simpa [hno] using h
    | succ d' ih =>
      intro k hd hk hno
      refine law0_SameBytes.pt17_of ⟨fun hlt => ?_, fun hge => by omega⟩
      have hk' : k < n := by omega
      obtain ⟨x, hx⟩ := hr.ex hk'
      obtain ⟨y, hy⟩ := hs.ex hk'
      obtain ⟨b, o, rfl, hl⟩ := hr.at hx
      obtain ⟨b', o', rfl, hl'⟩ := hs.at hy
      refine ⟨b, o, rfl, by omega, x, by simpa using hl, b', o', rfl, by omega, y, by simpa using hl', fun hne => ?_, fun he => ⟨i64_succ hk' hr.big, ih (k + 1) (by omega) (by omega) (take_eq_of hx hy hno (by simpa using he))⟩⟩
      have : xs ≠ ys := fun e => hne (by rw [e, hy] at hx; cases hx; rfl)
      simpa [this] using h


section
variable {σ ρ τ : Hp} {d b : Nat} {D : Dk} {W : Wl} {R : Ending → Hp → Prop}
/-- append to what is beside the log. -/
theorem LogU.app_own {T E ty : TypeId} {s bs : Nat} [SlT prog T E s bs] {p q : Option Addr} {n c m d' : Nat} {cs ys : List Value} {Φ : Value → Hp → Prop} (h : LogU σ d b D W ρ) (ho : Own s ρ p n c cs) (hy : RdC s ρ q m ys) (h1 : OneC ys) (hb : (n + m) * bs ≤ 140737488355328)
    (hΦ : ∀ p' c' σ' ρ', LogU σ' d b D W ρ' → Own s ρ' p' (n + m) c' (cs ++ ys) → Ext (ρ.del p) (ρ'.del p') → Φ (.slice p' (n + m) c') σ') : Eff prog (Builtin.append_ #[T, T] ty #[.slice p n c, .slice q m d']) σ Φ := by
  have hx := h.ext
  obtain ⟨Sd, S, q0, cc, T0, g1, g2, g3⟩ := h
  refine app_eff2 (ho.mono hx) (hy.mono hx) h1 hb fun p' c' σ' ho2 hx2 _ => ?_
  rw [Hp.del_off, Hp.del_off] at hx2
  have keep : ∀ j o, j ∉ blk p → σ j = some o → σ' j = some o ∧ j ∉ blk p' := fun j o h4 h5 => by
    have := Hp.off_some.1 (hx2 j o (Hp.off_some.2 ⟨h4, h5⟩)); exact ⟨this.2, this.1⟩
  have hp : ∀ j ∈ blk p, j ∉ S ∧ j ∉ Sd := fun j hj => by
    cases p with
    | none => cases hj
    | some a =>
      simp [blk] at hj
      subst hj
      cases hr : ρ a.block with
      | none => exact absurd hr (ho.block a rfl)
      | some o =>
        have h4 := Hp.off_some.1 (g3 _ _ hr)
        exact ⟨h4.1, (Hp.off_some.1 h4.2).1⟩
  have hSd : ∀ j ∈ Sd, σ' j = σ j ∧ j ∉ blk p' := fun j hj => by
    cases hs : σ j with
    | none => exact absurd hs (g1.known j hj)
    | some o => exact keep j o (fun hb => (hp j hb).2 hj) hs
  have hS : ∀ j ∈ S, (σ'.off Sd) j = (σ.off Sd) j ∧ j ∉ blk p' := fun j hj => by
    cases hs : (σ.off Sd) j with
    | none => exact absurd hs (g2.known j hj)
    | some o =>
      have h4 := Hp.off_some.1 hs
      have h5 := keep j o (fun hb => (hp j hb).1 hj) h4.2
      exact ⟨by rw [Hp.off_out h4.1]; exact h5.1, h5.2⟩
  refine hΦ p' c' σ' ((σ'.off Sd).off S) ⟨Sd, S, q0, cc, T0, g1.loc fun j hj => (hSd j hj).1, g2.loc fun j hj => (hS j hj).1, Ext.refl _⟩ ?_ ?_
  · exact TwW.Own.loc ho2 fun j hj => by rw [Hp.off_out fun hs => (hS j hs).2 hj, Hp.off_out fun hs => (hSd j hs).2 hj]
  · rw [Hp.del_off, Hp.del_off]
    intro j o hj
    have h4 := Hp.off_some.1 hj
    have h5 := Hp.off_some.1 (g3 _ _ h4.2)
    have h6 := Hp.off_some.1 h5.2
    have h7 := keep j o h4.1 h6.2
    exact Hp.off_some.2 ⟨h7.2, Hp.off_some.2 ⟨h5.1, Hp.off_some.2 ⟨h6.1, h7.1⟩⟩⟩

theorem LogU.appLL {ty : TypeId} {p q : Option Addr} {n c m d' : Nat} {xs ys : Recs} {Φ : Value → Hp → Prop} (h : LogU σ d b D W ρ) (hx : Ext τ (ρ.del p)) (ho : OwnLL ρ p n c xs) (hy : RdLL (ρ.del p) q m ys) (hb : n + m ≤ 4194304)
    (hΦ : ∀ p' c' σ' ρ', LogU σ' d b D W ρ' → OwnLL ρ' p' (n + m) c' (xs ++ ys) → Ext τ (ρ'.del p') → Φ (.slice p' (n + m) c') σ') : Eff prog (Builtin.append_ #[22, 22] ty #[.slice p n c, .slice q m d']) σ Φ := by
  obtain ⟨hxl, cs, ho1, hc1⟩ := ho
  obtain ⟨hyl, ds, hy1, hc2⟩ := hy
  refine h.app_own (T := 22) ho1 (hy1.mono (Ext.of_del _ _)) ?_ (by omega) fun p' c' σ' ρ' h' ho' hx' => hΦ p' c' σ' ρ' h' ⟨by rw [List.length_append]; omega, _, ho', ?_⟩ (hx.trans hx')
  · exact Ch.oneC (fun _ vs x ⟨p, n, c, e, _⟩ => by subst e; exact fun u hu => by simp at hu; subst hu; rfl) hc2 (by decide)
  · exact (hc1.mono EBy.mono hx').append (hc2.mono EBy.mono hx')
end

section
variable {σ : Hp} {R : Ending → Hp → Prop}
theorem copyBytes_spec {p : Option Addr} {n c : Nat} {xs : List Int} (hr : RdI .u8 σ p n xs) (hb : n ≤ 140737488355328)
    (h : ∀ p' c' σ', OwnI .u8 (σ.new σ') p' n c' xs → Ext σ σ' → R (.returned (.slice p' n c')) σ') : Spec prog law0_CopyBytes.fid #[.slice p n c] σ R := by
  refine law0_CopyBytes.start fun b hn => ?_
  refine app_eff Own.empty ((RdC.of_map hr).mono (.set hn)) OneC.map_int (by omega) fun p' c' σ' hown hext => ?_
  have hq : ∀ a : Addr, (some (⟨b, 0, none⟩ : Addr)) = some a → σ a.block = none := fun a ha => by cases ha; exact hn
  refine ⟨p', 0 + n, c', rfl, ?_⟩
  rw [Nat.zero_add] at hown ⊢
  exact h p' c' σ' (Own.to_new hown (new_block hq hext (.set hn))) (ext_new hq hext (.set hn))

theorem low_spec {x : Int} (h : ∀ y : Int, 0 ≤ y → y ≤ 9223372036854775807 → R (.returned (.int .i64 y)) σ) : Spec prog law0_Low.fid #[.int .i64 x] σ R := by
  refine law0_Low.start fun x4 h4 => h x4 ?_ ?_
  · rw [h4]
    have h2 : (BitVec.ofInt 64 9223372036854775807).toNat = 9223372036854775807 := rfl
    have e : Go.bits .and .i64 x 9223372036854775807 = IntKind.i64.wrap (((BitVec.ofInt 64 x) &&& (BitVec.ofInt 64 9223372036854775807)).toNat : Int) := rfl
    rw [e, BitVec.toNat_and, h2]
    have hle : (BitVec.ofInt 64 x).toNat &&& 9223372036854775807 ≤ 9223372036854775807 := Nat.and_le_right
    generalize (BitVec.ofInt 64 x).toNat &&& 9223372036854775807 = y at hle
    simp [IntKind.wrap, IntKind.bits, IntKind.signed]; omega
  · rw [h4]
    have := (bits_within .and .i64 x 9223372036854775807).2
    have e2 : IntKind.max .i64 = 9223372036854775807 := rfl
    rw [e2] at this; exact this

theorem sameLists_spec {p q : Option Addr} {n c m d : Nat} {xs ys : Recs} (hr : RdLL σ p n xs) (hs : RdLL σ q m ys) (h : R (.returned (.bool (decide (xs = ys)))) σ) : Spec prog law0_SameLists.fid #[.slice p n c, .slice q m d] σ R := by
  refine law0_SameLists.start ⟨fun hne => ?_, fun he => ?_⟩
  · have : xs ≠ ys := fun e => hne (by rw [← hr.1, ← hs.1, e])
    simpa [this] using h
  · obtain rfl : n = m := by omega
    suffices H : ∀ d' k : Nat, n - k = d' → k ≤ n → xs.take k = ys.take k → law0_SameLists.pt17 R p n c q n d k σ from H n 0 rfl (Nat.zero_le _) (by simp)
    intro d'
    induction d' with
    | zero =>
      intro k hd hk hno
      refine law0_SameLists.pt17_of ⟨fun hlt => by omega, fun _ => ?_⟩
      rw [List.take_of_length_le (by rw [hr.1]; omega), List.take_of_length_le (by rw [hs.1]; omega)] at hno
      simpa [hno] using h
    | succ d' ih =>
      intro k hd hk hno
      refine law0_SameLists.pt17_of ⟨fun hlt => ?_, fun hge => by omega⟩
      have hk' : k < n := by omega
      obtain ⟨x, hx⟩ := hr.ex hk'
      obtain ⟨y, hy⟩ := hs.ex hk'
      obtain ⟨b, o, p1, n1, c1, rfl, hl, _, hr1⟩ := hr.at hx
      obtain ⟨b', o', p2, n2, c2, rfl, hl', _, hr2⟩ := hs.at hy
      refine ⟨b, o, rfl, by omega, p1, n1, c1, by simpa using hl, b', o', rfl, by omega, p2, n2, c2, by simpa using hl', sameBytes_spec hr1 hr2 ⟨_, rfl, fun hne => ?_, fun he => ⟨i64_succ hk' hr.big, ?_⟩⟩⟩
      · have : xs ≠ ys := fun e => by
          rw [decide_eq_false_iff_not] at hne
          exact hne (by rw [e, hy] at hx; cases hx; rfl)
        simpa [this] using h
      · have e := of_decide_eq_true he
        exact ih (k + 1) (by omega) (by omega) (take_eq_of hx hy hno e)

theorem copyLists_spec {p : Option Addr} {n c : Nat} {xs : Recs} (hr : RdLL σ p n xs) (hb : n ≤ 4194304) (hx : ∀ x ∈ xs, x.length ≤ 140737488355328)
    (h : ∀ p' c' σ', OwnLL (σ.new σ') p' n c' xs → Ext σ σ' → R (.returned (.slice p' n c')) σ') : Spec prog law0_CopyLists.fid #[.slice p n c] σ R := by
  refine law0_CopyLists.start ?_
  suffices H : ∀ (d k : Nat) (p' : Option Addr) (c' : Nat) (σ' : Hp), n - k = d → k ≤ n → OwnLL (σ.new σ') p' k c' (xs.take k) → Ext σ σ' → law0_CopyLists.pt11 R p n c p' k c' k σ' from H n 0 none 0 σ rfl (Nat.zero_le _) OwnL.nil (Ext.refl _)
  have hln : xs.length = n := hr.1
  intro d
  induction d with
  | zero =>
    intro k p' c' σ' hd hk ho hx'
    have : k = n := by omega
    subst this
    rw [List.take_of_length_le (by omega)] at ho
    exact law0_CopyLists.pt11_of ⟨fun hh => by omega, fun _ => h p' c' σ' ho hx'⟩
  | succ d ih =>
    intro k p' c' σ' hd hk ho hx'
    obtain ⟨x, hxk⟩ := hr.ex (k := k) (by omega)
    obtain ⟨b, o, p2, n2, c2, rfl, hl, hc2, hrd⟩ := hr.at hxk
    have hxl := hx x (List.mem_of_getElem? hxk)
    have hn2 : x.length = n2 := hrd.1
    refine law0_CopyLists.pt11_of ⟨fun _ => ⟨b, o, rfl, by omega, p2, n2, c2, by simpa using hx'.ld hl, copyBytes_spec (hrd.mono hx') (by omega) fun p3 c3 σ3 ho3 hx3 => ⟨p3, n2, c3, rfl, fun b17 hb17 => ?_⟩⟩, fun hh => by omega⟩
    have hb2 : ∀ a, p' = some a → σ' a.block ≠ none := fun a ha e => ho.block a ha (by
      cases hh : (σ.new σ') a.block with
      | none => rfl
      | some u => rw [(new_some.1 hh).2] at e; cases e)
    refine OwnL.app1 (T := 22) EBy.mono (hx'.trans hx3) (OwnL.mono EBy.mono (Ext.new_mono hx3) ho) rfl (fun u hu => by simp at hu; subst hu; rfl) (x := x) ⟨p3, n2, c3, rfl, Own.cap ho3, (OwnI.rd ho3).mono (Ext.new_into hx' hb2)⟩ (by omega) (fun p4 c4 σ4 ho4 hx4 => ⟨p4, _, c4, rfl, i64_succ (by omega) hr.big, ih (k + 1) p4 c4 σ4 (by omega) (by omega) ?_ hx4⟩) hb17
    rw [take_succ' hxk]; exact ho4
end
end TwW
end
section
/- written by gen.py: program points and what leads to them -/
set_option linter.unusedVariables false
set_option maxRecDepth 100000
namespace TwW
open Go Tw Go.Proofs.Tryz
noncomputable section
namespace law7_WalTwice
abbrev fid : Nat := 5
noncomputable def K0 := f5.body.getD .skip
def K1 := cl K0
def K2 := cr K0
def K3 := cl K2
def K4 := cr K2
def K5 := cl K4
def K6 := cr K4
def K7 := cl K6
def K8 := cr K6
def K9 := cl K8
def K10 := cl K9
def K11 := cr K9
def K12 := cl K11
def K13 := cl K12
def K14 := cl K13
def K15 := cl K14
def K16 := cr K14
def K17 := cl K16
def K18 := cr K16
def K19 := cr K13
def K20 := cl K19
def K21 := cl K20
def K22 := cl K21
def K23 := cl K22
def K24 := cr K22
def K25 := cl K24
def K26 := cr K24
def K27 := cr K21
def K28 := cl K27
def K29 := cl K28
def K30 := cr K28
def K31 := cl K30
def K32 := cl K31
def K33 := cr K31
def K34 := cr K30
def K35 := cr K27
def K36 := cl K35
def K37 := cr K35
def K38 := cl K37
def K39 := cr K37
def K40 := cl K39
def K41 := cl K40
def K42 := cr K40
def K43 := cl K42
def K44 := cr K42
def K45 := cl K44
def K46 := cl K45
def K47 := cr K45
def K48 := cl K47
def K49 := cl K48
def K50 := cr K48
def K51 := cr K47
def K52 := cr K44
def K53 := cr K39
def K54 := cr K19
def K55 := cr K8
def K56 := cl K55
def K57 := cl K56
def K58 := cr K56
def K59 := cl K58
def K60 := cl K59
def K61 := cr K59
def K62 := cr K58
def K63 := cr K55
def K64 := cl K63
def K65 := cr K63
def K66 := cl K65
def K67 := cr K65
def K68 := cl K67
def K69 := cr K67
abbrev gl (R : Ending → Hp → Prop) : Gl := Gl.fn prog 5 118 R
def pt15 (R : Ending → Hp → Prop) (p0 : Option Addr) (n0 c0 : Nat) (p1 : Option Addr) (n1 c1 : Nat) (q5 q6 : Option Addr) (x8 : Int) (p9 : Option Addr) (n9 c9 : Nat) (x10 : Int) (σ : Hp) : Prop := ∀ (J : Env), At (gl R) [.code K15, .code K16, .code K19, .inLoop K13, .inBlock 0, .code K55] (upds J [(0, (.slice p0 n0 c0)), (1, (.slice p1 n1 c1)), (5, (.pointer q5)), (6, (.pointer q6)), (8, (.int .i64 x8)), (9, (.slice p9 n9 c9)), (10, (.int .i64 x10))]) [] σ
def pt54 (R : Ending → Hp → Prop) (p0 : Option Addr) (n0 c0 : Nat) (p1 : Option Addr) (n1 c1 : Nat) (q5 q6 : Option Addr) (x8 : Int) (p9 : Option Addr) (n9 c9 : Nat) (x10 : Int) (σ : Hp) : Prop := ∀ (J : Env), At (gl R) [.code K54, .inLoop K13, .inBlock 0, .code K55] (upds J [(0, (.slice p0 n0 c0)), (1, (.slice p1 n1 c1)), (5, (.pointer q5)), (6, (.pointer q6)), (8, (.int .i64 x8)), (9, (.slice p9 n9 c9)), (10, (.int .i64 x10))]) [] σ
theorem start {R : Ending → Hp → Prop} {p0 p1 : Option Addr} {n0 c0 n1 c1 : Nat} {σ : Hp} (h : Spec prog 11 #[] σ (Cont R (fun v σ1 => ∃ q18 : Option Addr, v = (.pointer q18) ∧ Spec prog 12 #[(.pointer q18), (.string (ByteArray.mk #[120]))] σ1 (Cont R (fun v_2 σ1_2 => ∃ q21a : Option Addr, ∃ p21b : Option Addr, ∃ n21b : Nat, ∃ c21b : Nat, ∃ x21c : Int, v_2 = (.tuple #[(.pointer q21a), (.slice p21b n21b c21b), (.int .i64 x21c)]) ∧ pt15 R p0 n0 c0 p1 n1 c1 q18 q21a x21c none 0 0 0 σ1_2))))) : Spec prog 5 #[(.slice p0 n0 c0), (.slice p1 n1 c1)] σ R := by
 refine Spec.of_at (fn := f5) (c := K0) func5 (by kernel_rfl) (Nat.le_of_ble_eq_true (by kernel_rfl)) (fun e he => ?_)
 refine At.ofL (l := [(0, (.slice p0 n0 c0)), (1, (.slice p1 n1 c1))]) ⟨he 0, he 1, trivial⟩ (fun J => ?_)
 show At (gl R) _ _ _ _
 refine At.s K1 K2 ?_
 refine At.rg 0 [0] ?_
 refine Seq.u 4 (.bool false) ?_
 refine Seq.done ?_
 refine At.s K3 K4 ?_
 refine At.rg 1 [0, 1] ?_
 refine Seq.o ?_
 refine OpTo.cl (some 18) call11 (h.cont fun v σ1 h2 => ?_); replace h := h2; clear h2
 obtain ⟨q18, rfl, h⟩ := h
 refine Seq.u 5 (.pointer q18) ?_
 refine Seq.done ?_
 refine At.s K5 K6 ?_
 refine At.rg 2 [0, 1, 2, 3, 4, 5, 6, 7, 8] ?_
 refine Seq.u 20 (.pointer q18) ?_
 refine Seq.o ?_
 refine OpTo.cl (some 21) call12 (h.cont fun v_2 σ1_2 h2 => ?_); replace h := h2; clear h2
 obtain ⟨q21a, p21b, n21b, c21b, x21c, rfl, h⟩ := h
 refine Seq.us [(19, .tuple #[(.pointer q21a), (.slice p21b n21b c21b), (.int .i64 x21c)]), (22, .pointer q21a), (23, .slice p21b n21b c21b), (24, .int .i64 x21c), (6, .pointer q21a), (7, .slice p21b n21b c21b), (8, .int .i64 x21c)] ?_
 refine Seq.done ?_
 refine At.s K7 K8 ?_
 refine At.rg 3 [0] ?_
 refine Seq.u 9 (.slice none 0 0) ?_
 refine Seq.done ?_
 refine At.s K9 K55 ?_
 refine At.s K10 K11 ?_
 refine At.rg 4 [0] ?_
 refine Seq.u 10 (.int .i64 0) ?_
 refine Seq.done ?_
 refine At.b 0 K12 ?_
 refine At.loop (x := K13) (by kernel_rfl) ?_
 refine At.s K14 K19 ?_
 refine At.s K15 K16 ?_
 exact At.v [(0, (.slice p0 n0 c0)), (1, (.slice p1 n1 c1)), (5, (.pointer q18)), (6, (.pointer q21a)), (8, (.int .i64 x21c)), (9, (.slice none 0 0)), (10, (.int .i64 0))] (h _)
theorem pt15_of {R : Ending → Hp → Prop} {p0 p1 q5 q6 p9 : Option Addr} {n0 c0 n1 c1 n9 c9 : Nat} {x8 x10 : Int} {σ : Hp} (h : ((x10 : Int) < (n0 : Int) → ((x8 : Int) = 0 → ((Option.isSome q6) = true → ∃ (b41 o41 : Nat), p0 = some ⟨b41, o41, none⟩ ∧ ((0 : Int) ≤ x10 ∧ x10 < (n0 : Int)) ∧ ∃ p42 : Option Addr, ∃ n42 : Nat, ∃ c42 : Nat, Hp.ld σ ⟨b41, (o41 + Int.toNat x10 * 1), none⟩ = some (.slice p42 n42 c42) ∧ ((65536 : Int) < (n42 : Int) → pt54 R ((some ⟨b41, o41, none⟩)) n0 c0 p1 n1 c1 q5 q6 x8 p9 n9 c9 x10 σ) ∧ (¬ ((65536 : Int) < (n42 : Int)) → ((0 : Int) ≤ x10 ∧ x10 < (n0 : Int)) ∧ ∃ p49 : Option Addr, ∃ n49 : Nat, ∃ c49 : Nat, Hp.ld σ ⟨b41, (o41 + Int.toNat x10 * 1), none⟩ = some (.slice p49 n49 c49) ∧ Spec prog 14 #[(.slice p49 n49 c49)] σ (Cont R (fun v σ1 => ∃ p50 : Option Addr, ∃ n50 : Nat, ∃ c50 : Nat, v = (.slice p50 n50 c50) ∧ Spec prog 13 #[(.pointer q6), (.slice p50 n50 c50)] σ1 (Cont R (fun v_2 σ1_2 => ∃ x51 : Int, v_2 = (.int .i64 x51) ∧ ((x51 : Int) ≠ 0 → R (.returned (.bool false)) σ1_2) ∧ (¬ ((x51 : Int) ≠ 0) → ((0 : Int) ≤ x10 ∧ x10 < (n0 : Int)) ∧ ∃ p57 : Option Addr, ∃ n57 : Nat, ∃ c57 : Nat, Hp.ld σ1_2 ⟨b41, (o41 + Int.toNat x10 * 1), none⟩ = some (.slice p57 n57 c57) ∧ ∀ b58 : Nat, σ1_2 b58 = none → Eff prog (Builtin.append_ #[22, 22] 22 #[(.slice p9 n9 c9), (.slice (some ⟨b58, 0, none⟩) 1 1)]) (Hp.set σ1_2 b58 (.cells #[(.slice p57 n57 c57)] 23 (0, 0))) (fun v_3 σ1_3 => ∃ p59 : Option Addr, ∃ n59 : Nat, ∃ c59 : Nat, v_3 = (.slice p59 n59 c59) ∧ ((x10 : Int) < (n1 : Int) → ∃ (b67 o67 : Nat), p1 = some ⟨b67, o67, none⟩ ∧ ((0 : Int) ≤ x10 ∧ x10 < (n1 : Int)) ∧ ∃ t68 : Bool, Hp.ld σ1_3 ⟨b67, (o67 + Int.toNat x10 * 1), none⟩ = some (.bool t68) ∧ (t68 = true → Spec prog 16 #[(.pointer q6)] σ1_3 (Cont R (fun v_4 σ1_4 => ∃ x71 : Int, v_4 = (.int .i64 x71) ∧ Spec prog 12 #[(.pointer q5), (.string (ByteArray.mk #[120]))] σ1_4 (Cont R (fun v_5 σ1_5 => ∃ q74a : Option Addr, ∃ p74b : Option Addr, ∃ n74b : Nat, ∃ c74b : Nat, ∃ x74c : Int, v_5 = (.tuple #[(.pointer q74a), (.slice p74b n74b c74b), (.int .i64 x74c)]) ∧ ((x74c : Int) ≠ 0 → R (.returned (.bool false)) σ1_5) ∧ (¬ ((x74c : Int) ≠ 0) → Spec prog 21 #[(.slice p74b n74b c74b), (.slice p59 n59 c59)] σ1_5 (Cont R (fun v_6 σ1_6 => ∃ t83 : Bool, v_6 = (.bool t83) ∧ (t83 = false → R (.returned (.bool false)) σ1_6) ∧ (t83 = true → pt54 R ((some ⟨b41, o41, none⟩)) n0 c0 ((some ⟨b67, o67, none⟩)) n1 c1 q5 q74a x8 p59 n59 c59 x10 σ1_6))))))))) ∧ (t68 = false → pt54 R ((some ⟨b41, o41, none⟩)) n0 c0 ((some ⟨b67, o67, none⟩)) n1 c1 q5 q6 x8 p59 n59 c59 x10 σ1_3)) ∧ (¬ ((x10 : Int) < (n1 : Int)) → pt54 R ((some ⟨b41, o41, none⟩)) n0 c0 p1 n1 c1 q5 q6 x8 p59 n59 c59 x10 σ1_3))))))))) ∧ ((Option.isSome q6) = false → ((x8 : Int) ≠ 0 → R (.returned (.bool false)) σ) ∧ (¬ ((x8 : Int) ≠ 0) → ((Option.isNone q6) = true → R (.returned (.bool false)) σ) ∧ ((Option.isNone q6) = false → Spec prog 25 #[(.pointer q6)] σ (Cont R (fun v σ1 => ∃ x94 : Int, v = (.int .i64 x94) ∧ Spec prog 12 #[(.pointer q5), (.string (ByteArray.mk #[120]))] σ1 (Cont R (fun v_2 σ1_2 => ∃ q97a : Option Addr, ∃ p97b : Option Addr, ∃ n97b : Nat, ∃ c97b : Nat, ∃ x97c : Int, v_2 = (.tuple #[(.pointer q97a), (.slice p97b n97b c97b), (.int .i64 x97c)]) ∧ ((x97c : Int) = 0 → Spec prog 21 #[(.slice p97b n97b c97b), (.slice p9 n9 c9)] σ1_2 (Cont R (fun v_3 σ1_3 => ∃ t106 : Bool, v_3 = (.bool t106) ∧ (t106 = true → Spec prog 18 #[(.pointer q5), (.string (ByteArray.mk #[120, 47, 115]))] σ1_3 (Cont R (fun v_4 σ1_4 => ∃ p111 : Option Addr, ∃ n111 : Nat, ∃ c111 : Nat, v_4 = (.slice p111 n111 c111) ∧ ((x94 : Int) = (n111 : Int) → Spec prog 15 #[] σ1_4 (Cont R (fun v_5 σ1_5 => ∃ t116 : Bool, v_5 = (.bool t116) ∧ R (.returned (.bool t116)) σ1_5))) ∧ (¬ ((x94 : Int) = (n111 : Int)) → R (.returned (.bool false)) σ1_4)))) ∧ (t106 = false → R (.returned (.bool false)) σ1_3)))) ∧ (¬ ((x97c : Int) = 0) → R (.returned (.bool false)) σ1_2))))))))) ∧ (¬ ((x8 : Int) = 0) → ((x8 : Int) ≠ 0 → R (.returned (.bool false)) σ) ∧ (¬ ((x8 : Int) ≠ 0) → ((Option.isNone q6) = true → R (.returned (.bool false)) σ) ∧ ((Option.isNone q6) = false → Spec prog 25 #[(.pointer q6)] σ (Cont R (fun v σ1 => ∃ x94 : Int, v = (.int .i64 x94) ∧ Spec prog 12 #[(.pointer q5), (.string (ByteArray.mk #[120]))] σ1 (Cont R (fun v_2 σ1_2 => ∃ q97a : Option Addr, ∃ p97b : Option Addr, ∃ n97b : Nat, ∃ c97b : Nat, ∃ x97c : Int, v_2 = (.tuple #[(.pointer q97a), (.slice p97b n97b c97b), (.int .i64 x97c)]) ∧ ((x97c : Int) = 0 → Spec prog 21 #[(.slice p97b n97b c97b), (.slice p9 n9 c9)] σ1_2 (Cont R (fun v_3 σ1_3 => ∃ t106 : Bool, v_3 = (.bool t106) ∧ (t106 = true → Spec prog 18 #[(.pointer q5), (.string (ByteArray.mk #[120, 47, 115]))] σ1_3 (Cont R (fun v_4 σ1_4 => ∃ p111 : Option Addr, ∃ n111 : Nat, ∃ c111 : Nat, v_4 = (.slice p111 n111 c111) ∧ ((x94 : Int) = (n111 : Int) → Spec prog 15 #[] σ1_4 (Cont R (fun v_5 σ1_5 => ∃ t116 : Bool, v_5 = (.bool t116) ∧ R (.returned (.bool t116)) σ1_5))) ∧ (¬ ((x94 : Int) = (n111 : Int)) → R (.returned (.bool false)) σ1_4)))) ∧ (t106 = false → R (.returned (.bool false)) σ1_3)))) ∧ (¬ ((x97c : Int) = 0) → R (.returned (.bool false)) σ1_2))))))))) ∧ (¬ ((x10 : Int) < (n0 : Int)) → ((x8 : Int) ≠ 0 → R (.returned (.bool false)) σ) ∧ (¬ ((x8 : Int) ≠ 0) → ((Option.isNone q6) = true → R (.returned (.bool false)) σ) ∧ ((Option.isNone q6) = false → Spec prog 25 #[(.pointer q6)] σ (Cont R (fun v σ1 => ∃ x94 : Int, v = (.int .i64 x94) ∧ Spec prog 12 #[(.pointer q5), (.string (ByteArray.mk #[120]))] σ1 (Cont R (fun v_2 σ1_2 => ∃ q97a : Option Addr, ∃ p97b : Option Addr, ∃ n97b : Nat, ∃ c97b : Nat, ∃ x97c : Int, v_2 = (.tuple #[(.pointer q97a), (.slice p97b n97b c97b), (.int .i64 x97c)]) ∧ ((x97c : Int) = 0 → Spec prog 21 #[(.slice p97b n97b c97b), (.slice p9 n9 c9)] σ1_2 (Cont R (fun v_3 σ1_3 => ∃ t106 : Bool, v_3 = (.bool t106) ∧ (t106 = true → Spec prog 18 #[(.pointer q5), (.string (ByteArray.mk #[120, 47, 115]))] σ1_3 (Cont R (fun v_4 σ1_4 => ∃ p111 : Option Addr, ∃ n111 : Nat, ∃ c111 : Nat, v_4 = (.slice p111 n111 c111) ∧ ((x94 : Int) = (n111 : Int) → Spec prog 15 #[] σ1_4 (Cont R (fun v_5 σ1_5 => ∃ t116 : Bool, v_5 = (.bool t116) ∧ R (.returned (.bool t116)) σ1_5))) ∧ (¬ ((x94 : Int) = (n111 : Int)) → R (.returned (.bool false)) σ1_4)))) ∧ (t106 = false → R (.returned (.bool false)) σ1_3)))) ∧ (¬ ((x97c : Int) = 0) → R (.returned (.bool false)) σ1_2))))))))) : pt15 R p0 n0 c0 p1 n1 c1 q5 q6 x8 p9 n9 c9 x10 σ := by
 intro J
 show At (gl R) _ _ _ _
 refine At.rg 5 [0, 1, 2, 3, 4, 5, 6, 7, 8, 9, 10, 11] ?_
 refine Seq.us [(25, .int .i64 x10), (26, .slice p0 n0 c0)] ?_
 refine Seq.z 27 (.call { callee := .builtin .len, args := #[(.tmp 26)], argTypes := #[22] }) 3 (.int .i64 (n0 : Int)) (Y.lenS underlying22 rfl rfl) ?_
 refine Seq.us [(28, .bool (decide ((x10 : Int) < (n0 : Int)))), (29, .bool (decide ((x10 : Int) < (n0 : Int))))] ?_
 cases hb : (decide ((x10 : Int) < (n0 : Int))) with
 | true =>
  replace h := h.1 (of_decide_eq_true hb)
  refine Seq.us [(30, .int .i64 x8), (31, .bool (decide ((x8 : Int) = 0))), (32, .bool (decide ((x8 : Int) = 0))), (33, .bool (decide ((x8 : Int) = 0)))] ?_
  cases hb : (decide ((x8 : Int) = 0)) with
  | true =>
   replace h := h.1 (of_decide_eq_true hb)
   refine Seq.u 34 (.pointer q6) ?_
   refine Seq.zg 35 (.binOp .neq 26 (.tmp 34) (.const (.pointer none)) 26) 4 (8, true) (.bool (Option.isSome q6)) (Y.neqNil underlying26 rfl rfl) ?_
   refine Seq.u 36 (.bool (Option.isSome q6)) ?_
   refine Seq.done ?_
   cases hb : (Option.isSome q6) with
   | true =>
    replace h := h.1 hb
    refine At.cT 36 K17 K18 ?_
    refine At.skip ?_
    refine At.s K20 K54 ?_
    refine At.b 1 K21 ?_
    refine At.s K22 K27 ?_
    refine At.s K23 K24 ?_
    refine At.rg 7 [0, 1, 2, 3, 4, 5] ?_
    refine Seq.us [(39, .slice p0 n0 c0), (40, .int .i64 x10)] ?_
    obtain ⟨b41, o41, hq, h⟩ := h
    subst hq
    obtain ⟨hi, h⟩ := h
    refine Seq.z 41 (.indexAddr 22 (.tmp 39) (.tmp 40)) 0 (.pointer (some ⟨b41, (o41 + Int.toNat x10 * 1), none⟩)) (Y.idx underlying22 sizeOf23 rfl rfl hi rfl) ?_
    obtain ⟨p42, n42, c42, hl, h⟩ := h
    refine Seq.z 42 (.load 23 (.tmp 41)) 23 (.slice p42 n42 c42) (Y.ld isAgg23 rfl hl) ?_
    refine Seq.z 43 (.call { callee := .builtin .len, args := #[(.tmp 42)], argTypes := #[23] }) 3 (.int .i64 (n42 : Int)) (Y.lenS underlying23 rfl rfl) ?_
    refine Seq.u 44 (.bool (decide ((65536 : Int) < (n42 : Int)))) ?_
    refine Seq.done ?_
    cases hb : (decide ((65536 : Int) < (n42 : Int))) with
    | true =>
     replace h := h.1 (of_decide_eq_true hb)
     refine At.cT 44 K25 K26 ?_
     refine At.x 1 [.code K54, .inLoop K13, .inBlock 0, .code K55] ?_
     exact At.v [(0, (.slice (some ⟨b41, o41, none⟩) n0 c0)), (1, (.slice p1 n1 c1)), (5, (.pointer q5)), (6, (.pointer q6)), (8, (.int .i64 x8)), (9, (.slice p9 n9 c9)), (10, (.int .i64 x10))] (h _)
    | false =>
     replace h := h.2 (of_decide_eq_false hb)
     refine At.cF 44 K25 K26 ?_
     refine At.skip ?_
     refine At.s K28 K35 ?_
     refine At.s K29 K30 ?_
     refine At.rg 8 [0, 1, 2, 3, 4, 5, 6, 7] ?_
     refine Seq.us [(45, .pointer q6), (46, .slice (some ⟨b41, o41, none⟩) n0 c0), (47, .int .i64 x10)] ?_
     obtain ⟨hi, h⟩ := h
     refine Seq.z 48 (.indexAddr 22 (.tmp 46) (.tmp 47)) 0 (.pointer (some ⟨b41, (o41 + Int.toNat x10 * 1), none⟩)) (Y.idx underlying22 sizeOf23 rfl rfl hi rfl) ?_
     obtain ⟨p49, n49, c49, hl, h⟩ := h
     refine Seq.z 49 (.load 23 (.tmp 48)) 23 (.slice p49 n49 c49) (Y.ld isAgg23 rfl hl) ?_
     refine Seq.o ?_
     refine OpTo.cl (some 50) call14 (h.cont fun v σ1 h2 => ?_); replace h := h2; clear h2
     obtain ⟨p50, n50, c50, rfl, h⟩ := h
     refine Seq.o ?_
     refine OpTo.cl (some 51) call13 (h.cont fun v_2 σ1_2 h2 => ?_); replace h := h2; clear h2
     obtain ⟨x51, rfl, h⟩ := h
     refine Seq.u 52 (.bool (decide ((x51 : Int) ≠ 0))) ?_
     refine Seq.done ?_
     cases hb : (decide ((x51 : Int) ≠ 0)) with
     | true =>
      replace h := h.1 (of_decide_eq_true hb)
      refine At.cT 52 K31 K34 ?_
      refine At.s K32 K33 ?_
      refine At.rg 9 [0] ?_
      refine Seq.u 4 (.bool false) ?_
      refine Seq.done ?_
      exact At.rt [.tmp 4] [(.bool false)] func5 ⟨_, rfl, rfl⟩ h
     | false =>
      replace h := h.2 (of_decide_eq_false hb)
      refine At.cF 52 K31 K34 ?_
      refine At.skip ?_
      refine At.s K36 K37 ?_
      refine At.rg 10 [0, 1, 2, 3, 4, 5, 6, 7] ?_
      refine Seq.us [(53, .slice p9 n9 c9), (54, .slice (some ⟨b41, o41, none⟩) n0 c0), (55, .int .i64 x10)] ?_
      obtain ⟨hi, h⟩ := h
      refine Seq.z 56 (.indexAddr 22 (.tmp 54) (.tmp 55)) 0 (.pointer (some ⟨b41, (o41 + Int.toNat x10 * 1), none⟩)) (Y.idx underlying22 sizeOf23 rfl rfl hi rfl) ?_
      obtain ⟨p57, n57, c57, hl, h⟩ := h
      refine Seq.z 57 (.load 23 (.tmp 56)) 23 (.slice p57 n57 c57) (Y.ld isAgg23 rfl hl) ?_
      refine Seq.o ?_
      refine OpTo.bslice (T := 22) (E := 23) (m := 1) (ps := #[(0, (.tmp 57))]) (d := (some 58)) (ty := 22) (gd := none) (vs := [(0, (.slice p57 n57 c57))]) (cs := #[(.slice p57 n57 c57)]) underlying22 (by kernel_rfl) rfl rfl rfl (by kernel_rfl) (fun b58 hn => ?_)
      replace h := h b58 hn
      refine Seq.o ?_
      refine OpTo.eff (d := (some 59)) (op := (.call { callee := .builtin .append, args := #[(.tmp 53), (.tmp 58)], argTypes := #[22, 22] })) (ty := 22) (gd := none) (by kernel_rfl) rfl rfl (Builtin.append_ #[22, 22] 22 #[(.slice p9 n9 c9), (.slice (some ⟨b58, 0, none⟩) 1 1)]) (fun o ho ht => exec_b_append rfl rfl o ho ht) (h.mono (fun v_3 σ1_3 h2 => ?_)); replace h := h2; clear h2
      obtain ⟨p59, n59, c59, rfl, h⟩ := h
      refine Seq.u 9 (.slice p59 n59 c59) ?_
      refine Seq.done ?_
      refine At.s K38 K39 ?_
      refine At.rg 11 [0, 1, 2, 3, 4, 5, 6, 7, 8, 9] ?_
      refine Seq.us [(60, .int .i64 x10), (61, .slice p1 n1 c1)] ?_
      refine Seq.z 62 (.call { callee := .builtin .len, args := #[(.tmp 61)], argTypes := #[46] }) 3 (.int .i64 (n1 : Int)) (Y.lenS underlying46 rfl rfl) ?_
      refine Seq.us [(63, .bool (decide ((x10 : Int) < (n1 : Int)))), (64, .bool (decide ((x10 : Int) < (n1 : Int))))] ?_
      cases hb : (decide ((x10 : Int) < (n1 : Int))) with
      | true =>
       replace h := h.1 (of_decide_eq_true hb)
       refine Seq.us [(65, .slice p1 n1 c1), (66, .int .i64 x10)] ?_
       obtain ⟨b67, o67, hq, h⟩ := h
       subst hq
       obtain ⟨hi, h⟩ := h
       refine Seq.zg 67 (.indexAddr 46 (.tmp 65) (.tmp 66)) 0 (4, true) (.pointer (some ⟨b67, (o67 + Int.toNat x10 * 1), none⟩)) (Y.idx underlying46 sizeOf4 rfl rfl hi rfl) ?_
       obtain ⟨t68, hl, h⟩ := h
       refine Seq.zg 68 (.load 4 (.tmp 67)) 4 (4, true) (.bool t68) (Y.ld isAgg4 rfl hl) ?_
       refine Seq.u 69 (.bool t68) ?_
       refine Seq.done ?_
       refine At.L [(0, (.slice (some ⟨b41, o41, none⟩) n0 c0)), (1, (.slice (some ⟨b67, o67, none⟩) n1 c1)), (5, (.pointer q5)), (6, (.pointer q6)), (8, (.int .i64 x8)), (9, (.slice p59 n59 c59)), (10, (.int .i64 x10)), (69, (.bool t68))] fun J => ?_
       cases hb : t68 with
       | true =>
        replace h := h.1 hb
        refine At.cT 69 K40 K53 ?_
        refine At.s K41 K42 ?_
        refine At.rg 12 [0, 1] ?_
        refine Seq.u 70 (.pointer q6) ?_
        refine Seq.o ?_
        refine OpTo.cl (some 71) call16 (h.cont fun v_4 σ1_4 h2 => ?_); replace h := h2; clear h2
        obtain ⟨x71, rfl, h⟩ := h
        refine Seq.done ?_
        refine At.s K43 K44 ?_
        refine At.rg 13 [0, 1, 2, 3, 4, 5, 6, 7, 8] ?_
        refine Seq.u 73 (.pointer q5) ?_
        refine Seq.o ?_
        refine OpTo.cl (some 74) call12 (h.cont fun v_5 σ1_5 h2 => ?_); replace h := h2; clear h2
        obtain ⟨q74a, p74b, n74b, c74b, x74c, rfl, h⟩ := h
        refine Seq.us [(72, .tuple #[(.pointer q74a), (.slice p74b n74b c74b), (.int .i64 x74c)]), (75, .pointer q74a), (76, .slice p74b n74b c74b), (77, .int .i64 x74c), (11, .pointer q74a), (12, .slice p74b n74b c74b), (13, .int .i64 x74c)] ?_
        refine Seq.done ?_
        refine At.s K45 K52 ?_
        refine At.s K46 K47 ?_
        refine At.rg 14 [0, 1, 2, 3, 4, 5, 6, 7] ?_
        refine Seq.us [(78, .int .i64 x74c), (79, .bool (decide ((x74c : Int) ≠ 0))), (80, .bool (decide ((x74c : Int) ≠ 0)))] ?_
        cases hb : (decide ((x74c : Int) ≠ 0)) with
        | true =>
         replace h := h.1 (of_decide_eq_true hb)
         refine Seq.n 81 ?_
         refine Seq.n 82 ?_
         refine Seq.n 83 ?_
         refine Seq.n 84 ?_
         refine Seq.u 85 (.bool true) ?_
         refine Seq.done ?_
         refine At.cT 85 K48 K51 ?_
         refine At.s K49 K50 ?_
         refine At.rg 15 [0] ?_
         refine Seq.u 4 (.bool false) ?_
         refine Seq.done ?_
         exact At.rt [.tmp 4] [(.bool false)] func5 ⟨_, rfl, rfl⟩ h
        | false =>
         replace h := h.2 (of_decide_eq_false hb)
         refine Seq.us [(81, .slice p74b n74b c74b), (82, .slice p59 n59 c59)] ?_
         refine Seq.o ?_
         refine OpTo.cl (some 83) call21 (h.cont fun v_6 σ1_6 h2 => ?_); replace h := h2; clear h2
         obtain ⟨t83, rfl, h⟩ := h
         refine Seq.us [(84, .bool (!t83)), (85, .bool (!t83))] ?_
         refine Seq.done ?_
         cases hb : (!t83) with
         | true =>
          replace h := h.1 (Tw.nt hb)
          refine At.cT 85 K48 K51 ?_
          refine At.s K49 K50 ?_
          refine At.rg 15 [0] ?_
          refine Seq.u 4 (.bool false) ?_
          refine Seq.done ?_
          exact At.rt [.tmp 4] [(.bool false)] func5 ⟨_, rfl, rfl⟩ h
         | false =>
          replace h := h.2 (Tw.nf hb)
          refine At.cF 85 K48 K51 ?_
          refine At.skip ?_
          refine At.rg 16 [0, 1] ?_
          refine Seq.us [(86, .pointer q74a), (6, .pointer q74a)] ?_
          refine Seq.done ?_
          refine At.inBlock ?_
          exact At.v [(0, (.slice (some ⟨b41, o41, none⟩) n0 c0)), (1, (.slice (some ⟨b67, o67, none⟩) n1 c1)), (5, (.pointer q5)), (6, (.pointer q74a)), (8, (.int .i64 x8)), (9, (.slice p59 n59 c59)), (10, (.int .i64 x10))] (h _)
       | false =>
        replace h := h.2 hb
        refine At.cF 69 K40 K53 ?_
        refine At.skip ?_
        refine At.inBlock ?_
        exact At.v [(0, (.slice (some ⟨b41, o41, none⟩) n0 c0)), (1, (.slice (some ⟨b67, o67, none⟩) n1 c1)), (5, (.pointer q5)), (6, (.pointer q6)), (8, (.int .i64 x8)), (9, (.slice p59 n59 c59)), (10, (.int .i64 x10))] (h _)
      | false =>
       replace h := h.2 (of_decide_eq_false hb)
       refine Seq.n 65 ?_
       refine Seq.n 66 ?_
       refine Seq.n 67 ?_
       refine Seq.n 68 ?_
       refine Seq.u 69 (.bool false) ?_
       refine Seq.done ?_
       refine At.cF 69 K40 K53 ?_
       refine At.skip ?_
       refine At.inBlock ?_
       exact At.v [(0, (.slice (some ⟨b41, o41, none⟩) n0 c0)), (1, (.slice p1 n1 c1)), (5, (.pointer q5)), (6, (.pointer q6)), (8, (.int .i64 x8)), (9, (.slice p59 n59 c59)), (10, (.int .i64 x10))] (h _)
   | false =>
    replace h := h.2 hb
    refine At.cF 36 K17 K18 ?_
    refine At.x 0 [.code K55] ?_
    refine At.s K56 K63 ?_
    refine At.s K57 K58 ?_
    refine At.rg 17 [0, 1, 2, 3, 4, 5] ?_
    refine Seq.us [(87, .int .i64 x8), (88, .bool (decide ((x8 : Int) ≠ 0))), (89, .bool (decide ((x8 : Int) ≠ 0)))] ?_
    cases hb : (decide ((x8 : Int) ≠ 0)) with
    | true =>
     replace h := h.1 (of_decide_eq_true hb)
     refine Seq.n 90 ?_
     refine Seq.n 91 ?_
     refine Seq.u 92 (.bool true) ?_
     refine Seq.done ?_
     refine At.L [(5, (.pointer q5)), (6, (.pointer q6)), (9, (.slice p9 n9 c9)), (92, (.bool true))] fun J => ?_
     refine At.cT 92 K59 K62 ?_
     refine At.s K60 K61 ?_
     refine At.rg 18 [0] ?_
     refine Seq.u 4 (.bool false) ?_
     refine Seq.done ?_
     exact At.rt [.tmp 4] [(.bool false)] func5 ⟨_, rfl, rfl⟩ h
    | false =>
     replace h := h.2 (of_decide_eq_false hb)
     refine Seq.u 90 (.pointer q6) ?_
     refine Seq.zg 91 (.binOp .eql 26 (.tmp 90) (.const (.pointer none)) 26) 4 (2, false) (.bool (Option.isNone q6)) (Y.eqlNil underlying26 rfl rfl) ?_
     refine Seq.u 92 (.bool (Option.isNone q6)) ?_
     refine Seq.done ?_
     cases hb : (Option.isNone q6) with
     | true =>
      replace h := h.1 hb
      refine At.cT 92 K59 K62 ?_
      refine At.s K60 K61 ?_
      refine At.rg 18 [0] ?_
      refine Seq.u 4 (.bool false) ?_
      refine Seq.done ?_
      exact At.rt [.tmp 4] [(.bool false)] func5 ⟨_, rfl, rfl⟩ h
     | false =>
      replace h := h.2 hb
      refine At.cF 92 K59 K62 ?_
      refine At.skip ?_
      refine At.s K64 K65 ?_
      refine At.rg 19 [0, 1, 2] ?_
      refine Seq.u 93 (.pointer q6) ?_
      refine Seq.o ?_
      refine OpTo.cl (some 94) call25 (h.cont fun v σ1 h2 => ?_); replace h := h2; clear h2
      obtain ⟨x94, rfl, h⟩ := h
      refine Seq.u 14 (.int .i64 x94) ?_
      refine Seq.done ?_
      refine At.s K66 K67 ?_
      refine At.rg 20 [0, 1, 2, 3, 4, 5, 6, 7, 8] ?_
      refine Seq.u 96 (.pointer q5) ?_
      refine Seq.o ?_
      refine OpTo.cl (some 97) call12 (h.cont fun v_2 σ1_2 h2 => ?_); replace h := h2; clear h2
      obtain ⟨q97a, p97b, n97b, c97b, x97c, rfl, h⟩ := h
      refine Seq.us [(95, .tuple #[(.pointer q97a), (.slice p97b n97b c97b), (.int .i64 x97c)]), (98, .pointer q97a), (99, .slice p97b n97b c97b), (100, .int .i64 x97c), (15, .pointer q97a), (16, .slice p97b n97b c97b), (17, .int .i64 x97c)] ?_
      refine Seq.done ?_
      refine At.s K68 K69 ?_
      refine At.rg 21 [0, 1, 2, 3, 4, 5, 6, 7, 8, 9, 10, 11, 12, 13, 14, 15, 16, 17] ?_
      refine Seq.us [(101, .int .i64 x97c), (102, .bool (decide ((x97c : Int) = 0))), (103, .bool (decide ((x97c : Int) = 0)))] ?_
      cases hb : (decide ((x97c : Int) = 0)) with
      | true =>
       replace h := h.1 (of_decide_eq_true hb)
       refine Seq.us [(104, .slice p97b n97b c97b), (105, .slice p9 n9 c9)] ?_
       refine Seq.o ?_
       refine OpTo.cl (some 106) call21 (h.cont fun v_3 σ1_3 h2 => ?_); replace h := h2; clear h2
       obtain ⟨t106, rfl, h⟩ := h
       refine Seq.us [(107, .bool t106), (108, .bool t106)] ?_
       cases hb : t106 with
       | true =>
        replace h := h.1 hb
        refine Seq.us [(109, .int .i64 x94), (110, .pointer q5)] ?_
        refine Seq.o ?_
        refine OpTo.cl (some 111) call18 (h.cont fun v_4 σ1_4 h2 => ?_); replace h := h2; clear h2
        obtain ⟨p111, n111, c111, rfl, h⟩ := h
        refine Seq.zg 112 (.call { callee := .builtin .len, args := #[(.tmp 111)], argTypes := #[36] }) 3 (7, true) (.int .i64 (n111 : Int)) (Y.lenS underlying36 rfl rfl) ?_
        refine Seq.us [(113, .bool (decide ((x94 : Int) = (n111 : Int)))), (114, .bool (decide ((x94 : Int) = (n111 : Int)))), (115, .bool (decide ((x94 : Int) = (n111 : Int))))] ?_
        cases hb : (decide ((x94 : Int) = (n111 : Int))) with
        | true =>
         replace h := h.1 (of_decide_eq_true hb)
         refine Seq.o ?_
         refine OpTo.cl (some 116) call15 (h.cont fun v_5 σ1_5 h2 => ?_); replace h := h2; clear h2
         obtain ⟨t116, rfl, h⟩ := h
         refine Seq.us [(117, .bool t116), (4, .bool t116)] ?_
         refine Seq.done ?_
         exact At.rt [.tmp 4] [(.bool t116)] func5 ⟨_, rfl, rfl⟩ h
        | false =>
         replace h := h.2 (of_decide_eq_false hb)
         refine Seq.n 116 ?_
         refine Seq.us [(117, .bool false), (4, .bool false)] ?_
         refine Seq.done ?_
         refine At.L [(4, (.bool false))] fun J => ?_
         exact At.rt [.tmp 4] [(.bool false)] func5 ⟨_, rfl, rfl⟩ h
       | false =>
        replace h := h.2 hb
        refine Seq.n 109 ?_
        refine Seq.n 110 ?_
        refine Seq.n 111 ?_
        refine Seq.n 112 ?_
        refine Seq.n 113 ?_
        refine Seq.us [(114, .bool false), (115, .bool false)] ?_
        refine Seq.n 116 ?_
        refine Seq.us [(117, .bool false), (4, .bool false)] ?_
        refine Seq.done ?_
        exact At.rt [.tmp 4] [(.bool false)] func5 ⟨_, rfl, rfl⟩ h
      | false =>
       replace h := h.2 (of_decide_eq_false hb)
       refine Seq.n 104 ?_
       refine Seq.n 105 ?_
       refine Seq.n 106 ?_
       refine Seq.us [(107, .bool false), (108, .bool false)] ?_
       refine Seq.n 109 ?_
       refine Seq.n 110 ?_
       refine Seq.n 111 ?_
       refine Seq.n 112 ?_
       refine Seq.n 113 ?_
       refine Seq.us [(114, .bool false), (115, .bool false)] ?_
       refine Seq.n 116 ?_
       refine Seq.us [(117, .bool false), (4, .bool false)] ?_
       refine Seq.done ?_
       exact At.rt [.tmp 4] [(.bool false)] func5 ⟨_, rfl, rfl⟩ h
  | false =>
   replace h := h.2 (of_decide_eq_false hb)
   refine Seq.n 34 ?_
   refine Seq.n 35 ?_
   refine Seq.u 36 (.bool false) ?_
   refine Seq.done ?_
   refine At.cF 36 K17 K18 ?_
   refine At.x 0 [.code K55] ?_
   refine At.s K56 K63 ?_
   refine At.s K57 K58 ?_
   refine At.rg 17 [0, 1, 2, 3, 4, 5] ?_
   refine Seq.us [(87, .int .i64 x8), (88, .bool (decide ((x8 : Int) ≠ 0))), (89, .bool (decide ((x8 : Int) ≠ 0)))] ?_
   cases hb : (decide ((x8 : Int) ≠ 0)) with
   | true =>
    replace h := h.1 (of_decide_eq_true hb)
    refine Seq.n 90 ?_
    refine Seq.n 91 ?_
    refine Seq.u 92 (.bool true) ?_
    refine Seq.done ?_
    refine At.cT 92 K59 K62 ?_
    refine At.s K60 K61 ?_
    refine At.rg 18 [0] ?_
    refine Seq.u 4 (.bool false) ?_
    refine Seq.done ?_
    exact At.rt [.tmp 4] [(.bool false)] func5 ⟨_, rfl, rfl⟩ h
   | false =>
    replace h := h.2 (of_decide_eq_false hb)
    refine Seq.u 90 (.pointer q6) ?_
    refine Seq.zg 91 (.binOp .eql 26 (.tmp 90) (.const (.pointer none)) 26) 4 (2, false) (.bool (Option.isNone q6)) (Y.eqlNil underlying26 rfl rfl) ?_
    refine Seq.u 92 (.bool (Option.isNone q6)) ?_
    refine Seq.done ?_
    cases hb : (Option.isNone q6) with
    | true =>
     replace h := h.1 hb
     refine At.cT 92 K59 K62 ?_
     refine At.s K60 K61 ?_
     refine At.rg 18 [0] ?_
     refine Seq.u 4 (.bool false) ?_
     refine Seq.done ?_
     refine At.L [(4, (.bool false))] fun J => ?_
     exact At.rt [.tmp 4] [(.bool false)] func5 ⟨_, rfl, rfl⟩ h
    | false =>
     replace h := h.2 hb
     refine At.cF 92 K59 K62 ?_
     refine At.skip ?_
     refine At.s K64 K65 ?_
     refine At.rg 19 [0, 1, 2] ?_
     refine Seq.u 93 (.pointer q6) ?_
     refine Seq.o ?_
     refine OpTo.cl (some 94) call25 (h.cont fun v σ1 h2 => ?_); replace h := h2; clear h2
     obtain ⟨x94, rfl, h⟩ := h
     refine Seq.u 14 (.int .i64 x94) ?_
     refine Seq.done ?_
     refine At.s K66 K67 ?_
     refine At.rg 20 [0, 1, 2, 3, 4, 5, 6, 7, 8] ?_
     refine Seq.u 96 (.pointer q5) ?_
     refine Seq.o ?_
     refine OpTo.cl (some 97) call12 (h.cont fun v_2 σ1_2 h2 => ?_); replace h := h2; clear h2
     obtain ⟨q97a, p97b, n97b, c97b, x97c, rfl, h⟩ := h
     refine Seq.us [(95, .tuple #[(.pointer q97a), (.slice p97b n97b c97b), (.int .i64 x97c)]), (98, .pointer q97a), (99, .slice p97b n97b c97b), (100, .int .i64 x97c), (15, .pointer q97a), (16, .slice p97b n97b c97b), (17, .int .i64 x97c)] ?_
     refine Seq.done ?_
     refine At.s K68 K69 ?_
     refine At.rg 21 [0, 1, 2, 3, 4, 5, 6, 7, 8, 9, 10, 11, 12, 13, 14, 15, 16, 17] ?_
     refine Seq.us [(101, .int .i64 x97c), (102, .bool (decide ((x97c : Int) = 0))), (103, .bool (decide ((x97c : Int) = 0)))] ?_
     cases hb : (decide ((x97c : Int) = 0)) with
     | true =>
      replace h := h.1 (of_decide_eq_true hb)
      refine Seq.us [(104, .slice p97b n97b c97b), (105, .slice p9 n9 c9)] ?_
      refine Seq.o ?_
      refine OpTo.cl (some 106) call21 (h.cont fun v_3 σ1_3 h2 => ?_); replace h := h2; clear h2
      obtain ⟨t106, rfl, h⟩ := h
      refine Seq.us [(107, .bool t106), (108, .bool t106)] ?_
      cases hb : t106 with
      | true =>
       replace h := h.1 hb
       refine Seq.us [(109, .int .i64 x94), (110, .pointer q5)] ?_
       refine Seq.o ?_
       refine OpTo.cl (some 111) call18 (h.cont fun v_4 σ1_4 h2 => ?_); replace h := h2; clear h2
       obtain ⟨p111, n111, c111, rfl, h⟩ := h
       refine Seq.zg 112 (.call { callee := .builtin .len, args := #[(.tmp 111)], argTypes := #[36] }) 3 (7, true) (.int .i64 (n111 : Int)) (Y.lenS underlying36 rfl rfl) ?_
       refine Seq.us [(113, .bool (decide ((x94 : Int) = (n111 : Int)))), (114, .bool (decide ((x94 : Int) = (n111 : Int)))), (115, .bool (decide ((x94 : Int) = (n111 : Int))))] ?_
       cases hb : (decide ((x94 : Int) = (n111 : Int))) with
       | true =>
        replace h := h.1 (of_decide_eq_true hb)
        refine Seq.o ?_
        refine OpTo.cl (some 116) call15 (h.cont fun v_5 σ1_5 h2 => ?_); replace h := h2; clear h2
        obtain ⟨t116, rfl, h⟩ := h
        refine Seq.us [(117, .bool t116), (4, .bool t116)] ?_
        refine Seq.done ?_
        exact At.rt [.tmp 4] [(.bool t116)] func5 ⟨_, rfl, rfl⟩ h
       | false =>
        replace h := h.2 (of_decide_eq_false hb)
        refine Seq.n 116 ?_
        refine Seq.us [(117, .bool false), (4, .bool false)] ?_
        refine Seq.done ?_
        exact At.rt [.tmp 4] [(.bool false)] func5 ⟨_, rfl, rfl⟩ h
      | false =>
       replace h := h.2 hb
       refine Seq.n 109 ?_
       refine Seq.n 110 ?_
       refine Seq.n 111 ?_
       refine Seq.n 112 ?_
       refine Seq.n 113 ?_
       refine Seq.us [(114, .bool false), (115, .bool false)] ?_
       refine Seq.n 116 ?_
       refine Seq.us [(117, .bool false), (4, .bool false)] ?_
       refine Seq.done ?_
       refine At.L [(4, (.bool false))] fun J => ?_
       exact At.rt [.tmp 4] [(.bool false)] func5 ⟨_, rfl, rfl⟩ h
     | false =>
      replace h := h.2 (of_decide_eq_false hb)
      refine Seq.n 104 ?_
      refine Seq.n 105 ?_
      refine Seq.n 106 ?_
      refine Seq.us [(107, .bool false), (108, .bool false)] ?_
      refine Seq.n 109 ?_
      refine Seq.n 110 ?_
      refine Seq.n 111 ?_
      refine Seq.n 112 ?_
      refine Seq.n 113 ?_
      refine Seq.us [(114, .bool false), (115, .bool false)] ?_
      refine Seq.n 116 ?_
      refine Seq.us [(117, .bool false), (4, .bool false)] ?_
      refine Seq.done ?_
      exact At.rt [.tmp 4] [(.bool false)] func5 ⟨_, rfl, rfl⟩ h
 | false =>
  replace h := h.2 (of_decide_eq_false hb)
  refine Seq.n 30 ?_
  refine Seq.n 31 ?_
  refine Seq.us [(32, .bool false), (33, .bool false)] ?_
  refine Seq.n 34 ?_
  refine Seq.n 35 ?_
  refine Seq.u 36 (.bool false) ?_
  refine Seq.done ?_
  refine At.cF 36 K17 K18 ?_
  refine At.x 0 [.code K55] ?_
  refine At.s K56 K63 ?_
  refine At.s K57 K58 ?_
  refine At.rg 17 [0, 1, 2, 3, 4, 5] ?_
  refine Seq.us [(87, .int .i64 x8), (88, .bool (decide ((x8 : Int) ≠ 0))), (89, .bool (decide ((x8 : Int) ≠ 0)))] ?_
  cases hb : (decide ((x8 : Int) ≠ 0)) with
  | true =>
   replace h := h.1 (of_decide_eq_true hb)
   refine Seq.n 90 ?_
   refine Seq.n 91 ?_
   refine Seq.u 92 (.bool true) ?_
   refine Seq.done ?_
   refine At.cT 92 K59 K62 ?_
   refine At.s K60 K61 ?_
   refine At.rg 18 [0] ?_
   refine Seq.u 4 (.bool false) ?_
   refine Seq.done ?_
   exact At.rt [.tmp 4] [(.bool false)] func5 ⟨_, rfl, rfl⟩ h
  | false =>
   replace h := h.2 (of_decide_eq_false hb)
   refine Seq.u 90 (.pointer q6) ?_
   refine Seq.zg 91 (.binOp .eql 26 (.tmp 90) (.const (.pointer none)) 26) 4 (2, false) (.bool (Option.isNone q6)) (Y.eqlNil underlying26 rfl rfl) ?_
   refine Seq.u 92 (.bool (Option.isNone q6)) ?_
   refine Seq.done ?_
   cases hb : (Option.isNone q6) with
   | true =>
    replace h := h.1 hb
    refine At.cT 92 K59 K62 ?_
    refine At.s K60 K61 ?_
    refine At.rg 18 [0] ?_
    refine Seq.u 4 (.bool false) ?_
    refine Seq.done ?_
    exact At.rt [.tmp 4] [(.bool false)] func5 ⟨_, rfl, rfl⟩ h
   | false =>
    replace h := h.2 hb
    refine At.cF 92 K59 K62 ?_
    refine At.skip ?_
    refine At.s K64 K65 ?_
    refine At.rg 19 [0, 1, 2] ?_
    refine Seq.u 93 (.pointer q6) ?_
    refine Seq.o ?_
    refine OpTo.cl (some 94) call25 (h.cont fun v σ1 h2 => ?_); replace h := h2; clear h2
    obtain ⟨x94, rfl, h⟩ := h
    refine Seq.u 14 (.int .i64 x94) ?_
    refine Seq.done ?_
    refine At.s K66 K67 ?_
    refine At.rg 20 [0, 1, 2, 3, 4, 5, 6, 7, 8] ?_
    refine Seq.u 96 (.pointer q5) ?_
    refine Seq.o ?_
    refine OpTo.cl (some 97) call12 (h.cont fun v_2 σ1_2 h2 => ?_); replace h := h2; clear h2
    obtain ⟨q97a, p97b, n97b, c97b, x97c, rfl, h⟩ := h
    refine Seq.us [(95, .tuple #[(.pointer q97a), (.slice p97b n97b c97b), (.int .i64 x97c)]), (98, .pointer q97a), (99, .slice p97b n97b c97b), (100, .int .i64 x97c), (15, .pointer q97a), (16, .slice p97b n97b c97b), (17, .int .i64 x97c)] ?_
    refine Seq.done ?_
    refine At.L [(5, (.pointer q5)), (9, (.slice p9 n9 c9)), (14, (.int .i64 x94)), (16, (.slice p97b n97b c97b)), (17, (.int .i64 x97c))] fun J => ?_
    refine At.s K68 K69 ?_
    refine At.rg 21 [0, 1, 2, 3, 4, 5, 6, 7, 8, 9, 10, 11, 12, 13, 14, 15, 16, 17] ?_
    refine Seq.us [(101, .int .i64 x97c), (102, .bool (decide ((x97c : Int) = 0))), (103, .bool (decide ((x97c : Int) = 0)))] ?_
    cases hb : (decide ((x97c : Int) = 0)) with
    | true =>
     replace h := h.1 (of_decide_eq_true hb)
     refine Seq.us [(104, .slice p97b n97b c97b), (105, .slice p9 n9 c9)] ?_
     refine Seq.o ?_
     refine OpTo.cl (some 106) call21 (h.cont fun v_3 σ1_3 h2 => ?_); replace h := h2; clear h2
     obtain ⟨t106, rfl, h⟩ := h
     refine Seq.us [(107, .bool t106), (108, .bool t106)] ?_
     cases hb : t106 with
     | true =>
      replace h := h.1 hb
      refine Seq.us [(109, .int .i64 x94), (110, .pointer q5)] ?_
      refine Seq.o ?_
      refine OpTo.cl (some 111) call18 (h.cont fun v_4 σ1_4 h2 => ?_); replace h := h2; clear h2
      obtain ⟨p111, n111, c111, rfl, h⟩ := h
      refine Seq.zg 112 (.call { callee := .builtin .len, args := #[(.tmp 111)], argTypes := #[36] }) 3 (7, true) (.int .i64 (n111 : Int)) (Y.lenS underlying36 rfl rfl) ?_
      refine Seq.us [(113, .bool (decide ((x94 : Int) = (n111 : Int)))), (114, .bool (decide ((x94 : Int) = (n111 : Int)))), (115, .bool (decide ((x94 : Int) = (n111 : Int))))] ?_
      cases hb : (decide ((x94 : Int) = (n111 : Int))) with
      | true =>
       replace h := h.1 (of_decide_eq_true hb)
       refine Seq.o ?_
       refine OpTo.cl (some 116) call15 (h.cont fun v_5 σ1_5 h2 => ?_); replace h := h2; clear h2
       obtain ⟨t116, rfl, h⟩ := h
       refine Seq.us [(117, .bool t116), (4, .bool t116)] ?_
       refine Seq.done ?_
       exact At.rt [.tmp 4] [(.bool t116)] func5 ⟨_, rfl, rfl⟩ h
      | false =>
       replace h := h.2 (of_decide_eq_false hb)
       refine Seq.n 116 ?_
       refine Seq.us [(117, .bool false), (4, .bool false)] ?_
       refine Seq.done ?_
       exact At.rt [.tmp 4] [(.bool false)] func5 ⟨_, rfl, rfl⟩ h
     | false =>
      replace h := h.2 hb
      refine Seq.n 109 ?_
      refine Seq.n 110 ?_
      refine Seq.n 111 ?_
      refine Seq.n 112 ?_
      refine Seq.n 113 ?_
      refine Seq.us [(114, .bool false), (115, .bool false)] ?_
      refine Seq.n 116 ?_
      refine Seq.us [(117, .bool false), (4, .bool false)] ?_
      refine Seq.done ?_
      exact At.rt [.tmp 4] [(.bool false)] func5 ⟨_, rfl, rfl⟩ h
    | false =>
     replace h := h.2 (of_decide_eq_false hb)
     refine Seq.n 104 ?_
     refine Seq.n 105 ?_
     refine Seq.n 106 ?_
     refine Seq.us [(107, .bool false), (108, .bool false)] ?_
     refine Seq.n 109 ?_
     refine Seq.n 110 ?_
     refine Seq.n 111 ?_
     refine Seq.n 112 ?_
     refine Seq.n 113 ?_
     refine Seq.us [(114, .bool false), (115, .bool false)] ?_
     refine Seq.n 116 ?_
     refine Seq.us [(117, .bool false), (4, .bool false)] ?_
     refine Seq.done ?_
     refine At.L [(4, (.bool false))] fun J => ?_
     exact At.rt [.tmp 4] [(.bool false)] func5 ⟨_, rfl, rfl⟩ h
theorem pt54_of {R : Ending → Hp → Prop} {p0 p1 q5 q6 p9 : Option Addr} {n0 c0 n1 c1 n9 c9 : Nat} {x8 x10 : Int} {σ : Hp} (h : I64 (x10 + 1) ∧ pt15 R p0 n0 c0 p1 n1 c1 q5 q6 x8 p9 n9 c9 ((x10 + 1)) σ) : pt54 R p0 n0 c0 p1 n1 c1 q5 q6 x8 p9 n9 c9 x10 σ := by
 intro J
 show At (gl R) _ _ _ _
 refine At.rg 6 [0, 1, 2] ?_
 refine Seq.u 37 (.int .i64 x10) ?_
 obtain ⟨hi, h⟩ := h
 refine Seq.z 38 (.binOp .add 3 (.tmp 37) (.const (.int .i64 1)) 3) 3 (.int .i64 (x10 + 1)) (Y.addI hi rfl rfl) ?_
 refine Seq.u 10 (.int .i64 (x10 + 1)) ?_
 refine Seq.done ?_
 refine At.inLoop ?_
 refine At.s K14 K19 ?_
 refine At.s K15 K16 ?_
 exact At.v [(0, (.slice p0 n0 c0)), (1, (.slice p1 n1 c1)), (5, (.pointer q5)), (6, (.pointer q6)), (8, (.int .i64 x8)), (9, (.slice p9 n9 c9)), (10, (.int .i64 (x10 + 1)))] (h _)
end law7_WalTwice

end
end TwW
end
section
/- written by gen.py: program points and what leads to them -/
set_option linter.unusedVariables false
set_option maxRecDepth 100000
namespace TwW
open Go Tw Go.Proofs.Tryz
noncomputable section
namespace law7_WalKeeps
abbrev fid : Nat := 6
noncomputable def K0 := f6.body.getD .skip
def K1 := cl K0
def K2 := cr K0
def K3 := cl K2
def K4 := cr K2
def K5 := cl K4
def K6 := cr K4
def K7 := cl K6
def K8 := cl K7
def K9 := cr K7
def K10 := cl K9
def K11 := cl K10
def K12 := cr K10
def K13 := cr K9
def K14 := cr K6
def K15 := cl K14
def K16 := cr K14
def K17 := cl K16
def K18 := cr K16
def K19 := cl K18
def K20 := cr K18
def K21 := cl K20
def K22 := cl K21
def K23 := cr K21
def K24 := cl K23
def K25 := cl K24
def K26 := cl K25
def K27 := cl K26
def K28 := cr K26
def K29 := cl K28
def K30 := cr K28
def K31 := cr K25
def K32 := cl K31
def K33 := cl K32
def K34 := cl K33
def K35 := cl K34
def K36 := cr K34
def K37 := cl K36
def K38 := cr K36
def K39 := cr K33
def K40 := cl K39
def K41 := cr K39
def K42 := cl K41
def K43 := cr K41
def K44 := cl K43
def K45 := cr K43
def K46 := cr K31
def K47 := cr K20
def K48 := cl K47
def K49 := cr K47
def K50 := cl K49
def K51 := cr K49
def K52 := cl K51
def K53 := cr K51
def K54 := cl K53
def K55 := cr K53
def K56 := cl K55
def K57 := cr K55
abbrev gl (R : Ending → Hp → Prop) : Gl := Gl.fn prog 6 147 R
def pt27 (R : Ending → Hp → Prop) (p0 : Option Addr) (n0 c0 : Nat) (p1 : Option Addr) (n1 c1 : Nat) (x3 : Int) (q9 q10 p13 : Option Addr) (n13 c13 : Nat) (x14 x15 : Int) (σ : Hp) : Prop := ∀ (J : Env), At (gl R) [.code K27, .code K28, .code K31, .inLoop K25, .inBlock 0, .code K47] (upds J [(0, (.slice p0 n0 c0)), (1, (.slice p1 n1 c1)), (3, (.int .i64 x3)), (9, (.pointer q9)), (10, (.pointer q10)), (13, (.slice p13 n13 c13)), (14, (.int .i64 x14)), (15, (.int .i64 x15))]) [] σ
def pt46 (R : Ending → Hp → Prop) (p0 : Option Addr) (n0 c0 : Nat) (p1 : Option Addr) (n1 c1 : Nat) (x3 : Int) (q9 q10 p13 : Option Addr) (n13 c13 : Nat) (x14 x15 : Int) (σ : Hp) : Prop := ∀ (J : Env), At (gl R) [.code K46, .inLoop K25, .inBlock 0, .code K47] (upds J [(0, (.slice p0 n0 c0)), (1, (.slice p1 n1 c1)), (3, (.int .i64 x3)), (9, (.pointer q9)), (10, (.pointer q10)), (13, (.slice p13 n13 c13)), (14, (.int .i64 x14)), (15, (.int .i64 x15))]) [] σ
theorem start {R : Ending → Hp → Prop} {p0 p1 : Option Addr} {n0 c0 n1 c1 : Nat} {x2 x3 : Int} {σ : Hp} (h : Spec prog 11 #[] σ (Cont R (fun v σ1 => ∃ q22 : Option Addr, v = (.pointer q22) ∧ Spec prog 12 #[(.pointer q22), (.string (ByteArray.mk #[120]))] σ1 (Cont R (fun v_2 σ1_2 => ∃ q25a : Option Addr, ∃ p25b : Option Addr, ∃ n25b : Nat, ∃ c25b : Nat, ∃ x25c : Int, v_2 = (.tuple #[(.pointer q25a), (.slice p25b n25b c25b), (.int .i64 x25c)]) ∧ ((x25c : Int) ≠ 0 → R (.returned (.bool false)) σ1_2) ∧ (¬ ((x25c : Int) ≠ 0) → ((Option.isNone q25a) = true → R (.returned (.bool false)) σ1_2) ∧ ((Option.isNone q25a) = false → Spec prog 20 #[(.int .i64 x2)] σ1_2 (Cont R (fun v_3 σ1_3 => ∃ x37 : Int, v_3 = (.int .i64 x37) ∧ I64 (2 * (n0 : Int)) ∧ I64 ((2 * (n0 : Int)) + 2) ∧ ((2 * (n0 : Int)) + 2) ≠ (0 : Int) ∧ ∀ x42 : Int, x42 = Int.tmod x37 ((2 * (n0 : Int)) + 2) → Spec prog 26 #[(.pointer q22), (.int .i64 x42), (.int .i64 x3)] σ1_3 (Cont R (fun v_4 σ1_4 => v_4 = (.tuple #[]) ∧ pt27 R p0 n0 c0 p1 n1 c1 x3 q22 q25a none 0 0 0 0 σ1_4))))))))))) : Spec prog 6 #[(.slice p0 n0 c0), (.slice p1 n1 c1), (.int .i64 x2), (.int .i64 x3)] σ R := by
 refine Spec.of_at (fn := f6) (c := K0) func6 (by kernel_rfl) (Nat.le_of_ble_eq_true (by kernel_rfl)) (fun e he => ?_)
 refine At.ofL (l := [(0, (.slice p0 n0 c0)), (1, (.slice p1 n1 c1)), (2, (.int .i64 x2)), (3, (.int .i64 x3))]) ⟨he 0, he 1, he 2, he 3, trivial⟩ (fun J => ?_)
 show At (gl R) _ _ _ _
 refine At.s K1 K2 ?_
 refine At.rg 0 [0] ?_
 refine Seq.u 8 (.bool false) ?_
 refine Seq.done ?_
 refine At.s K3 K4 ?_
 refine At.rg 1 [0, 1] ?_
 refine Seq.o ?_
 refine OpTo.cl (some 22) call11 (h.cont fun v σ1 h2 => ?_); replace h := h2; clear h2
 obtain ⟨q22, rfl, h⟩ := h
 refine Seq.u 9 (.pointer q22) ?_
 refine Seq.done ?_
 refine At.s K5 K6 ?_
 refine At.rg 2 [0, 1, 2, 3, 4, 5, 6, 7, 8] ?_
 refine Seq.u 24 (.pointer q22) ?_
 refine Seq.o ?_
 refine OpTo.cl (some 25) call12 (h.cont fun v_2 σ1_2 h2 => ?_); replace h := h2; clear h2
 obtain ⟨q25a, p25b, n25b, c25b, x25c, rfl, h⟩ := h
 refine Seq.us [(23, .tuple #[(.pointer q25a), (.slice p25b n25b c25b), (.int .i64 x25c)]), (26, .pointer q25a), (27, .slice p25b n25b c25b), (28, .int .i64 x25c), (10, .pointer q25a), (11, .slice p25b n25b c25b), (12, .int .i64 x25c)] ?_
 refine Seq.done ?_
 refine At.s K7 K14 ?_
 refine At.s K8 K9 ?_
 refine At.rg 3 [0, 1, 2, 3, 4, 5] ?_
 refine Seq.us [(29, .int .i64 x25c), (30, .bool (decide ((x25c : Int) ≠ 0))), (31, .bool (decide ((x25c : Int) ≠ 0)))] ?_
 cases hb : (decide ((x25c : Int) ≠ 0)) with
 | true =>
  replace h := h.1 (of_decide_eq_true hb)
  refine Seq.n 32 ?_
  refine Seq.n 33 ?_
  refine Seq.u 34 (.bool true) ?_
  refine Seq.done ?_
  refine At.cT 34 K10 K13 ?_
  refine At.s K11 K12 ?_
  refine At.rg 4 [0] ?_
  refine Seq.u 8 (.bool false) ?_
  refine Seq.done ?_
  exact At.rt [.tmp 8] [(.bool false)] func6 ⟨_, rfl, rfl⟩ h
 | false =>
  replace h := h.2 (of_decide_eq_false hb)
  refine Seq.u 32 (.pointer q25a) ?_
  refine Seq.zg 33 (.binOp .eql 26 (.tmp 32) (.const (.pointer none)) 26) 4 (2, false) (.bool (Option.isNone q25a)) (Y.eqlNil underlying26 rfl rfl) ?_
  refine Seq.u 34 (.bool (Option.isNone q25a)) ?_
  refine Seq.done ?_
  cases hb : (Option.isNone q25a) with
  | true =>
   replace h := h.1 hb
   refine At.cT 34 K10 K13 ?_
   refine At.s K11 K12 ?_
   refine At.rg 4 [0] ?_
   refine Seq.u 8 (.bool false) ?_
   refine Seq.done ?_
   exact At.rt [.tmp 8] [(.bool false)] func6 ⟨_, rfl, rfl⟩ h
  | false =>
   replace h := h.2 hb
   refine At.cF 34 K10 K13 ?_
   refine At.skip ?_
   refine At.s K15 K16 ?_
   refine At.rg 5 [0, 1, 2, 3, 4, 5, 6, 7, 8, 9] ?_
   refine Seq.us [(35, .pointer q22), (36, .int .i64 x2)] ?_
   refine Seq.o ?_
   refine OpTo.cl (some 37) call20 (h.cont fun v_3 σ1_3 h2 => ?_); replace h := h2; clear h2
   obtain ⟨x37, rfl, h⟩ := h
   refine Seq.u 38 (.slice p0 n0 c0) ?_
   refine Seq.z 39 (.call { callee := .builtin .len, args := #[(.tmp 38)], argTypes := #[22] }) 3 (.int .i64 (n0 : Int)) (Y.lenS underlying22 rfl rfl) ?_
   obtain ⟨hi, h⟩ := h
   refine Seq.z 40 (.binOp .mul 3 (.const (.int .i64 2)) (.tmp 39) 3) 3 (.int .i64 (2 * (n0 : Int))) (Y.mulI hi rfl rfl) ?_
   obtain ⟨hi, h⟩ := h
   refine Seq.z 41 (.binOp .add 3 (.tmp 40) (.const (.int .i64 2)) 3) 3 (.int .i64 ((2 * (n0 : Int)) + 2)) (Y.addI hi rfl rfl) ?_
   obtain ⟨hc, h⟩ := h
   obtain ⟨x42, hwx42⟩ : ∃ y, y = Int.tmod x37 ((2 * (n0 : Int)) + 2) := ⟨_, rfl⟩
   replace h := h x42 hwx42
   refine Seq.y (d := (some 42)) (op := (.binOp .rem 3 (.tmp 37) (.tmp 41) 3)) (ty := 3) (v := (.int .i64 x42)) (by kernel_rfl) rfl (hwx42 ▸ Y.rem hc rfl rfl) ?_
   refine Seq.u 43 (.int .i64 x3) ?_
   refine Seq.o ?_
   refine OpTo.cl (some 44) call26 (h.cont fun v_4 σ1_4 h2 => ?_); replace h := h2; clear h2
   obtain ⟨rfl, h⟩ := h
   refine Seq.done ?_
   refine At.s K17 K18 ?_
   refine At.rg 6 [0] ?_
   refine Seq.u 13 (.slice none 0 0) ?_
   refine Seq.done ?_
   refine At.s K19 K20 ?_
   refine At.rg 7 [0] ?_
   refine Seq.u 14 (.int .i64 0) ?_
   refine Seq.done ?_
   refine At.L [(0, (.slice p0 n0 c0)), (1, (.slice p1 n1 c1)), (3, (.int .i64 x3)), (9, (.pointer q22)), (10, (.pointer q25a)), (13, (.slice none 0 0)), (14, (.int .i64 0))] fun J => ?_
   refine At.s K21 K47 ?_
   refine At.s K22 K23 ?_
   refine At.rg 8 [0] ?_
   refine Seq.u 15 (.int .i64 0) ?_
   refine Seq.done ?_
   refine At.b 0 K24 ?_
   refine At.loop (x := K25) (by kernel_rfl) ?_
   refine At.s K26 K31 ?_
   refine At.s K27 K28 ?_
   exact At.v [(0, (.slice p0 n0 c0)), (1, (.slice p1 n1 c1)), (3, (.int .i64 x3)), (9, (.pointer q22)), (10, (.pointer q25a)), (13, (.slice none 0 0)), (14, (.int .i64 0)), (15, (.int .i64 0))] (h _)
theorem pt27_of {R : Ending → Hp → Prop} {p0 p1 q9 q10 p13 : Option Addr} {n0 c0 n1 c1 n13 c13 : Nat} {x3 x14 x15 : Int} {σ : Hp} (h : ((x15 : Int) < (n0 : Int) → Spec prog 27 #[(.pointer q9)] σ (Cont R (fun v σ1 => ∃ t51 : Bool, v = (.bool t51) ∧ (t51 = true → ∃ (b57 o57 : Nat), p0 = some ⟨b57, o57, none⟩ ∧ ((0 : Int) ≤ x15 ∧ x15 < (n0 : Int)) ∧ ∃ p58 : Option Addr, ∃ n58 : Nat, ∃ c58 : Nat, Hp.ld σ1 ⟨b57, (o57 + Int.toNat x15 * 1), none⟩ = some (.slice p58 n58 c58) ∧ ((65536 : Int) < (n58 : Int) → pt46 R ((some ⟨b57, o57, none⟩)) n0 c0 p1 n1 c1 x3 q9 q10 p13 n13 c13 x14 x15 σ1) ∧ (¬ ((65536 : Int) < (n58 : Int)) → ((0 : Int) ≤ x15 ∧ x15 < (n0 : Int)) ∧ ∃ p65 : Option Addr, ∃ n65 : Nat, ∃ c65 : Nat, Hp.ld σ1 ⟨b57, (o57 + Int.toNat x15 * 1), none⟩ = some (.slice p65 n65 c65) ∧ ∀ b66 : Nat, σ1 b66 = none → Eff prog (Builtin.append_ #[22, 22] 22 #[(.slice p13 n13 c13), (.slice (some ⟨b66, 0, none⟩) 1 1)]) (Hp.set σ1 b66 (.cells #[(.slice p65 n65 c65)] 23 (0, 0))) (fun v_2 σ1_2 => ∃ p67 : Option Addr, ∃ n67 : Nat, ∃ c67 : Nat, v_2 = (.slice p67 n67 c67) ∧ ((0 : Int) ≤ x15 ∧ x15 < (n0 : Int)) ∧ ∃ p72 : Option Addr, ∃ n72 : Nat, ∃ c72 : Nat, Hp.ld σ1_2 ⟨b57, (o57 + Int.toNat x15 * 1), none⟩ = some (.slice p72 n72 c72) ∧ Spec prog 14 #[(.slice p72 n72 c72)] σ1_2 (Cont R (fun v_3 σ1_3 => ∃ p73 : Option Addr, ∃ n73 : Nat, ∃ c73 : Nat, v_3 = (.slice p73 n73 c73) ∧ Spec prog 13 #[(.pointer q10), (.slice p73 n73 c73)] σ1_3 (Cont R (fun v_4 σ1_4 => ∃ x74 : Int, v_4 = (.int .i64 x74) ∧ ((x74 : Int) = 0 → ((x15 : Int) < (n1 : Int) → ∃ (b85 o85 : Nat), p1 = some ⟨b85, o85, none⟩ ∧ ((0 : Int) ≤ x15 ∧ x15 < (n1 : Int)) ∧ ∃ t86 : Bool, Hp.ld σ1_4 ⟨b85, (o85 + Int.toNat x15 * 1), none⟩ = some (.bool t86) ∧ (t86 = true → Spec prog 16 #[(.pointer q10)] σ1_4 (Cont R (fun v_5 σ1_5 => ∃ x90 : Int, v_5 = (.int .i64 x90) ∧ ((x90 : Int) = 0 → pt46 R ((some ⟨b57, o57, none⟩)) n0 c0 ((some ⟨b85, o85, none⟩)) n1 c1 x3 q9 q10 p67 n67 c67 ((n67 : Int)) x15 σ1_5) ∧ (¬ ((x90 : Int) = 0) → pt46 R ((some ⟨b57, o57, none⟩)) n0 c0 ((some ⟨b85, o85, none⟩)) n1 c1 x3 q9 q10 p67 n67 c67 x14 x15 σ1_5)))) ∧ (t86 = false → pt46 R ((some ⟨b57, o57, none⟩)) n0 c0 ((some ⟨b85, o85, none⟩)) n1 c1 x3 q9 q10 p67 n67 c67 x14 x15 σ1_4)) ∧ (¬ ((x15 : Int) < (n1 : Int)) → pt46 R ((some ⟨b57, o57, none⟩)) n0 c0 p1 n1 c1 x3 q9 q10 p67 n67 c67 x14 x15 σ1_4)) ∧ (¬ ((x74 : Int) = 0) → pt46 R ((some ⟨b57, o57, none⟩)) n0 c0 p1 n1 c1 x3 q9 q10 p67 n67 c67 x14 x15 σ1_4)))))))) ∧ (t51 = false → Spec prog 28 #[(.pointer q9), (.int .i64 x3)] σ1 (Cont R (fun v_2 σ1_2 => v_2 = (.tuple #[]) ∧ Spec prog 29 #[(.pointer q9)] σ1_2 (Cont R (fun v_3 σ1_3 => v_3 = (.tuple #[]) ∧ Spec prog 12 #[(.pointer q9), (.string (ByteArray.mk #[120]))] σ1_3 (Cont R (fun v_4 σ1_4 => ∃ q102a : Option Addr, ∃ p102b : Option Addr, ∃ n102b : Nat, ∃ c102b : Nat, ∃ x102c : Int, v_4 = (.tuple #[(.pointer q102a), (.slice p102b n102b c102b), (.int .i64 x102c)]) ∧ Spec prog 12 #[(.pointer q9), (.string (ByteArray.mk #[120]))] σ1_4 (Cont R (fun v_5 σ1_5 => ∃ q108a : Option Addr, ∃ p108b : Option Addr, ∃ n108b : Nat, ∃ c108b : Nat, ∃ x108c : Int, v_5 = (.tuple #[(.pointer q108a), (.slice p108b n108b c108b), (.int .i64 x108c)]) ∧ ((x102c : Int) = 0 → ((x108c : Int) = 0 → ((x14 : Int) ≤ (n102b : Int) → (((n102b : Int) : Int) ≤ (n13 : Int) → ((0 : Int) ≤ (n102b : Int) ∧ (n102b : Int) ≤ (c13 : Int)) ∧ Spec prog 21 #[(.slice p102b n102b c102b), (.slice p13 (Int.toNat (n102b : Int)) c13)] σ1_5 (Cont R (fun v_6 σ1_6 => ∃ t137 : Bool, v_6 = (.bool t137) ∧ (t137 = true → Spec prog 21 #[(.slice p108b n108b c108b), (.slice p102b n102b c102b)] σ1_6 (Cont R (fun v_7 σ1_7 => ∃ t142 : Bool, v_7 = (.bool t142) ∧ (t142 = true → Spec prog 15 #[] σ1_7 (Cont R (fun v_8 σ1_8 => ∃ t145 : Bool, v_8 = (.bool t145) ∧ R (.returned (.bool t145)) σ1_8))) ∧ (t142 = false → R (.returned (.bool false)) σ1_7)))) ∧ (t137 = false → R (.returned (.bool false)) σ1_6)))) ∧ (¬ (((n102b : Int) : Int) ≤ (n13 : Int)) → R (.returned (.bool false)) σ1_5)) ∧ (¬ ((x14 : Int) ≤ (n102b : Int)) → R (.returned (.bool false)) σ1_5)) ∧ (¬ ((x108c : Int) = 0) → R (.returned (.bool false)) σ1_5)) ∧ (¬ ((x102c : Int) = 0) → R (.returned (.bool false)) σ1_5))))))))))))) ∧ (¬ ((x15 : Int) < (n0 : Int)) → Spec prog 28 #[(.pointer q9), (.int .i64 x3)] σ (Cont R (fun v σ1 => v = (.tuple #[]) ∧ Spec prog 29 #[(.pointer q9)] σ1 (Cont R (fun v_2 σ1_2 => v_2 = (.tuple #[]) ∧ Spec prog 12 #[(.pointer q9), (.string (ByteArray.mk #[120]))] σ1_2 (Cont R (fun v_3 σ1_3 => ∃ q102a : Option Addr, ∃ p102b : Option Addr, ∃ n102b : Nat, ∃ c102b : Nat, ∃ x102c : Int, v_3 = (.tuple #[(.pointer q102a), (.slice p102b n102b c102b), (.int .i64 x102c)]) ∧ Spec prog 12 #[(.pointer q9), (.string (ByteArray.mk #[120]))] σ1_3 (Cont R (fun v_4 σ1_4 => ∃ q108a : Option Addr, ∃ p108b : Option Addr, ∃ n108b : Nat, ∃ c108b : Nat, ∃ x108c : Int, v_4 = (.tuple #[(.pointer q108a), (.slice p108b n108b c108b), (.int .i64 x108c)]) ∧ ((x102c : Int) = 0 → ((x108c : Int) = 0 → ((x14 : Int) ≤ (n102b : Int) → (((n102b : Int) : Int) ≤ (n13 : Int) → ((0 : Int) ≤ (n102b : Int) ∧ (n102b : Int) ≤ (c13 : Int)) ∧ Spec prog 21 #[(.slice p102b n102b c102b), (.slice p13 (Int.toNat (n102b : Int)) c13)] σ1_4 (Cont R (fun v_5 σ1_5 => ∃ t137 : Bool, v_5 = (.bool t137) ∧ (t137 = true → Spec prog 21 #[(.slice p108b n108b c108b), (.slice p102b n102b c102b)] σ1_5 (Cont R (fun v_6 σ1_6 => ∃ t142 : Bool, v_6 = (.bool t142) ∧ (t142 = true → Spec prog 15 #[] σ1_6 (Cont R (fun v_7 σ1_7 => ∃ t145 : Bool, v_7 = (.bool t145) ∧ R (.returned (.bool t145)) σ1_7))) ∧ (t142 = false → R (.returned (.bool false)) σ1_6)))) ∧ (t137 = false → R (.returned (.bool false)) σ1_5)))) ∧ (¬ (((n102b : Int) : Int) ≤ (n13 : Int)) → R (.returned (.bool false)) σ1_4)) ∧ (¬ ((x14 : Int) ≤ (n102b : Int)) → R (.returned (.bool false)) σ1_4)) ∧ (¬ ((x108c : Int) = 0) → R (.returned (.bool false)) σ1_4)) ∧ (¬ ((x102c : Int) = 0) → R (.returned (.bool false)) σ1_4))))))))))) : pt27 R p0 n0 c0 p1 n1 c1 x3 q9 q10 p13 n13 c13 x14 x15 σ := by
 intro J
 show At (gl R) _ _ _ _
 refine At.rg 9 [0, 1, 2, 3, 4, 5, 6, 7] ?_
 refine Seq.us [(45, .int .i64 x15), (46, .slice p0 n0 c0)] ?_
 refine Seq.z 47 (.call { callee := .builtin .len, args := #[(.tmp 46)], argTypes := #[22] }) 3 (.int .i64 (n0 : Int)) (Y.lenS underlying22 rfl rfl) ?_
 refine Seq.us [(48, .bool (decide ((x15 : Int) < (n0 : Int)))), (49, .bool (decide ((x15 : Int) < (n0 : Int))))] ?_
 cases hb : (decide ((x15 : Int) < (n0 : Int))) with
 | true =>
  replace h := h.1 (of_decide_eq_true hb)
  refine Seq.u 50 (.pointer q9) ?_
  refine Seq.o ?_
  refine OpTo.cl (some 51) call27 (h.cont fun v σ1 h2 => ?_); replace h := h2; clear h2
  obtain ⟨t51, rfl, h⟩ := h
  refine Seq.u 52 (.bool t51) ?_
  refine Seq.done ?_
  cases hb : t51 with
  | true =>
   replace h := h.1 hb
   refine At.cT 52 K29 K30 ?_
   refine At.skip ?_
   refine At.s K32 K46 ?_
   refine At.b 1 K33 ?_
   refine At.s K34 K39 ?_
   refine At.s K35 K36 ?_
   refine At.rg 11 [0, 1, 2, 3, 4, 5] ?_
   refine Seq.us [(55, .slice p0 n0 c0), (56, .int .i64 x15)] ?_
   obtain ⟨b57, o57, hq, h⟩ := h
   subst hq
   obtain ⟨hi, h⟩ := h
   refine Seq.z 57 (.indexAddr 22 (.tmp 55) (.tmp 56)) 0 (.pointer (some ⟨b57, (o57 + Int.toNat x15 * 1), none⟩)) (Y.idx underlying22 sizeOf23 rfl rfl hi rfl) ?_
   obtain ⟨p58, n58, c58, hl, h⟩ := h
   refine Seq.z 58 (.load 23 (.tmp 57)) 23 (.slice p58 n58 c58) (Y.ld isAgg23 rfl hl) ?_
   refine Seq.z 59 (.call { callee := .builtin .len, args := #[(.tmp 58)], argTypes := #[23] }) 3 (.int .i64 (n58 : Int)) (Y.lenS underlying23 rfl rfl) ?_
   refine Seq.u 60 (.bool (decide ((65536 : Int) < (n58 : Int)))) ?_
   refine Seq.done ?_
   cases hb : (decide ((65536 : Int) < (n58 : Int))) with
   | true =>
    replace h := h.1 (of_decide_eq_true hb)
    refine At.cT 60 K37 K38 ?_
    refine At.x 1 [.code K46, .inLoop K25, .inBlock 0, .code K47] ?_
    exact At.v [(0, (.slice (some ⟨b57, o57, none⟩) n0 c0)), (1, (.slice p1 n1 c1)), (3, (.int .i64 x3)), (9, (.pointer q9)), (10, (.pointer q10)), (13, (.slice p13 n13 c13)), (14, (.int .i64 x14)), (15, (.int .i64 x15))] (h _)
   | false =>
    replace h := h.2 (of_decide_eq_false hb)
    refine At.cF 60 K37 K38 ?_
    refine At.skip ?_
    refine At.s K40 K41 ?_
    refine At.rg 12 [0, 1, 2, 3, 4, 5, 6, 7] ?_
    refine Seq.us [(61, .slice p13 n13 c13), (62, .slice (some ⟨b57, o57, none⟩) n0 c0), (63, .int .i64 x15)] ?_
    obtain ⟨hi, h⟩ := h
    refine Seq.z 64 (.indexAddr 22 (.tmp 62) (.tmp 63)) 0 (.pointer (some ⟨b57, (o57 + Int.toNat x15 * 1), none⟩)) (Y.idx underlying22 sizeOf23 rfl rfl hi rfl) ?_
    obtain ⟨p65, n65, c65, hl, h⟩ := h
    refine Seq.z 65 (.load 23 (.tmp 64)) 23 (.slice p65 n65 c65) (Y.ld isAgg23 rfl hl) ?_
    refine Seq.o ?_
    refine OpTo.bslice (T := 22) (E := 23) (m := 1) (ps := #[(0, (.tmp 65))]) (d := (some 66)) (ty := 22) (gd := none) (vs := [(0, (.slice p65 n65 c65))]) (cs := #[(.slice p65 n65 c65)]) underlying22 (by kernel_rfl) rfl rfl rfl (by kernel_rfl) (fun b66 hn => ?_)
    replace h := h b66 hn
    refine Seq.o ?_
    refine OpTo.eff (d := (some 67)) (op := (.call { callee := .builtin .append, args := #[(.tmp 61), (.tmp 66)], argTypes := #[22, 22] })) (ty := 22) (gd := none) (by kernel_rfl) rfl rfl (Builtin.append_ #[22, 22] 22 #[(.slice p13 n13 c13), (.slice (some ⟨b66, 0, none⟩) 1 1)]) (fun o ho ht => exec_b_append rfl rfl o ho ht) (h.mono (fun v_2 σ1_2 h2 => ?_)); replace h := h2; clear h2
    obtain ⟨p67, n67, c67, rfl, h⟩ := h
    refine Seq.u 13 (.slice p67 n67 c67) ?_
    refine Seq.done ?_
    refine At.s K42 K43 ?_
    refine At.rg 13 [0, 1, 2, 3, 4, 5, 6, 7, 8, 9, 10, 11, 12, 13, 14, 15, 16, 17, 18, 19, 20, 21, 22, 23, 24] ?_
    refine Seq.us [(68, .pointer q10), (69, .slice (some ⟨b57, o57, none⟩) n0 c0), (70, .int .i64 x15)] ?_
    obtain ⟨hi, h⟩ := h
    refine Seq.z 71 (.indexAddr 22 (.tmp 69) (.tmp 70)) 0 (.pointer (some ⟨b57, (o57 + Int.toNat x15 * 1), none⟩)) (Y.idx underlying22 sizeOf23 rfl rfl hi rfl) ?_
    obtain ⟨p72, n72, c72, hl, h⟩ := h
    refine Seq.z 72 (.load 23 (.tmp 71)) 23 (.slice p72 n72 c72) (Y.ld isAgg23 rfl hl) ?_
    refine Seq.o ?_
    refine OpTo.cl (some 73) call14 (h.cont fun v_3 σ1_3 h2 => ?_); replace h := h2; clear h2
    obtain ⟨p73, n73, c73, rfl, h⟩ := h
    refine Seq.o ?_
    refine OpTo.cl (some 74) call13 (h.cont fun v_4 σ1_4 h2 => ?_); replace h := h2; clear h2
    obtain ⟨x74, rfl, h⟩ := h
    refine Seq.us [(75, .bool (decide ((x74 : Int) = 0))), (76, .bool (decide ((x74 : Int) = 0)))] ?_
    cases hb : (decide ((x74 : Int) = 0)) with
    | true =>
     replace h := h.1 (of_decide_eq_true hb)
     refine Seq.us [(77, .int .i64 x15), (78, .slice p1 n1 c1)] ?_
     refine Seq.zg 79 (.call { callee := .builtin .len, args := #[(.tmp 78)], argTypes := #[46] }) 3 (8, true) (.int .i64 (n1 : Int)) (Y.lenS underlying46 rfl rfl) ?_
     refine Seq.us [(80, .bool (decide ((x15 : Int) < (n1 : Int)))), (81, .bool (decide ((x15 : Int) < (n1 : Int)))), (82, .bool (decide ((x15 : Int) < (n1 : Int))))] ?_
     cases hb : (decide ((x15 : Int) < (n1 : Int))) with
     | true =>
      replace h := h.1 (of_decide_eq_true hb)
      refine Seq.us [(83, .slice p1 n1 c1), (84, .int .i64 x15)] ?_
      obtain ⟨b85, o85, hq, h⟩ := h
      subst hq
      obtain ⟨hi, h⟩ := h
      refine Seq.zg 85 (.indexAddr 46 (.tmp 83) (.tmp 84)) 0 (14, true) (.pointer (some ⟨b85, (o85 + Int.toNat x15 * 1), none⟩)) (Y.idx underlying46 sizeOf4 rfl rfl hi rfl) ?_
      obtain ⟨t86, hl, h⟩ := h
      refine Seq.zg 86 (.load 4 (.tmp 85)) 4 (14, true) (.bool t86) (Y.ld isAgg4 rfl hl) ?_
      refine Seq.us [(87, .bool t86), (88, .bool t86)] ?_
      cases hb : t86 with
      | true =>
       replace h := h.1 hb
       refine Seq.u 89 (.pointer q10) ?_
       refine Seq.o ?_
       refine OpTo.cl (some 90) call16 (h.cont fun v_5 σ1_5 h2 => ?_); replace h := h2; clear h2
       obtain ⟨x90, rfl, h⟩ := h
       refine Seq.us [(91, .bool (decide ((x90 : Int) = 0))), (92, .bool (decide ((x90 : Int) = 0)))] ?_
       refine Seq.done ?_
       refine At.L [(0, (.slice (some ⟨b57, o57, none⟩) n0 c0)), (1, (.slice (some ⟨b85, o85, none⟩) n1 c1)), (3, (.int .i64 x3)), (9, (.pointer q9)), (10, (.pointer q10)), (13, (.slice p67 n67 c67)), (14, (.int .i64 x14)), (15, (.int .i64 x15)), (92, (.bool (decide ((x90 : Int) = 0))))] fun J => ?_
       cases hb : (decide ((x90 : Int) = 0)) with
       | true =>
        replace h := h.1 (of_decide_eq_true hb)
        refine At.cT 92 K44 K45 ?_
        refine At.rg 14 [0, 1, 2] ?_
        refine Seq.u 93 (.slice p67 n67 c67) ?_
        refine Seq.z 94 (.call { callee := .builtin .len, args := #[(.tmp 93)], argTypes := #[22] }) 3 (.int .i64 (n67 : Int)) (Y.lenS underlying22 rfl rfl) ?_
        refine Seq.u 14 (.int .i64 (n67 : Int)) ?_
        refine Seq.done ?_
        refine At.inBlock ?_
        exact At.v [(0, (.slice (some ⟨b57, o57, none⟩) n0 c0)), (1, (.slice (some ⟨b85, o85, none⟩) n1 c1)), (3, (.int .i64 x3)), (9, (.pointer q9)), (10, (.pointer q10)), (13, (.slice p67 n67 c67)), (14, (.int .i64 (n67 : Int))), (15, (.int .i64 x15))] (h _)
       | false =>
        replace h := h.2 (of_decide_eq_false hb)
        refine At.cF 92 K44 K45 ?_
        refine At.skip ?_
        refine At.inBlock ?_
        exact At.v [(0, (.slice (some ⟨b57, o57, none⟩) n0 c0)), (1, (.slice (some ⟨b85, o85, none⟩) n1 c1)), (3, (.int .i64 x3)), (9, (.pointer q9)), (10, (.pointer q10)), (13, (.slice p67 n67 c67)), (14, (.int .i64 x14)), (15, (.int .i64 x15))] (h _)
      | false =>
       replace h := h.2 hb
       refine Seq.n 89 ?_
       refine Seq.n 90 ?_
       refine Seq.n 91 ?_
       refine Seq.u 92 (.bool false) ?_
       refine Seq.done ?_
       refine At.cF 92 K44 K45 ?_
       refine At.skip ?_
       refine At.inBlock ?_
       exact At.v [(0, (.slice (some ⟨b57, o57, none⟩) n0 c0)), (1, (.slice (some ⟨b85, o85, none⟩) n1 c1)), (3, (.int .i64 x3)), (9, (.pointer q9)), (10, (.pointer q10)), (13, (.slice p67 n67 c67)), (14, (.int .i64 x14)), (15, (.int .i64 x15))] (h _)
     | false =>
      replace h := h.2 (of_decide_eq_false hb)
      refine Seq.n 83 ?_
      refine Seq.n 84 ?_
      refine Seq.n 85 ?_
      refine Seq.n 86 ?_
      refine Seq.us [(87, .bool false), (88, .bool false)] ?_
      refine Seq.n 89 ?_
      refine Seq.n 90 ?_
      refine Seq.n 91 ?_
      refine Seq.u 92 (.bool false) ?_
      refine Seq.done ?_
      refine At.cF 92 K44 K45 ?_
      refine At.skip ?_
      refine At.inBlock ?_
      exact At.v [(0, (.slice (some ⟨b57, o57, none⟩) n0 c0)), (1, (.slice p1 n1 c1)), (3, (.int .i64 x3)), (9, (.pointer q9)), (10, (.pointer q10)), (13, (.slice p67 n67 c67)), (14, (.int .i64 x14)), (15, (.int .i64 x15))] (h _)
    | false =>
     replace h := h.2 (of_decide_eq_false hb)
     refine Seq.n 77 ?_
     refine Seq.n 78 ?_
     refine Seq.n 79 ?_
     refine Seq.n 80 ?_
     refine Seq.us [(81, .bool false), (82, .bool false)] ?_
     refine Seq.n 83 ?_
     refine Seq.n 84 ?_
     refine Seq.n 85 ?_
     refine Seq.n 86 ?_
     refine Seq.us [(87, .bool false), (88, .bool false)] ?_
     refine Seq.n 89 ?_
     refine Seq.n 90 ?_
     refine Seq.n 91 ?_
     refine Seq.u 92 (.bool false) ?_
     refine Seq.done ?_
     refine At.cF 92 K44 K45 ?_
     refine At.skip ?_
     refine At.inBlock ?_
     exact At.v [(0, (.slice (some ⟨b57, o57, none⟩) n0 c0)), (1, (.slice p1 n1 c1)), (3, (.int .i64 x3)), (9, (.pointer q9)), (10, (.pointer q10)), (13, (.slice p67 n67 c67)), (14, (.int .i64 x14)), (15, (.int .i64 x15))] (h _)
  | false =>
   replace h := h.2 hb
   refine At.cF 52 K29 K30 ?_
   refine At.x 0 [.code K47] ?_
   refine At.s K48 K49 ?_
   refine At.rg 15 [0, 1, 2] ?_
   refine Seq.us [(95, .pointer q9), (96, .int .i64 x3)] ?_
   refine Seq.o ?_
   refine OpTo.cl (some 97) call28 (h.cont fun v_2 σ1_2 h2 => ?_); replace h := h2; clear h2
   obtain ⟨rfl, h⟩ := h
   refine Seq.done ?_
   refine At.s K50 K51 ?_
   refine At.rg 16 [0, 1] ?_
   refine Seq.u 98 (.pointer q9) ?_
   refine Seq.o ?_
   refine OpTo.cl (some 99) call29 (h.cont fun v_3 σ1_3 h2 => ?_); replace h := h2; clear h2
   obtain ⟨rfl, h⟩ := h
   refine Seq.done ?_
   refine At.s K52 K53 ?_
   refine At.rg 17 [0, 1, 2, 3, 4, 5, 6, 7, 8] ?_
   refine Seq.u 101 (.pointer q9) ?_
   refine Seq.o ?_
   refine OpTo.cl (some 102) call12 (h.cont fun v_4 σ1_4 h2 => ?_); replace h := h2; clear h2
   obtain ⟨q102a, p102b, n102b, c102b, x102c, rfl, h⟩ := h
   refine Seq.us [(100, .tuple #[(.pointer q102a), (.slice p102b n102b c102b), (.int .i64 x102c)]), (103, .pointer q102a), (104, .slice p102b n102b c102b), (105, .int .i64 x102c), (16, .pointer q102a), (17, .slice p102b n102b c102b), (18, .int .i64 x102c)] ?_
   refine Seq.done ?_
   refine At.L [(9, (.pointer q9)), (13, (.slice p13 n13 c13)), (14, (.int .i64 x14)), (17, (.slice p102b n102b c102b)), (18, (.int .i64 x102c))] fun J => ?_
   refine At.s K54 K55 ?_
   refine At.rg 18 [0, 1, 2, 3, 4, 5, 6, 7, 8] ?_
   refine Seq.u 107 (.pointer q9) ?_
   refine Seq.o ?_
   refine OpTo.cl (some 108) call12 (h.cont fun v_5 σ1_5 h2 => ?_); replace h := h2; clear h2
   obtain ⟨q108a, p108b, n108b, c108b, x108c, rfl, h⟩ := h
   refine Seq.us [(106, .tuple #[(.pointer q108a), (.slice p108b n108b c108b), (.int .i64 x108c)]), (109, .pointer q108a), (110, .slice p108b n108b c108b), (111, .int .i64 x108c), (19, .pointer q108a), (20, .slice p108b n108b c108b), (21, .int .i64 x108c)] ?_
   refine Seq.done ?_
   refine At.s K56 K57 ?_
   refine At.rg 19 [0, 1, 2, 3, 4, 5, 6, 7, 8, 9, 10, 11, 12, 13, 14, 15, 16, 17, 18, 19, 20, 21, 22, 23, 24, 25, 26, 27, 28, 29, 30, 31, 32, 33, 34, 35] ?_
   refine Seq.us [(112, .int .i64 x102c), (113, .bool (decide ((x102c : Int) = 0))), (114, .bool (decide ((x102c : Int) = 0)))] ?_
   cases hb : (decide ((x102c : Int) = 0)) with
   | true =>
    replace h := h.1 (of_decide_eq_true hb)
    refine Seq.us [(115, .int .i64 x108c), (116, .bool (decide ((x108c : Int) = 0))), (117, .bool (decide ((x108c : Int) = 0))), (118, .bool (decide ((x108c : Int) = 0)))] ?_
    cases hb : (decide ((x108c : Int) = 0)) with
    | true =>
     replace h := h.1 (of_decide_eq_true hb)
     refine Seq.u 119 (.slice p102b n102b c102b) ?_
     refine Seq.zg 120 (.call { callee := .builtin .len, args := #[(.tmp 119)], argTypes := #[22] }) 3 (6, true) (.int .i64 (n102b : Int)) (Y.lenS underlying22 rfl rfl) ?_
     refine Seq.us [(121, .int .i64 x14), (122, .bool (decide ((x14 : Int) ≤ (n102b : Int)))), (123, .bool (decide ((x14 : Int) ≤ (n102b : Int)))), (124, .bool (decide ((x14 : Int) ≤ (n102b : Int))))] ?_
     cases hb : (decide ((x14 : Int) ≤ (n102b : Int))) with
     | true =>
      replace h := h.1 (of_decide_eq_true hb)
      refine Seq.u 125 (.slice p102b n102b c102b) ?_
      refine Seq.zg 126 (.call { callee := .builtin .len, args := #[(.tmp 125)], argTypes := #[22] }) 3 (12, true) (.int .i64 (n102b : Int)) (Y.lenS underlying22 rfl rfl) ?_
      refine Seq.u 127 (.slice p13 n13 c13) ?_
      refine Seq.zg 128 (.call { callee := .builtin .len, args := #[(.tmp 127)], argTypes := #[22] }) 3 (12, true) (.int .i64 (n13 : Int)) (Y.lenS underlying22 rfl rfl) ?_
      refine Seq.us [(129, .bool (decide (((n102b : Int) : Int) ≤ (n13 : Int)))), (130, .bool (decide (((n102b : Int) : Int) ≤ (n13 : Int)))), (131, .bool (decide (((n102b : Int) : Int) ≤ (n13 : Int))))] ?_
      cases hb : (decide (((n102b : Int) : Int) ≤ (n13 : Int))) with
      | true =>
       replace h := h.1 (of_decide_eq_true hb)
       refine Seq.us [(132, .slice p102b n102b c102b), (133, .slice p13 n13 c13), (134, .slice p102b n102b c102b)] ?_
       refine Seq.zg 135 (.call { callee := .builtin .len, args := #[(.tmp 134)], argTypes := #[22] }) 3 (19, true) (.int .i64 (n102b : Int)) (Y.lenS underlying22 rfl rfl) ?_
       obtain ⟨hs, h⟩ := h
       refine Seq.zg 136 (.slice 22 (.tmp 133) none (some (.tmp 135)) none) 22 (19, true) (.slice p13 (Int.toNat (n102b : Int)) c13) (Y.slh underlying22 sizeOf23 rfl rfl hs) ?_
       refine Seq.o ?_
       refine OpTo.cl (some 137) call21 (h.cont fun v_6 σ1_6 h2 => ?_); replace h := h2; clear h2
       obtain ⟨t137, rfl, h⟩ := h
       refine Seq.us [(138, .bool t137), (139, .bool t137)] ?_
       cases hb : t137 with
       | true =>
        replace h := h.1 hb
        refine Seq.us [(140, .slice p108b n108b c108b), (141, .slice p102b n102b c102b)] ?_
        refine Seq.o ?_
        refine OpTo.cl (some 142) call21 (h.cont fun v_7 σ1_7 h2 => ?_); replace h := h2; clear h2
        obtain ⟨t142, rfl, h⟩ := h
        refine Seq.us [(143, .bool t142), (144, .bool t142)] ?_
        cases hb : t142 with
        | true =>
         replace h := h.1 hb
         refine Seq.o ?_
         refine OpTo.cl (some 145) call15 (h.cont fun v_8 σ1_8 h2 => ?_); replace h := h2; clear h2
         obtain ⟨t145, rfl, h⟩ := h
         refine Seq.us [(146, .bool t145), (8, .bool t145)] ?_
         refine Seq.done ?_
         refine At.L [(8, (.bool t145))] fun J => ?_
         exact At.rt [.tmp 8] [(.bool t145)] func6 ⟨_, rfl, rfl⟩ h
        | false =>
         replace h := h.2 hb
         refine Seq.n 145 ?_
         refine Seq.us [(146, .bool false), (8, .bool false)] ?_
         refine Seq.done ?_
         exact At.rt [.tmp 8] [(.bool false)] func6 ⟨_, rfl, rfl⟩ h
       | false =>
        replace h := h.2 hb
        refine Seq.n 140 ?_
        refine Seq.n 141 ?_
        refine Seq.n 142 ?_
        refine Seq.us [(143, .bool false), (144, .bool false)] ?_
        refine Seq.n 145 ?_
        refine Seq.us [(146, .bool false), (8, .bool false)] ?_
        refine Seq.done ?_
        exact At.rt [.tmp 8] [(.bool false)] func6 ⟨_, rfl, rfl⟩ h
      | false =>
       replace h := h.2 (of_decide_eq_false hb)
       refine Seq.n 132 ?_
       refine Seq.n 133 ?_
       refine Seq.n 134 ?_
       refine Seq.n 135 ?_
       refine Seq.n 136 ?_
       refine Seq.n 137 ?_
       refine Seq.us [(138, .bool false), (139, .bool false)] ?_
       refine Seq.n 140 ?_
       refine Seq.n 141 ?_
       refine Seq.n 142 ?_
       refine Seq.us [(143, .bool false), (144, .bool false)] ?_
       refine Seq.n 145 ?_
       refine Seq.us [(146, .bool false), (8, .bool false)] ?_
       refine Seq.done ?_
       exact At.rt [.tmp 8] [(.bool false)] func6 ⟨_, rfl, rfl⟩ h
     | false =>
      replace h := h.2 (of_decide_eq_false hb)
      refine Seq.n 125 ?_
      refine Seq.n 126 ?_
      refine Seq.n 127 ?_
      refine Seq.n 128 ?_
      refine Seq.n 129 ?_
      refine Seq.us [(130, .bool false), (131, .bool false)] ?_
      refine Seq.n 132 ?_
      refine Seq.n 133 ?_
      refine Seq.n 134 ?_
      refine Seq.n 135 ?_
      refine Seq.n 136 ?_
      refine Seq.n 137 ?_
      refine Seq.us [(138, .bool false), (139, .bool false)] ?_
      refine Seq.n 140 ?_
      refine Seq.n 141 ?_
      refine Seq.n 142 ?_
      refine Seq.us [(143, .bool false), (144, .bool false)] ?_
      refine Seq.n 145 ?_
      refine Seq.us [(146, .bool false), (8, .bool false)] ?_
      refine Seq.done ?_
      refine At.L [(8, (.bool false))] fun J => ?_
      exact At.rt [.tmp 8] [(.bool false)] func6 ⟨_, rfl, rfl⟩ h
    | false =>
     replace h := h.2 (of_decide_eq_false hb)
     refine Seq.n 119 ?_
     refine Seq.n 120 ?_
     refine Seq.n 121 ?_
     refine Seq.n 122 ?_
     refine Seq.us [(123, .bool false), (124, .bool false)] ?_
     refine Seq.n 125 ?_
     refine Seq.n 126 ?_
     refine Seq.n 127 ?_
     refine Seq.n 128 ?_
     refine Seq.n 129 ?_
     refine Seq.us [(130, .bool false), (131, .bool false)] ?_
     refine Seq.n 132 ?_
     refine Seq.n 133 ?_
     refine Seq.n 134 ?_
     refine Seq.n 135 ?_
     refine Seq.n 136 ?_
     refine Seq.n 137 ?_
     refine Seq.us [(138, .bool false), (139, .bool false)] ?_
     refine Seq.n 140 ?_
     refine Seq.n 141 ?_
     refine Seq.n 142 ?_
     refine Seq.us [(143, .bool false), (144, .bool false)] ?_
     refine Seq.n 145 ?_
     refine Seq.us [(146, .bool false), (8, .bool false)] ?_
     refine Seq.done ?_
     exact At.rt [.tmp 8] [(.bool false)] func6 ⟨_, rfl, rfl⟩ h
   | false =>
    replace h := h.2 (of_decide_eq_false hb)
    refine Seq.n 115 ?_
    refine Seq.n 116 ?_
    refine Seq.us [(117, .bool false), (118, .bool false)] ?_
    refine Seq.n 119 ?_
    refine Seq.n 120 ?_
    refine Seq.n 121 ?_
    refine Seq.n 122 ?_
    refine Seq.us [(123, .bool false), (124, .bool false)] ?_
    refine Seq.n 125 ?_
    refine Seq.n 126 ?_
    refine Seq.n 127 ?_
    refine Seq.n 128 ?_
    refine Seq.n 129 ?_
    refine Seq.us [(130, .bool false), (131, .bool false)] ?_
    refine Seq.n 132 ?_
    refine Seq.n 133 ?_
    refine Seq.n 134 ?_
    refine Seq.n 135 ?_
    refine Seq.n 136 ?_
    refine Seq.n 137 ?_
    refine Seq.us [(138, .bool false), (139, .bool false)] ?_
    refine Seq.n 140 ?_
    refine Seq.n 141 ?_
    refine Seq.n 142 ?_
    refine Seq.us [(143, .bool false), (144, .bool false)] ?_
    refine Seq.n 145 ?_
    refine Seq.us [(146, .bool false), (8, .bool false)] ?_
    refine Seq.done ?_
    refine At.L [(8, (.bool false))] fun J => ?_
    exact At.rt [.tmp 8] [(.bool false)] func6 ⟨_, rfl, rfl⟩ h
 | false =>
  replace h := h.2 (of_decide_eq_false hb)
  refine Seq.n 50 ?_
  refine Seq.n 51 ?_
  refine Seq.u 52 (.bool false) ?_
  refine Seq.done ?_
  refine At.cF 52 K29 K30 ?_
  refine At.x 0 [.code K47] ?_
  refine At.s K48 K49 ?_
  refine At.rg 15 [0, 1, 2] ?_
  refine Seq.us [(95, .pointer q9), (96, .int .i64 x3)] ?_
  refine Seq.o ?_
  refine OpTo.cl (some 97) call28 (h.cont fun v σ1 h2 => ?_); replace h := h2; clear h2
  obtain ⟨rfl, h⟩ := h
  refine Seq.done ?_
  refine At.s K50 K51 ?_
  refine At.rg 16 [0, 1] ?_
  refine Seq.u 98 (.pointer q9) ?_
  refine Seq.o ?_
  refine OpTo.cl (some 99) call29 (h.cont fun v_2 σ1_2 h2 => ?_); replace h := h2; clear h2
  obtain ⟨rfl, h⟩ := h
  refine Seq.done ?_
  refine At.s K52 K53 ?_
  refine At.rg 17 [0, 1, 2, 3, 4, 5, 6, 7, 8] ?_
  refine Seq.u 101 (.pointer q9) ?_
  refine Seq.o ?_
  refine OpTo.cl (some 102) call12 (h.cont fun v_3 σ1_3 h2 => ?_); replace h := h2; clear h2
  obtain ⟨q102a, p102b, n102b, c102b, x102c, rfl, h⟩ := h
  refine Seq.us [(100, .tuple #[(.pointer q102a), (.slice p102b n102b c102b), (.int .i64 x102c)]), (103, .pointer q102a), (104, .slice p102b n102b c102b), (105, .int .i64 x102c), (16, .pointer q102a), (17, .slice p102b n102b c102b), (18, .int .i64 x102c)] ?_
  refine Seq.done ?_
  refine At.s K54 K55 ?_
  refine At.rg 18 [0, 1, 2, 3, 4, 5, 6, 7, 8] ?_
  refine Seq.u 107 (.pointer q9) ?_
  refine Seq.o ?_
  refine OpTo.cl (some 108) call12 (h.cont fun v_4 σ1_4 h2 => ?_); replace h := h2; clear h2
  obtain ⟨q108a, p108b, n108b, c108b, x108c, rfl, h⟩ := h
  refine Seq.us [(106, .tuple #[(.pointer q108a), (.slice p108b n108b c108b), (.int .i64 x108c)]), (109, .pointer q108a), (110, .slice p108b n108b c108b), (111, .int .i64 x108c), (19, .pointer q108a), (20, .slice p108b n108b c108b), (21, .int .i64 x108c)] ?_
  refine Seq.done ?_
  refine At.s K56 K57 ?_
  refine At.rg 19 [0, 1, 2, 3, 4, 5, 6, 7, 8, 9, 10, 11, 12, 13, 14, 15, 16, 17, 18, 19, 20, 21, 22, 23, 24, 25, 26, 27, 28, 29, 30, 31, 32, 33, 34, 35] ?_
  refine Seq.us [(112, .int .i64 x102c), (113, .bool (decide ((x102c : Int) = 0))), (114, .bool (decide ((x102c : Int) = 0)))] ?_
  cases hb : (decide ((x102c : Int) = 0)) with
  | true =>
   replace h := h.1 (of_decide_eq_true hb)
   refine Seq.us [(115, .int .i64 x108c), (116, .bool (decide ((x108c : Int) = 0))), (117, .bool (decide ((x108c : Int) = 0))), (118, .bool (decide ((x108c : Int) = 0)))] ?_
   cases hb : (decide ((x108c : Int) = 0)) with
   | true =>
    replace h := h.1 (of_decide_eq_true hb)
    refine Seq.u 119 (.slice p102b n102b c102b) ?_
    refine Seq.zg 120 (.call { callee := .builtin .len, args := #[(.tmp 119)], argTypes := #[22] }) 3 (6, true) (.int .i64 (n102b : Int)) (Y.lenS underlying22 rfl rfl) ?_
    refine Seq.us [(121, .int .i64 x14), (122, .bool (decide ((x14 : Int) ≤ (n102b : Int)))), (123, .bool (decide ((x14 : Int) ≤ (n102b : Int)))), (124, .bool (decide ((x14 : Int) ≤ (n102b : Int))))] ?_
    cases hb : (decide ((x14 : Int) ≤ (n102b : Int))) with
    | true =>
     replace h := h.1 (of_decide_eq_true hb)
     refine Seq.u 125 (.slice p102b n102b c102b) ?_
     refine Seq.zg 126 (.call { callee := .builtin .len, args := #[(.tmp 125)], argTypes := #[22] }) 3 (12, true) (.int .i64 (n102b : Int)) (Y.lenS underlying22 rfl rfl) ?_
     refine Seq.u 127 (.slice p13 n13 c13) ?_
     refine Seq.zg 128 (.call { callee := .builtin .len, args := #[(.tmp 127)], argTypes := #[22] }) 3 (12, true) (.int .i64 (n13 : Int)) (Y.lenS underlying22 rfl rfl) ?_
     refine Seq.us [(129, .bool (decide (((n102b : Int) : Int) ≤ (n13 : Int)))), (130, .bool (decide (((n102b : Int) : Int) ≤ (n13 : Int)))), (131, .bool (decide (((n102b : Int) : Int) ≤ (n13 : Int))))] ?_
     cases hb : (decide (((n102b : Int) : Int) ≤ (n13 : Int))) with
     | true =>
      replace h := h.1 (of_decide_eq_true hb)
      refine Seq.us [(132, .slice p102b n102b c102b), (133, .slice p13 n13 c13), (134, .slice p102b n102b c102b)] ?_
      refine Seq.zg 135 (.call { callee := .builtin .len, args := #[(.tmp 134)], argTypes := #[22] }) 3 (19, true) (.int .i64 (n102b : Int)) (Y.lenS underlying22 rfl rfl) ?_
      obtain ⟨hs, h⟩ := h
      refine Seq.zg 136 (.slice 22 (.tmp 133) none (some (.tmp 135)) none) 22 (19, true) (.slice p13 (Int.toNat (n102b : Int)) c13) (Y.slh underlying22 sizeOf23 rfl rfl hs) ?_
      refine Seq.o ?_
      refine OpTo.cl (some 137) call21 (h.cont fun v_5 σ1_5 h2 => ?_); replace h := h2; clear h2
      obtain ⟨t137, rfl, h⟩ := h
      refine Seq.us [(138, .bool t137), (139, .bool t137)] ?_
      cases hb : t137 with
      | true =>
       replace h := h.1 hb
       refine Seq.us [(140, .slice p108b n108b c108b), (141, .slice p102b n102b c102b)] ?_
       refine Seq.o ?_
       refine OpTo.cl (some 142) call21 (h.cont fun v_6 σ1_6 h2 => ?_); replace h := h2; clear h2
       obtain ⟨t142, rfl, h⟩ := h
       refine Seq.us [(143, .bool t142), (144, .bool t142)] ?_
       cases hb : t142 with
       | true =>
        replace h := h.1 hb
        refine Seq.o ?_
        refine OpTo.cl (some 145) call15 (h.cont fun v_7 σ1_7 h2 => ?_); replace h := h2; clear h2
        obtain ⟨t145, rfl, h⟩ := h
        refine Seq.us [(146, .bool t145), (8, .bool t145)] ?_
        refine Seq.done ?_
        refine At.L [(8, (.bool t145))] fun J => ?_
        exact At.rt [.tmp 8] [(.bool t145)] func6 ⟨_, rfl, rfl⟩ h
       | false =>
        replace h := h.2 hb
        refine Seq.n 145 ?_
        refine Seq.us [(146, .bool false), (8, .bool false)] ?_
        refine Seq.done ?_
        exact At.rt [.tmp 8] [(.bool false)] func6 ⟨_, rfl, rfl⟩ h
      | false =>
       replace h := h.2 hb
       refine Seq.n 140 ?_
       refine Seq.n 141 ?_
       refine Seq.n 142 ?_
       refine Seq.us [(143, .bool false), (144, .bool false)] ?_
       refine Seq.n 145 ?_
       refine Seq.us [(146, .bool false), (8, .bool false)] ?_
       refine Seq.done ?_
       exact At.rt [.tmp 8] [(.bool false)] func6 ⟨_, rfl, rfl⟩ h
     | false =>
      replace h := h.2 (of_decide_eq_false hb)
      refine Seq.n 132 ?_
      refine Seq.n 133 ?_
      refine Seq.n 134 ?_
      refine Seq.n 135 ?_
      refine Seq.n 136 ?_
      refine Seq.n 137 ?_
      refine Seq.us [(138, .bool false), (139, .bool false)] ?_
      refine Seq.n 140 ?_
      refine Seq.n 141 ?_
      refine Seq.n 142 ?_
      refine Seq.us [(143, .bool false), (144, .bool false)] ?_
      refine Seq.n 145 ?_
      refine Seq.us [(146, .bool false), (8, .bool false)] ?_
      refine Seq.done ?_
      exact At.rt [.tmp 8] [(.bool false)] func6 ⟨_, rfl, rfl⟩ h
    | false =>
     replace h := h.2 (of_decide_eq_false hb)
     refine Seq.n 125 ?_
     refine Seq.n 126 ?_
     refine Seq.n 127 ?_
     refine Seq.n 128 ?_
     refine Seq.n 129 ?_
     refine Seq.us [(130, .bool false), (131, .bool false)] ?_
     refine Seq.n 132 ?_
     refine Seq.n 133 ?_
     refine Seq.n 134 ?_
     refine Seq.n 135 ?_
     refine Seq.n 136 ?_
     refine Seq.n 137 ?_
     refine Seq.us [(138, .bool false), (139, .bool false)] ?_
     refine Seq.n 140 ?_
     refine Seq.n 141 ?_
     refine Seq.n 142 ?_
     refine Seq.us [(143, .bool false), (144, .bool false)] ?_
     refine Seq.n 145 ?_
     refine Seq.us [(146, .bool false), (8, .bool false)] ?_
     refine Seq.done ?_
     refine At.L [(8, (.bool false))] fun J => ?_
     exact At.rt [.tmp 8] [(.bool false)] func6 ⟨_, rfl, rfl⟩ h
   | false =>
    replace h := h.2 (of_decide_eq_false hb)
    refine Seq.n 119 ?_
    refine Seq.n 120 ?_
    refine Seq.n 121 ?_
    refine Seq.n 122 ?_
    refine Seq.us [(123, .bool false), (124, .bool false)] ?_
    refine Seq.n 125 ?_
    refine Seq.n 126 ?_
    refine Seq.n 127 ?_
    refine Seq.n 128 ?_
    refine Seq.n 129 ?_
    refine Seq.us [(130, .bool false), (131, .bool false)] ?_
    refine Seq.n 132 ?_
    refine Seq.n 133 ?_
    refine Seq.n 134 ?_
    refine Seq.n 135 ?_
    refine Seq.n 136 ?_
    refine Seq.n 137 ?_
    refine Seq.us [(138, .bool false), (139, .bool false)] ?_
    refine Seq.n 140 ?_
    refine Seq.n 141 ?_
    refine Seq.n 142 ?_
    refine Seq.us [(143, .bool false), (144, .bool false)] ?_
    refine Seq.n 145 ?_
    refine Seq.us [(146, .bool false), (8, .bool false)] ?_
    refine Seq.done ?_
    exact At.rt [.tmp 8] [(.bool false)] func6 ⟨_, rfl, rfl⟩ h
  | false =>
   replace h := h.2 (of_decide_eq_false hb)
   refine Seq.n 115 ?_
   refine Seq.n 116 ?_
   refine Seq.us [(117, .bool false), (118, .bool false)] ?_
   refine Seq.n 119 ?_
   refine Seq.n 120 ?_
   refine Seq.n 121 ?_
   refine Seq.n 122 ?_
   refine Seq.us [(123, .bool false), (124, .bool false)] ?_
   refine Seq.n 125 ?_
   refine Seq.n 126 ?_
   refine Seq.n 127 ?_
   refine Seq.n 128 ?_
   refine Seq.n 129 ?_
   refine Seq.us [(130, .bool false), (131, .bool false)] ?_
   refine Seq.n 132 ?_
   refine Seq.n 133 ?_
   refine Seq.n 134 ?_
   refine Seq.n 135 ?_
   refine Seq.n 136 ?_
   refine Seq.n 137 ?_
   refine Seq.us [(138, .bool false), (139, .bool false)] ?_
   refine Seq.n 140 ?_
   refine Seq.n 141 ?_
   refine Seq.n 142 ?_
   refine Seq.us [(143, .bool false), (144, .bool false)] ?_
   refine Seq.n 145 ?_
   refine Seq.us [(146, .bool false), (8, .bool false)] ?_
   refine Seq.done ?_
   refine At.L [(8, (.bool false))] fun J => ?_
   exact At.rt [.tmp 8] [(.bool false)] func6 ⟨_, rfl, rfl⟩ h
theorem pt46_of {R : Ending → Hp → Prop} {p0 p1 q9 q10 p13 : Option Addr} {n0 c0 n1 c1 n13 c13 : Nat} {x3 x14 x15 : Int} {σ : Hp} (h : I64 (x15 + 1) ∧ pt27 R p0 n0 c0 p1 n1 c1 x3 q9 q10 p13 n13 c13 x14 ((x15 + 1)) σ) : pt46 R p0 n0 c0 p1 n1 c1 x3 q9 q10 p13 n13 c13 x14 x15 σ := by
 intro J
 show At (gl R) _ _ _ _
 refine At.rg 10 [0, 1, 2] ?_
 refine Seq.u 53 (.int .i64 x15) ?_
 obtain ⟨hi, h⟩ := h
 refine Seq.z 54 (.binOp .add 3 (.tmp 53) (.const (.int .i64 1)) 3) 3 (.int .i64 (x15 + 1)) (Y.addI hi rfl rfl) ?_
 refine Seq.u 15 (.int .i64 (x15 + 1)) ?_
 refine Seq.done ?_
 refine At.inLoop ?_
 refine At.s K26 K31 ?_
 refine At.s K27 K28 ?_
 exact At.v [(0, (.slice p0 n0 c0)), (1, (.slice p1 n1 c1)), (3, (.int .i64 x3)), (9, (.pointer q9)), (10, (.pointer q10)), (13, (.slice p13 n13 c13)), (14, (.int .i64 x14)), (15, (.int .i64 (x15 + 1)))] (h _)
end law7_WalKeeps

end
end TwW
end
section
/- written by gen.py: program points and what leads to them -/
set_option linter.unusedVariables false
set_option maxRecDepth 100000
namespace TwW
open Go Tw Go.Proofs.Tryz
noncomputable section
namespace law7_WalCuts
abbrev fid : Nat := 7
noncomputable def K0 := f7.body.getD .skip
def K1 := cl K0
def K2 := cr K0
def K3 := cl K2
def K4 := cr K2
def K5 := cl K4
def K6 := cr K4
def K7 := cl K6
def K8 := cl K7
def K9 := cr K7
def K10 := cl K9
def K11 := cl K10
def K12 := cr K10
def K13 := cr K9
def K14 := cr K6
def K15 := cl K14
def K16 := cl K15
def K17 := cr K15
def K18 := cl K17
def K19 := cl K18
def K20 := cl K19
def K21 := cl K20
def K22 := cr K20
def K23 := cl K22
def K24 := cr K22
def K25 := cr K19
def K26 := cl K25
def K27 := cl K26
def K28 := cl K27
def K29 := cr K27
def K30 := cl K29
def K31 := cl K30
def K32 := cr K30
def K33 := cr K29
def K34 := cr K25
def K35 := cr K14
def K36 := cl K35
def K37 := cr K35
def K38 := cl K37
def K39 := cl K38
def K40 := cr K38
def K41 := cl K40
def K42 := cl K41
def K43 := cl K42
def K44 := cl K43
def K45 := cr K43
def K46 := cl K45
def K47 := cr K45
def K48 := cr K42
def K49 := cl K48
def K50 := cl K49
def K51 := cl K50
def K52 := cl K51
def K53 := cr K51
def K54 := cl K53
def K55 := cl K54
def K56 := cr K54
def K57 := cr K53
def K58 := cr K50
def K59 := cr K48
def K60 := cr K37
def K61 := cl K60
def K62 := cl K61
def K63 := cr K61
def K64 := cl K63
def K65 := cl K64
def K66 := cr K64
def K67 := cr K63
def K68 := cr K60
def K69 := cl K68
def K70 := cr K68
def K71 := cl K70
def K72 := cr K70
def K73 := cl K72
def K74 := cr K72
def K75 := cl K74
def K76 := cr K74
def K77 := cl K76
def K78 := cr K76
def K79 := cl K78
def K80 := cr K78
def K81 := cl K80
def K82 := cr K80
def K83 := cl K82
def K84 := cl K83
def K85 := cr K83
def K86 := cl K85
def K87 := cl K86
def K88 := cr K86
def K89 := cr K85
def K90 := cr K82
def K91 := cl K90
def K92 := cr K90
def K93 := cl K92
def K94 := cr K92
def K95 := cl K94
def K96 := cr K94
def K97 := cl K96
def K98 := cr K96
abbrev gl (R : Ending → Hp → Prop) : Gl := Gl.fn prog 7 184 R
def pt21 (R : Ending → Hp → Prop) (p0 : Option Addr) (n0 c0 : Nat) (p1 : Option Addr) (n1 c1 : Nat) (x2 x3 : Int) (q9 q10 : Option Addr) (x13 : Int) (σ : Hp) : Prop := ∀ (J : Env), At (gl R) [.code K21, .code K22, .code K25, .inLoop K19, .inBlock 0, .code K35] (upds J [(0, (.slice p0 n0 c0)), (1, (.slice p1 n1 c1)), (2, (.int .i64 x2)), (3, (.int .i64 x3)), (9, (.pointer q9)), (10, (.pointer q10)), (13, (.int .i64 x13))]) [] σ
def pt44 (R : Ending → Hp → Prop) (p0 : Option Addr) (n0 c0 : Nat) (p1 : Option Addr) (n1 c1 : Nat) (x2 x3 : Int) (q9 q10 : Option Addr) (x14 x15 : Int) (σ : Hp) : Prop := ∀ (J : Env), At (gl R) [.code K44, .code K45, .code K48, .inLoop K42, .inBlock 2, .code K60] (upds J [(0, (.slice p0 n0 c0)), (1, (.slice p1 n1 c1)), (2, (.int .i64 x2)), (3, (.int .i64 x3)), (9, (.pointer q9)), (10, (.pointer q10)), (14, (.int .i64 x14)), (15, (.int .i64 x15))]) [] σ
theorem start {R : Ending → Hp → Prop} {p0 p1 : Option Addr} {n0 c0 n1 c1 : Nat} {x2 x3 : Int} {σ : Hp} (h : Spec prog 11 #[] σ (Cont R (fun v σ1 => ∃ q26 : Option Addr, v = (.pointer q26) ∧ Spec prog 12 #[(.pointer q26), (.string (ByteArray.mk #[120]))] σ1 (Cont R (fun v_2 σ1_2 => ∃ q29a : Option Addr, ∃ p29b : Option Addr, ∃ n29b : Nat, ∃ c29b : Nat, ∃ x29c : Int, v_2 = (.tuple #[(.pointer q29a), (.slice p29b n29b c29b), (.int .i64 x29c)]) ∧ ((x29c : Int) ≠ 0 → R (.returned (.bool false)) σ1_2) ∧ (¬ ((x29c : Int) ≠ 0) → ((Option.isNone q29a) = true → R (.returned (.bool false)) σ1_2) ∧ ((Option.isNone q29a) = false → pt21 R p0 n0 c0 p1 n1 c1 x2 x3 q26 q29a 0 σ1_2))))))) : Spec prog 7 #[(.slice p0 n0 c0), (.slice p1 n1 c1), (.int .i64 x2), (.int .i64 x3)] σ R := by
 refine Spec.of_at (fn := f7) (c := K0) func7 (by kernel_rfl) (Nat.le_of_ble_eq_true (by kernel_rfl)) (fun e he => ?_)
 refine At.ofL (l := [(0, (.slice p0 n0 c0)), (1, (.slice p1 n1 c1)), (2, (.int .i64 x2)), (3, (.int .i64 x3))]) ⟨he 0, he 1, he 2, he 3, trivial⟩ (fun J => ?_)
 show At (gl R) _ _ _ _
 refine At.s K1 K2 ?_
 refine At.rg 0 [0] ?_
 refine Seq.u 8 (.bool false) ?_
 refine Seq.done ?_
 refine At.s K3 K4 ?_
 refine At.rg 1 [0, 1] ?_
 refine Seq.o ?_
 refine OpTo.cl (some 26) call11 (h.cont fun v σ1 h2 => ?_); replace h := h2; clear h2
 obtain ⟨q26, rfl, h⟩ := h
 refine Seq.u 9 (.pointer q26) ?_
 refine Seq.done ?_
 refine At.s K5 K6 ?_
 refine At.rg 2 [0, 1, 2, 3, 4, 5, 6, 7, 8] ?_
 refine Seq.u 28 (.pointer q26) ?_
 refine Seq.o ?_
 refine OpTo.cl (some 29) call12 (h.cont fun v_2 σ1_2 h2 => ?_); replace h := h2; clear h2
 obtain ⟨q29a, p29b, n29b, c29b, x29c, rfl, h⟩ := h
 refine Seq.us [(27, .tuple #[(.pointer q29a), (.slice p29b n29b c29b), (.int .i64 x29c)]), (30, .pointer q29a), (31, .slice p29b n29b c29b), (32, .int .i64 x29c), (10, .pointer q29a), (11, .slice p29b n29b c29b), (12, .int .i64 x29c)] ?_
 refine Seq.done ?_
 refine At.s K7 K14 ?_
 refine At.s K8 K9 ?_
 refine At.rg 3 [0, 1, 2, 3, 4, 5] ?_
 refine Seq.us [(33, .int .i64 x29c), (34, .bool (decide ((x29c : Int) ≠ 0))), (35, .bool (decide ((x29c : Int) ≠ 0)))] ?_
 cases hb : (decide ((x29c : Int) ≠ 0)) with
 | true =>
  replace h := h.1 (of_decide_eq_true hb)
  refine Seq.n 36 ?_
  refine Seq.n 37 ?_
  refine Seq.u 38 (.bool true) ?_
  refine Seq.done ?_
  refine At.cT 38 K10 K13 ?_
  refine At.s K11 K12 ?_
  refine At.rg 4 [0] ?_
  refine Seq.u 8 (.bool false) ?_
  refine Seq.done ?_
  exact At.rt [.tmp 8] [(.bool false)] func7 ⟨_, rfl, rfl⟩ h
 | false =>
  replace h := h.2 (of_decide_eq_false hb)
  refine Seq.u 36 (.pointer q29a) ?_
  refine Seq.zg 37 (.binOp .eql 26 (.tmp 36) (.const (.pointer none)) 26) 4 (2, false) (.bool (Option.isNone q29a)) (Y.eqlNil underlying26 rfl rfl) ?_
  refine Seq.u 38 (.bool (Option.isNone q29a)) ?_
  refine Seq.done ?_
  cases hb : (Option.isNone q29a) with
  | true =>
   replace h := h.1 hb
   refine At.cT 38 K10 K13 ?_
   refine At.s K11 K12 ?_
   refine At.rg 4 [0] ?_
   refine Seq.u 8 (.bool false) ?_
   refine Seq.done ?_
   exact At.rt [.tmp 8] [(.bool false)] func7 ⟨_, rfl, rfl⟩ h
  | false =>
   replace h := h.2 hb
   refine At.cF 38 K10 K13 ?_
   refine At.skip ?_
   refine At.s K15 K35 ?_
   refine At.s K16 K17 ?_
   refine At.rg 5 [0] ?_
   refine Seq.u 13 (.int .i64 0) ?_
   refine Seq.done ?_
   refine At.b 0 K18 ?_
   refine At.loop (x := K19) (by kernel_rfl) ?_
   refine At.s K20 K25 ?_
   refine At.s K21 K22 ?_
   exact At.v [(0, (.slice p0 n0 c0)), (1, (.slice p1 n1 c1)), (2, (.int .i64 x2)), (3, (.int .i64 x3)), (9, (.pointer q26)), (10, (.pointer q29a)), (13, (.int .i64 0))] (h _)
theorem pt21_of {R : Ending → Hp → Prop} {p0 p1 q9 q10 : Option Addr} {n0 c0 n1 c1 : Nat} {x2 x3 x13 : Int} {σ : Hp} (h : ((x13 : Int) < (n0 : Int) → ∃ (b47 o47 : Nat), p0 = some ⟨b47, o47, none⟩ ∧ ((0 : Int) ≤ x13 ∧ x13 < (n0 : Int)) ∧ ∃ p48 : Option Addr, ∃ n48 : Nat, ∃ c48 : Nat, Hp.ld σ ⟨b47, (o47 + Int.toNat x13 * 1), none⟩ = some (.slice p48 n48 c48) ∧ ((65536 : Int) < (n48 : Int) → Spec prog 15 #[] σ (Cont R (fun v σ1 => ∃ t61 : Bool, v = (.bool t61) ∧ R (.returned (.bool t61)) σ1))) ∧ (¬ ((65536 : Int) < (n48 : Int)) → ((0 : Int) ≤ x13 ∧ x13 < (n0 : Int)) ∧ ∃ p56 : Option Addr, ∃ n56 : Nat, ∃ c56 : Nat, Hp.ld σ ⟨b47, (o47 + Int.toNat x13 * 1), none⟩ = some (.slice p56 n56 c56) ∧ Spec prog 14 #[(.slice p56 n56 c56)] σ (Cont R (fun v σ1 => ∃ p57 : Option Addr, ∃ n57 : Nat, ∃ c57 : Nat, v = (.slice p57 n57 c57) ∧ Spec prog 13 #[(.pointer q10), (.slice p57 n57 c57)] σ1 (Cont R (fun v_2 σ1_2 => ∃ x58 : Int, v_2 = (.int .i64 x58) ∧ ((x58 : Int) ≠ 0 → Spec prog 15 #[] σ1_2 (Cont R (fun v_3 σ1_3 => ∃ t61 : Bool, v_3 = (.bool t61) ∧ R (.returned (.bool t61)) σ1_3))) ∧ (¬ ((x58 : Int) ≠ 0) → I64 (x13 + 1) ∧ pt21 R ((some ⟨b47, o47, none⟩)) n0 c0 p1 n1 c1 x2 x3 q9 q10 ((x13 + 1)) σ1_2))))))) ∧ (¬ ((x13 : Int) < (n0 : Int)) → pt44 R p0 n0 c0 p1 n1 c1 x2 x3 q9 q10 0 0 σ)) : pt21 R p0 n0 c0 p1 n1 c1 x2 x3 q9 q10 x13 σ := by
 intro J
 show At (gl R) _ _ _ _
 refine At.rg 6 [0, 1, 2, 3] ?_
 refine Seq.us [(39, .int .i64 x13), (40, .slice p0 n0 c0)] ?_
 refine Seq.z 41 (.call { callee := .builtin .len, args := #[(.tmp 40)], argTypes := #[22] }) 3 (.int .i64 (n0 : Int)) (Y.lenS underlying22 rfl rfl) ?_
 refine Seq.u 42 (.bool (decide ((x13 : Int) < (n0 : Int)))) ?_
 refine Seq.done ?_
 cases hb : (decide ((x13 : Int) < (n0 : Int))) with
 | true =>
  replace h := h.1 (of_decide_eq_true hb)
  refine At.cT 42 K23 K24 ?_
  refine At.skip ?_
  refine At.s K26 K34 ?_
  refine At.b 1 K27 ?_
  refine At.s K28 K29 ?_
  refine At.rg 8 [0, 1, 2, 3, 4, 5, 6, 7, 8, 9, 10, 11, 12, 13, 14, 15] ?_
  refine Seq.us [(45, .slice p0 n0 c0), (46, .int .i64 x13)] ?_
  obtain ⟨b47, o47, hq, h⟩ := h
  subst hq
  obtain ⟨hi, h⟩ := h
  refine Seq.z 47 (.indexAddr 22 (.tmp 45) (.tmp 46)) 0 (.pointer (some ⟨b47, (o47 + Int.toNat x13 * 1), none⟩)) (Y.idx underlying22 sizeOf23 rfl rfl hi rfl) ?_
  obtain ⟨p48, n48, c48, hl, h⟩ := h
  refine Seq.z 48 (.load 23 (.tmp 47)) 23 (.slice p48 n48 c48) (Y.ld isAgg23 rfl hl) ?_
  refine Seq.z 49 (.call { callee := .builtin .len, args := #[(.tmp 48)], argTypes := #[23] }) 3 (.int .i64 (n48 : Int)) (Y.lenS underlying23 rfl rfl) ?_
  refine Seq.us [(50, .bool (decide ((65536 : Int) < (n48 : Int)))), (51, .bool (decide ((65536 : Int) < (n48 : Int))))] ?_
  cases hb : (decide ((65536 : Int) < (n48 : Int))) with
  | true =>
   replace h := h.1 (of_decide_eq_true hb)
   refine Seq.n 52 ?_
   refine Seq.n 53 ?_
   refine Seq.n 54 ?_
   refine Seq.n 55 ?_
   refine Seq.n 56 ?_
   refine Seq.n 57 ?_
   refine Seq.n 58 ?_
   refine Seq.n 59 ?_
   refine Seq.u 60 (.bool true) ?_
   refine Seq.done ?_
   refine At.cT 60 K30 K33 ?_
   refine At.s K31 K32 ?_
   refine At.rg 9 [0, 1] ?_
   refine Seq.o ?_
   refine OpTo.cl (some 61) call15 (h.cont fun v σ1 h2 => ?_); replace h := h2; clear h2
   obtain ⟨t61, rfl, h⟩ := h
   refine Seq.u 8 (.bool t61) ?_
   refine Seq.done ?_
   exact At.rt [.tmp 8] [(.bool t61)] func7 ⟨_, rfl, rfl⟩ h
  | false =>
   replace h := h.2 (of_decide_eq_false hb)
   refine Seq.us [(52, .pointer q10), (53, .slice (some ⟨b47, o47, none⟩) n0 c0), (54, .int .i64 x13)] ?_
   obtain ⟨hi, h⟩ := h
   refine Seq.zg 55 (.indexAddr 22 (.tmp 53) (.tmp 54)) 0 (6, false) (.pointer (some ⟨b47, (o47 + Int.toNat x13 * 1), none⟩)) (Y.idx underlying22 sizeOf23 rfl rfl hi rfl) ?_
   obtain ⟨p56, n56, c56, hl, h⟩ := h
   refine Seq.zg 56 (.load 23 (.tmp 55)) 23 (6, false) (.slice p56 n56 c56) (Y.ld isAgg23 rfl hl) ?_
   refine Seq.o ?_
   refine OpTo.cl (some 57) call14 (h.cont fun v σ1 h2 => ?_); replace h := h2; clear h2
   obtain ⟨p57, n57, c57, rfl, h⟩ := h
   refine Seq.o ?_
   refine OpTo.cl (some 58) call13 (h.cont fun v_2 σ1_2 h2 => ?_); replace h := h2; clear h2
   obtain ⟨x58, rfl, h⟩ := h
   refine Seq.us [(59, .bool (decide ((x58 : Int) ≠ 0))), (60, .bool (decide ((x58 : Int) ≠ 0)))] ?_
   refine Seq.done ?_
   cases hb : (decide ((x58 : Int) ≠ 0)) with
   | true =>
    replace h := h.1 (of_decide_eq_true hb)
    refine At.cT 60 K30 K33 ?_
    refine At.s K31 K32 ?_
    refine At.rg 9 [0, 1] ?_
    refine Seq.o ?_
    refine OpTo.cl (some 61) call15 (h.cont fun v_3 σ1_3 h2 => ?_); replace h := h2; clear h2
    obtain ⟨t61, rfl, h⟩ := h
    refine Seq.u 8 (.bool t61) ?_
    refine Seq.done ?_
    exact At.rt [.tmp 8] [(.bool t61)] func7 ⟨_, rfl, rfl⟩ h
   | false =>
    replace h := h.2 (of_decide_eq_false hb)
    refine At.cF 60 K30 K33 ?_
    refine At.skip ?_
    refine At.inBlock ?_
    refine At.rg 7 [0, 1, 2] ?_
    refine Seq.u 43 (.int .i64 x13) ?_
    obtain ⟨hi, h⟩ := h
    refine Seq.z 44 (.binOp .add 3 (.tmp 43) (.const (.int .i64 1)) 3) 3 (.int .i64 (x13 + 1)) (Y.addI hi rfl rfl) ?_
    refine Seq.u 13 (.int .i64 (x13 + 1)) ?_
    refine Seq.done ?_
    refine At.inLoop ?_
    refine At.s K20 K25 ?_
    refine At.s K21 K22 ?_
    exact At.v [(0, (.slice (some ⟨b47, o47, none⟩) n0 c0)), (1, (.slice p1 n1 c1)), (2, (.int .i64 x2)), (3, (.int .i64 x3)), (9, (.pointer q9)), (10, (.pointer q10)), (13, (.int .i64 (x13 + 1)))] (h _)
 | false =>
  replace h := h.2 (of_decide_eq_false hb)
  refine At.cF 42 K23 K24 ?_
  refine At.x 0 [.code K35] ?_
  refine At.s K36 K37 ?_
  refine At.rg 10 [0] ?_
  refine Seq.u 14 (.int .i64 0) ?_
  refine Seq.done ?_
  refine At.s K38 K60 ?_
  refine At.s K39 K40 ?_
  refine At.rg 11 [0] ?_
  refine Seq.u 15 (.int .i64 0) ?_
  refine Seq.done ?_
  refine At.L [(0, (.slice p0 n0 c0)), (1, (.slice p1 n1 c1)), (2, (.int .i64 x2)), (3, (.int .i64 x3)), (9, (.pointer q9)), (10, (.pointer q10)), (14, (.int .i64 0)), (15, (.int .i64 0))] fun J => ?_
  refine At.b 2 K41 ?_
  refine At.loop (x := K42) (by kernel_rfl) ?_
  refine At.s K43 K48 ?_
  refine At.s K44 K45 ?_
  exact At.v [(0, (.slice p0 n0 c0)), (1, (.slice p1 n1 c1)), (2, (.int .i64 x2)), (3, (.int .i64 x3)), (9, (.pointer q9)), (10, (.pointer q10)), (14, (.int .i64 0)), (15, (.int .i64 0))] (h _)
theorem pt44_of {R : Ending → Hp → Prop} {p0 p1 q9 q10 : Option Addr} {n0 c0 n1 c1 : Nat} {x2 x3 x14 x15 : Int} {σ : Hp} (h : ((x15 : Int) < (n1 : Int) → ∃ (b70 o70 : Nat), p1 = some ⟨b70, o70, none⟩ ∧ ((0 : Int) ≤ x15 ∧ x15 < (n1 : Int)) ∧ ∃ p71 : Option Addr, ∃ n71 : Nat, ∃ c71 : Nat, Hp.ld σ ⟨b70, (o70 + Int.toNat x15 * 1), none⟩ = some (.slice p71 n71 c71) ∧ ((65536 : Int) < (n71 : Int) → Spec prog 23 #[(.slice (some ⟨b70, o70, none⟩) n1 c1)] σ (Cont R (fun v σ1 => ∃ p76 : Option Addr, ∃ n76 : Nat, ∃ c76 : Nat, v = (.slice p76 n76 c76) ∧ Spec prog 22 #[(.pointer q10), (.slice p76 n76 c76)] σ1 (Cont R (fun v_2 σ1_2 => ∃ x77 : Int, v_2 = (.int .i64 x77) ∧ ((x77 : Int) = 70 → Spec prog 15 #[] σ1_2 (Cont R (fun v_3 σ1_3 => ∃ t80 : Bool, v_3 = (.bool t80) ∧ R (.returned (.bool t80)) σ1_3))) ∧ (¬ ((x77 : Int) = 70) → R (.returned (.bool false)) σ1_2)))))) ∧ (¬ ((65536 : Int) < (n71 : Int)) → ((0 : Int) ≤ x15 ∧ x15 < (n1 : Int)) ∧ ∃ p86 : Option Addr, ∃ n86 : Nat, ∃ c86 : Nat, Hp.ld σ ⟨b70, (o70 + Int.toNat x15 * 1), none⟩ = some (.slice p86 n86 c86) ∧ I64 (x14 + (n86 : Int)) ∧ I64 ((x14 + (n86 : Int)) + 10) ∧ I64 (x15 + 1) ∧ pt44 R p0 n0 c0 ((some ⟨b70, o70, none⟩)) n1 c1 x2 x3 q9 q10 (((x14 + (n86 : Int)) + 10)) ((x15 + 1)) σ)) ∧ (¬ ((x15 : Int) < (n1 : Int)) → ((4194304 : Int) < x14 → Spec prog 15 #[] σ (Cont R (fun v σ1 => ∃ t92 : Bool, v = (.bool t92) ∧ R (.returned (.bool t92)) σ1))) ∧ (¬ ((4194304 : Int) < x14) → Spec prog 16 #[(.pointer q10)] σ (Cont R (fun v σ1 => ∃ x94 : Int, v = (.int .i64 x94) ∧ Spec prog 20 #[(.int .i64 x2)] σ1 (Cont R (fun v_2 σ1_2 => ∃ x97 : Int, v_2 = (.int .i64 x97) ∧ 12 ≠ (0 : Int) ∧ ∀ x98 : Int, x98 = Int.tmod x97 12 → Spec prog 26 #[(.pointer q9), (.int .i64 x98), (.int .i64 x3)] σ1_2 (Cont R (fun v_3 σ1_3 => v_3 = (.tuple #[]) ∧ Spec prog 23 #[(.slice p1 n1 c1)] σ1_3 (Cont R (fun v_4 σ1_4 => ∃ p103 : Option Addr, ∃ n103 : Nat, ∃ c103 : Nat, v_4 = (.slice p103 n103 c103) ∧ Spec prog 22 #[(.pointer q10), (.slice p103 n103 c103)] σ1_4 (Cont R (fun v_5 σ1_5 => ∃ x104 : Int, v_5 = (.int .i64 x104) ∧ Spec prog 27 #[(.pointer q9)] σ1_5 (Cont R (fun v_6 σ1_6 => ∃ t106 : Bool, v_6 = (.bool t106) ∧ Spec prog 28 #[(.pointer q9), (.int .i64 x3)] σ1_6 (Cont R (fun v_7 σ1_7 => v_7 = (.tuple #[]) ∧ Spec prog 29 #[(.pointer q9)] σ1_7 (Cont R (fun v_8 σ1_8 => v_8 = (.tuple #[]) ∧ Spec prog 12 #[(.pointer q9), (.string (ByteArray.mk #[120]))] σ1_8 (Cont R (fun v_9 σ1_9 => ∃ q114a : Option Addr, ∃ p114b : Option Addr, ∃ n114b : Nat, ∃ c114b : Nat, ∃ x114c : Int, v_9 = (.tuple #[(.pointer q114a), (.slice p114b n114b c114b), (.int .i64 x114c)]) ∧ ((x114c : Int) ≠ 0 → R (.returned (.bool false)) σ1_9) ∧ (¬ ((x114c : Int) ≠ 0) → ((Option.isNone q114a) = true → R (.returned (.bool false)) σ1_9) ∧ ((Option.isNone q114a) = false → (t106 = true → ((x104 : Int) = 0 → Spec prog 21 #[(.slice p114b n114b c114b), (.slice p1 n1 c1)] σ1_9 (Cont R (fun v_10 σ1_10 => ∃ t135 : Bool, v_10 = (.bool t135) ∧ (t135 = false → R (.returned (.bool false)) σ1_10) ∧ (t135 = true → Spec prog 21 #[(.slice p114b n114b c114b), (.slice p1 n1 c1)] σ1_10 (Cont R (fun v_11 σ1_11 => ∃ t142 : Bool, v_11 = (.bool t142) ∧ (t142 = false → Spec prog 21 #[(.slice p114b n114b c114b), (.slice p0 n0 c0)] σ1_11 (Cont R (fun v_12 σ1_12 => ∃ t147 : Bool, v_12 = (.bool t147) ∧ (t147 = false → R (.returned (.bool false)) σ1_12) ∧ (t147 = true → ∀ b152 : Nat, σ1_12 b152 = none → Spec prog 13 #[(.pointer q114a), (.slice (some ⟨b152, 0, none⟩) 1 1)] (Hp.set σ1_12 b152 (.cells #[(.int .u8 9)] 5 (0, 0))) (Cont R (fun v_13 σ1_13 => ∃ x153 : Int, v_13 = (.int .i64 x153) ∧ Spec prog 16 #[(.pointer q114a)] σ1_13 (Cont R (fun v_14 σ1_14 => ∃ x155 : Int, v_14 = (.int .i64 x155) ∧ Spec prog 12 #[(.pointer q9), (.string (ByteArray.mk #[120]))] σ1_14 (Cont R (fun v_15 σ1_15 => ∃ q158a : Option Addr, ∃ p158b : Option Addr, ∃ n158b : Nat, ∃ c158b : Nat, ∃ x158c : Int, v_15 = (.tuple #[(.pointer q158a), (.slice p158b n158b c158b), (.int .i64 x158c)]) ∧ ((x153 : Int) = 0 → ((x155 : Int) = 0 → ((x158c : Int) = 0 → Spec prog 23 #[(.slice p114b n114b c114b)] σ1_15 (Cont R (fun v_16 σ1_16 => ∃ p175 : Option Addr, ∃ n175 : Nat, ∃ c175 : Nat, v_16 = (.slice p175 n175 c175) ∧ ∀ b176 : Nat, σ1_16 b176 = none → ∀ b177 : Nat, (Hp.set σ1_16 b176 (.cells #[(.int .u8 9)] 5 (0, 0))) b177 = none → Eff prog (Builtin.append_ #[22, 22] 22 #[(.slice p175 n175 c175), (.slice (some ⟨b177, 0, none⟩) 1 1)]) (Hp.set (Hp.set σ1_16 b176 (.cells #[(.int .u8 9)] 5 (0, 0))) b177 (.cells #[(.slice (some ⟨b176, 0, none⟩) 1 1)] 23 (0, 0))) (fun v_17 σ1_17 => ∃ p178 : Option Addr, ∃ n178 : Nat, ∃ c178 : Nat, v_17 = (.slice p178 n178 c178) ∧ Spec prog 21 #[(.slice p158b n158b c158b), (.slice p178 n178 c178)] σ1_17 (Cont R (fun v_18 σ1_18 => ∃ t179 : Bool, v_18 = (.bool t179) ∧ (t179 = true → Spec prog 15 #[] σ1_18 (Cont R (fun v_19 σ1_19 => ∃ t182 : Bool, v_19 = (.bool t182) ∧ R (.returned (.bool t182)) σ1_19))) ∧ (t179 = false → R (.returned (.bool false)) σ1_18))))))) ∧ (¬ ((x158c : Int) = 0) → R (.returned (.bool false)) σ1_15)) ∧ (¬ ((x155 : Int) = 0) → R (.returned (.bool false)) σ1_15)) ∧ (¬ ((x153 : Int) = 0) → R (.returned (.bool false)) σ1_15))))))))))) ∧ (t142 = true → ∀ b152 : Nat, σ1_11 b152 = none → Spec prog 13 #[(.pointer q114a), (.slice (some ⟨b152, 0, none⟩) 1 1)] (Hp.set σ1_11 b152 (.cells #[(.int .u8 9)] 5 (0, 0))) (Cont R (fun v_12 σ1_12 => ∃ x153 : Int, v_12 = (.int .i64 x153) ∧ Spec prog 16 #[(.pointer q114a)] σ1_12 (Cont R (fun v_13 σ1_13 => ∃ x155 : Int, v_13 = (.int .i64 x155) ∧ Spec prog 12 #[(.pointer q9), (.string (ByteArray.mk #[120]))] σ1_13 (Cont R (fun v_14 σ1_14 => ∃ q158a : Option Addr, ∃ p158b : Option Addr, ∃ n158b : Nat, ∃ c158b : Nat, ∃ x158c : Int, v_14 = (.tuple #[(.pointer q158a), (.slice p158b n158b c158b), (.int .i64 x158c)]) ∧ ((x153 : Int) = 0 → ((x155 : Int) = 0 → ((x158c : Int) = 0 → Spec prog 23 #[(.slice p114b n114b c114b)] σ1_14 (Cont R (fun v_15 σ1_15 => ∃ p175 : Option Addr, ∃ n175 : Nat, ∃ c175 : Nat, v_15 = (.slice p175 n175 c175) ∧ ∀ b176 : Nat, σ1_15 b176 = none → ∀ b177 : Nat, (Hp.set σ1_15 b176 (.cells #[(.int .u8 9)] 5 (0, 0))) b177 = none → Eff prog (Builtin.append_ #[22, 22] 22 #[(.slice p175 n175 c175), (.slice (some ⟨b177, 0, none⟩) 1 1)]) (Hp.set (Hp.set σ1_15 b176 (.cells #[(.int .u8 9)] 5 (0, 0))) b177 (.cells #[(.slice (some ⟨b176, 0, none⟩) 1 1)] 23 (0, 0))) (fun v_16 σ1_16 => ∃ p178 : Option Addr, ∃ n178 : Nat, ∃ c178 : Nat, v_16 = (.slice p178 n178 c178) ∧ Spec prog 21 #[(.slice p158b n158b c158b), (.slice p178 n178 c178)] σ1_16 (Cont R (fun v_17 σ1_17 => ∃ t179 : Bool, v_17 = (.bool t179) ∧ (t179 = true → Spec prog 15 #[] σ1_17 (Cont R (fun v_18 σ1_18 => ∃ t182 : Bool, v_18 = (.bool t182) ∧ R (.returned (.bool t182)) σ1_18))) ∧ (t179 = false → R (.returned (.bool false)) σ1_17))))))) ∧ (¬ ((x158c : Int) = 0) → R (.returned (.bool false)) σ1_14)) ∧ (¬ ((x155 : Int) = 0) → R (.returned (.bool false)) σ1_14)) ∧ (¬ ((x153 : Int) = 0) → R (.returned (.bool false)) σ1_14)))))))))))))) ∧ (¬ ((x104 : Int) = 0) → R (.returned (.bool false)) σ1_9)) ∧ (t106 = false → ((x104 : Int) = 0 → R (.returned (.bool false)) σ1_9) ∧ (¬ ((x104 : Int) = 0) → Spec prog 21 #[(.slice p114b n114b c114b), (.slice p1 n1 c1)] σ1_9 (Cont R (fun v_10 σ1_10 => ∃ t142 : Bool, v_10 = (.bool t142) ∧ (t142 = false → Spec prog 21 #[(.slice p114b n114b c114b), (.slice p0 n0 c0)] σ1_10 (Cont R (fun v_11 σ1_11 => ∃ t147 : Bool, v_11 = (.bool t147) ∧ (t147 = false → R (.returned (.bool false)) σ1_11) ∧ (t147 = true → ∀ b152 : Nat, σ1_11 b152 = none → Spec prog 13 #[(.pointer q114a), (.slice (some ⟨b152, 0, none⟩) 1 1)] (Hp.set σ1_11 b152 (.cells #[(.int .u8 9)] 5 (0, 0))) (Cont R (fun v_12 σ1_12 => ∃ x153 : Int, v_12 = (.int .i64 x153) ∧ Spec prog 16 #[(.pointer q114a)] σ1_12 (Cont R (fun v_13 σ1_13 => ∃ x155 : Int, v_13 = (.int .i64 x155) ∧ Spec prog 12 #[(.pointer q9), (.string (ByteArray.mk #[120]))] σ1_13 (Cont R (fun v_14 σ1_14 => ∃ q158a : Option Addr, ∃ p158b : Option Addr, ∃ n158b : Nat, ∃ c158b : Nat, ∃ x158c : Int, v_14 = (.tuple #[(.pointer q158a), (.slice p158b n158b c158b), (.int .i64 x158c)]) ∧ ((x153 : Int) = 0 → ((x155 : Int) = 0 → ((x158c : Int) = 0 → Spec prog 23 #[(.slice p114b n114b c114b)] σ1_14 (Cont R (fun v_15 σ1_15 => ∃ p175 : Option Addr, ∃ n175 : Nat, ∃ c175 : Nat, v_15 = (.slice p175 n175 c175) ∧ ∀ b176 : Nat, σ1_15 b176 = none → ∀ b177 : Nat, (Hp.set σ1_15 b176 (.cells #[(.int .u8 9)] 5 (0, 0))) b177 = none → Eff prog (Builtin.append_ #[22, 22] 22 #[(.slice p175 n175 c175), (.slice (some ⟨b177, 0, none⟩) 1 1)]) (Hp.set (Hp.set σ1_15 b176 (.cells #[(.int .u8 9)] 5 (0, 0))) b177 (.cells #[(.slice (some ⟨b176, 0, none⟩) 1 1)] 23 (0, 0))) (fun v_16 σ1_16 => ∃ p178 : Option Addr, ∃ n178 : Nat, ∃ c178 : Nat, v_16 = (.slice p178 n178 c178) ∧ Spec prog 21 #[(.slice p158b n158b c158b), (.slice p178 n178 c178)] σ1_16 (Cont R (fun v_17 σ1_17 => ∃ t179 : Bool, v_17 = (.bool t179) ∧ (t179 = true → Spec prog 15 #[] σ1_17 (Cont R (fun v_18 σ1_18 => ∃ t182 : Bool, v_18 = (.bool t182) ∧ R (.returned (.bool t182)) σ1_18))) ∧ (t179 = false → R (.returned (.bool false)) σ1_17))))))) ∧ (¬ ((x158c : Int) = 0) → R (.returned (.bool false)) σ1_14)) ∧ (¬ ((x155 : Int) = 0) → R (.returned (.bool false)) σ1_14)) ∧ (¬ ((x153 : Int) = 0) → R (.returned (.bool false)) σ1_14))))))))))) ∧ (t142 = true → ∀ b152 : Nat, σ1_10 b152 = none → Spec prog 13 #[(.pointer q114a), (.slice (some ⟨b152, 0, none⟩) 1 1)] (Hp.set σ1_10 b152 (.cells #[(.int .u8 9)] 5 (0, 0))) (Cont R (fun v_11 σ1_11 => ∃ x153 : Int, v_11 = (.int .i64 x153) ∧ Spec prog 16 #[(.pointer q114a)] σ1_11 (Cont R (fun v_12 σ1_12 => ∃ x155 : Int, v_12 = (.int .i64 x155) ∧ Spec prog 12 #[(.pointer q9), (.string (ByteArray.mk #[120]))] σ1_12 (Cont R (fun v_13 σ1_13 => ∃ q158a : Option Addr, ∃ p158b : Option Addr, ∃ n158b : Nat, ∃ c158b : Nat, ∃ x158c : Int, v_13 = (.tuple #[(.pointer q158a), (.slice p158b n158b c158b), (.int .i64 x158c)]) ∧ ((x153 : Int) = 0 → ((x155 : Int) = 0 → ((x158c : Int) = 0 → Spec prog 23 #[(.slice p114b n114b c114b)] σ1_13 (Cont R (fun v_14 σ1_14 => ∃ p175 : Option Addr, ∃ n175 : Nat, ∃ c175 : Nat, v_14 = (.slice p175 n175 c175) ∧ ∀ b176 : Nat, σ1_14 b176 = none → ∀ b177 : Nat, (Hp.set σ1_14 b176 (.cells #[(.int .u8 9)] 5 (0, 0))) b177 = none → Eff prog (Builtin.append_ #[22, 22] 22 #[(.slice p175 n175 c175), (.slice (some ⟨b177, 0, none⟩) 1 1)]) (Hp.set (Hp.set σ1_14 b176 (.cells #[(.int .u8 9)] 5 (0, 0))) b177 (.cells #[(.slice (some ⟨b176, 0, none⟩) 1 1)] 23 (0, 0))) (fun v_15 σ1_15 => ∃ p178 : Option Addr, ∃ n178 : Nat, ∃ c178 : Nat, v_15 = (.slice p178 n178 c178) ∧ Spec prog 21 #[(.slice p158b n158b c158b), (.slice p178 n178 c178)] σ1_15 (Cont R (fun v_16 σ1_16 => ∃ t179 : Bool, v_16 = (.bool t179) ∧ (t179 = true → Spec prog 15 #[] σ1_16 (Cont R (fun v_17 σ1_17 => ∃ t182 : Bool, v_17 = (.bool t182) ∧ R (.returned (.bool t182)) σ1_17))) ∧ (t179 = false → R (.returned (.bool false)) σ1_16))))))) ∧ (¬ ((x158c : Int) = 0) → R (.returned (.bool false)) σ1_13)) ∧ (¬ ((x155 : Int) = 0) → R (.returned (.bool false)) σ1_13)) ∧ (¬ ((x153 : Int) = 0) → R (.returned (.bool false)) σ1_13))))))))))))))))))))))))))))))))))) : pt44 R p0 n0 c0 p1 n1 c1 x2 x3 q9 q10 x14 x15 σ := by
 intro J
 show At (gl R) _ _ _ _
 refine At.rg 12 [0, 1, 2, 3] ?_
 refine Seq.us [(62, .int .i64 x15), (63, .slice p1 n1 c1)] ?_
 refine Seq.z 64 (.call { callee := .builtin .len, args := #[(.tmp 63)], argTypes := #[22] }) 3 (.int .i64 (n1 : Int)) (Y.lenS underlying22 rfl rfl) ?_
 refine Seq.u 65 (.bool (decide ((x15 : Int) < (n1 : Int)))) ?_
 refine Seq.done ?_
 cases hb : (decide ((x15 : Int) < (n1 : Int))) with
 | true =>
  replace h := h.1 (of_decide_eq_true hb)
  refine At.cT 65 K46 K47 ?_
  refine At.skip ?_
  refine At.s K49 K59 ?_
  refine At.b 3 K50 ?_
  refine At.s K51 K58 ?_
  refine At.s K52 K53 ?_
  refine At.rg 14 [0, 1, 2, 3, 4, 5] ?_
  refine Seq.us [(68, .slice p1 n1 c1), (69, .int .i64 x15)] ?_
  obtain ⟨b70, o70, hq, h⟩ := h
  subst hq
  obtain ⟨hi, h⟩ := h
  refine Seq.z 70 (.indexAddr 22 (.tmp 68) (.tmp 69)) 0 (.pointer (some ⟨b70, (o70 + Int.toNat x15 * 1), none⟩)) (Y.idx underlying22 sizeOf23 rfl rfl hi rfl) ?_
  obtain ⟨p71, n71, c71, hl, h⟩ := h
  refine Seq.z 71 (.load 23 (.tmp 70)) 23 (.slice p71 n71 c71) (Y.ld isAgg23 rfl hl) ?_
  refine Seq.z 72 (.call { callee := .builtin .len, args := #[(.tmp 71)], argTypes := #[23] }) 3 (.int .i64 (n71 : Int)) (Y.lenS underlying23 rfl rfl) ?_
  refine Seq.u 73 (.bool (decide ((65536 : Int) < (n71 : Int)))) ?_
  refine Seq.done ?_
  cases hb : (decide ((65536 : Int) < (n71 : Int))) with
  | true =>
   replace h := h.1 (of_decide_eq_true hb)
   refine At.cT 73 K54 K57 ?_
   refine At.s K55 K56 ?_
   refine At.rg 15 [0, 1, 2, 3, 4, 5, 6, 7, 8] ?_
   refine Seq.us [(74, .pointer q10), (75, .slice (some ⟨b70, o70, none⟩) n1 c1)] ?_
   refine Seq.o ?_
   refine OpTo.cl (some 76) call23 (h.cont fun v σ1 h2 => ?_); replace h := h2; clear h2
   obtain ⟨p76, n76, c76, rfl, h⟩ := h
   refine Seq.o ?_
   refine OpTo.cl (some 77) call22 (h.cont fun v_2 σ1_2 h2 => ?_); replace h := h2; clear h2
   obtain ⟨x77, rfl, h⟩ := h
   refine Seq.us [(78, .bool (decide ((x77 : Int) = 70))), (79, .bool (decide ((x77 : Int) = 70)))] ?_
   cases hb : (decide ((x77 : Int) = 70)) with
   | true =>
    replace h := h.1 (of_decide_eq_true hb)
    refine Seq.o ?_
    refine OpTo.cl (some 80) call15 (h.cont fun v_3 σ1_3 h2 => ?_); replace h := h2; clear h2
    obtain ⟨t80, rfl, h⟩ := h
    refine Seq.us [(81, .bool t80), (8, .bool t80)] ?_
    refine Seq.done ?_
    exact At.rt [.tmp 8] [(.bool t80)] func7 ⟨_, rfl, rfl⟩ h
   | false =>
    replace h := h.2 (of_decide_eq_false hb)
    refine Seq.n 80 ?_
    refine Seq.us [(81, .bool false), (8, .bool false)] ?_
    refine Seq.done ?_
    exact At.rt [.tmp 8] [(.bool false)] func7 ⟨_, rfl, rfl⟩ h
  | false =>
   replace h := h.2 (of_decide_eq_false hb)
   refine At.cF 73 K54 K57 ?_
   refine At.skip ?_
   refine At.rg 16 [0, 1, 2, 3, 4, 5, 6, 7, 8] ?_
   refine Seq.us [(82, .int .i64 x14), (83, .slice (some ⟨b70, o70, none⟩) n1 c1), (84, .int .i64 x15)] ?_
   obtain ⟨hi, h⟩ := h
   refine Seq.z 85 (.indexAddr 22 (.tmp 83) (.tmp 84)) 0 (.pointer (some ⟨b70, (o70 + Int.toNat x15 * 1), none⟩)) (Y.idx underlying22 sizeOf23 rfl rfl hi rfl) ?_
   obtain ⟨p86, n86, c86, hl, h⟩ := h
   refine Seq.z 86 (.load 23 (.tmp 85)) 23 (.slice p86 n86 c86) (Y.ld isAgg23 rfl hl) ?_
   refine Seq.z 87 (.call { callee := .builtin .len, args := #[(.tmp 86)], argTypes := #[23] }) 3 (.int .i64 (n86 : Int)) (Y.lenS underlying23 rfl rfl) ?_
   obtain ⟨hi, h⟩ := h
   refine Seq.z 88 (.binOp .add 3 (.tmp 82) (.tmp 87) 3) 3 (.int .i64 (x14 + (n86 : Int))) (Y.addI hi rfl rfl) ?_
   obtain ⟨hi, h⟩ := h
   refine Seq.z 89 (.binOp .add 3 (.tmp 88) (.const (.int .i64 10)) 3) 3 (.int .i64 ((x14 + (n86 : Int)) + 10)) (Y.addI hi rfl rfl) ?_
   refine Seq.u 14 (.int .i64 ((x14 + (n86 : Int)) + 10)) ?_
   refine Seq.done ?_
   refine At.inBlock ?_
   refine At.rg 13 [0, 1, 2] ?_
   refine Seq.u 66 (.int .i64 x15) ?_
   obtain ⟨hi, h⟩ := h
   refine Seq.z 67 (.binOp .add 3 (.tmp 66) (.const (.int .i64 1)) 3) 3 (.int .i64 (x15 + 1)) (Y.addI hi rfl rfl) ?_
   refine Seq.u 15 (.int .i64 (x15 + 1)) ?_
   refine Seq.done ?_
   refine At.inLoop ?_
   refine At.s K43 K48 ?_
   refine At.s K44 K45 ?_
   exact At.v [(0, (.slice p0 n0 c0)), (1, (.slice (some ⟨b70, o70, none⟩) n1 c1)), (2, (.int .i64 x2)), (3, (.int .i64 x3)), (9, (.pointer q9)), (10, (.pointer q10)), (14, (.int .i64 ((x14 + (n86 : Int)) + 10))), (15, (.int .i64 (x15 + 1)))] (h _)
 | false =>
  replace h := h.2 (of_decide_eq_false hb)
  refine At.cF 65 K46 K47 ?_
  refine At.x 2 [.code K60] ?_
  refine At.s K61 K68 ?_
  refine At.s K62 K63 ?_
  refine At.rg 17 [0, 1] ?_
  refine Seq.us [(90, .int .i64 x14), (91, .bool (decide ((4194304 : Int) < x14)))] ?_
  refine Seq.done ?_
  cases hb : (decide ((4194304 : Int) < x14)) with
  | true =>
   replace h := h.1 (of_decide_eq_true hb)
   refine At.cT 91 K64 K67 ?_
   refine At.s K65 K66 ?_
   refine At.rg 18 [0, 1] ?_
   refine Seq.o ?_
   refine OpTo.cl (some 92) call15 (h.cont fun v σ1 h2 => ?_); replace h := h2; clear h2
   obtain ⟨t92, rfl, h⟩ := h
   refine Seq.u 8 (.bool t92) ?_
   refine Seq.done ?_
   refine At.L [(8, (.bool t92))] fun J => ?_
   exact At.rt [.tmp 8] [(.bool t92)] func7 ⟨_, rfl, rfl⟩ h
  | false =>
   replace h := h.2 (of_decide_eq_false hb)
   refine At.cF 91 K64 K67 ?_
   refine At.skip ?_
   refine At.s K69 K70 ?_
   refine At.rg 19 [0, 1] ?_
   refine Seq.u 93 (.pointer q10) ?_
   refine Seq.o ?_
   refine OpTo.cl (some 94) call16 (h.cont fun v σ1 h2 => ?_); replace h := h2; clear h2
   obtain ⟨x94, rfl, h⟩ := h
   refine Seq.done ?_
   refine At.s K71 K72 ?_
   refine At.rg 20 [0, 1, 2, 3, 4, 5] ?_
   refine Seq.us [(95, .pointer q9), (96, .int .i64 x2)] ?_
   refine Seq.o ?_
   refine OpTo.cl (some 97) call20 (h.cont fun v_2 σ1_2 h2 => ?_); replace h := h2; clear h2
   obtain ⟨x97, rfl, h⟩ := h
   obtain ⟨hc, h⟩ := h
   obtain ⟨x98, hwx98⟩ : ∃ y, y = Int.tmod x97 12 := ⟨_, rfl⟩
   replace h := h x98 hwx98
   refine Seq.y (d := (some 98)) (op := (.binOp .rem 3 (.tmp 97) (.const (.int .i64 12)) 3)) (ty := 3) (v := (.int .i64 x98)) (by kernel_rfl) rfl (hwx98 ▸ Y.rem hc rfl rfl) ?_
   refine Seq.u 99 (.int .i64 x3) ?_
   refine Seq.o ?_
   refine OpTo.cl (some 100) call26 (h.cont fun v_3 σ1_3 h2 => ?_); replace h := h2; clear h2
   obtain ⟨rfl, h⟩ := h
   refine Seq.done ?_
   refine At.s K73 K74 ?_
   refine At.rg 21 [0, 1, 2, 3, 4] ?_
   refine Seq.us [(101, .pointer q10), (102, .slice p1 n1 c1)] ?_
   refine Seq.o ?_
   refine OpTo.cl (some 103) call23 (h.cont fun v_4 σ1_4 h2 => ?_); replace h := h2; clear h2
   obtain ⟨p103, n103, c103, rfl, h⟩ := h
   refine Seq.o ?_
   refine OpTo.cl (some 104) call22 (h.cont fun v_5 σ1_5 h2 => ?_); replace h := h2; clear h2
   obtain ⟨x104, rfl, h⟩ := h
   refine Seq.u 16 (.int .i64 x104) ?_
   refine Seq.done ?_
   refine At.s K75 K76 ?_
   refine At.rg 22 [0, 1, 2] ?_
   refine Seq.u 105 (.pointer q9) ?_
   refine Seq.o ?_
   refine OpTo.cl (some 106) call27 (h.cont fun v_6 σ1_6 h2 => ?_); replace h := h2; clear h2
   obtain ⟨t106, rfl, h⟩ := h
   refine Seq.u 17 (.bool t106) ?_
   refine Seq.done ?_
   refine At.s K77 K78 ?_
   refine At.rg 23 [0, 1, 2] ?_
   refine Seq.us [(107, .pointer q9), (108, .int .i64 x3)] ?_
   refine Seq.o ?_
   refine OpTo.cl (some 109) call28 (h.cont fun v_7 σ1_7 h2 => ?_); replace h := h2; clear h2
   obtain ⟨rfl, h⟩ := h
   refine Seq.done ?_
   refine At.s K79 K80 ?_
   refine At.rg 24 [0, 1] ?_
   refine Seq.u 110 (.pointer q9) ?_
   refine Seq.o ?_
   refine OpTo.cl (some 111) call29 (h.cont fun v_8 σ1_8 h2 => ?_); replace h := h2; clear h2
   obtain ⟨rfl, h⟩ := h
   refine Seq.done ?_
   refine At.s K81 K82 ?_
   refine At.rg 25 [0, 1, 2, 3, 4, 5, 6, 7, 8] ?_
   refine Seq.u 113 (.pointer q9) ?_
   refine Seq.o ?_
   refine OpTo.cl (some 114) call12 (h.cont fun v_9 σ1_9 h2 => ?_); replace h := h2; clear h2
   obtain ⟨q114a, p114b, n114b, c114b, x114c, rfl, h⟩ := h
   refine Seq.us [(112, .tuple #[(.pointer q114a), (.slice p114b n114b c114b), (.int .i64 x114c)]), (115, .pointer q114a), (116, .slice p114b n114b c114b), (117, .int .i64 x114c), (18, .pointer q114a), (19, .slice p114b n114b c114b), (20, .int .i64 x114c)] ?_
   refine Seq.done ?_
   refine At.s K83 K90 ?_
   refine At.s K84 K85 ?_
   refine At.rg 26 [0, 1, 2, 3, 4, 5, 6, 7, 8, 9, 10, 11, 12, 13, 14, 15, 16, 17, 18, 19, 20, 21, 22, 23, 24, 25, 26, 27, 28, 29, 30, 31, 32] ?_
   refine Seq.us [(118, .int .i64 x114c), (119, .bool (decide ((x114c : Int) ≠ 0))), (120, .bool (decide ((x114c : Int) ≠ 0)))] ?_
   cases hb : (decide ((x114c : Int) ≠ 0)) with
   | true =>
    replace h := h.1 (of_decide_eq_true hb)
    refine Seq.n 121 ?_
    refine Seq.n 122 ?_
    refine Seq.us [(123, .bool true), (124, .bool true)] ?_
    refine Seq.n 125 ?_
    refine Seq.n 126 ?_
    refine Seq.n 127 ?_
    refine Seq.n 128 ?_
    refine Seq.us [(129, .bool true), (130, .bool true)] ?_
    refine Seq.n 131 ?_
    refine Seq.n 132 ?_
    refine Seq.n 133 ?_
    refine Seq.n 134 ?_
    refine Seq.n 135 ?_
    refine Seq.n 136 ?_
    refine Seq.n 137 ?_
    refine Seq.us [(138, .bool true), (139, .bool true)] ?_
    refine Seq.n 140 ?_
    refine Seq.n 141 ?_
    refine Seq.n 142 ?_
    refine Seq.n 143 ?_
    refine Seq.n 144 ?_
    refine Seq.n 145 ?_
    refine Seq.n 146 ?_
    refine Seq.n 147 ?_
    refine Seq.n 148 ?_
    refine Seq.n 149 ?_
    refine Seq.u 150 (.bool true) ?_
    refine Seq.done ?_
    refine At.L [(9, (.pointer q9)), (18, (.pointer q114a)), (19, (.slice p114b n114b c114b)), (150, (.bool true))] fun J => ?_
    refine At.cT 150 K86 K89 ?_
    refine At.s K87 K88 ?_
    refine At.rg 27 [0] ?_
    refine Seq.u 8 (.bool false) ?_
    refine Seq.done ?_
    exact At.rt [.tmp 8] [(.bool false)] func7 ⟨_, rfl, rfl⟩ h
   | false =>
    replace h := h.2 (of_decide_eq_false hb)
    refine Seq.u 121 (.pointer q114a) ?_
    refine Seq.zg 122 (.binOp .eql 26 (.tmp 121) (.const (.pointer none)) 26) 4 (2, false) (.bool (Option.isNone q114a)) (Y.eqlNil underlying26 rfl rfl) ?_
    refine Seq.us [(123, .bool (Option.isNone q114a)), (124, .bool (Option.isNone q114a))] ?_
    cases hb : (Option.isNone q114a) with
    | true =>
     replace h := h.1 hb
     refine Seq.n 125 ?_
     refine Seq.n 126 ?_
     refine Seq.n 127 ?_
     refine Seq.n 128 ?_
     refine Seq.us [(129, .bool true), (130, .bool true)] ?_
     refine Seq.n 131 ?_
     refine Seq.n 132 ?_
     refine Seq.n 133 ?_
     refine Seq.n 134 ?_
     refine Seq.n 135 ?_
     refine Seq.n 136 ?_
     refine Seq.n 137 ?_
     refine Seq.us [(138, .bool true), (139, .bool true)] ?_
     refine Seq.n 140 ?_
     refine Seq.n 141 ?_
     refine Seq.n 142 ?_
     refine Seq.n 143 ?_
     refine Seq.n 144 ?_
     refine Seq.n 145 ?_
     refine Seq.n 146 ?_
     refine Seq.n 147 ?_
     refine Seq.n 148 ?_
     refine Seq.n 149 ?_
     refine Seq.u 150 (.bool true) ?_
     refine Seq.done ?_
     refine At.cT 150 K86 K89 ?_
     refine At.s K87 K88 ?_
     refine At.rg 27 [0] ?_
     refine Seq.u 8 (.bool false) ?_
     refine Seq.done ?_
     exact At.rt [.tmp 8] [(.bool false)] func7 ⟨_, rfl, rfl⟩ h
    | false =>
     replace h := h.2 hb
     refine Seq.us [(125, .bool t106), (126, .int .i64 x104), (127, .bool (decide ((x104 : Int) = 0)))] ?_
     cases hb : t106 with
     | true =>
      replace h := h.1 hb
      cases hb : (decide ((x104 : Int) = 0)) with
      | true =>
       replace h := h.1 (of_decide_eq_true hb)
       refine Seq.zg 128 (.binOp .neq 4 (.tmp 125) (.tmp 127) 4) 4 (6, false) (.bool false) (Y.neqB (a := true) (b := true) underlying4 rfl rfl) ?_
       refine Seq.us [(129, .bool false), (130, .bool false), (131, .bool true), (132, .bool true), (133, .slice p114b n114b c114b), (134, .slice p1 n1 c1)] ?_
       refine Seq.o ?_
       refine OpTo.cl (some 135) call21 (h.cont fun v_10 σ1_10 h2 => ?_); replace h := h2; clear h2
       obtain ⟨t135, rfl, h⟩ := h
       refine Seq.us [(136, .bool (!t135)), (137, .bool (!t135)), (138, .bool (!t135)), (139, .bool (!t135))] ?_
       cases hb : (!t135) with
       | true =>
        replace h := h.1 (Tw.nt hb)
        refine Seq.n 140 ?_
        refine Seq.n 141 ?_
        refine Seq.n 142 ?_
        refine Seq.n 143 ?_
        refine Seq.n 144 ?_
        refine Seq.n 145 ?_
        refine Seq.n 146 ?_
        refine Seq.n 147 ?_
        refine Seq.n 148 ?_
        refine Seq.n 149 ?_
        refine Seq.u 150 (.bool true) ?_
        refine Seq.done ?_
        refine At.L [(9, (.pointer q9)), (18, (.pointer q114a)), (19, (.slice p114b n114b c114b)), (150, (.bool true))] fun J => ?_
        refine At.cT 150 K86 K89 ?_
        refine At.s K87 K88 ?_
        refine At.rg 27 [0] ?_
        refine Seq.u 8 (.bool false) ?_
        refine Seq.done ?_
        exact At.rt [.tmp 8] [(.bool false)] func7 ⟨_, rfl, rfl⟩ h
       | false =>
        replace h := h.2 (Tw.nf hb)
        refine Seq.us [(140, .slice p114b n114b c114b), (141, .slice p1 n1 c1)] ?_
        refine Seq.o ?_
        refine OpTo.cl (some 142) call21 (h.cont fun v_11 σ1_11 h2 => ?_); replace h := h2; clear h2
        obtain ⟨t142, rfl, h⟩ := h
        refine Seq.us [(143, .bool (!t142)), (144, .bool (!t142))] ?_
        cases hb : (!t142) with
        | true =>
         replace h := h.1 (Tw.nt hb)
         refine Seq.us [(145, .slice p114b n114b c114b), (146, .slice p0 n0 c0)] ?_
         refine Seq.o ?_
         refine OpTo.cl (some 147) call21 (h.cont fun v_12 σ1_12 h2 => ?_); replace h := h2; clear h2
         obtain ⟨t147, rfl, h⟩ := h
         refine Seq.us [(148, .bool (!t147)), (149, .bool (!t147)), (150, .bool (!t147))] ?_
         refine Seq.done ?_
         cases hb : (!t147) with
         | true =>
          replace h := h.1 (Tw.nt hb)
          refine At.cT 150 K86 K89 ?_
          refine At.s K87 K88 ?_
          refine At.rg 27 [0] ?_
          refine Seq.u 8 (.bool false) ?_
          refine Seq.done ?_
          exact At.rt [.tmp 8] [(.bool false)] func7 ⟨_, rfl, rfl⟩ h
         | false =>
          replace h := h.2 (Tw.nf hb)
          refine At.cF 150 K86 K89 ?_
          refine At.skip ?_
          refine At.s K91 K92 ?_
          refine At.rg 28 [0, 1, 2, 3] ?_
          refine Seq.u 151 (.pointer q114a) ?_
          refine Seq.o ?_
          refine OpTo.bslice (T := 23) (E := 5) (m := 1) (ps := #[(0, (.const (.int .u8 9)))]) (d := (some 152)) (ty := 23) (gd := none) (vs := [(0, (.int .u8 9))]) (cs := #[(.int .u8 9)]) underlying23 (by kernel_rfl) rfl rfl rfl (by kernel_rfl) (fun b152 hn => ?_)
          replace h := h b152 hn
          refine Seq.o ?_
          refine OpTo.cl (some 153) call13 (h.cont fun v_13 σ1_13 h2 => ?_); replace h := h2; clear h2
          obtain ⟨x153, rfl, h⟩ := h
          refine Seq.u 21 (.int .i64 x153) ?_
          refine Seq.done ?_
          refine At.s K93 K94 ?_
          refine At.rg 29 [0, 1, 2] ?_
          refine Seq.u 154 (.pointer q114a) ?_
          refine Seq.o ?_
          refine OpTo.cl (some 155) call16 (h.cont fun v_14 σ1_14 h2 => ?_); replace h := h2; clear h2
          obtain ⟨x155, rfl, h⟩ := h
          refine Seq.u 22 (.int .i64 x155) ?_
          refine Seq.done ?_
          refine At.s K95 K96 ?_
          refine At.rg 30 [0, 1, 2, 3, 4, 5, 6, 7, 8] ?_
          refine Seq.u 157 (.pointer q9) ?_
          refine Seq.o ?_
          refine OpTo.cl (some 158) call12 (h.cont fun v_15 σ1_15 h2 => ?_); replace h := h2; clear h2
          obtain ⟨q158a, p158b, n158b, c158b, x158c, rfl, h⟩ := h
          refine Seq.us [(156, .tuple #[(.pointer q158a), (.slice p158b n158b c158b), (.int .i64 x158c)]), (159, .pointer q158a), (160, .slice p158b n158b c158b), (161, .int .i64 x158c), (23, .pointer q158a), (24, .slice p158b n158b c158b), (25, .int .i64 x158c)] ?_
          refine Seq.done ?_
          refine At.s K97 K98 ?_
          refine At.rg 31 [0, 1, 2, 3, 4, 5, 6, 7, 8, 9, 10, 11, 12, 13, 14, 15, 16, 17, 18, 19, 20, 21, 22] ?_
          refine Seq.us [(162, .int .i64 x153), (163, .bool (decide ((x153 : Int) = 0))), (164, .bool (decide ((x153 : Int) = 0)))] ?_
          cases hb : (decide ((x153 : Int) = 0)) with
          | true =>
           replace h := h.1 (of_decide_eq_true hb)
           refine Seq.us [(165, .int .i64 x155), (166, .bool (decide ((x155 : Int) = 0))), (167, .bool (decide ((x155 : Int) = 0))), (168, .bool (decide ((x155 : Int) = 0)))] ?_
           cases hb : (decide ((x155 : Int) = 0)) with
           | true =>
            replace h := h.1 (of_decide_eq_true hb)
            refine Seq.us [(169, .int .i64 x158c), (170, .bool (decide ((x158c : Int) = 0))), (171, .bool (decide ((x158c : Int) = 0))), (172, .bool (decide ((x158c : Int) = 0)))] ?_
            cases hb : (decide ((x158c : Int) = 0)) with
            | true =>
             replace h := h.1 (of_decide_eq_true hb)
             refine Seq.us [(173, .slice p158b n158b c158b), (174, .slice p114b n114b c114b)] ?_
             refine Seq.o ?_
             refine OpTo.cl (some 175) call23 (h.cont fun v_16 σ1_16 h2 => ?_); replace h := h2; clear h2
             obtain ⟨p175, n175, c175, rfl, h⟩ := h
             refine Seq.o ?_
             refine OpTo.bslice (T := 23) (E := 5) (m := 1) (ps := #[(0, (.const (.int .u8 9)))]) (d := (some 176)) (ty := 23) (gd := (some (10, true))) (vs := [(0, (.int .u8 9))]) (cs := #[(.int .u8 9)]) underlying23 (by kernel_rfl) rfl rfl rfl (by kernel_rfl) (fun b176 hn => ?_)
             replace h := h b176 hn
             refine Seq.o ?_
             refine OpTo.bslice (T := 22) (E := 23) (m := 1) (ps := #[(0, (.tmp 176))]) (d := (some 177)) (ty := 22) (gd := (some (10, true))) (vs := [(0, (.slice (some ⟨b176, 0, none⟩) 1 1))]) (cs := #[(.slice (some ⟨b176, 0, none⟩) 1 1)]) underlying22 (by kernel_rfl) rfl rfl rfl (by kernel_rfl) (fun b177 hn => ?_)
             replace h := h b177 hn
             refine Seq.o ?_
             refine OpTo.eff (d := (some 178)) (op := (.call { callee := .builtin .append, args := #[(.tmp 175), (.tmp 177)], argTypes := #[22, 22] })) (ty := 22) (gd := (some (10, true))) (by kernel_rfl) rfl rfl (Builtin.append_ #[22, 22] 22 #[(.slice p175 n175 c175), (.slice (some ⟨b177, 0, none⟩) 1 1)]) (fun o ho ht => exec_b_append rfl rfl o ho ht) (h.mono (fun v_17 σ1_17 h2 => ?_)); replace h := h2; clear h2
             obtain ⟨p178, n178, c178, rfl, h⟩ := h
             refine Seq.o ?_
             refine OpTo.cl (some 179) call21 (h.cont fun v_18 σ1_18 h2 => ?_); replace h := h2; clear h2
             obtain ⟨t179, rfl, h⟩ := h
             refine Seq.us [(180, .bool t179), (181, .bool t179)] ?_
             cases hb : t179 with
             | true =>
              replace h := h.1 hb
              refine Seq.o ?_
              refine OpTo.cl (some 182) call15 (h.cont fun v_19 σ1_19 h2 => ?_); replace h := h2; clear h2
              obtain ⟨t182, rfl, h⟩ := h
              refine Seq.us [(183, .bool t182), (8, .bool t182)] ?_
              refine Seq.done ?_
              refine At.L [(8, (.bool t182))] fun J => ?_
              exact At.rt [.tmp 8] [(.bool t182)] func7 ⟨_, rfl, rfl⟩ h
             | false =>
              replace h := h.2 hb
              refine Seq.n 182 ?_
              refine Seq.us [(183, .bool false), (8, .bool false)] ?_
              refine Seq.done ?_
              exact At.rt [.tmp 8] [(.bool false)] func7 ⟨_, rfl, rfl⟩ h
            | false =>
             replace h := h.2 (of_decide_eq_false hb)
             refine Seq.n 173 ?_
             refine Seq.n 174 ?_
             refine Seq.n 175 ?_
             refine Seq.n 176 ?_
             refine Seq.n 177 ?_
             refine Seq.n 178 ?_
             refine Seq.n 179 ?_
             refine Seq.us [(180, .bool false), (181, .bool false)] ?_
             refine Seq.n 182 ?_
             refine Seq.us [(183, .bool false), (8, .bool false)] ?_
             refine Seq.done ?_
             exact At.rt [.tmp 8] [(.bool false)] func7 ⟨_, rfl, rfl⟩ h
           | false =>
            replace h := h.2 (of_decide_eq_false hb)
            refine Seq.n 169 ?_
            refine Seq.n 170 ?_
            refine Seq.us [(171, .bool false), (172, .bool false)] ?_
            refine Seq.n 173 ?_
            refine Seq.n 174 ?_
            refine Seq.n 175 ?_
            refine Seq.n 176 ?_
            refine Seq.n 177 ?_
            refine Seq.n 178 ?_
            refine Seq.n 179 ?_
            refine Seq.us [(180, .bool false), (181, .bool false)] ?_
            refine Seq.n 182 ?_
            refine Seq.us [(183, .bool false), (8, .bool false)] ?_
            refine Seq.done ?_
            exact At.rt [.tmp 8] [(.bool false)] func7 ⟨_, rfl, rfl⟩ h
          | false =>
           replace h := h.2 (of_decide_eq_false hb)
           refine Seq.n 165 ?_
           refine Seq.n 166 ?_
           refine Seq.us [(167, .bool false), (168, .bool false)] ?_
           refine Seq.n 169 ?_
           refine Seq.n 170 ?_
           refine Seq.us [(171, .bool false), (172, .bool false)] ?_
           refine Seq.n 173 ?_
           refine Seq.n 174 ?_
           refine Seq.n 175 ?_
           refine Seq.n 176 ?_
           refine Seq.n 177 ?_
           refine Seq.n 178 ?_
           refine Seq.n 179 ?_
           refine Seq.us [(180, .bool false), (181, .bool false)] ?_
           refine Seq.n 182 ?_
           refine Seq.us [(183, .bool false), (8, .bool false)] ?_
           refine Seq.done ?_
           refine At.L [(8, (.bool false))] fun J => ?_
           exact At.rt [.tmp 8] [(.bool false)] func7 ⟨_, rfl, rfl⟩ h
        | false =>
         replace h := h.2 (Tw.nf hb)
         refine Seq.n 145 ?_
         refine Seq.n 146 ?_
         refine Seq.n 147 ?_
         refine Seq.n 148 ?_
         refine Seq.us [(149, .bool false), (150, .bool false)] ?_
         refine Seq.done ?_
         refine At.cF 150 K86 K89 ?_
         refine At.skip ?_
         refine At.s K91 K92 ?_
         refine At.rg 28 [0, 1, 2, 3] ?_
         refine Seq.u 151 (.pointer q114a) ?_
         refine Seq.o ?_
         refine OpTo.bslice (T := 23) (E := 5) (m := 1) (ps := #[(0, (.const (.int .u8 9)))]) (d := (some 152)) (ty := 23) (gd := none) (vs := [(0, (.int .u8 9))]) (cs := #[(.int .u8 9)]) underlying23 (by kernel_rfl) rfl rfl rfl (by kernel_rfl) (fun b152 hn => ?_)
         replace h := h b152 hn
         refine Seq.o ?_
         refine OpTo.cl (some 153) call13 (h.cont fun v_12 σ1_12 h2 => ?_); replace h := h2; clear h2
         obtain ⟨x153, rfl, h⟩ := h
         refine Seq.u 21 (.int .i64 x153) ?_
         refine Seq.done ?_
         refine At.s K93 K94 ?_
         refine At.rg 29 [0, 1, 2] ?_
         refine Seq.u 154 (.pointer q114a) ?_
         refine Seq.o ?_
         refine OpTo.cl (some 155) call16 (h.cont fun v_13 σ1_13 h2 => ?_); replace h := h2; clear h2
         obtain ⟨x155, rfl, h⟩ := h
         refine Seq.u 22 (.int .i64 x155) ?_
         refine Seq.done ?_
         refine At.s K95 K96 ?_
         refine At.rg 30 [0, 1, 2, 3, 4, 5, 6, 7, 8] ?_
         refine Seq.u 157 (.pointer q9) ?_
         refine Seq.o ?_
         refine OpTo.cl (some 158) call12 (h.cont fun v_14 σ1_14 h2 => ?_); replace h := h2; clear h2
         obtain ⟨q158a, p158b, n158b, c158b, x158c, rfl, h⟩ := h
         refine Seq.us [(156, .tuple #[(.pointer q158a), (.slice p158b n158b c158b), (.int .i64 x158c)]), (159, .pointer q158a), (160, .slice p158b n158b c158b), (161, .int .i64 x158c), (23, .pointer q158a), (24, .slice p158b n158b c158b), (25, .int .i64 x158c)] ?_
         refine Seq.done ?_
         refine At.s K97 K98 ?_
         refine At.rg 31 [0, 1, 2, 3, 4, 5, 6, 7, 8, 9, 10, 11, 12, 13, 14, 15, 16, 17, 18, 19, 20, 21, 22] ?_
         refine Seq.us [(162, .int .i64 x153), (163, .bool (decide ((x153 : Int) = 0))), (164, .bool (decide ((x153 : Int) = 0)))] ?_
         cases hb : (decide ((x153 : Int) = 0)) with
         | true =>
          replace h := h.1 (of_decide_eq_true hb)
          refine Seq.us [(165, .int .i64 x155), (166, .bool (decide ((x155 : Int) = 0))), (167, .bool (decide ((x155 : Int) = 0))), (168, .bool (decide ((x155 : Int) = 0)))] ?_
          cases hb : (decide ((x155 : Int) = 0)) with
          | true =>
           replace h := h.1 (of_decide_eq_true hb)
           refine Seq.us [(169, .int .i64 x158c), (170, .bool (decide ((x158c : Int) = 0))), (171, .bool (decide ((x158c : Int) = 0))), (172, .bool (decide ((x158c : Int) = 0)))] ?_
           cases hb : (decide ((x158c : Int) = 0)) with
           | true =>
            replace h := h.1 (of_decide_eq_true hb)
            refine Seq.us [(173, .slice p158b n158b c158b), (174, .slice p114b n114b c114b)] ?_
            refine Seq.o ?_
            refine OpTo.cl (some 175) call23 (h.cont fun v_15 σ1_15 h2 => ?_); replace h := h2; clear h2
            obtain ⟨p175, n175, c175, rfl, h⟩ := h
            refine Seq.o ?_
            refine OpTo.bslice (T := 23) (E := 5) (m := 1) (ps := #[(0, (.const (.int .u8 9)))]) (d := (some 176)) (ty := 23) (gd := (some (10, true))) (vs := [(0, (.int .u8 9))]) (cs := #[(.int .u8 9)]) underlying23 (by kernel_rfl) rfl rfl rfl (by kernel_rfl) (fun b176 hn => ?_)
            replace h := h b176 hn
            refine Seq.o ?_
            refine OpTo.bslice (T := 22) (E := 23) (m := 1) (ps := #[(0, (.tmp 176))]) (d := (some 177)) (ty := 22) (gd := (some (10, true))) (vs := [(0, (.slice (some ⟨b176, 0, none⟩) 1 1))]) (cs := #[(.slice (some ⟨b176, 0, none⟩) 1 1)]) underlying22 (by kernel_rfl) rfl rfl rfl (by kernel_rfl) (fun b177 hn => ?_)
            replace h := h b177 hn
            refine Seq.o ?_
            refine OpTo.eff (d := (some 178)) (op := (.call { callee := .builtin .append, args := #[(.tmp 175), (.tmp 177)], argTypes := #[22, 22] })) (ty := 22) (gd := (some (10, true))) (by kernel_rfl) rfl rfl (Builtin.append_ #[22, 22] 22 #[(.slice p175 n175 c175), (.slice (some ⟨b177, 0, none⟩) 1 1)]) (fun o ho ht => exec_b_append rfl rfl o ho ht) (h.mono (fun v_16 σ1_16 h2 => ?_)); replace h := h2; clear h2
            obtain ⟨p178, n178, c178, rfl, h⟩ := h
            refine Seq.o ?_
            refine OpTo.cl (some 179) call21 (h.cont fun v_17 σ1_17 h2 => ?_); replace h := h2; clear h2
            obtain ⟨t179, rfl, h⟩ := h
            refine Seq.us [(180, .bool t179), (181, .bool t179)] ?_
            cases hb : t179 with
            | true =>
             replace h := h.1 hb
             refine Seq.o ?_
             refine OpTo.cl (some 182) call15 (h.cont fun v_18 σ1_18 h2 => ?_); replace h := h2; clear h2
             obtain ⟨t182, rfl, h⟩ := h
             refine Seq.us [(183, .bool t182), (8, .bool t182)] ?_
             refine Seq.done ?_
             refine At.L [(8, (.bool t182))] fun J => ?_
             exact At.rt [.tmp 8] [(.bool t182)] func7 ⟨_, rfl, rfl⟩ h
            | false =>
             replace h := h.2 hb
             refine Seq.n 182 ?_
             refine Seq.us [(183, .bool false), (8, .bool false)] ?_
             refine Seq.done ?_
             exact At.rt [.tmp 8] [(.bool false)] func7 ⟨_, rfl, rfl⟩ h
           | false =>
            replace h := h.2 (of_decide_eq_false hb)
            refine Seq.n 173 ?_
            refine Seq.n 174 ?_
            refine Seq.n 175 ?_
            refine Seq.n 176 ?_
            refine Seq.n 177 ?_
            refine Seq.n 178 ?_
            refine Seq.n 179 ?_
            refine Seq.us [(180, .bool false), (181, .bool false)] ?_
            refine Seq.n 182 ?_
            refine Seq.us [(183, .bool false), (8, .bool false)] ?_
            refine Seq.done ?_
            exact At.rt [.tmp 8] [(.bool false)] func7 ⟨_, rfl, rfl⟩ h
          | false =>
           replace h := h.2 (of_decide_eq_false hb)
           refine Seq.n 169 ?_
           refine Seq.n 170 ?_
           refine Seq.us [(171, .bool false), (172, .bool false)] ?_
           refine Seq.n 173 ?_
           refine Seq.n 174 ?_
           refine Seq.n 175 ?_
           refine Seq.n 176 ?_
           refine Seq.n 177 ?_
           refine Seq.n 178 ?_
           refine Seq.n 179 ?_
           refine Seq.us [(180, .bool false), (181, .bool false)] ?_
           refine Seq.n 182 ?_
           refine Seq.us [(183, .bool false), (8, .bool false)] ?_
           refine Seq.done ?_
           exact At.rt [.tmp 8] [(.bool false)] func7 ⟨_, rfl, rfl⟩ h
         | false =>
          replace h := h.2 (of_decide_eq_false hb)
          refine Seq.n 165 ?_
          refine Seq.n 166 ?_
          refine Seq.us [(167, .bool false), (168, .bool false)] ?_
          refine Seq.n 169 ?_
          refine Seq.n 170 ?_
          refine Seq.us [(171, .bool false), (172, .bool false)] ?_
          refine Seq.n 173 ?_
          refine Seq.n 174 ?_
          refine Seq.n 175 ?_
          refine Seq.n 176 ?_
          refine Seq.n 177 ?_
          refine Seq.n 178 ?_
          refine Seq.n 179 ?_
          refine Seq.us [(180, .bool false), (181, .bool false)] ?_
          refine Seq.n 182 ?_
          refine Seq.us [(183, .bool false), (8, .bool false)] ?_
          refine Seq.done ?_
          refine At.L [(8, (.bool false))] fun J => ?_
          exact At.rt [.tmp 8] [(.bool false)] func7 ⟨_, rfl, rfl⟩ h
      | false =>
       replace h := h.2 (of_decide_eq_false hb)
       refine Seq.zg 128 (.binOp .neq 4 (.tmp 125) (.tmp 127) 4) 4 (6, false) (.bool true) (Y.neqB (a := true) (b := false) underlying4 rfl rfl) ?_
       refine Seq.us [(129, .bool true), (130, .bool true)] ?_
       refine Seq.n 131 ?_
       refine Seq.n 132 ?_
       refine Seq.n 133 ?_
       refine Seq.n 134 ?_
       refine Seq.n 135 ?_
       refine Seq.n 136 ?_
       refine Seq.n 137 ?_
       refine Seq.us [(138, .bool true), (139, .bool true)] ?_
       refine Seq.n 140 ?_
       refine Seq.n 141 ?_
       refine Seq.n 142 ?_
       refine Seq.n 143 ?_
       refine Seq.n 144 ?_
       refine Seq.n 145 ?_
       refine Seq.n 146 ?_
       refine Seq.n 147 ?_
       refine Seq.n 148 ?_
       refine Seq.n 149 ?_
       refine Seq.u 150 (.bool true) ?_
       refine Seq.done ?_
       refine At.cT 150 K86 K89 ?_
       refine At.s K87 K88 ?_
       refine At.rg 27 [0] ?_
       refine Seq.u 8 (.bool false) ?_
       refine Seq.done ?_
       exact At.rt [.tmp 8] [(.bool false)] func7 ⟨_, rfl, rfl⟩ h
     | false =>
      replace h := h.2 hb
      cases hb : (decide ((x104 : Int) = 0)) with
      | true =>
       replace h := h.1 (of_decide_eq_true hb)
       refine Seq.zg 128 (.binOp .neq 4 (.tmp 125) (.tmp 127) 4) 4 (6, false) (.bool true) (Y.neqB (a := false) (b := true) underlying4 rfl rfl) ?_
       refine Seq.us [(129, .bool true), (130, .bool true)] ?_
       refine Seq.n 131 ?_
       refine Seq.n 132 ?_
       refine Seq.n 133 ?_
       refine Seq.n 134 ?_
       refine Seq.n 135 ?_
       refine Seq.n 136 ?_
       refine Seq.n 137 ?_
       refine Seq.us [(138, .bool true), (139, .bool true)] ?_
       refine Seq.n 140 ?_
       refine Seq.n 141 ?_
       refine Seq.n 142 ?_
       refine Seq.n 143 ?_
       refine Seq.n 144 ?_
       refine Seq.n 145 ?_
       refine Seq.n 146 ?_
       refine Seq.n 147 ?_
       refine Seq.n 148 ?_
       refine Seq.n 149 ?_
       refine Seq.u 150 (.bool true) ?_
       refine Seq.done ?_
       refine At.L [(9, (.pointer q9)), (18, (.pointer q114a)), (19, (.slice p114b n114b c114b)), (150, (.bool true))] fun J => ?_
       refine At.cT 150 K86 K89 ?_
       refine At.s K87 K88 ?_
       refine At.rg 27 [0] ?_
       refine Seq.u 8 (.bool false) ?_
       refine Seq.done ?_
       exact At.rt [.tmp 8] [(.bool false)] func7 ⟨_, rfl, rfl⟩ h
      | false =>
       replace h := h.2 (of_decide_eq_false hb)
       refine Seq.zg 128 (.binOp .neq 4 (.tmp 125) (.tmp 127) 4) 4 (6, false) (.bool false) (Y.neqB (a := false) (b := false) underlying4 rfl rfl) ?_
       refine Seq.us [(129, .bool false), (130, .bool false), (131, .bool false), (132, .bool false)] ?_
       refine Seq.n 133 ?_
       refine Seq.n 134 ?_
       refine Seq.n 135 ?_
       refine Seq.n 136 ?_
       refine Seq.us [(137, .bool false), (138, .bool false), (139, .bool false), (140, .slice p114b n114b c114b), (141, .slice p1 n1 c1)] ?_
       refine Seq.o ?_
       refine OpTo.cl (some 142) call21 (h.cont fun v_10 σ1_10 h2 => ?_); replace h := h2; clear h2
       obtain ⟨t142, rfl, h⟩ := h
       refine Seq.us [(143, .bool (!t142)), (144, .bool (!t142))] ?_
       cases hb : (!t142) with
       | true =>
        replace h := h.1 (Tw.nt hb)
        refine Seq.us [(145, .slice p114b n114b c114b), (146, .slice p0 n0 c0)] ?_
        refine Seq.o ?_
        refine OpTo.cl (some 147) call21 (h.cont fun v_11 σ1_11 h2 => ?_); replace h := h2; clear h2
        obtain ⟨t147, rfl, h⟩ := h
        refine Seq.us [(148, .bool (!t147)), (149, .bool (!t147)), (150, .bool (!t147))] ?_
        refine Seq.done ?_
        cases hb : (!t147) with
        | true =>
         replace h := h.1 (Tw.nt hb)
         refine At.cT 150 K86 K89 ?_
         refine At.s K87 K88 ?_
         refine At.rg 27 [0] ?_
         refine Seq.u 8 (.bool false) ?_
         refine Seq.done ?_
         exact At.rt [.tmp 8] [(.bool false)] func7 ⟨_, rfl, rfl⟩ h
        | false =>
         replace h := h.2 (Tw.nf hb)
         refine At.cF 150 K86 K89 ?_
         refine At.skip ?_
         refine At.s K91 K92 ?_
         refine At.rg 28 [0, 1, 2, 3] ?_
         refine Seq.u 151 (.pointer q114a) ?_
         refine Seq.o ?_
         refine OpTo.bslice (T := 23) (E := 5) (m := 1) (ps := #[(0, (.const (.int .u8 9)))]) (d := (some 152)) (ty := 23) (gd := none) (vs := [(0, (.int .u8 9))]) (cs := #[(.int .u8 9)]) underlying23 (by kernel_rfl) rfl rfl rfl (by kernel_rfl) (fun b152 hn => ?_)
         replace h := h b152 hn
         refine Seq.o ?_
         refine OpTo.cl (some 153) call13 (h.cont fun v_12 σ1_12 h2 => ?_); replace h := h2; clear h2
         obtain ⟨x153, rfl, h⟩ := h
         refine Seq.u 21 (.int .i64 x153) ?_
         refine Seq.done ?_
         refine At.s K93 K94 ?_
         refine At.rg 29 [0, 1, 2] ?_
         refine Seq.u 154 (.pointer q114a) ?_
         refine Seq.o ?_
         refine OpTo.cl (some 155) call16 (h.cont fun v_13 σ1_13 h2 => ?_); replace h := h2; clear h2
         obtain ⟨x155, rfl, h⟩ := h
         refine Seq.u 22 (.int .i64 x155) ?_
         refine Seq.done ?_
         refine At.s K95 K96 ?_
         refine At.rg 30 [0, 1, 2, 3, 4, 5, 6, 7, 8] ?_
         refine Seq.u 157 (.pointer q9) ?_
         refine Seq.o ?_
         refine OpTo.cl (some 158) call12 (h.cont fun v_14 σ1_14 h2 => ?_); replace h := h2; clear h2
         obtain ⟨q158a, p158b, n158b, c158b, x158c, rfl, h⟩ := h
         refine Seq.us [(156, .tuple #[(.pointer q158a), (.slice p158b n158b c158b), (.int .i64 x158c)]), (159, .pointer q158a), (160, .slice p158b n158b c158b), (161, .int .i64 x158c), (23, .pointer q158a), (24, .slice p158b n158b c158b), (25, .int .i64 x158c)] ?_
         refine Seq.done ?_
         refine At.L [(19, (.slice p114b n114b c114b)), (21, (.int .i64 x153)), (22, (.int .i64 x155)), (24, (.slice p158b n158b c158b)), (25, (.int .i64 x158c))] fun J => ?_
         refine At.s K97 K98 ?_
         refine At.rg 31 [0, 1, 2, 3, 4, 5, 6, 7, 8, 9, 10, 11, 12, 13, 14, 15, 16, 17, 18, 19, 20, 21, 22] ?_
         refine Seq.us [(162, .int .i64 x153), (163, .bool (decide ((x153 : Int) = 0))), (164, .bool (decide ((x153 : Int) = 0)))] ?_
         cases hb : (decide ((x153 : Int) = 0)) with
         | true =>
          replace h := h.1 (of_decide_eq_true hb)
          refine Seq.us [(165, .int .i64 x155), (166, .bool (decide ((x155 : Int) = 0))), (167, .bool (decide ((x155 : Int) = 0))), (168, .bool (decide ((x155 : Int) = 0)))] ?_
          cases hb : (decide ((x155 : Int) = 0)) with
          | true =>
           replace h := h.1 (of_decide_eq_true hb)
           refine Seq.us [(169, .int .i64 x158c), (170, .bool (decide ((x158c : Int) = 0))), (171, .bool (decide ((x158c : Int) = 0))), (172, .bool (decide ((x158c : Int) = 0)))] ?_
           cases hb : (decide ((x158c : Int) = 0)) with
           | true =>
            replace h := h.1 (of_decide_eq_true hb)
            refine Seq.us [(173, .slice p158b n158b c158b), (174, .slice p114b n114b c114b)] ?_
            refine Seq.o ?_
            refine OpTo.cl (some 175) call23 (h.cont fun v_15 σ1_15 h2 => ?_); replace h := h2; clear h2
            obtain ⟨p175, n175, c175, rfl, h⟩ := h
            refine Seq.o ?_
            refine OpTo.bslice (T := 23) (E := 5) (m := 1) (ps := #[(0, (.const (.int .u8 9)))]) (d := (some 176)) (ty := 23) (gd := (some (10, true))) (vs := [(0, (.int .u8 9))]) (cs := #[(.int .u8 9)]) underlying23 (by kernel_rfl) rfl rfl rfl (by kernel_rfl) (fun b176 hn => ?_)
            replace h := h b176 hn
            refine Seq.o ?_
            refine OpTo.bslice (T := 22) (E := 23) (m := 1) (ps := #[(0, (.tmp 176))]) (d := (some 177)) (ty := 22) (gd := (some (10, true))) (vs := [(0, (.slice (some ⟨b176, 0, none⟩) 1 1))]) (cs := #[(.slice (some ⟨b176, 0, none⟩) 1 1)]) underlying22 (by kernel_rfl) rfl rfl rfl (by kernel_rfl) (fun b177 hn => ?_)
            replace h := h b177 hn
            refine Seq.o ?_
            refine OpTo.eff (d := (some 178)) (op := (.call { callee := .builtin .append, args := #[(.tmp 175), (.tmp 177)], argTypes := #[22, 22] })) (ty := 22) (gd := (some (10, true))) (by kernel_rfl) rfl rfl (Builtin.append_ #[22, 22] 22 #[(.slice p175 n175 c175), (.slice (some ⟨b177, 0, none⟩) 1 1)]) (fun o ho ht => exec_b_append rfl rfl o ho ht) (h.mono (fun v_16 σ1_16 h2 => ?_)); replace h := h2; clear h2
            obtain ⟨p178, n178, c178, rfl, h⟩ := h
            refine Seq.o ?_
            refine OpTo.cl (some 179) call21 (h.cont fun v_17 σ1_17 h2 => ?_); replace h := h2; clear h2
            obtain ⟨t179, rfl, h⟩ := h
            refine Seq.us [(180, .bool t179), (181, .bool t179)] ?_
            cases hb : t179 with
            | true =>
             replace h := h.1 hb
             refine Seq.o ?_
             refine OpTo.cl (some 182) call15 (h.cont fun v_18 σ1_18 h2 => ?_); replace h := h2; clear h2
             obtain ⟨t182, rfl, h⟩ := h
             refine Seq.us [(183, .bool t182), (8, .bool t182)] ?_
             refine Seq.done ?_
             exact At.rt [.tmp 8] [(.bool t182)] func7 ⟨_, rfl, rfl⟩ h
            | false =>
             replace h := h.2 hb
             refine Seq.n 182 ?_
             refine Seq.us [(183, .bool false), (8, .bool false)] ?_
             refine Seq.done ?_
             exact At.rt [.tmp 8] [(.bool false)] func7 ⟨_, rfl, rfl⟩ h
           | false =>
            replace h := h.2 (of_decide_eq_false hb)
            refine Seq.n 173 ?_
            refine Seq.n 174 ?_
            refine Seq.n 175 ?_
            refine Seq.n 176 ?_
            refine Seq.n 177 ?_
            refine Seq.n 178 ?_
            refine Seq.n 179 ?_
            refine Seq.us [(180, .bool false), (181, .bool false)] ?_
            refine Seq.n 182 ?_
            refine Seq.us [(183, .bool false), (8, .bool false)] ?_
            refine Seq.done ?_
            exact At.rt [.tmp 8] [(.bool false)] func7 ⟨_, rfl, rfl⟩ h
          | false =>
           replace h := h.2 (of_decide_eq_false hb)
           refine Seq.n 169 ?_
           refine Seq.n 170 ?_
           refine Seq.us [(171, .bool false), (172, .bool false)] ?_
           refine Seq.n 173 ?_
           refine Seq.n 174 ?_
           refine Seq.n 175 ?_
           refine Seq.n 176 ?_
           refine Seq.n 177 ?_
           refine Seq.n 178 ?_
           refine Seq.n 179 ?_
           refine Seq.us [(180, .bool false), (181, .bool false)] ?_
           refine Seq.n 182 ?_
           refine Seq.us [(183, .bool false), (8, .bool false)] ?_
           refine Seq.done ?_
           refine At.L [(8, (.bool false))] fun J => ?_
           exact At.rt [.tmp 8] [(.bool false)] func7 ⟨_, rfl, rfl⟩ h
         | false =>
          replace h := h.2 (of_decide_eq_false hb)
          refine Seq.n 165 ?_
          refine Seq.n 166 ?_
          refine Seq.us [(167, .bool false), (168, .bool false)] ?_
          refine Seq.n 169 ?_
          refine Seq.n 170 ?_
          refine Seq.us [(171, .bool false), (172, .bool false)] ?_
          refine Seq.n 173 ?_
          refine Seq.n 174 ?_
          refine Seq.n 175 ?_
          refine Seq.n 176 ?_
          refine Seq.n 177 ?_
          refine Seq.n 178 ?_
          refine Seq.n 179 ?_
          refine Seq.us [(180, .bool false), (181, .bool false)] ?_
          refine Seq.n 182 ?_
          refine Seq.us [(183, .bool false), (8, .bool false)] ?_
          refine Seq.done ?_
          exact At.rt [.tmp 8] [(.bool false)] func7 ⟨_, rfl, rfl⟩ h
       | false =>
        replace h := h.2 (Tw.nf hb)
        refine Seq.n 145 ?_
        refine Seq.n 146 ?_
        refine Seq.n 147 ?_
        refine Seq.n 148 ?_
        refine Seq.us [(149, .bool false), (150, .bool false)] ?_
        refine Seq.done ?_
        refine At.cF 150 K86 K89 ?_
        refine At.skip ?_
        refine At.s K91 K92 ?_
        refine At.rg 28 [0, 1, 2, 3] ?_
        refine Seq.u 151 (.pointer q114a) ?_
        refine Seq.o ?_
        refine OpTo.bslice (T := 23) (E := 5) (m := 1) (ps := #[(0, (.const (.int .u8 9)))]) (d := (some 152)) (ty := 23) (gd := none) (vs := [(0, (.int .u8 9))]) (cs := #[(.int .u8 9)]) underlying23 (by kernel_rfl) rfl rfl rfl (by kernel_rfl) (fun b152 hn => ?_)
        replace h := h b152 hn
        refine Seq.o ?_
        refine OpTo.cl (some 153) call13 (h.cont fun v_11 σ1_11 h2 => ?_); replace h := h2; clear h2
        obtain ⟨x153, rfl, h⟩ := h
        refine Seq.u 21 (.int .i64 x153) ?_
        refine Seq.done ?_
        refine At.s K93 K94 ?_
        refine At.rg 29 [0, 1, 2] ?_
        refine Seq.u 154 (.pointer q114a) ?_
        refine Seq.o ?_
        refine OpTo.cl (some 155) call16 (h.cont fun v_12 σ1_12 h2 => ?_); replace h := h2; clear h2
        obtain ⟨x155, rfl, h⟩ := h
        refine Seq.u 22 (.int .i64 x155) ?_
        refine Seq.done ?_
        refine At.s K95 K96 ?_
        refine At.rg 30 [0, 1, 2, 3, 4, 5, 6, 7, 8] ?_
        refine Seq.u 157 (.pointer q9) ?_
        refine Seq.o ?_
        refine OpTo.cl (some 158) call12 (h.cont fun v_13 σ1_13 h2 => ?_); replace h := h2; clear h2
        obtain ⟨q158a, p158b, n158b, c158b, x158c, rfl, h⟩ := h
        refine Seq.us [(156, .tuple #[(.pointer q158a), (.slice p158b n158b c158b), (.int .i64 x158c)]), (159, .pointer q158a), (160, .slice p158b n158b c158b), (161, .int .i64 x158c), (23, .pointer q158a), (24, .slice p158b n158b c158b), (25, .int .i64 x158c)] ?_
        refine Seq.done ?_
        refine At.L [(19, (.slice p114b n114b c114b)), (21, (.int .i64 x153)), (22, (.int .i64 x155)), (24, (.slice p158b n158b c158b)), (25, (.int .i64 x158c))] fun J => ?_
        refine At.s K97 K98 ?_
        refine At.rg 31 [0, 1, 2, 3, 4, 5, 6, 7, 8, 9, 10, 11, 12, 13, 14, 15, 16, 17, 18, 19, 20, 21, 22] ?_
        refine Seq.us [(162, .int .i64 x153), (163, .bool (decide ((x153 : Int) = 0))), (164, .bool (decide ((x153 : Int) = 0)))] ?_
        cases hb : (decide ((x153 : Int) = 0)) with
        | true =>
         replace h := h.1 (of_decide_eq_true hb)
         refine Seq.us [(165, .int .i64 x155), (166, .bool (decide ((x155 : Int) = 0))), (167, .bool (decide ((x155 : Int) = 0))), (168, .bool (decide ((x155 : Int) = 0)))] ?_
         cases hb : (decide ((x155 : Int) = 0)) with
         | true =>
          replace h := h.1 (of_decide_eq_true hb)
          refine Seq.us [(169, .int .i64 x158c), (170, .bool (decide ((x158c : Int) = 0))), (171, .bool (decide ((x158c : Int) = 0))), (172, .bool (decide ((x158c : Int) = 0)))] ?_
          cases hb : (decide ((x158c : Int) = 0)) with
          | true =>
           replace h := h.1 (of_decide_eq_true hb)
           refine Seq.us [(173, .slice p158b n158b c158b), (174, .slice p114b n114b c114b)] ?_
           refine Seq.o ?_
           refine OpTo.cl (some 175) call23 (h.cont fun v_14 σ1_14 h2 => ?_); replace h := h2; clear h2
           obtain ⟨p175, n175, c175, rfl, h⟩ := h
           refine Seq.o ?_
           refine OpTo.bslice (T := 23) (E := 5) (m := 1) (ps := #[(0, (.const (.int .u8 9)))]) (d := (some 176)) (ty := 23) (gd := (some (10, true))) (vs := [(0, (.int .u8 9))]) (cs := #[(.int .u8 9)]) underlying23 (by kernel_rfl) rfl rfl rfl (by kernel_rfl) (fun b176 hn => ?_)
           replace h := h b176 hn
           refine Seq.o ?_
           refine OpTo.bslice (T := 22) (E := 23) (m := 1) (ps := #[(0, (.tmp 176))]) (d := (some 177)) (ty := 22) (gd := (some (10, true))) (vs := [(0, (.slice (some ⟨b176, 0, none⟩) 1 1))]) (cs := #[(.slice (some ⟨b176, 0, none⟩) 1 1)]) underlying22 (by kernel_rfl) rfl rfl rfl (by kernel_rfl) (fun b177 hn => ?_)
           replace h := h b177 hn
           refine Seq.o ?_
           refine OpTo.eff (d := (some 178)) (op := (.call { callee := .builtin .append, args := #[(.tmp 175), (.tmp 177)], argTypes := #[22, 22] })) (ty := 22) (gd := (some (10, true))) (by kernel_rfl) rfl rfl (Builtin.append_ #[22, 22] 22 #[(.slice p175 n175 c175), (.slice (some ⟨b177, 0, none⟩) 1 1)]) (fun o ho ht => exec_b_append rfl rfl o ho ht) (h.mono (fun v_15 σ1_15 h2 => ?_)); replace h := h2; clear h2
           obtain ⟨p178, n178, c178, rfl, h⟩ := h
           refine Seq.o ?_
           refine OpTo.cl (some 179) call21 (h.cont fun v_16 σ1_16 h2 => ?_); replace h := h2; clear h2
           obtain ⟨t179, rfl, h⟩ := h
           refine Seq.us [(180, .bool t179), (181, .bool t179)] ?_
           cases hb : t179 with
           | true =>
            replace h := h.1 hb
            refine Seq.o ?_
            refine OpTo.cl (some 182) call15 (h.cont fun v_17 σ1_17 h2 => ?_); replace h := h2; clear h2
            obtain ⟨t182, rfl, h⟩ := h
            refine Seq.us [(183, .bool t182), (8, .bool t182)] ?_
            refine Seq.done ?_
            exact At.rt [.tmp 8] [(.bool t182)] func7 ⟨_, rfl, rfl⟩ h
           | false =>
            replace h := h.2 hb
            refine Seq.n 182 ?_
            refine Seq.us [(183, .bool false), (8, .bool false)] ?_
            refine Seq.done ?_
            exact At.rt [.tmp 8] [(.bool false)] func7 ⟨_, rfl, rfl⟩ h
          | false =>
           replace h := h.2 (of_decide_eq_false hb)
           refine Seq.n 173 ?_
           refine Seq.n 174 ?_
           refine Seq.n 175 ?_
           refine Seq.n 176 ?_
           refine Seq.n 177 ?_
           refine Seq.n 178 ?_
           refine Seq.n 179 ?_
           refine Seq.us [(180, .bool false), (181, .bool false)] ?_
           refine Seq.n 182 ?_
           refine Seq.us [(183, .bool false), (8, .bool false)] ?_
           refine Seq.done ?_
           exact At.rt [.tmp 8] [(.bool false)] func7 ⟨_, rfl, rfl⟩ h
         | false =>
          replace h := h.2 (of_decide_eq_false hb)
          refine Seq.n 169 ?_
          refine Seq.n 170 ?_
          refine Seq.us [(171, .bool false), (172, .bool false)] ?_
          refine Seq.n 173 ?_
          refine Seq.n 174 ?_
          refine Seq.n 175 ?_
          refine Seq.n 176 ?_
          refine Seq.n 177 ?_
          refine Seq.n 178 ?_
          refine Seq.n 179 ?_
          refine Seq.us [(180, .bool false), (181, .bool false)] ?_
          refine Seq.n 182 ?_
          refine Seq.us [(183, .bool false), (8, .bool false)] ?_
          refine Seq.done ?_
          refine At.L [(8, (.bool false))] fun J => ?_
          exact At.rt [.tmp 8] [(.bool false)] func7 ⟨_, rfl, rfl⟩ h
        | false =>
         replace h := h.2 (of_decide_eq_false hb)
         refine Seq.n 165 ?_
         refine Seq.n 166 ?_
         refine Seq.us [(167, .bool false), (168, .bool false)] ?_
         refine Seq.n 169 ?_
         refine Seq.n 170 ?_
         refine Seq.us [(171, .bool false), (172, .bool false)] ?_
         refine Seq.n 173 ?_
         refine Seq.n 174 ?_
         refine Seq.n 175 ?_
         refine Seq.n 176 ?_
         refine Seq.n 177 ?_
         refine Seq.n 178 ?_
         refine Seq.n 179 ?_
         refine Seq.us [(180, .bool false), (181, .bool false)] ?_
         refine Seq.n 182 ?_
         refine Seq.us [(183, .bool false), (8, .bool false)] ?_
         refine Seq.done ?_
         exact At.rt [.tmp 8] [(.bool false)] func7 ⟨_, rfl, rfl⟩ h
end law7_WalCuts

end
end TwW
end
section
/- written by gen.py: program points and what leads to them -/
set_option linter.unusedVariables false
set_option maxRecDepth 100000
namespace TwW
open Go Tw Go.Proofs.Tryz
noncomputable section
namespace law7_awake
abbrev fid : Nat := 15
noncomputable def K0 := f15.body.getD .skip
def K1 := cl K0
def K2 := cr K0
def K3 := cl K2
def K4 := cr K2
def K5 := cl K4
def K6 := cr K4
def K7 := cl K6
def K8 := cl K7
def K9 := cr K7
def K10 := cl K9
def K11 := cl K10
def K12 := cr K10
def K13 := cr K9
def K14 := cr K6
def K15 := cl K14
def K16 := cr K14
def K17 := cl K16
def K18 := cr K16
def K19 := cl K18
def K20 := cr K18
def K21 := cl K20
def K22 := cr K20
def K23 := cl K22
def K24 := cr K22
def K25 := cl K24
def K26 := cl K25
def K27 := cr K25
def K28 := cl K27
def K29 := cl K28
def K30 := cr K28
def K31 := cr K27
def K32 := cr K24
def K33 := cl K32
def K34 := cr K32
def K35 := cl K34
def K36 := cr K34
def K37 := cl K36
def K38 := cr K36
abbrev gl (R : Ending → Hp → Prop) : Gl := Gl.fn prog 15 104 R
theorem start {R : Ending → Hp → Prop} {σ : Hp} (h : Spec prog 11 #[] σ (Cont R (fun v σ1 => ∃ q16 : Option Addr, v = (.pointer q16) ∧ Spec prog 12 #[(.pointer q16), (.string (ByteArray.mk #[120]))] σ1 (Cont R (fun v_2 σ1_2 => ∃ q19a : Option Addr, ∃ p19b : Option Addr, ∃ n19b : Nat, ∃ c19b : Nat, ∃ x19c : Int, v_2 = (.tuple #[(.pointer q19a), (.slice p19b n19b c19b), (.int .i64 x19c)]) ∧ ((x19c : Int) ≠ 0 → R (.returned (.bool false)) σ1_2) ∧ (¬ ((x19c : Int) ≠ 0) → ((Option.isNone q19a) = true → R (.returned (.bool false)) σ1_2) ∧ ((Option.isNone q19a) = false → (((n19b : Int) : Int) ≠ 0 → R (.returned (.bool false)) σ1_2) ∧ (¬ (((n19b : Int) : Int) ≠ 0) → ∀ b35 : Nat, σ1_2 b35 = none → Spec prog 13 #[(.pointer q19a), (.slice (some ⟨b35, 0, none⟩) 1 1)] (Hp.set σ1_2 b35 (.cells #[(.int .u8 1)] 5 (0, 0))) (Cont R (fun v_3 σ1_3 => ∃ x36 : Int, v_3 = (.int .i64 x36) ∧ Spec prog 16 #[(.pointer q19a)] σ1_3 (Cont R (fun v_4 σ1_4 => ∃ x38 : Int, v_4 = (.int .i64 x38) ∧ ∀ b40 : Nat, σ1_4 b40 = none → Spec prog 13 #[(.pointer q19a), (.slice (some ⟨b40, 0, none⟩) 1 1)] (Hp.set σ1_4 b40 (.cells #[(.int .u8 2)] 5 (0, 0))) (Cont R (fun v_5 σ1_5 => ∃ x41 : Int, v_5 = (.int .i64 x41) ∧ Spec prog 25 #[(.pointer q19a)] σ1_5 (Cont R (fun v_6 σ1_6 => ∃ x43 : Int, v_6 = (.int .i64 x43) ∧ Spec prog 28 #[(.pointer q16), (.int .i64 0)] σ1_6 (Cont R (fun v_7 σ1_7 => v_7 = (.tuple #[]) ∧ Spec prog 29 #[(.pointer q16)] σ1_7 (Cont R (fun v_8 σ1_8 => v_8 = (.tuple #[]) ∧ Spec prog 12 #[(.pointer q16), (.string (ByteArray.mk #[120]))] σ1_8 (Cont R (fun v_9 σ1_9 => ∃ q50a : Option Addr, ∃ p50b : Option Addr, ∃ n50b : Nat, ∃ c50b : Nat, ∃ x50c : Int, v_9 = (.tuple #[(.pointer q50a), (.slice p50b n50b c50b), (.int .i64 x50c)]) ∧ ((x50c : Int) ≠ 0 → R (.returned (.bool false)) σ1_9) ∧ (¬ ((x50c : Int) ≠ 0) → ((Option.isNone q50a) = true → R (.returned (.bool false)) σ1_9) ∧ ((Option.isNone q50a) = false → ∀ b61 : Nat, σ1_9 b61 = none → ∀ b62 : Nat, (Hp.set σ1_9 b61 (.cells #[(.int .u8 3)] 5 (0, 0))) b62 = none → Spec prog 22 #[(.pointer q50a), (.slice (some ⟨b62, 0, none⟩) 1 1)] (Hp.set (Hp.set σ1_9 b61 (.cells #[(.int .u8 3)] 5 (0, 0))) b62 (.cells #[(.slice (some ⟨b61, 0, none⟩) 1 1)] 23 (0, 0))) (Cont R (fun v_10 σ1_10 => ∃ x63 : Int, v_10 = (.int .i64 x63) ∧ Spec prog 12 #[(.pointer q16), (.string (ByteArray.mk #[120]))] σ1_10 (Cont R (fun v_11 σ1_11 => ∃ q66a : Option Addr, ∃ p66b : Option Addr, ∃ n66b : Nat, ∃ c66b : Nat, ∃ x66c : Int, v_11 = (.tuple #[(.pointer q66a), (.slice p66b n66b c66b), (.int .i64 x66c)]) ∧ ((x36 : Int) = 0 → ((x38 : Int) = 0 → ((x41 : Int) = 0 → ((x43 : Int) = 1 → ∀ b86 : Nat, σ1_11 b86 = none → ∀ b87 : Nat, (Hp.set σ1_11 b86 (.cells #[(.int .u8 1)] 5 (0, 0))) b87 = none → Spec prog 21 #[(.slice p50b n50b c50b), (.slice (some ⟨b87, 0, none⟩) 1 1)] (Hp.set (Hp.set σ1_11 b86 (.cells #[(.int .u8 1)] 5 (0, 0))) b87 (.cells #[(.slice (some ⟨b86, 0, none⟩) 1 1)] 23 (0, 0))) (Cont R (fun v_12 σ1_12 => ∃ t88 : Bool, v_12 = (.bool t88) ∧ (t88 = true → ((x63 : Int) = 0 → ((x66c : Int) = 0 → ∀ b100 : Nat, σ1_12 b100 = none → ∀ b101 : Nat, (Hp.set σ1_12 b100 (.cells #[(.int .u8 3)] 5 (0, 0))) b101 = none → Spec prog 21 #[(.slice p66b n66b c66b), (.slice (some ⟨b101, 0, none⟩) 1 1)] (Hp.set (Hp.set σ1_12 b100 (.cells #[(.int .u8 3)] 5 (0, 0))) b101 (.cells #[(.slice (some ⟨b100, 0, none⟩) 1 1)] 23 (0, 0))) (Cont R (fun v_13 σ1_13 => ∃ t102 : Bool, v_13 = (.bool t102) ∧ R (.returned (.bool t102)) σ1_13))) ∧ (¬ ((x66c : Int) = 0) → R (.returned (.bool false)) σ1_12)) ∧ (¬ ((x63 : Int) = 0) → R (.returned (.bool false)) σ1_12)) ∧ (t88 = false → R (.returned (.bool false)) σ1_12)))) ∧ (¬ ((x43 : Int) = 1) → R (.returned (.bool false)) σ1_11)) ∧ (¬ ((x41 : Int) = 0) → R (.returned (.bool false)) σ1_11)) ∧ (¬ ((x38 : Int) = 0) → R (.returned (.bool false)) σ1_11)) ∧ (¬ ((x36 : Int) = 0) → R (.returned (.bool false)) σ1_11))))))))))))))))))))))))))))) : Spec prog 15 #[] σ R := by
 refine Spec.of_at (fn := f15) (c := K0) func15 (by kernel_rfl) (Nat.le_of_ble_eq_true (by kernel_rfl)) (fun e he => ?_)
 show At (gl R) _ _ _ _
 refine At.s K1 K2 ?_
 refine At.rg 0 [0] ?_
 refine Seq.u 0 (.bool false) ?_
 refine Seq.done ?_
 refine At.s K3 K4 ?_
 refine At.rg 1 [0, 1] ?_
 refine Seq.o ?_
 refine OpTo.cl (some 16) call11 (h.cont fun v σ1 h2 => ?_); replace h := h2; clear h2
 obtain ⟨q16, rfl, h⟩ := h
 refine Seq.u 1 (.pointer q16) ?_
 refine Seq.done ?_
 refine At.s K5 K6 ?_
 refine At.rg 2 [0, 1, 2, 3, 4, 5, 6, 7, 8] ?_
 refine Seq.u 18 (.pointer q16) ?_
 refine Seq.o ?_
 refine OpTo.cl (some 19) call12 (h.cont fun v_2 σ1_2 h2 => ?_); replace h := h2; clear h2
 obtain ⟨q19a, p19b, n19b, c19b, x19c, rfl, h⟩ := h
 refine Seq.us [(17, .tuple #[(.pointer q19a), (.slice p19b n19b c19b), (.int .i64 x19c)]), (20, .pointer q19a), (21, .slice p19b n19b c19b), (22, .int .i64 x19c), (2, .pointer q19a), (3, .slice p19b n19b c19b), (4, .int .i64 x19c)] ?_
 refine Seq.done ?_
 refine At.s K7 K14 ?_
 refine At.s K8 K9 ?_
 refine At.rg 3 [0, 1, 2, 3, 4, 5, 6, 7, 8, 9, 10] ?_
 refine Seq.us [(23, .int .i64 x19c), (24, .bool (decide ((x19c : Int) ≠ 0))), (25, .bool (decide ((x19c : Int) ≠ 0)))] ?_
 cases hb : (decide ((x19c : Int) ≠ 0)) with
 | true =>
  replace h := h.1 (of_decide_eq_true hb)
  refine Seq.n 26 ?_
  refine Seq.n 27 ?_
  refine Seq.us [(28, .bool true), (29, .bool true)] ?_
  refine Seq.n 30 ?_
  refine Seq.n 31 ?_
  refine Seq.n 32 ?_
  refine Seq.u 33 (.bool true) ?_
  refine Seq.done ?_
  refine At.cT 33 K10 K13 ?_
  refine At.s K11 K12 ?_
  refine At.rg 4 [0] ?_
  refine Seq.u 0 (.bool false) ?_
  refine Seq.done ?_
  exact At.rt [.tmp 0] [(.bool false)] func15 ⟨_, rfl, rfl⟩ h
 | false =>
  replace h := h.2 (of_decide_eq_false hb)
  refine Seq.u 26 (.pointer q19a) ?_
  refine Seq.zg 27 (.binOp .eql 26 (.tmp 26) (.const (.pointer none)) 26) 4 (2, false) (.bool (Option.isNone q19a)) (Y.eqlNil underlying26 rfl rfl) ?_
  refine Seq.us [(28, .bool (Option.isNone q19a)), (29, .bool (Option.isNone q19a))] ?_
  cases hb : (Option.isNone q19a) with
  | true =>
   replace h := h.1 hb
   refine Seq.n 30 ?_
   refine Seq.n 31 ?_
   refine Seq.n 32 ?_
   refine Seq.u 33 (.bool true) ?_
   refine Seq.done ?_
   refine At.cT 33 K10 K13 ?_
   refine At.s K11 K12 ?_
   refine At.rg 4 [0] ?_
   refine Seq.u 0 (.bool false) ?_
   refine Seq.done ?_
   exact At.rt [.tmp 0] [(.bool false)] func15 ⟨_, rfl, rfl⟩ h
  | false =>
   replace h := h.2 hb
   refine Seq.u 30 (.slice p19b n19b c19b) ?_
   refine Seq.zg 31 (.call { callee := .builtin .len, args := #[(.tmp 30)], argTypes := #[22] }) 3 (6, false) (.int .i64 (n19b : Int)) (Y.lenS underlying22 rfl rfl) ?_
   refine Seq.us [(32, .bool (decide (((n19b : Int) : Int) ≠ 0))), (33, .bool (decide (((n19b : Int) : Int) ≠ 0)))] ?_
   refine Seq.done ?_
   refine At.L [(1, (.pointer q16)), (2, (.pointer q19a)), (33, (.bool (decide (((n19b : Int) : Int) ≠ 0))))] fun J => ?_
   cases hb : (decide (((n19b : Int) : Int) ≠ 0)) with
   | true =>
    replace h := h.1 (of_decide_eq_true hb)
    refine At.cT 33 K10 K13 ?_
    refine At.s K11 K12 ?_
    refine At.rg 4 [0] ?_
    refine Seq.u 0 (.bool false) ?_
    refine Seq.done ?_
    exact At.rt [.tmp 0] [(.bool false)] func15 ⟨_, rfl, rfl⟩ h
   | false =>
    replace h := h.2 (of_decide_eq_false hb)
    refine At.cF 33 K10 K13 ?_
    refine At.skip ?_
    refine At.s K15 K16 ?_
    refine At.rg 5 [0, 1, 2, 3, 4, 5, 6, 7, 8, 9, 10] ?_
    refine Seq.u 34 (.pointer q19a) ?_
    refine Seq.o ?_
    refine OpTo.bslice (T := 23) (E := 5) (m := 1) (ps := #[(0, (.const (.int .u8 1)))]) (d := (some 35)) (ty := 23) (gd := none) (vs := [(0, (.int .u8 1))]) (cs := #[(.int .u8 1)]) underlying23 (by kernel_rfl) rfl rfl rfl (by kernel_rfl) (fun b35 hn => ?_)
    replace h := h b35 hn
    refine Seq.o ?_
    refine OpTo.cl (some 36) call13 (h.cont fun v_3 σ1_3 h2 => ?_); replace h := h2; clear h2
    obtain ⟨x36, rfl, h⟩ := h
    refine Seq.u 37 (.pointer q19a) ?_
    refine Seq.o ?_
    refine OpTo.cl (some 38) call16 (h.cont fun v_4 σ1_4 h2 => ?_); replace h := h2; clear h2
    obtain ⟨x38, rfl, h⟩ := h
    refine Seq.u 39 (.pointer q19a) ?_
    refine Seq.o ?_
    refine OpTo.bslice (T := 23) (E := 5) (m := 1) (ps := #[(0, (.const (.int .u8 2)))]) (d := (some 40)) (ty := 23) (gd := none) (vs := [(0, (.int .u8 2))]) (cs := #[(.int .u8 2)]) underlying23 (by kernel_rfl) rfl rfl rfl (by kernel_rfl) (fun b40 hn => ?_)
    replace h := h b40 hn
    refine Seq.o ?_
    refine OpTo.cl (some 41) call13 (h.cont fun v_5 σ1_5 h2 => ?_); replace h := h2; clear h2
    obtain ⟨x41, rfl, h⟩ := h
    refine Seq.us [(5, .int .i64 x36), (6, .int .i64 x38), (7, .int .i64 x41)] ?_
    refine Seq.done ?_
    refine At.s K17 K18 ?_
    refine At.rg 6 [0, 1, 2] ?_
    refine Seq.u 42 (.pointer q19a) ?_
    refine Seq.o ?_
    refine OpTo.cl (some 43) call25 (h.cont fun v_6 σ1_6 h2 => ?_); replace h := h2; clear h2
    obtain ⟨x43, rfl, h⟩ := h
    refine Seq.u 8 (.int .i64 x43) ?_
    refine Seq.done ?_
    refine At.s K19 K20 ?_
    refine At.rg 7 [0, 1] ?_
    refine Seq.u 44 (.pointer q16) ?_
    refine Seq.o ?_
    refine OpTo.cl (some 45) call28 (h.cont fun v_7 σ1_7 h2 => ?_); replace h := h2; clear h2
    obtain ⟨rfl, h⟩ := h
    refine Seq.done ?_
    refine At.s K21 K22 ?_
    refine At.rg 8 [0, 1] ?_
    refine Seq.u 46 (.pointer q16) ?_
    refine Seq.o ?_
    refine OpTo.cl (some 47) call29 (h.cont fun v_8 σ1_8 h2 => ?_); replace h := h2; clear h2
    obtain ⟨rfl, h⟩ := h
    refine Seq.done ?_
    refine At.s K23 K24 ?_
    refine At.rg 9 [0, 1, 2, 3, 4, 5, 6, 7, 8] ?_
    refine Seq.u 49 (.pointer q16) ?_
    refine Seq.o ?_
    refine OpTo.cl (some 50) call12 (h.cont fun v_9 σ1_9 h2 => ?_); replace h := h2; clear h2
    obtain ⟨q50a, p50b, n50b, c50b, x50c, rfl, h⟩ := h
    refine Seq.us [(48, .tuple #[(.pointer q50a), (.slice p50b n50b c50b), (.int .i64 x50c)]), (51, .pointer q50a), (52, .slice p50b n50b c50b), (53, .int .i64 x50c), (9, .pointer q50a), (10, .slice p50b n50b c50b), (11, .int .i64 x50c)] ?_
    refine Seq.done ?_
    refine At.s K25 K32 ?_
    refine At.s K26 K27 ?_
    refine At.rg 10 [0, 1, 2, 3, 4, 5] ?_
    refine Seq.us [(54, .int .i64 x50c), (55, .bool (decide ((x50c : Int) ≠ 0))), (56, .bool (decide ((x50c : Int) ≠ 0)))] ?_
    cases hb : (decide ((x50c : Int) ≠ 0)) with
    | true =>
     replace h := h.1 (of_decide_eq_true hb)
     refine Seq.n 57 ?_
     refine Seq.n 58 ?_
     refine Seq.u 59 (.bool true) ?_
     refine Seq.done ?_
     refine At.cT 59 K28 K31 ?_
     refine At.s K29 K30 ?_
     refine At.rg 11 [0] ?_
     refine Seq.u 0 (.bool false) ?_
     refine Seq.done ?_
     exact At.rt [.tmp 0] [(.bool false)] func15 ⟨_, rfl, rfl⟩ h
    | false =>
     replace h := h.2 (of_decide_eq_false hb)
     refine Seq.u 57 (.pointer q50a) ?_
     refine Seq.zg 58 (.binOp .eql 26 (.tmp 57) (.const (.pointer none)) 26) 4 (2, false) (.bool (Option.isNone q50a)) (Y.eqlNil underlying26 rfl rfl) ?_
     refine Seq.u 59 (.bool (Option.isNone q50a)) ?_
     refine Seq.done ?_
     refine At.L [(1, (.pointer q16)), (5, (.int .i64 x36)), (6, (.int .i64 x38)), (7, (.int .i64 x41)), (8, (.int .i64 x43)), (9, (.pointer q50a)), (10, (.slice p50b n50b c50b)), (59, (.bool (Option.isNone q50a)))] fun J => ?_
     cases hb : (Option.isNone q50a) with
     | true =>
      replace h := h.1 hb
      refine At.cT 59 K28 K31 ?_
      refine At.s K29 K30 ?_
      refine At.rg 11 [0] ?_
      refine Seq.u 0 (.bool false) ?_
      refine Seq.done ?_
      exact At.rt [.tmp 0] [(.bool false)] func15 ⟨_, rfl, rfl⟩ h
     | false =>
      replace h := h.2 hb
      refine At.cF 59 K28 K31 ?_
      refine At.skip ?_
      refine At.s K33 K34 ?_
      refine At.rg 12 [0, 1, 2, 3, 4] ?_
      refine Seq.u 60 (.pointer q50a) ?_
      refine Seq.o ?_
      refine OpTo.bslice (T := 23) (E := 5) (m := 1) (ps := #[(0, (.const (.int .u8 3)))]) (d := (some 61)) (ty := 23) (gd := none) (vs := [(0, (.int .u8 3))]) (cs := #[(.int .u8 3)]) underlying23 (by kernel_rfl) rfl rfl rfl (by kernel_rfl) (fun b61 hn => ?_)
      replace h := h b61 hn
      refine Seq.o ?_
      refine OpTo.bslice (T := 22) (E := 23) (m := 1) (ps := #[(0, (.tmp 61))]) (d := (some 62)) (ty := 22) (gd := none) (vs := [(0, (.slice (some ⟨b61, 0, none⟩) 1 1))]) (cs := #[(.slice (some ⟨b61, 0, none⟩) 1 1)]) underlying22 (by kernel_rfl) rfl rfl rfl (by kernel_rfl) (fun b62 hn => ?_)
      replace h := h b62 hn
      refine Seq.o ?_
      refine OpTo.cl (some 63) call22 (h.cont fun v_10 σ1_10 h2 => ?_); replace h := h2; clear h2
      obtain ⟨x63, rfl, h⟩ := h
      refine Seq.u 12 (.int .i64 x63) ?_
      refine Seq.done ?_
      refine At.s K35 K36 ?_
      refine At.rg 13 [0, 1, 2, 3, 4, 5, 6, 7, 8] ?_
      refine Seq.u 65 (.pointer q16) ?_
      refine Seq.o ?_
      refine OpTo.cl (some 66) call12 (h.cont fun v_11 σ1_11 h2 => ?_); replace h := h2; clear h2
      obtain ⟨q66a, p66b, n66b, c66b, x66c, rfl, h⟩ := h
      refine Seq.us [(64, .tuple #[(.pointer q66a), (.slice p66b n66b c66b), (.int .i64 x66c)]), (67, .pointer q66a), (68, .slice p66b n66b c66b), (69, .int .i64 x66c), (13, .pointer q66a), (14, .slice p66b n66b c66b), (15, .int .i64 x66c)] ?_
      refine Seq.done ?_
      refine At.s K37 K38 ?_
      refine At.rg 14 [0, 1, 2, 3, 4, 5, 6, 7, 8, 9, 10, 11, 12, 13, 14, 15, 16, 17, 18, 19, 20, 21, 22, 23, 24, 25, 26, 27, 28, 29, 30, 31, 32, 33, 34] ?_
      refine Seq.us [(70, .int .i64 x36), (71, .bool (decide ((x36 : Int) = 0))), (72, .bool (decide ((x36 : Int) = 0)))] ?_
      cases hb : (decide ((x36 : Int) = 0)) with
      | true =>
       replace h := h.1 (of_decide_eq_true hb)
       refine Seq.us [(73, .int .i64 x38), (74, .bool (decide ((x38 : Int) = 0))), (75, .bool (decide ((x38 : Int) = 0))), (76, .bool (decide ((x38 : Int) = 0)))] ?_
       cases hb : (decide ((x38 : Int) = 0)) with
       | true =>
        replace h := h.1 (of_decide_eq_true hb)
        refine Seq.us [(77, .int .i64 x41), (78, .bool (decide ((x41 : Int) = 0))), (79, .bool (decide ((x41 : Int) = 0))), (80, .bool (decide ((x41 : Int) = 0)))] ?_
        cases hb : (decide ((x41 : Int) = 0)) with
        | true =>
         replace h := h.1 (of_decide_eq_true hb)
         refine Seq.us [(81, .int .i64 x43), (82, .bool (decide ((x43 : Int) = 1))), (83, .bool (decide ((x43 : Int) = 1))), (84, .bool (decide ((x43 : Int) = 1)))] ?_
         cases hb : (decide ((x43 : Int) = 1)) with
         | true =>
          replace h := h.1 (of_decide_eq_true hb)
          refine Seq.u 85 (.slice p50b n50b c50b) ?_
          refine Seq.o ?_
          refine OpTo.bslice (T := 23) (E := 5) (m := 1) (ps := #[(0, (.const (.int .u8 1)))]) (d := (some 86)) (ty := 23) (gd := (some (14, true))) (vs := [(0, (.int .u8 1))]) (cs := #[(.int .u8 1)]) underlying23 (by kernel_rfl) rfl rfl rfl (by kernel_rfl) (fun b86 hn => ?_)
          replace h := h b86 hn
          refine Seq.o ?_
          refine OpTo.bslice (T := 22) (E := 23) (m := 1) (ps := #[(0, (.tmp 86))]) (d := (some 87)) (ty := 22) (gd := (some (14, true))) (vs := [(0, (.slice (some ⟨b86, 0, none⟩) 1 1))]) (cs := #[(.slice (some ⟨b86, 0, none⟩) 1 1)]) underlying22 (by kernel_rfl) rfl rfl rfl (by kernel_rfl) (fun b87 hn => ?_)
          replace h := h b87 hn
          refine Seq.o ?_
          refine OpTo.cl (some 88) call21 (h.cont fun v_12 σ1_12 h2 => ?_); replace h := h2; clear h2
          obtain ⟨t88, rfl, h⟩ := h
          refine Seq.us [(89, .bool t88), (90, .bool t88)] ?_
          cases hb : t88 with
          | true =>
           replace h := h.1 hb
           refine Seq.us [(91, .int .i64 x63), (92, .bool (decide ((x63 : Int) = 0))), (93, .bool (decide ((x63 : Int) = 0))), (94, .bool (decide ((x63 : Int) = 0)))] ?_
           cases hb : (decide ((x63 : Int) = 0)) with
           | true =>
            replace h := h.1 (of_decide_eq_true hb)
            refine Seq.us [(95, .int .i64 x66c), (96, .bool (decide ((x66c : Int) = 0))), (97, .bool (decide ((x66c : Int) = 0))), (98, .bool (decide ((x66c : Int) = 0)))] ?_
            cases hb : (decide ((x66c : Int) = 0)) with
            | true =>
             replace h := h.1 (of_decide_eq_true hb)
             refine Seq.u 99 (.slice p66b n66b c66b) ?_
             refine Seq.o ?_
             refine OpTo.bslice (T := 23) (E := 5) (m := 1) (ps := #[(0, (.const (.int .u8 3)))]) (d := (some 100)) (ty := 23) (gd := (some (28, true))) (vs := [(0, (.int .u8 3))]) (cs := #[(.int .u8 3)]) underlying23 (by kernel_rfl) rfl rfl rfl (by kernel_rfl) (fun b100 hn => ?_)
             replace h := h b100 hn
             refine Seq.o ?_
             refine OpTo.bslice (T := 22) (E := 23) (m := 1) (ps := #[(0, (.tmp 100))]) (d := (some 101)) (ty := 22) (gd := (some (28, true))) (vs := [(0, (.slice (some ⟨b100, 0, none⟩) 1 1))]) (cs := #[(.slice (some ⟨b100, 0, none⟩) 1 1)]) underlying22 (by kernel_rfl) rfl rfl rfl (by kernel_rfl) (fun b101 hn => ?_)
             replace h := h b101 hn
             refine Seq.o ?_
             refine OpTo.cl (some 102) call21 (h.cont fun v_13 σ1_13 h2 => ?_); replace h := h2; clear h2
             obtain ⟨t102, rfl, h⟩ := h
             refine Seq.us [(103, .bool t102), (0, .bool t102)] ?_
             refine Seq.done ?_
             refine At.L [(0, (.bool t102))] fun J => ?_
             exact At.rt [.tmp 0] [(.bool t102)] func15 ⟨_, rfl, rfl⟩ h
            | false =>
             replace h := h.2 (of_decide_eq_false hb)
             refine Seq.n 99 ?_
             refine Seq.n 100 ?_
             refine Seq.n 101 ?_
             refine Seq.n 102 ?_
             refine Seq.us [(103, .bool false), (0, .bool false)] ?_
             refine Seq.done ?_
             exact At.rt [.tmp 0] [(.bool false)] func15 ⟨_, rfl, rfl⟩ h
           | false =>
            replace h := h.2 (of_decide_eq_false hb)
            refine Seq.n 95 ?_
            refine Seq.n 96 ?_
            refine Seq.us [(97, .bool false), (98, .bool false)] ?_
            refine Seq.n 99 ?_
            refine Seq.n 100 ?_
            refine Seq.n 101 ?_
            refine Seq.n 102 ?_
            refine Seq.us [(103, .bool false), (0, .bool false)] ?_
            refine Seq.done ?_
            exact At.rt [.tmp 0] [(.bool false)] func15 ⟨_, rfl, rfl⟩ h
          | false =>
           replace h := h.2 hb
           refine Seq.n 91 ?_
           refine Seq.n 92 ?_
           refine Seq.us [(93, .bool false), (94, .bool false)] ?_
           refine Seq.n 95 ?_
           refine Seq.n 96 ?_
           refine Seq.us [(97, .bool false), (98, .bool false)] ?_
           refine Seq.n 99 ?_
           refine Seq.n 100 ?_
           refine Seq.n 101 ?_
           refine Seq.n 102 ?_
           refine Seq.us [(103, .bool false), (0, .bool false)] ?_
           refine Seq.done ?_
           exact At.rt [.tmp 0] [(.bool false)] func15 ⟨_, rfl, rfl⟩ h
         | false =>
          replace h := h.2 (of_decide_eq_false hb)
          refine Seq.n 85 ?_
          refine Seq.n 86 ?_
          refine Seq.n 87 ?_
          refine Seq.n 88 ?_
          refine Seq.us [(89, .bool false), (90, .bool false)] ?_
          refine Seq.n 91 ?_
          refine Seq.n 92 ?_
          refine Seq.us [(93, .bool false), (94, .bool false)] ?_
          refine Seq.n 95 ?_
          refine Seq.n 96 ?_
          refine Seq.us [(97, .bool false), (98, .bool false)] ?_
          refine Seq.n 99 ?_
          refine Seq.n 100 ?_
          refine Seq.n 101 ?_
          refine Seq.n 102 ?_
          refine Seq.us [(103, .bool false), (0, .bool false)] ?_
          refine Seq.done ?_
          refine At.L [(0, (.bool false))] fun J => ?_
          exact At.rt [.tmp 0] [(.bool false)] func15 ⟨_, rfl, rfl⟩ h
        | false =>
         replace h := h.2 (of_decide_eq_false hb)
         refine Seq.n 81 ?_
         refine Seq.n 82 ?_
         refine Seq.us [(83, .bool false), (84, .bool false)] ?_
         refine Seq.n 85 ?_
         refine Seq.n 86 ?_
         refine Seq.n 87 ?_
         refine Seq.n 88 ?_
         refine Seq.us [(89, .bool false), (90, .bool false)] ?_
         refine Seq.n 91 ?_
         refine Seq.n 92 ?_
         refine Seq.us [(93, .bool false), (94, .bool false)] ?_
         refine Seq.n 95 ?_
         refine Seq.n 96 ?_
         refine Seq.us [(97, .bool false), (98, .bool false)] ?_
         refine Seq.n 99 ?_
         refine Seq.n 100 ?_
         refine Seq.n 101 ?_
         refine Seq.n 102 ?_
         refine Seq.us [(103, .bool false), (0, .bool false)] ?_
         refine Seq.done ?_
         exact At.rt [.tmp 0] [(.bool false)] func15 ⟨_, rfl, rfl⟩ h
       | false =>
        replace h := h.2 (of_decide_eq_false hb)
        refine Seq.n 77 ?_
        refine Seq.n 78 ?_
        refine Seq.us [(79, .bool false), (80, .bool false)] ?_
        refine Seq.n 81 ?_
        refine Seq.n 82 ?_
        refine Seq.us [(83, .bool false), (84, .bool false)] ?_
        refine Seq.n 85 ?_
        refine Seq.n 86 ?_
        refine Seq.n 87 ?_
        refine Seq.n 88 ?_
        refine Seq.us [(89, .bool false), (90, .bool false)] ?_
        refine Seq.n 91 ?_
        refine Seq.n 92 ?_
        refine Seq.us [(93, .bool false), (94, .bool false)] ?_
        refine Seq.n 95 ?_
        refine Seq.n 96 ?_
        refine Seq.us [(97, .bool false), (98, .bool false)] ?_
        refine Seq.n 99 ?_
        refine Seq.n 100 ?_
        refine Seq.n 101 ?_
        refine Seq.n 102 ?_
        refine Seq.us [(103, .bool false), (0, .bool false)] ?_
        refine Seq.done ?_
        refine At.L [(0, (.bool false))] fun J => ?_
        exact At.rt [.tmp 0] [(.bool false)] func15 ⟨_, rfl, rfl⟩ h
      | false =>
       replace h := h.2 (of_decide_eq_false hb)
       refine Seq.n 73 ?_
       refine Seq.n 74 ?_
       refine Seq.us [(75, .bool false), (76, .bool false)] ?_
       refine Seq.n 77 ?_
       refine Seq.n 78 ?_
       refine Seq.us [(79, .bool false), (80, .bool false)] ?_
       refine Seq.n 81 ?_
       refine Seq.n 82 ?_
       refine Seq.us [(83, .bool false), (84, .bool false)] ?_
       refine Seq.n 85 ?_
       refine Seq.n 86 ?_
       refine Seq.n 87 ?_
       refine Seq.n 88 ?_
       refine Seq.us [(89, .bool false), (90, .bool false)] ?_
       refine Seq.n 91 ?_
       refine Seq.n 92 ?_
       refine Seq.us [(93, .bool false), (94, .bool false)] ?_
       refine Seq.n 95 ?_
       refine Seq.n 96 ?_
       refine Seq.us [(97, .bool false), (98, .bool false)] ?_
       refine Seq.n 99 ?_
       refine Seq.n 100 ?_
       refine Seq.n 101 ?_
       refine Seq.n 102 ?_
       refine Seq.us [(103, .bool false), (0, .bool false)] ?_
       refine Seq.done ?_
       exact At.rt [.tmp 0] [(.bool false)] func15 ⟨_, rfl, rfl⟩ h
end law7_awake

end
end TwW
end
section
set_option linter.unusedVariables false
/-! What every log answers. -/
namespace TwW
open Go Tw Go.RowKit Go.Proofs.Tryz

def dx : ByteArray := ⟨#[120]⟩
theorem dx_ok : dirOk dx = true := by decide

section
variable {σ τ : Hp} {d b : Nat} {D : Dk} {W : Wl} {R : Ending → Hp → Prop} {fs : Fs} {dir : ByteArray} {cnt : Nat}

theorem OpenOk.none' (h : ∀ s, (fs s).isSome = true → numOf dir kc s = 0 ∧ numOf dir ks s = 0) : OpenW fs dir cnt [] true :=
  ⟨0, [], [], [], ⟨fun h0 => absurd h0 (by omega), fun _ => rfl, fun s hs => by rw [(h s hs).1]; omega, Nat.zero_le _, fun x hx => (by cases hx), List.Pairwise.nil, fun s hs hlt => (by rw [(h s hs).2] at hlt; omega), fun k x hx => (by simp at hx), fun _ => rfl, torn_nil, Good.nil, fun x hx => (by cases hx), fun a ha => (by cases ha)⟩, rfl, ⟨fun f h0 => absurd h0 (by omega), fun k x hx => (by simp at hx)⟩, fun _ => rfl⟩

theorem OpenOk.one {n syn : Nat} {rs : Recs} (hn : 0 < n ∧ n ≤ cnt) (hc : cnt < 99999999) (h : ∀ s, (fs s).isSome = true → s = fname dir ks n) (hf : fs (fname dir ks n) = some ⟨joinF rs, syn⟩) (hg : Good rs) : OpenW fs dir cnt rs true := by
  have e := numOf_fname (dir := dir) (kind := ks) (no := n) (by omega)
  refine ⟨0, [], [(n, rs)], [], ⟨fun h0 => absurd h0 (by omega), fun _ => rfl, fun s hs => ?_, Nat.zero_le _, fun x hx => ?_, by simp, fun s hs hlt => ?_, fun k x hx => ?_, fun e => by simp at e, torn_nil, Good.nil, fun x hx => ?_, fun a ha => (by cases ha)⟩, by simp [toldS], ⟨fun f h0 => absurd h0 (by omega), fun k x hx hk => (by simp at hk)⟩, fun _ => rfl⟩
  · rw [h s hs]
    rcases Nat.eq_zero_or_pos (numOf dir kc (fname dir ks n)) with h0 | h0
    · omega
    · have := num_kinds h0; omega
  · simp at hx; subst hx; exact hn
  · refine ⟨(n, rs), by simp, ?_⟩
    rw [h s hs, e]
  · have hk : k = 0 := by
      have := (List.getElem?_eq_some_iff.1 hx).1
      simp at this; exact this
    subst hk
    simp at hx
    subst hx
    exact ⟨_, hf, by simp⟩
  · simp at hx; subst hx; exact hg

theorem one_rd {b : Nat} {x : Int} {T : TypeId} (h : τ b = some (.cells #[.int .u8 x] T (0, 0))) : RdI .u8 τ (some ⟨b, 0, none⟩) 1 [x] :=
  RdI.of_rdc ⟨rfl, by omega, .inr ⟨b, 0, rfl, ld_of h rfl, trivial⟩⟩
theorem one_rdLL {b2 n c : Nat} {p : Option Addr} {x : List Int} {T : TypeId} (h : τ b2 = some (.cells #[.slice p n c] T (0, 0))) (hc : n ≤ c) (hr : RdI .u8 τ p n x) : RdLL τ (some ⟨b2, 0, none⟩) 1 [x] :=
  ⟨rfl, [.slice p n c], ⟨rfl, by omega, .inr ⟨b2, 0, rfl, ld_of h rfl, trivial⟩⟩, Ch.one rfl ⟨p, n, c, rfl, hc, hr⟩⟩
theorem by8_one {x : Int} (h : 0 ≤ x ∧ x < 256) : By8 [x] := fun y hy => by simp at hy; subst hy; exact h

/-- A log over an empty disk. -/
theorem open_empty (h : DiskU σ d D τ) (ht : Tb τ) (hup : D.up = true) (harm : D.armed = false) (hd : dirOk dir = true) (hc : D.cnt < 1048576) (hf : ∀ s, D.files s = none)
    (hR : ∀ b σ' W ρ p n c fs' cnt', LogU σ' d b (dk fs' cnt') W ρ → Ext τ ρ → RdLL ρ p n [] → W.dir = dir → W.segs = [] → W.check = 0 → LogOk fs' cnt' W [] [] 0 → (∀ s, fs' s = none) → D.cnt ≤ cnt' → cnt' ≤ D.cnt → R (.returned (.tuple #[.pointer (some ⟨b, 0, none⟩), .slice p n c, .int .i64 0])) σ') : Spec prog wal_Open.fid #[.pointer (some ⟨d, 0, none⟩), .string dir] σ R := by
  refine open_spec (told := []) h ht hup harm hd hc (OpenOk.none' fun s hs => by rw [hf s] at hs; cases hs) (by simp) fun b σ' W rc sg ρ p n c fs' cnt' a1 a2 a3 a4 a5 a6 a7 a8 a9 a10 a11 a12 => ?_
  have hfs : ∀ s, fs' s = none := fun s => by
    cases hh : fs' s with
    | none => rfl
    | some f => have := a8 s (by rw [hh]; rfl); rw [hf s] at this; cases this
  have hsg : sg = [] := by
    cases sg with
    | nil => rfl
    | cons x l =>
      obtain ⟨f, hx, _⟩ := a5.sh.file 0 x rfl
      rw [hfs] at hx; cases hx
  have hch : W.check = 0 := by
    rcases Nat.eq_zero_or_pos W.check with h0 | h0
    · exact h0
    · obtain ⟨f, hx, _⟩ := a5.sh.chk h0
      rw [hfs] at hx; cases hx
  subst hsg
  have hrc : rc = [] := a5.sh.chk0 hch
  subst hrc
  exact hR b σ' W ρ p n c fs' cnt' a1 a2 a3 a4 (by rw [a5.segs]; rfl) hch a5 hfs a10 (Nat.le_of_eq (a12 rfl).1)
end
end TwW
end
section
set_option linter.unusedVariables false
/-! What every log answers: awake. -/
namespace TwW
open Go Tw Go.RowKit Go.Proofs.Tryz

section
variable {σ τ : Hp} {d b : Nat} {D : Dk} {W : Wl} {R : Ending → Hp → Prop}

theorem frame1_len (x : Int) : (frame [x]).length ≤ 8 := frame_small (r := [x]) (by simp)

theorem hasB_one {n : Nat} (h : W.segs = [n]) (ho : W.opn = n) : hasB W = true := by simp [hasB, h, ho]

theorem awake_spec (ht : Tb σ) (hR : ∀ σ', Ext σ σ' → R (.returned (.bool true)) σ') : Spec prog law7_awake.fid #[] σ R := by
  refine law7_awake.start (disk_new_spec fun d σ0 S0 hd0 hx0 => ⟨_, rfl, ?_⟩)
  have h0 : DiskU σ0 d ⟨fun _ => none, true, false, 0⟩ σ := ⟨S0, hd0, hx0⟩
  refine open_empty (dir := dx) h0 ht rfl rfl dx_ok (by show (0 : Nat) < _; omega) (fun _ => rfl) fun b σ1 W1 τ1 p1 n1 c1 fs1 k1 h1 x1 r1 e1 e2 e3 hok1 hf1 hk1 hk1' => ?_
  have hk1' : k1 ≤ 1 := Nat.le_trans hk1' (by decide)
  have hn1 : n1 = 0 := by have := r1.1; simpa using this.symm
  subst hn1
  refine ⟨_, _, _, _, _, rfl, fun hh => absurd rfl hh, fun _ => ⟨fun hh => (by cases hh), fun _ => ⟨fun hh => absurd rfl hh, fun _ b35 hb35 => ?_⟩⟩⟩
  -- the first record
  obtain ⟨τ2, h2, x2, t2⟩ := h1.box (o := .cells #[.int .u8 1] 5 (0, 0)) hb35
  have ht2 : Tb τ2 := ht.mono (x1.trans x2)
  have hdir1 : dirOk W1.dir = true := by rw [e1]; exact dx_ok
  have hb1 : hasB W1 = false := by simp [hasB, e2]
  have hsz1 : W1.size = 0 := hok1.size0 fun x hx => by cases hx
  refine wappend_spec h2 ht2 (one_rd t2) (by8_one (by omega)) rfl (by show k1 < _; omega) hdir1 hok1 (fun hh => by omega) fun _ => ⟨fun σ3 D3 W3 sg3 sf3 h3 u3 a3 k3 d3 _ hok3 s3 told3 out3 new3 ch3 hn3 hh3 ff3 => ⟨_, rfl, ?_⟩, fun ha => by cases ha⟩
  obtain ⟨g3, o3, z3⟩ := hn3 hb1
  have ff3 := ff3 (.inl hb1)
  have hfl1 := frame1_len 1
  have hb3 : hasB W3 = true := hasB_one (by rw [g3, e2]; rfl) o3
  have hk3 : D3.cnt ≤ 2 := by rw [k3]; show k1 + 1 ≤ 2; omega
  have hdir3 : dirOk W3.dir = true := by rw [d3]; exact hdir1
  refine wsync_spec h3 ht2 u3 (by omega) hdir3 hok3 (fun σ4 D4 h4 u4 a4 k4 hok4 out4 new4 ff4 => ⟨_, rfl, fun b40 hb40 => ?_⟩) (fun ha => by rw [a3] at ha; cases ha)
  obtain ⟨f4, hf4, ff4⟩ := ff4 hb3
  -- the second record
  obtain ⟨τ5, h5, x5, t5⟩ := h4.box (o := .cells #[.int .u8 2] 5 (0, 0)) hb40
  refine wappend_spec h5 (ht2.mono x5) (one_rd t5) (by8_one (by omega)) u4 (by omega) hdir3 hok4 (fun hh => by omega) fun _ => ⟨fun σ6 D6 W6 sg6 sf6 h6 u6 a6 k6 d6 _ hok6 s6 told6 out6 new6 ch6 hn6 hh6 ff6 => ⟨_, rfl, ?_⟩, fun ha => by rw [a4, a3] at ha; cases ha⟩
  have hz3 : W3.size < 4096 := by rw [z3, hsz1]; omega
  obtain ⟨g6, o6, z6⟩ := hh6 hb3 hz3
  have ff6 := ff6 (.inr hz3)
  refine segments_spec h6 ⟨_, rfl, ?_⟩
  have hseg6 : W6.segs.length = 1 := by rw [g6, g3, e2]; rfl
  -- what lies on the disk
  have hopn : W3.opn = W1.opn := o3
  have hdx3 : W3.dir = dx := d3.trans e1
  have hfn1 : W1.dir = dx := e1
  have hf4e : f4 = ⟨frame [1], 0⟩ := by
    rw [ff3, hdx3, hopn] at hf4
    rw [hfn1] at hf4
    simp [appd, fput, hf1] at hf4
    exact hf4.symm
  have hall6 : ∀ s, D6.files s = if s = fname dx ks W1.opn then some ⟨frame [1] ++ frame [2], (frame [1]).length⟩ else none := fun s => by
    rw [ff6, ff4, ff3, hdx3, hopn, hfn1, hf4e]
    by_cases hs : s = fname dx ks W1.opn
    · subst hs; simp [appd, fput]
    · simp [appd, fput, hs, hf1]
  -- the power goes
  have h6d := h6.disk
  obtain ⟨S6, hd6, hx6⟩ := h6d
  refine off_spec hd6 (fun hh => by rw [u6] at hh; cases hh) fun _ σ7 S7 gs hg hg0 hd7 hx7 => ⟨rfl, ?_⟩
  refine on_spec hd7 fun σ8 hd8 hx8 => ⟨rfl, ?_⟩
  have h8 : DiskU σ8 d ⟨gs, true, false, D6.cnt⟩ τ5 := ⟨S7, hd8, hx6.trans (hx7.trans hx8)⟩
  have hopn1 := hok1.opn
  have hgs : gs (fname dx ks W1.opn) = some ⟨joinF [[1]], (frame [1]).length⟩ := by
    have := hg0 rfl (fname dx ks W1.opn) ⟨frame [1] ++ frame [2], (frame [1]).length⟩ (by rw [hall6, if_pos rfl])
    rw [this, List.take_left]; simp [joinF]
  have hk6 : D6.cnt = k1 + 2 := by rw [k6, k4, k3]
  have hxσ5 : Ext σ τ5 := x1.trans (x2.trans x5)
  refine open_spec (told := [[1]]) h8 (ht2.mono x5) rfl rfl dx_ok (by show D6.cnt < _; omega) (OpenOk.one (n := W1.opn) ⟨by omega, by show W1.opn ≤ D6.cnt; omega⟩ (by show D6.cnt < _; omega) (fun s hs => ?_) hgs (fun r hr => by simp at hr; subst hr; exact ⟨by simp, by8_one (by omega)⟩)) (by simp) fun b9 σ9 W9 rc9 sg9 τ9 p9 n9 c9 fs9 k9 h9 x9 r9 e9 hok9 told9 out9 sub9 new9 hk9 hk9' _ => ?_
  · have h10 := hg.isS hs
    rw [hall6] at h10
    by_cases hh : s = fname dx ks W1.opn
    · exact hh
    · rw [if_neg hh] at h10; cases h10
  refine ⟨_, _, _, _, _, rfl, fun hh => absurd rfl hh, fun _ => ⟨fun hh => (by cases hh), fun _ b61 hb61 b62 hb62 => ?_⟩⟩
  obtain ⟨τa, ha, xa, ta⟩ := h9.box (o := .cells #[.int .u8 3] 5 (0, 0)) hb61
  obtain ⟨τb, hb, xb, tb⟩ := ha.box (o := .cells #[.slice (some ⟨b61, 0, none⟩) 1 1] 23 (0, 0)) hb62
  have hdir9 : dirOk W9.dir = true := by rw [e9]; exact dx_ok
  have htb : Tb τb := (((ht2.mono x5).mono x9).mono xa).mono xb
  have hk9b : k9 ≤ k1 + 3 := by have : k9 ≤ D6.cnt + 1 := hk9'; omega
  have hfl3 := frame1_len 3
  refine wcut_spec (keep := [[3]]) hb htb (one_rdLL tb (Nat.le_refl _) ((one_rd ta).mono xb)) (fun r hr => by simp at hr; subst hr; exact by8_one (by omega)) rfl (by show k9 < _; omega) hdir9 hok9 (by rw [e9]; exact new9) (fun hh => absurd (fun r hr => by simp at hr; subst hr; simp) hh) fun _ => ⟨by simp [joinF]; omega, ⟨fun σc Dc Wc hc uc ac kc' dc _ hokc outc newc => ⟨_, rfl, ?_⟩, fun ha => by cases ha⟩⟩
  have hopc := hokc.openOk
  rw [dc, e9] at hopc
  refine open_spec (told := [[3]]) (hc.disk) htb uc ac dx_ok (by rw [kc']; show k9 + 1 < _; omega) (by simpa [toldS] using hopc) (by simp) fun be σe We rce sge τe pe ne ce fse ke he xe re ee hoke tolde oute sube newe hke hke' _ => ?_
  have hxfin : Ext σ τe := hxσ5.trans (x9.trans (xa.trans (xb.trans xe)))
  refine ⟨_, _, _, _, _, rfl, fun _ => ⟨fun _ => ⟨fun _ => ⟨fun _ b86 hb86 b87 hb87 => ?_, fun hh => absurd (by rw [hseg6]; rfl) hh⟩, fun hh => absurd rfl hh⟩, fun hh => absurd rfl hh⟩, fun hh => absurd rfl hh⟩
  obtain ⟨τf, hf, xf, tf⟩ := he.box (o := .cells #[.int .u8 1] 5 (0, 0)) hb86
  obtain ⟨τg, hg', xg, tg⟩ := hf.box (o := .cells #[.slice (some ⟨b86, 0, none⟩) 1 1] 23 (0, 0)) hb87
  have hrs : RdLL _ p9 n9 [[1]] := RdLL.mono ((xa.trans (xb.trans (xe.trans (xf.trans xg)))).trans hg'.ext) r9
  refine sameLists_spec hrs ((one_rdLL tg (Nat.le_refl _) ((one_rd tf).mono xg)).mono hg'.ext) ⟨_, rfl, fun _ => ⟨fun _ => ⟨fun _ b100 hb100 b101 hb101 => ?_, fun hh => absurd rfl hh⟩, fun hh => absurd rfl hh⟩, fun hh => by simp at hh⟩
  obtain ⟨τi, hi, xi, ti⟩ := hg'.box (o := .cells #[.int .u8 3] 5 (0, 0)) hb100
  obtain ⟨τj, hj, xj, tj⟩ := hi.box (o := .cells #[.slice (some ⟨b100, 0, none⟩) 1 1] 23 (0, 0)) hb101
  have hrt : RdLL _ pe ne [[3]] := RdLL.mono ((xf.trans (xg.trans (xi.trans xj))).trans hj.ext) re
  refine sameLists_spec hrt ((one_rdLL tj (Nat.le_refl _) ((one_rd ti).mono xj)).mono hj.ext) ⟨_, rfl, ?_⟩
  have := hR _ ((hxfin.trans (xf.trans (xg.trans (xi.trans xj)))).trans hj.ext)
  simpa using this
end
end TwW
end
section
set_option linter.unusedVariables false
/-! WalTwice. -/
namespace TwW
open Go Tw Go.RowKit Go.Proofs.Tryz

/-- All files are segments'. -/
def OnlyS (fs : Fs) : Prop := ∀ s, (fs s).isSome = true → 0 < numOf dx ks s
theorem onlyS_swept {fs : Fs} {L : List ByteArray} (h : OnlyS fs) (hL : Names fs (dx ++ slash) L) : swept fs dx L = fs := by
  have hm : maxC dx L = 0 := foldl_max _ _ _ (Nat.le_refl _) (fun n hn => by
    obtain ⟨s, hs, rfl⟩ := List.mem_map.1 hn
    have h1 := h s ((hL.mem s).1 hs).1
    rcases Nat.eq_zero_or_pos (numOf dx kc s) with h0 | h0
    · omega
    · have := num_kinds h0; omega) (.inl rfl)
  unfold swept
  rw [hm]
  funext s
  unfold delF
  have hj : junk dx 0 s = false := by
    simp only [junk, Bool.or_eq_false_iff, Bool.and_eq_false_iff, decide_eq_false_iff_not]; omega
  rw [if_neg (by rw [hj]; simp)]
  by_cases hn : s ∈ L ∧ isNew dx s = true
  · exfalso
    have h1 := h s ((hL.mem s).1 hn.1).1
    have h2 := hn.2
    simp only [isNew, decide_eq_true_eq] at h2
    rw [h2, num_new (.inr rfl)] at h1; omega
  · rw [if_neg hn]

theorem xs_eq : (⟨#[120, 47, 115]⟩ : ByteArray) = cat dx ks := by rfl
theorem onlyS_names {fs : Fs} {L : List ByteArray} (h : OnlyS fs) (hL : Names fs (cat dx ks) L) : Names fs (dx ++ slash) L ∧ ∀ s ∈ L, 0 < numOf dx ks s := by
  refine ⟨⟨hL.sorted, hL.nodup, fun s => ?_⟩, fun s hs => h s ((hL.mem s).1 hs).1⟩
  rw [hL.mem]
  constructor
  · rintro ⟨h1, h2⟩; exact ⟨h1, begins_num (h s h1)⟩
  · rintro ⟨h1, h2⟩
    refine ⟨h1, ?_⟩
    rw [(numOf_pos (h s h1)).1]
    exact (begins_fname dx ks _).1
theorem segNums_len {L : List ByteArray} (h : ∀ s ∈ L, 0 < numOf dx ks s) : (segNums dx 0 L).length = L.length := by
  unfold segNums
  rw [List.filter_eq_self.2 (fun n hn => by obtain ⟨s, hs, rfl⟩ := List.mem_map.1 hn; simpa using h s hs), List.length_map]

abbrev RdBo (σ : Hp) (p : Option Addr) (n : Nat) (bs : List Bool) : Prop := RdC 1 σ p n (bs.map .bool)
theorem RdBo.at {σ : Hp} {p : Option Addr} {n k : Nat} {L : List Bool} {s : Bool} (h : RdBo σ p n L) (hk : L[k]? = some s) : ∃ b o, p = some ⟨b, o, none⟩ ∧ σ.ld ⟨b, o + k * 1, none⟩ = some (.bool s) := by
  obtain ⟨h1, _, h2⟩ := h
  have hlt := (List.getElem?_eq_some_iff.1 hk).1
  rcases h2 with h2 | ⟨b, o, hp, hl⟩
  · simp at h1; omega
  · refine ⟨b, o, hp, ?_⟩
    rw [Nat.mul_one]
    exact hl.get (by rw [List.getElem?_map, hk]; rfl)

section
variable {σ τ : Hp} {d b : Nat} {D : Dk} {W : Wl} {R : Ending → Hp → Prop}

/-- The log of the law, in the midst of it. -/
structure Tw2 (D : Dk) (W : Wl) (sg : Sg) (sf : Nat) : Prop where
  up : D.up = true
  arm : D.armed = false
  dir : W.dir = dx
  check : W.check = 0
  ok : LogOk D.files D.cnt W [] sg sf
  only : OnlyS D.files
  new : D.files (fnew dx) = none

/-- Opened again it is the same. -/
theorem reopen {sg : Sg} {sf : Nat} (h : DiskU σ d D τ) (ht : Tb τ) (ho : Tw2 D W sg sf) (hc : D.cnt < 1048576) (hbig : (toldS sg).length ≤ 4194304)
    (hR : ∀ b σ' W' sg' ρ p n c, LogU σ' d b D W' ρ → Ext τ ρ → RdLL ρ p n (toldS sg) → Tw2 D W' sg' 0 → toldS sg' = toldS sg → W'.segs = W.segs → R (.returned (.tuple #[.pointer (some ⟨b, 0, none⟩), .slice p n c, .int .i64 0])) σ') : Spec prog wal_Open.fid #[.pointer (some ⟨d, 0, none⟩), .string dx] σ R := by
  obtain ⟨fs, up, arm, cnt⟩ := D
  obtain ⟨hu, ha, hdir, hch, hok, hon, hnw⟩ := ho
  simp only at hu ha
  subst hu ha
  have hopen := hok.openOk
  rw [hdir, List.nil_append] at hopen
  refine open_spec (told := toldS sg) h ht rfl rfl dx_ok hc hopen hbig fun b σ' W' rc' sg' ρ p n c fs' cnt' a1 a2 a3 a4 a5 a6 a7 a8 a9 a10 a11 a12 => ?_
  obtain ⟨hcnt, L, hL, hfs⟩ := a12 rfl
  have hfs' : fs' = fs := hfs.trans (onlyS_swept hon hL)
  have hcnt' : cnt' = cnt := hcnt
  subst hfs' hcnt'
  have hch' : W'.check = 0 := by
    rcases Nat.eq_zero_or_pos W'.check with h0 | h0
    · exact h0
    · have h1 := hon _ (a5.sh.chk h0).isS
      have hcle := a5.sh.cle
      have hc' : cnt' < 1048576 := hc
      have h2 := numOf_fname (dir := W'.dir) (kind := kc) (no := W'.check) (by omega)
      rw [a4] at h2
      rw [a4] at h1
      have := num_kinds (dir := dx) (s := fname dx kc W'.check) (by omega)
      omega
  have hrc : rc' = [] := a5.sh.chk0 hch'
  subst hrc
  rw [List.nil_append] at a6
  have hc' : cnt' < 1048576 := hc
  have hseg : W'.segs = W.segs := by
    have s1 := segNums_eq a5.sh (by omega) (L := L) (by rw [a4]; exact hL)
    have s2 := segNums_eq hok.sh (by omega) (L := L) (by rw [hdir]; exact hL)
    rw [a5.segs, hok.segs, ← s1, ← s2, a4, hdir, hch, hch']
  exact hR b σ' W' sg' ρ p n c a1 a2 a3 ⟨rfl, rfl, a4, hch', a5, hon, a9⟩ a6 hseg
end
end TwW
end
section
set_option linter.unusedVariables false
/-! WalTwice. -/
namespace TwW
open Go Tw Go.RowKit Go.Proofs.Tryz

section
variable {σ τ : Hp} {d b : Nat} {D : Dk} {W : Wl} {R : Ending → Hp → Prop} {p0 p1 : Option Addr} {n0 c0 n1 c1 : Nat} {recs : Recs} {opens : List Bool}

/-- The records that are no longer than a record may be. -/
def fit (rs : Recs) : Recs := rs.filter fun r => decide (r.length ≤ 65536)
theorem fit_le (rs : Recs) : (fit rs).length ≤ rs.length := List.length_filter_le _ _

/-- Behind the last record. -/
theorem twice_end {sg : Sg} {sf : Nat} {p9 : Option Addr} {n9 c9 : Nat} {ρ : Hp} (h : LogU σ d b D W ρ) (ht : Tb ρ) (ho : Tw2 D W sg sf) (hc : D.cnt < 1048576) (hbig : (toldS sg).length ≤ 4194304) (hx : Ext τ (ρ.del p9)) (how : OwnLL ρ p9 n9 c9 (toldS sg))
    (hR : ∀ σ', Ext τ σ' → R (.returned (.bool true)) σ') {K : Prop}
    (hk : Spec prog 25 #[(.pointer (some ⟨b, 0, none⟩))] σ (Cont R (fun v σ1 => ∃ x94 : Int, v = (.int .i64 x94) ∧ Spec prog 12 #[(.pointer (some ⟨d, 0, none⟩)), (.string (ByteArray.mk #[120]))] σ1 (Cont R (fun v_2 σ1_2 => ∃ q97a : Option Addr, ∃ p97b : Option Addr, ∃ n97b : Nat, ∃ c97b : Nat, ∃ x97c : Int, v_2 = (.tuple #[(.pointer q97a), (.slice p97b n97b c97b), (.int .i64 x97c)]) ∧ ((x97c : Int) = 0 → Spec prog 21 #[(.slice p97b n97b c97b), (.slice p9 n9 c9)] σ1_2 (Cont R (fun v_3 σ1_3 => ∃ t106 : Bool, v_3 = (.bool t106) ∧ (t106 = true → Spec prog 18 #[(.pointer (some ⟨d, 0, none⟩)), (.string (ByteArray.mk #[120, 47, 115]))] σ1_3 (Cont R (fun v_4 σ1_4 => ∃ p111 : Option Addr, ∃ n111 : Nat, ∃ c111 : Nat, v_4 = (.slice p111 n111 c111) ∧ ((x94 : Int) = (n111 : Int) → Spec prog 15 #[] σ1_4 (Cont R (fun v_5 σ1_5 => ∃ t116 : Bool, v_5 = (.bool t116) ∧ R (.returned (.bool t116)) σ1_5))) ∧ (¬ ((x94 : Int) = (n111 : Int)) → R (.returned (.bool false)) σ1_4)))) ∧ (t106 = false → R (.returned (.bool false)) σ1_3)))) ∧ (¬ ((x97c : Int) = 0) → R (.returned (.bool false)) σ1_2))))) → K) : K := by
  refine hk (segments_spec h ⟨_, rfl, ?_⟩)
  refine reopen h.disk ht ho hc hbig fun b2 σ2 W2 sg2 ρ2 p n c h2 x2 hrd ho2 htold hseg => ⟨_, _, _, _, _, rfl, fun _ => ?_, fun hh => absurd rfl hh⟩
  refine sameLists_spec (hrd.mono h2.ext) (RdLL.mono (x2.trans h2.ext) (OwnL.rd EBy.mono how)) ⟨_, rfl, fun _ => ?_, fun hh => (by simp at hh)⟩
  have h2d := h2.disk
  obtain ⟨Sd, g1, g2⟩ := h2d
  rw [xs_eq]
  refine list_spec g1 ho2.up (by omega) fun p111 n111 c111 L σ3 hoL hL hx3 hn => ⟨_, _, _, rfl, fun _ => ?_, fun hh => ?_⟩
  · have hfin : Ext τ σ3 := (hx.trans (Ext.of_del _ _)).trans (x2.trans (h2.ext.trans hx3))
    exact awake_spec ((ht.mono x2).mono (h2.ext.trans hx3)) fun σ4 hx4 => ⟨_, rfl, hR σ4 (hfin.trans hx4)⟩
  · exfalso
    obtain ⟨hL2, hpos⟩ := onlyS_names ho2.only hL
    have e1 := segNums_eq ho2.ok.sh (by omega) (L := L) (by rw [ho2.dir]; exact hL2)
    have e2 := segNums_len hpos
    have e3 : n111 = L.length := by have := hoL.1; simp at this; exact this.symm
    rw [ho2.dir, ho2.check] at e1
    have e4 : W2.segs.length = n111 := by rw [ho2.ok.segs, ← e1, e2, e3]
    rw [hseg] at e4
    exact hh (by rw [e4])

theorem twice_pt (ht : Tb τ) (hr : RdLL τ p0 n0 recs) (h8 : ∀ r ∈ recs, By8 r) (hb : RdBo τ p1 n1 opens) (hn0 : n0 ≤ 1048574) (hR : ∀ σ', Ext τ σ' → R (.returned (.bool true)) σ') :
    ∀ (m k : Nat) (σ : Hp) (b : Nat) (D : Dk) (W : Wl) (sg : Sg) (sf : Nat) (ρ : Hp) (p9 : Option Addr) (n9 c9 : Nat), n0 - k = m → k ≤ n0 → LogU σ d b D W ρ → Tw2 D W sg sf → D.cnt ≤ k → toldS sg = fit (recs.take k) → Ext τ (ρ.del p9) → OwnLL ρ p9 n9 c9 (toldS sg) →
      law7_WalTwice.pt15 R p0 n0 c0 p1 n1 c1 (some ⟨d, 0, none⟩) (some ⟨b, 0, none⟩) 0 p9 n9 c9 k σ := by
  intro m
  have hlen : recs.length = n0 := hr.1
  have hlb : opens.length = n1 := by have := hb.1; simpa using this
  induction m with
  | zero =>
    intro k σ b D W sg sf ρ p9 n9 c9 hm hk h ho hc htold hx how
    have hbig : (toldS sg).length ≤ 4194304 := by rw [htold]; have := fit_le (recs.take k); rw [List.length_take] at this; omega
    refine law7_WalTwice.pt15_of ⟨fun hh => (by omega), fun _ => ⟨fun hh => absurd rfl hh, fun _ => ⟨fun hh => (by cases hh), fun _ => ?_⟩⟩⟩
    exact twice_end h (ht.mono (hx.trans (Ext.of_del _ _))) ho (by omega) hbig hx how hR id
  | succ m ih =>
    intro k σ b D W sg sf ρ p9 n9 c9 hm hk h ho hc htold hx how
    have hxρ := hx.trans (Ext.of_del _ _)
    have htρ := ht.mono hxρ
    obtain ⟨x, hxk⟩ := hr.ex (k := k) (by omega)
    obtain ⟨b41, o41, p42, n42, c42, hp0, hl42, hc42, hrd42⟩ := hr.at hxk
    have hxl : x.length = n42 := hrd42.1
    have htk := take_succ' hxk
    have hbound : (fit (recs.take k)).length ≤ k := by have := fit_le (recs.take k); rw [List.length_take] at this; omega
    refine law7_WalTwice.pt15_of ⟨fun _ => ⟨fun _ => ⟨fun _ => ⟨b41, o41, hp0, by omega, p42, n42, c42, by simpa using (hxρ.trans h.ext).ld hl42, fun hlong => ?_, fun hshort => ⟨by omega, p42, n42, c42, by simpa using (hxρ.trans h.ext).ld hl42, ?_⟩⟩, fun hh => (by cases hh)⟩, fun hh => absurd rfl hh⟩, fun hh => (by omega)⟩
    · refine law7_WalTwice.pt54_of ⟨by unfold I64; omega, ?_⟩
      rw [← hp0]
      refine ih (k + 1) σ b D W sg sf ρ p9 n9 c9 (by omega) (by omega) h ho (by omega) ?_ hx how
      rw [htold, htk, fit, fit, List.filter_append]
      have : ¬ x.length ≤ 65536 := by omega
      simp [this]
    · have hxs : x.length ≤ 65536 := by omega
      have hx8 : By8 x := h8 x (List.mem_of_getElem? hxk)
      have htold' : toldS sg ++ [x] = fit (recs.take (k + 1)) := by rw [htold, htk, fit, fit, List.filter_append]; simp [hxs]
      refine copyBytes_spec ((hrd42.mono hxρ).mono h.ext) (by omega) fun p50 c50 σ1 ho50 hx1 => ⟨p50, _, c50, rfl, ?_⟩
      obtain ⟨ρ1, h1, x1, x1n⟩ := h.grow hx1
      have hdir : dirOk W.dir = true := by rw [ho.dir]; exact dx_ok
      refine wappend_spec h1 (htρ.mono x1) ((OwnI.rd ho50).mono x1n) hx8 ho.up (by omega) hdir ho.ok (fun hh => by omega) fun _ => ⟨fun σ2 D2 W2 sg2 sf2 h2 u2 a2 k2 d2 _ hok2 s2 told2 out2 new2 ch2 hn2 hh2 ff2 => ⟨0, rfl, fun hh => absurd rfl hh, fun _ => ⟨by omega, p42, n42, c42, by simpa using ((hxρ.trans x1).trans h2.ext).ld hl42, fun b58 hb58 => ?_⟩⟩, fun ha => by rw [ho.arm] at ha; cases ha⟩
      have hnw2 : D2.files (fnew dx) = none := by have := new2; rw [ho.dir, ho.new] at this; exact this
      have honly2 : OnlyS D2.files := fun s hs => by
        rcases out2.new s hs with h3 | h3 | h3 | h3
        · exact ho.only s h3
        · have := hok2.sh.old s hs
          rw [ch2, ho.check, d2] at this
          omega
        · rw [ho.dir] at h3; exact h3
        · rw [h3, ho.dir, hnw2] at hs; simp at hs
      have ho2 : Tw2 D2 W2 sg2 sf2 := ⟨u2, a2.trans ho.arm, d2.trans ho.dir, ch2.trans ho.check, hok2, honly2, hnw2⟩
      have hp9 : ∀ a, p9 = some a → σ2 a.block ≠ none := fun a ha hn => by
        cases hq : ρ1 a.block with
        | none => exact (OwnL.block (OwnL.mono EBy.mono x1 how)) a ha hq
        | some o => have := h2.ext _ _ hq; rw [hn] at this; cases this
      obtain ⟨ρ3, h3, x3, t3⟩ := h2.box (o := .cells #[.slice p42 n42 c42] 23 (0, 0)) hb58
      have hx3 : Ext τ (ρ3.del p9) := hx.trans ((x1.trans x3).del p9)
      have ht3 : (ρ3.del p9) b58 = some (.cells #[.slice p42 n42 c42] 23 (0, 0)) := del_some.2 ⟨fun a ha e => hp9 a ha (by rw [← e]; exact hb58), t3⟩
      have hn9 : n9 ≤ k := by have h4 := how.1; rw [htold] at h4; omega
      refine h3.appLL (τ := τ) (xs := toldS sg) (ys := [x]) hx3 (OwnL.mono EBy.mono (x1.trans x3) how) (one_rdLL ht3 hc42 (hrd42.mono hx3)) (by omega) fun p' c' σ4 ρ4 h4 how4 hx4 => ⟨p', _, c', rfl, ?_⟩
      rw [← told2] at how4
      have hx4ρ := hx4.trans (Ext.of_del _ _)
      have hc2 : D2.cnt ≤ k + 1 := by omega
      have htold2 : toldS sg2 = fit (recs.take (k + 1)) := told2.trans htold'
      have hbig2 : (toldS sg2).length ≤ 4194304 := by
        rw [htold2]; have := fit_le (recs.take (k + 1)); rw [List.length_take] at this; omega
      have next : ∀ σ' b' D' W' sg' sf' ρ', LogU σ' d b' D' W' ρ' → Tw2 D' W' sg' sf' → D'.cnt = D2.cnt → toldS sg' = toldS sg2 → Ext ρ4 ρ' → law7_WalTwice.pt54 R p0 n0 c0 p1 n1 c1 (some ⟨d, 0, none⟩) (some ⟨b', 0, none⟩) 0 p' (n9 + 1) c' k σ' := fun σ' b' D' W' sg' sf' ρ' hl' ho' hcc ht' hxx =>
        law7_WalTwice.pt54_of ⟨by unfold I64; omega, ih (k + 1) σ' b' D' W' sg' sf' ρ' p' (n9 + 1) c' (by omega) (by omega) hl' ho' (by omega) (ht'.trans htold2) (hx4.trans (hxx.del p')) (by rw [ht']; exact OwnL.mono EBy.mono hxx how4)⟩
      refine ⟨fun hkn => ?_, fun _ => ?_⟩
      · obtain ⟨t, htk1⟩ : ∃ t, opens[k]? = some t := ⟨_, List.getElem?_eq_getElem (by omega)⟩
        obtain ⟨b67, o67, hp1, hl67⟩ := RdBo.at (RdC.mono (hx4ρ.trans h4.ext) hb) htk1
        refine ⟨b67, o67, hp1, by omega, t, by simpa using hl67, fun htt => ?_, fun htf => ?_⟩
        · have hd2 : dirOk W2.dir = true := by rw [ho2.dir]; exact dx_ok
          refine wsync_spec h4 (ht.mono hx4ρ) ho2.up (by omega) hd2 ho2.ok (fun σ5 D3 h5 u3 a3 k3 hok3 out3 new3 _ => ⟨0, rfl, ?_⟩) (fun ha => by rw [ho2.arm] at ha; cases ha)
          have ho3 : Tw2 D3 W2 sg2 _ := ⟨u3, a3.trans ho2.arm, ho2.dir, ho2.check, hok3, fun s hs => by
            rcases out3.new s hs with h6 | h6 | h6 | h6
            · exact ho2.only s h6
            · have := hok3.sh.old s hs
              rw [ho2.check] at this
              omega
            · rw [ho2.dir] at h6; exact h6
            · rw [h6, new3, ho2.dir, hnw2] at hs; simp at hs, (by have := new3; rw [ho2.dir] at this; exact this.trans hnw2)⟩
          refine reopen h5.disk (ht.mono hx4ρ) ho3 (by omega) hbig2 fun b6 σ6 W6 sg6 ρ6 p6 n6 c6 h6 x6 hrd6 ho6 htold6 hseg6 => ⟨_, _, _, _, _, rfl, fun hh => absurd rfl hh, fun _ => ?_⟩
          refine sameLists_spec (hrd6.mono h6.ext) (RdLL.mono (x6.trans h6.ext) (OwnL.rd EBy.mono how4)) ⟨_, rfl, fun hh => (by simp at hh), fun _ => ?_⟩
          rw [← hp0, ← hp1]
          exact next σ6 b6 D3 W6 sg6 0 ρ6 h6 ho6 k3 htold6 x6
        · rw [← hp0, ← hp1]
          exact next σ4 b D2 W2 sg2 sf2 ρ4 h4 ho2 rfl rfl (Ext.refl _)
      · rw [← hp0]
        exact next σ4 b D2 W2 sg2 sf2 ρ4 h4 ho2 rfl rfl (Ext.refl _)
end
end TwW
end
section
set_option linter.unusedVariables false
/-! WalTwice: the start. -/
namespace TwW
open Go Tw Go.RowKit Go.Proofs.Tryz

section
variable {σ : Hp} {R : Ending → Hp → Prop} {p0 p1 : Option Addr} {n0 c0 n1 c1 : Nat} {recs : Recs} {opens : List Bool}

theorem walTwice_spec (ht : Tb σ) (hr : RdLL σ p0 n0 recs) (h8 : ∀ r ∈ recs, By8 r) (hb : RdBo σ p1 n1 opens) (hn0 : n0 ≤ 1048574) (hR : ∀ σ', Ext σ σ' → R (.returned (.bool true)) σ') :
    Spec prog law7_WalTwice.fid #[.slice p0 n0 c0, .slice p1 n1 c1] σ R := by
  refine law7_WalTwice.start (disk_new_spec fun d σ1 S1 hd1 hx1 => ⟨_, rfl, ?_⟩)
  have h1 : DiskU σ1 d ⟨fun _ => none, true, false, 0⟩ σ := ⟨S1, hd1, hx1⟩
  refine open_empty h1 ht rfl rfl dx_ok (by simp) (fun _ => rfl) fun b σ2 W ρ p n c fs' cnt' a1 a2 a3 a4 a5 a6 a7 a8 a9 a10 => ⟨_, _, _, _, _, rfl, ?_⟩
  have hc0 : cnt' = 0 := by simp only at a10; omega
  subst hc0
  refine twice_pt ht hr h8 hb hn0 hR n0 0 σ2 b (dk fs' 0) W [] 0 ρ none 0 0 rfl (Nat.zero_le _) a1 ⟨rfl, rfl, a4, a6, a7, fun s hs => (by rw [show (dk fs' 0).files s = none from a8 s] at hs; simp at hs), a8 _⟩ (Nat.le_refl _) rfl ?_ ?_
  · exact a2.trans (by rw [Hp.del_none]; exact Ext.refl _)
  · exact OwnL.nil
end
end TwW
end
section
/-
  Tw, part N: from a contract to a row: what an argument reads as; what a law leaves.
-/
set_option linter.unusedVariables false
namespace Tw
open Go Go.RowKit Go.ChangeShapes Go.WideShapes Go.Deep

/-- All that a memory holds. -/
def full (w : World) : Hp := fun b => w.heap[b]?
theorem full_sat (w : World) : Sat (full w) w := fun _ _ h => h
theorem full_ld {w : World} {a : Addr} {v : Value} (h : w.cell? a = some v) : (full w).ld a = some v := h

theorem below_of {w w' : World} {σ' : Hp} (hx : Ext (full w) σ') (hs : Sat σ' w') (ho : SameOs w w') (hout : w'.output = w.output) (hg : w.heap.size ≤ w'.heap.size) : Below w.heap.size w w' :=
  ⟨ho.1, ho.2.1, hout, hg, fun k hk => by
    have h1 : w.heap[k]? = some w.heap[k] := Array.getElem?_eq_getElem hk
    rw [h1]; exact hs _ _ (hx _ _ h1)⟩

/-- A law: true, and all that was there stays. -/
def Lawful (P : Program) (f : FuncId) (args : Array Value) (w : World) : Prop := Spec P f args (full w) (fun e σ' => e = .returned (.bool true) ∧ Ext (full w) σ')
theorem Lawful.calls {P : Program} {f : FuncId} {args : Array Value} {w : World} (h : Lawful P f args w) : Calls P f args w fun e w' => e = .returned (.bool true) ∧ Below w.heap.size w w' :=
  (h w (fun _ => False) (full_sat w) (fun _ h => h.elim)).mono fun e w' ⟨σ', ⟨he, hx⟩, hf⟩ => ⟨he, below_of hx hf.sat hf.os hf.out hf.grow⟩

section
variable {H : Type} {enc : TypeId × Value → H} {P : Program}

theorem trodAll_below (hl : laidOutB P = true) {W W' : World} (hb : Below W.heap.size W W') : ∀ {ts : List TypeId} {vs : List Value} {ds : List (DataW H)} {ps : List MemPlace}, (ts.all fun t => P.readableRec t && Nat.blt t P.types.size) = true → (∀ x ∈ ps, x.block < W.heap.size) →
    DataW.TrodAll enc P W 0 (fun _ => true) true ts vs ds ps → DataW.TrodAll enc P W' 0 (fun b => decide (b < W.heap.size)) true ts vs ds ps
  | [], [], [], ps, _, _, h => h
  | t :: ts, v :: vs, d :: ds, ps, hr, hlt, ⟨p, q, h1, h2, e⟩ => by
    simp only [List.all_cons, Bool.and_eq_true] at hr
    subst e
    exact ⟨p, q, Below.trod hl hr.1.1 (Nat.le_of_ble_eq_true hr.1.2) h1 hb (fun x hx => hlt x (List.mem_append_left _ hx)), trodAll_below hl hb hr.2 (fun x hx => hlt x (List.mem_append_right _ hx)) h2, rfl⟩
  | [], _ :: _, _, _, _, _, h => h.elim
  | [], [], _ :: _, _, _, _, h => h.elim
  | _ :: _, [], _, _, _, _, h => h.elim
  | _ :: _, _ :: _, [], _, _, _, h => h.elim

/-- What a law leaves. -/
theorem law_post {f : Func} {s : ChangeSpec} {W W' : World} {args : Array Value} {ds gs : List (DataW H)} {before : List MemPlace} {tb : TypeId} (hl : laidOutB P = true) (hr : (f.params.toList.all fun t => P.readableRec t && Nat.blt t P.types.size) = true)
    (hrt : f.resultTypes = #[tb]) (htb : P.underlying tb = some .bool) (hv : s.vars = []) (hfn : (s.fn H (ds ++ gs)).results = [.lit (.bool true)] ∧ (s.fn H (ds ++ gs)).args = ds ∧ (s.fn H (ds ++ gs)).vars = [])
    (hW : DataW.Whole enc P f.params.toList s.vars false W args.toList ds gs before) (hb : Below W.heap.size W W') : s.post enc P f false true false false W args (.bool true) W' := by
  have hlt : ∀ p ∈ before, p.block < W.heap.size := fun p hp => hW.lt p hp
  have hW' := hW
  obtain ⟨p, q, hA, hV, rfl, hfz, _⟩ := hW'
  refine ⟨ds, gs, p ++ q, [], p, [], hW, ?_, ?_, ?_, World.keptBut_mono (fun x hx => ⟨hx, ?_⟩) (hb.frame (· ∈ p ++ q)), fun h => by cases h⟩
  · rw [hfn.1, hrt]
    exact trodAll_mk1 (shut_bool htb true)
  · rw [hfn.2.1]
    exact trodAll_below hl hb hr (fun x hx => hlt x (List.mem_append_left _ hx)) hA
  · rw [hfn.2.2, hv]; rfl
  · rw [hv] at hV
    have : q = [] := by
      cases gs with
      | nil => exact hV
      | cons _ _ => exact hV.elim
    subst this
    exact .inr (.inl (by simpa using hx))

/-! What values read as -/
def Rdt (P : Program) {α : Type} (t : TypeId) (E : Hp → List Value → α → Prop) (I : α → Prop) : Prop :=
  ∀ {H : Type} {enc : TypeId × Value → H} {w : World} {base : Nat} {sp : Nat → Bool} {held : Bool} {fuel : Nat} {cs : List Value} {x : DataW H × List MemPlace},
    DataW.trod enc P w base sp held fuel t cs = some x → (∀ n ∈ x.1.weights P t, n ≤ reachBytes) → ∃ y, E (full w) cs y ∧ I y

theorem Rdt.int {t : TypeId} {k : IntKind} (ht : P.underlying t = some (.int k)) : Rdt P t (EInt k) (fun x => (Lit.int k x).wf = true) := fun h _ => by
  obtain ⟨n, rfl, rfl, hw⟩ := DataW.trod_int ht h
  exact ⟨n, rfl, hw⟩

theorem weights_mem {e : TypeId} : ∀ {l : List (DataW H)} {d : DataW H}, d ∈ l → ∀ n ∈ d.weights P e, n ∈ DataW.weightsAll P e l
  | x :: l, d, hd, n, hn => by
    simp only [DataW.weightsAll, List.mem_append]
    rcases List.mem_cons.1 hd with rfl | hd
    · exact .inl hn
    · exact .inr (weights_mem hd n hn)
theorem weights_each {n : Nat} : ∀ {ts : List TypeId} {l : List (DataW H)} {j : Nat} {t : TypeId} {d : DataW H}, ts[j]? = some t → l[j]? = some d → n ∈ d.weights P t → n ∈ DataW.weightsEach P ts l := fun ht hd hn => DataW.weights_mem_each ht hd n hn

theorem LdL.snoc {σ : Hp} {b : Nat} : ∀ {l m : List Value} {o : Nat}, LdL σ b o l → LdL σ b (o + l.length) m → LdL σ b o (l ++ m)
  | [], m, o, _, h => by simpa using h
  | v :: l, m, o, h, h' => ⟨h.1, LdL.snoc h.2 (by simpa [Nat.add_assoc, Nat.add_comm 1] using h')⟩

theorem RdS.mk' {α : Type} {s : Nat} {E : Hp → List Value → α → Prop} {I : α → Prop} {σ : Hp} {b o : Nat} : ∀ {n : Nat}, n ≤ 4611686018427387904 → (∀ i, i < n → ∃ vs x, vs.length = s ∧ LdL σ b (o + i * s) vs ∧ E σ vs x ∧ I x) →
    ∃ xs, RdS s E σ (some ⟨b, o, none⟩) n xs ∧ ∀ x ∈ xs, I x
  | 0, _, _ => ⟨[], RdS.nil, by simp⟩
  | n + 1, hn, h => by
    obtain ⟨xs, ⟨h1, cs, ⟨hl, _, h2⟩, h3⟩, hI⟩ := RdS.mk' (n := n) (by omega) (fun i hi => h i (by omega))
    obtain ⟨vs, x, hv, hld, hE, hx⟩ := h n (by omega)
    have hcs : LdL σ b o cs := by
      rcases h2 with rfl | ⟨b', o', hp, hl'⟩
      · have : cs = [] := List.eq_nil_of_length_eq_zero (by simpa using hl)
        subst this; trivial
      · cases hp; exact hl'
    refine ⟨xs ++ [x], ⟨by simp [h1], cs ++ vs, ⟨by rw [List.length_append, hl, hv, Nat.add_mul]; omega, hn, .inr ⟨b, o, rfl, hcs.snoc (by rw [hl]; exact hld)⟩⟩, h3.snoc hv hE⟩, fun y hy => ?_⟩
    rcases List.mem_append.1 hy with hy | hy
    · exact hI y hy
    · simp at hy; subst hy; exact hx

def ESl {α : Type} (s : Nat) (E : Hp → List Value → α → Prop) (σ : Hp) (vs : List Value) (xs : List α) : Prop := ∃ p n c, vs = [.slice p n c] ∧ RdS s E σ p n xs

theorem cell_spot {w : World} {a : Addr} {v : Value} (h : w.cell? a = some v) : a.spot = none := by
  unfold World.cell? at h
  split at h
  · split at h
    · cases h
    · rename_i hs; simpa using hs
  · cases h

theorem Rdt.slice {α : Type} {t e : TypeId} {s bs : Nat} {E : Hp → List Value → α → Prop} {I : α → Prop} (ht : P.underlying t = some (.slice e)) (hs : P.cellsOf e = s) (hbs : P.bytesOf e = bs) (hs0 : 0 < s) (hb0 : 0 < bs) (he : Rdt P e E I) :
    Rdt P t (ESl s E) (fun xs => (∀ x ∈ xs, I x) ∧ xs.length * bs ≤ reachBytes) := by
  intro H enc w base sp held fuel cs x h hw
  subst hs hbs
  rcases open_slice ht h with ⟨rfl, rfl⟩ | ⟨a, len, cap, m, n, D, Pl, rfl, hb, hl, hm, hmm, rfl, hi⟩
  · exact ⟨[], ⟨none, 0, 0, rfl, RdS.nil⟩, by simp, by simp⟩
  · have hlm : len ≤ m := by rw [hmm]; split <;> omega
    have hw1 : len * P.bytesOf e ≤ reachBytes := by
      have := hw _ (by simp only [DataW.weights, ht]; exact List.mem_cons_self ..)
      simp only [List.length_map, List.length_range] at this
      exact Nat.le_trans (Nat.mul_le_mul_right _ (by omega)) this
    have hlen : len ≤ reachBytes := Nat.le_trans (Nat.le_mul_of_pos_right _ hb0) hw1
    have hlen62 : len ≤ 4611686018427387904 := Nat.le_trans hlen (by decide)
    have hweight : ∀ i, i < len → ∀ k ∈ (D i).weights P e, k ≤ reachBytes := fun i hi' k hk => hw k (by
      simp only [DataW.weights, ht]
      exact List.mem_cons_of_mem _ (List.mem_append_left _ (weights_mem (List.mem_map.2 ⟨i, List.mem_range.2 hi', rfl⟩) k hk)))
    by_cases h0 : len = 0
    · subst h0
      exact ⟨[], ⟨some a, 0, cap, rfl, RdS.nil⟩, by simp, by simp⟩
    · have hspot : a.spot = none := by
        obtain ⟨cs', hc, _⟩ := hi 0 (by omega)
        obtain ⟨_, hcl, hat⟩ := World.cells?_some hc
        have h1 := hat 0 hs0
        rw [List.getElem?_eq_getElem (by omega)] at h1
        have := cell_spot h1
        simpa [Addr.add] using this
      obtain ⟨b, o, sp'⟩ := a
      simp only at hspot
      subst hspot
      obtain ⟨xs, hr, hI⟩ := RdS.mk' (s := P.cellsOf e) (E := E) (I := I) (σ := full w) (b := b) (o := o) hlen62 (fun i hi' => by
        obtain ⟨cs', hc, ht'⟩ := hi i (by omega)
        obtain ⟨_, hcl, hat⟩ := World.cells?_some hc
        obtain ⟨y, hE, hy⟩ := he ht' (hweight i hi')
        refine ⟨cs', y, hcl, LdL.of fun j v hj => ?_, hE, hy⟩
        have hj' : j < P.cellsOf e := by have := (List.getElem?_eq_some_iff.1 hj).1; omega
        have h1 := hat j hj'
        rw [hj, add_off, add_off] at h1
        exact full_ld h1)
      exact ⟨xs, ⟨some ⟨b, o, none⟩, len, cap, rfl, hr⟩, hI, by rw [hr.1]; exact hw1⟩
end
end Tw
end
section
set_option linter.unusedVariables false
/-! The rows: what is laid, what arguments read as. -/
namespace TwW
open Go Tw Go.RowKit Go.ChangeShapes Go.WideShapes Go.ChangeAt Go.Deep Go.Proofs.Tryz
namespace Rw
open Go.Proofs.YtchjlpgaanjafaaGreatDoor

theorem own : ownKnob prog.godebug = none := by kernel_rfl
theorem laidOut : laidOutB prog = true := by kernel_rfl

/-! A world in which all is laid. -/
def cellsOf : DataW Unit → Array Value
  | .agg l => (l.map fun x => match x with | .lit (.int k z) => Value.int k z | _ => .nilFunc).toArray
  | _ => #[]
def strOf : DataW Unit → Value
  | .iface _ (.ptr (.agg [.lit (.string s)])) => .string ⟨s.toArray⟩
  | _ => .nilFunc
noncomputable def laidWorld (os : Os) : World :=
  let N := (World.settled prog os).heap.size
  let w0 := World.holding prog os ⟨#[.cells #[strOf Rows.laid_strconv_ErrSyntax] 186, .cells #[strOf Rows.laid_strconv_ErrRange] 186], #[], []⟩
  let put (h : Array Obj) (g : Nat) (cs : Array Value) : Array Obj := h.modify g fun
    | .cells _ t frozen => .cells cs t frozen
    | o => o
  let h0 := put (put w0.heap 0 #[.iface 184 (.pointer (some ⟨N, 0, none⟩))]) 1 #[.iface 184 (.pointer (some ⟨N + 1, 0, none⟩))]
  { w0 with heap := put (put (put h0 2 (cellsOf Rows.laid_internal_strconv_uint64pow10)) 4 (cellsOf Rows.laid_math_bits_deBruijn32tab)) 5 (cellsOf Rows.laid_math_bits_deBruijn64tab) }
abbrev Laid : List (String × DataW Unit) := [("math/bits.deBruijn32tab", Rows.laid_math_bits_deBruijn32tab), ("math/bits.deBruijn64tab", Rows.laid_math_bits_deBruijn64tab), ("internal/strconv.uint64pow10", Rows.laid_internal_strconv_uint64pow10), ("strconv.ErrRange", Rows.laid_strconv_ErrRange), ("strconv.ErrSyntax", Rows.laid_strconv_ErrSyntax)]
theorem laid_met (os : Os) (args : Array Value) : laidMet prog Laid ((laidWorld os).forCall (fun _ _ => 0) ⟨#[], args, []⟩).memory :=
  laidMet_of_run' 8 (by kernel_rfl) (by kernel_rfl)

theorem tab_heap {W : World} {cs : Array Value} (h : W.var? prog "internal/strconv.uint64pow10" = some cs) : ∃ T fr, W.heap[2]? = some (.cells cs T fr) := by
  unfold World.var? at h
  rw [show prog.globalNamed "internal/strconv.uint64pow10" = some 2 by kernel_rfl] at h
  simp only [Option.bind_some] at h
  split at h
  · rename_i c T fr hc
    cases h
    exact ⟨T, fr, hc⟩
  · cases h
theorem tb_of {W : World} (h : laidMetH prog Laid W) : Tb (full W) := by
  have h1 : laidMet prog Laid W := h
  have h2 : laidMet prog (("internal/strconv.uint64pow10", Lib.tabData .u64 Lib.pow10Tab) :: [("strconv.ErrRange", Rows.laid_strconv_ErrRange), ("strconv.ErrSyntax", Rows.laid_strconv_ErrSyntax)]) W := laidMet.tail (laidMet.tail h1)
  have h3 := Lib.tabIs_of_head (g := 2) (t := 180) (e := 56) (n := 20) (by kernel_rfl) (by kernel_rfl) underlying180 underlying56 (by kernel_rfl) (by kernel_rfl) h2
  obtain ⟨T, fr, h4⟩ := tab_heap h3
  exact ⟨2, T, fr, by kernel_rfl, h4⟩

/-! What values read as, and how much they are. -/
theorem bulk_pos {H : Type} (d : DataW H) : 1 ≤ Rows.uptoBulk d := by
  cases d with
  | lit l => cases l <;> simp [Rows.uptoBulk]
  | _ => simp [Rows.uptoBulk]
theorem bulk_part {H : Type} {d : DataW H} : ∀ {l : List (DataW H)}, d ∈ l → Rows.uptoBulk d ≤ Rows.uptoBulkAll l
  | x :: l, h => by
    simp only [Rows.uptoBulkAll]
    rcases List.mem_cons.1 h with rfl | h
    · omega
    · have := bulk_part h; omega
theorem bulk_append {H : Type} (l r : List (DataW H)) : Rows.uptoBulkAll (l ++ r) = Rows.uptoBulkAll l + Rows.uptoBulkAll r := by
  induction l with
  | nil => simp [Rows.uptoBulkAll]
  | cons x l ih => simp only [List.cons_append, Rows.uptoBulkAll, ih]; omega
theorem bulk_len {H : Type} (l : List (DataW H)) : l.length ≤ Rows.uptoBulkAll l := by
  induction l with
  | nil => simp
  | cons x l ih => have := bulk_pos x; simp only [Rows.uptoBulkAll, List.length_cons]; omega

def RdtB {α : Type} (t : TypeId) (E : Hp → List Value → α → Prop) (I : α → Prop) (sz : α → Nat) : Prop :=
  ∀ {H : Type} {enc : TypeId × Value → H} {w : World} {base : Nat} {sp : Nat → Bool} {held : Bool} {fuel : Nat} {cs : List Value} {x : DataW H × List MemPlace},
    DataW.trod enc prog w base sp held fuel t cs = some x → Rows.uptoBulk x.1 ≤ 1048576 → ∃ y, E (full w) cs y ∧ I y ∧ sz y ≤ Rows.uptoBulk x.1

theorem RdtB.int {t : TypeId} {k : IntKind} (ht : prog.underlying t = some (.int k)) : RdtB t (EInt k) (fun x => (Lit.int k x).wf = true) (fun _ => 1) := fun h _ => by
  obtain ⟨n, rfl, rfl, hw⟩ := DataW.trod_int ht h
  exact ⟨n, rfl, hw, by simp [Rows.uptoBulk]⟩
def EBo (_ : Hp) (vs : List Value) (b : Bool) : Prop := vs = [.bool b]
theorem RdtB.bool {t : TypeId} (ht : prog.underlying t = some .bool) : RdtB t EBo (fun _ => True) (fun _ => 1) := fun h _ => by
  obtain ⟨n, rfl, rfl⟩ := DataW.trod_bool ht h
  exact ⟨n, rfl, trivial, by simp [Rows.uptoBulk]⟩

theorem mkB {α : Type} {s : Nat} {E : Hp → List Value → α → Prop} {I : α → Prop} {sz : α → Nat} {σ : Hp} {b o : Nat} {H : Type} {D : Nat → DataW H} : ∀ {n : Nat}, n ≤ 4611686018427387904 → (∀ i, i < n → ∃ vs x, vs.length = s ∧ LdL σ b (o + i * s) vs ∧ E σ vs x ∧ I x ∧ sz x ≤ Rows.uptoBulk (D i)) →
    ∃ xs, RdS s E σ (some ⟨b, o, none⟩) n xs ∧ (∀ x ∈ xs, I x) ∧ (xs.map sz).sum ≤ Rows.uptoBulkAll ((List.range n).map D)
  | 0, _, _ => ⟨[], RdS.nil, by simp, by simp⟩
  | n + 1, hn, h => by
    obtain ⟨xs, ⟨h1, cs, ⟨hl, _, h2⟩, h3⟩, hI, hs⟩ := mkB (n := n) (D := D) (by omega) (fun i hi => h i (by omega))
    obtain ⟨vs, x, hv, hld, hE, hx, hz⟩ := h n (by omega)
    have hcs : LdL σ b o cs := by
      rcases h2 with rfl | ⟨b', o', hp, hl'⟩
      · have : cs = [] := List.eq_nil_of_length_eq_zero (by simpa using hl)
        subst this; trivial
      · cases hp; exact hl'
    refine ⟨xs ++ [x], ⟨by simp [h1], cs ++ vs, ⟨by rw [List.length_append, hl, hv, Nat.add_mul]; omega, hn, .inr ⟨b, o, rfl, hcs.snoc (by rw [hl]; exact hld)⟩⟩, h3.snoc hv hE⟩, fun y hy => ?_, ?_⟩
    · rcases List.mem_append.1 hy with hy | hy
      · exact hI y hy
      · simp at hy; subst hy; exact hx
    · rw [List.range_succ, List.map_append, List.map_append, bulk_append, List.sum_append]
      simp only [List.map_cons, List.map_nil, List.sum_cons, List.sum_nil, Rows.uptoBulkAll]
      omega

def ESc {α : Type} (s : Nat) (E : Hp → List Value → α → Prop) (σ : Hp) (vs : List Value) (xs : List α) : Prop := ∃ p n c, vs = [.slice p n c] ∧ n ≤ c ∧ RdS s E σ p n xs

theorem RdtB.slice {α : Type} {t e : TypeId} {s : Nat} {E : Hp → List Value → α → Prop} {I : α → Prop} {sz : α → Nat} (ht : prog.underlying t = some (.slice e)) (hs : prog.cellsOf e = s) (hs0 : 0 < s) (he : RdtB e E I sz) :
    RdtB t (ESc s E) (fun xs => ∀ x ∈ xs, I x) (fun xs => (xs.map sz).sum + 1) := by
  intro H enc w base sp held fuel cs x h hw
  subst hs
  rcases open_slice ht h with ⟨rfl, rfl⟩ | ⟨a, len, cap, m, n, D, Pl, rfl, hb, hl, hm, hmm, rfl, hi⟩
  · exact ⟨[], ⟨none, 0, 0, rfl, Nat.le_refl _, RdS.nil⟩, by simp, by simp [Rows.uptoBulk]⟩
  · have hlm : len ≤ m := by rw [hmm]; split <;> omega
    have hbk : Rows.uptoBulkAll ((List.range len).map D) + 1 ≤ Rows.uptoBulk (DataW.slice ((List.range len).map D) ((List.range (m - len)).map fun j => D (len + j))) := by
      simp only [Rows.uptoBulk]; omega
    have hlen := bulk_len ((List.range len).map D)
    rw [List.length_map, List.length_range] at hlen
    have hwD : ∀ i, i < len → Rows.uptoBulk (D i) ≤ 1048576 := fun i hi' => by
      have := bulk_part (List.mem_map.2 ⟨i, List.mem_range.2 hi', rfl⟩ : D i ∈ (List.range len).map D)
      simp only at hw
      omega
    by_cases h0 : len = 0
    · subst h0
      exact ⟨[], ⟨some a, 0, cap, rfl, Nat.zero_le _, RdS.nil⟩, by simp, by simp only [Rows.uptoBulk, List.map_nil, List.sum_nil]; omega⟩
    · have hspot : a.spot = none := by
        obtain ⟨cs', hc, _⟩ := hi 0 (by omega)
        obtain ⟨_, hcl, hat⟩ := World.cells?_some hc
        have h1 := hat 0 hs0
        rw [List.getElem?_eq_getElem (by omega)] at h1
        have := cell_spot h1
        simpa [Addr.add] using this
      obtain ⟨b, o, sp'⟩ := a
      simp only at hspot
      subst hspot
      obtain ⟨xs, hr, hI, hz⟩ := mkB (s := prog.cellsOf e) (E := E) (I := I) (sz := sz) (σ := full w) (b := b) (o := o) (D := D) (n := len) (by simp only at hw; omega) (fun i hi' => by
        obtain ⟨cs', hc, ht'⟩ := hi i (by omega)
        obtain ⟨_, hcl, hat⟩ := World.cells?_some hc
        obtain ⟨y, hE, hy, hyz⟩ := he ht' (hwD i hi')
        refine ⟨cs', y, hcl, LdL.of fun j v hj => ?_, hE, hy, hyz⟩
        have hj' : j < prog.cellsOf e := by have := (List.getElem?_eq_some_iff.1 hj).1; omega
        have h1 := hat j hj'
        rw [hj, add_off, add_off] at h1
        exact full_ld h1)
      exact ⟨xs, ⟨some ⟨b, o, none⟩, len, cap, rfl, hl, hr⟩, hI, by simp only at hz hbk ⊢; omega⟩

theorem wf8 {x : Int} (h : (Lit.int .u8 x).wf = true) : 0 ≤ x ∧ x < 256 := by
  simp [Lit.wf, IntKind.min, IntKind.max, IntKind.signed, IntKind.bits] at h
  omega

theorem rd_by : RdtB 23 EBy By8 (fun xs => xs.length + 1) := by
  have h : RdtB 23 (ESc 1 (EInt .u8)) (fun xs => ∀ x ∈ xs, (Lit.int .u8 x).wf = true) (fun xs => (xs.map fun _ => 1).sum + 1) := RdtB.slice (s := 1) (sz := fun _ => 1) underlying23 (by kernel_rfl) (by decide) (RdtB.int underlying5)
  intro H enc w base sp held fuel cs x ht hw
  obtain ⟨y, ⟨p, n, c, e, hc, hr⟩, hI, hz⟩ := h ht hw
  refine ⟨y, ⟨p, n, c, e, hc, hr⟩, fun a ha => wf8 (hI a ha), ?_⟩
  have : ∀ l : List Int, (l.map fun _ => 1).sum = l.length := fun l => by induction l with
    | nil => rfl
    | cons a l ih => simp; omega
  have hz' : (y.map fun _ => 1).sum + 1 ≤ Rows.uptoBulk x.1 := hz
  rw [this] at hz'
  exact hz'
theorem rd_LL : RdtB 22 (ESc 1 EBy) (fun xs => ∀ x ∈ xs, By8 x) (fun xs => (xs.map fun x => x.length + 1).sum + 1) :=
  RdtB.slice (s := 1) underlying22 (by kernel_rfl) (by decide) rd_by
theorem rd_bo : RdtB 46 (ESc 1 EBo) (fun xs => ∀ x ∈ xs, True) (fun xs => (xs.map fun _ => 1).sum + 1) :=
  RdtB.slice (s := 1) underlying46 (by kernel_rfl) (by decide) (RdtB.bool underlying4)

theorem ch_bo {σ : Hp} : ∀ {cs : List Value} {xs : List Bool}, Ch 1 EBo σ cs xs → cs = xs.map .bool := by
  rintro cs xs ⟨h1, h2⟩
  refine List.ext_getElem? fun i => ?_
  rw [List.getElem?_map]
  cases hx : xs[i]? with
  | none =>
    have := List.getElem?_eq_none_iff.1 hx
    simp only [Option.map_none]
    exact List.getElem?_eq_none_iff.2 (by omega)
  | some x =>
    have := h2 i x hx
    simp only [EBo] at this
    have h3 := congrArg (·[0]?) this
    simp at h3
    simpa using h3

section
variable {H : Type} {enc : TypeId × Value → H} {W : World} {base : Nat} {v : Value} {d : DataW H} {ps : List MemPlace} {r : Reach}
set_option maxRecDepth 100000 in
/-- Records that come in. -/
theorem open_LL (hv : Value.okWide prog W r base 22 v) (h : DataW.Trod enc prog W 0 (fun _ => true) true 22 v d ps) (hw : Rows.uptoBulk d ≤ 1048576) :
    ∃ p n c xs, v = .slice p n c ∧ RdLL (full W) p n xs ∧ (∀ x ∈ xs, By8 x) ∧ (xs.map fun x => x.length + 1).sum + 1 ≤ Rows.uptoBulk d := by
  obtain ⟨a, l, c, rfl⟩ := okWide_slice underlying22 hv
  obtain ⟨fuel, hf⟩ := h
  obtain ⟨xs, ⟨p, n, c', e, _, hr⟩, hI, hz⟩ := rd_LL hf hw
  have e' : [Value.slice a l c] = [.slice p n c'] := by simpa [Value.cells] using e
  cases e'
  exact ⟨a, l, c, xs, rfl, hr, hI, hz⟩
set_option maxRecDepth 100000 in
theorem open_by (hv : Value.okWide prog W r base 23 v) (h : DataW.Trod enc prog W 0 (fun _ => true) true 23 v d ps) (hw : Rows.uptoBulk d ≤ 1048576) :
    ∃ p n c xs, v = .slice p n c ∧ n ≤ c ∧ RdI .u8 (full W) p n xs ∧ By8 xs ∧ xs.length + 1 ≤ Rows.uptoBulk d := by
  obtain ⟨a, l, c, rfl⟩ := okWide_slice underlying23 hv
  obtain ⟨fuel, hf⟩ := h
  obtain ⟨xs, ⟨p, n, c', e, hc, hr⟩, hI, hz⟩ := rd_by hf hw
  have e' : [Value.slice a l c] = [.slice p n c'] := by simpa [Value.cells] using e
  cases e'
  exact ⟨a, l, c, xs, rfl, hc, hr, hI, hz⟩
set_option maxRecDepth 100000 in
theorem open_bo (hv : Value.okWide prog W r base 46 v) (h : DataW.Trod enc prog W 0 (fun _ => true) true 46 v d ps) (hw : Rows.uptoBulk d ≤ 1048576) :
    ∃ p n c bs, v = .slice p n c ∧ RdBo (full W) p n bs := by
  obtain ⟨a, l, c, rfl⟩ := okWide_slice underlying46 hv
  obtain ⟨fuel, hf⟩ := h
  obtain ⟨xs, ⟨p, n, c', e, _, hr⟩, hI, hz⟩ := rd_bo hf hw
  have e' : [Value.slice a l c] = [.slice p n c'] := by simpa [Value.cells] using e
  cases e'
  obtain ⟨_, cs, h1, h2⟩ := hr
  rw [ch_bo h2] at h1
  exact ⟨a, l, c, xs, rfl, h1⟩
end

theorem law_of {f : FuncId} {fn : Func} {s : ChangeSpec} {H : Type} {enc : TypeId × Value → H} {W : World} {args : Array Value} {ds gs : List (DataW H)} {before : List MemPlace} (hr : (fn.params.toList.all fun t => prog.readableRec t && Nat.blt t prog.types.size) = true)
    (hrt : fn.resultTypes = #[4]) (hv : s.vars = []) (hfn : (s.fn H (ds ++ gs)).results = [.lit (.bool true)] ∧ (s.fn H (ds ++ gs)).args = ds ∧ (s.fn H (ds ++ gs)).vars = [])
    (hW : DataW.Whole enc prog fn.params.toList s.vars false W args.toList ds gs before) (h : Lawful prog f args W) :
    Calls prog f args W fun e W' => ∃ v, e = .returned v ∧ s.post enc prog fn false true false false W args v W' :=
  h.calls.mono fun e W' ⟨he, hb⟩ => ⟨_, he, law_post laidOut hr hrt underlying4 hv hfn hW hb⟩

theorem sum_len {α : Type} (l : List (List α)) : l.length ≤ (l.map fun x => x.length + 1).sum := by
  induction l with
  | nil => simp
  | cons a l ih => simp; omega
end Rw
end TwW
end
section
set_option linter.unusedVariables false
/-! WalKeeps. -/
namespace TwW
open Go Tw Go.RowKit Go.Proofs.Tryz

theorem RdS.take {α : Type} {s : Nat} {E : Hp → List Value → α → Prop} {σ : Hp} {p : Option Addr} {n k : Nat} {xs : List α} (h : RdS s E σ p n xs) (hk : k ≤ n) : RdS s E σ p k (xs.take k) := by
  obtain ⟨h1, cs, h2, h3⟩ := h
  exact ⟨by rw [List.length_take]; omega, cs.take (k * s), RdC.take h2 hk, Ch.take h3 k⟩

section
variable {σ τ ρ : Hp} {d b : Nat} {D : Dk} {W : Wl} {R : Ending → Hp → Prop}

/-! The disk's calls beside what is known. -/
theorem DiskU.upS (h : DiskU σ d D τ) (hR : R (.returned (.bool D.up)) σ) : Spec prog disk_Disk_Up.fid #[.pointer (some ⟨d, 0, none⟩)] σ R := let ⟨S, g, _⟩ := h; up_spec g hR
theorem DiskU.onS (h : DiskU σ d D τ) (hR : ∀ σ', DiskU σ' d { D with up := true } τ → R (.returned (.tuple #[])) σ') : Spec prog disk_Disk_On.fid #[.pointer (some ⟨d, 0, none⟩)] σ R := let ⟨S, g, x⟩ := h; on_spec g fun σ' g' x' => hR σ' ⟨S, g', x.trans x'⟩
theorem DiskU.offS {x : Int} (h : DiskU σ d D τ) (h0 : D.up = false → R (.returned (.tuple #[])) σ) (h1 : D.up = true → ∀ σ' gs, Crash D.files gs → (x = 0 → Crash0 D.files gs) → DiskU σ' d ⟨gs, false, false, D.cnt⟩ τ → R (.returned (.tuple #[])) σ') :
    Spec prog disk_Disk_Off.fid #[.pointer (some ⟨d, 0, none⟩), .int .i64 x] σ R := let ⟨S, g, e⟩ := h; off_spec g h0 fun hu σ' S' gs hg hz g' x' => h1 hu σ' gs hg hz ⟨S', g', e.trans x'⟩
theorem LogU.armS {x y : Int} (h : LogU σ d b D W τ) (hR : ∀ σ' a, LogU σ' d b { D with armed := a } W τ → R (.returned (.tuple #[])) σ') : Spec prog disk_Disk_Arm.fid #[.pointer (some ⟨d, 0, none⟩), .int .i64 x, .int .i64 y] σ R :=
  let ⟨Sd, S, p, c, T, h1, h2, h3⟩ := h; arm_spec h1 fun σ' a hd hx => hR σ' a (LogU.step h2 h3 hd hx)

/-- What a power cut leaves, and what an opened log then tells. -/
structure Cutt (D : Dk) (dir : ByteArray) (told : Recs) (safe : Nat) : Prop where
  arm : D.up = false → D.armed = false
  after : D.up = false → ∃ t, OpenOk D.files dir D.cnt t ∧ t <+: told ∧ safe ≤ t.length
  now : D.up = true → ∀ gs, Crash D.files gs → ∃ t, OpenOk gs dir D.cnt t ∧ t <+: told ∧ safe ≤ t.length

theorem DiskU.offOn {x : Int} {dir : ByteArray} {told : Recs} {safe : Nat} {K : Hp → Prop} (h : DiskU σ d D τ) (hc : Cutt D dir told safe)
    (hR : ∀ σ' D' t, DiskU σ' d D' τ → D'.up = true → D'.armed = false → D'.cnt = D.cnt → OpenOk D'.files dir D'.cnt t → t <+: told → safe ≤ t.length → K σ') :
    Spec prog disk_Disk_Off.fid #[.pointer (some ⟨d, 0, none⟩), .int .i64 x] σ (Cont R fun v σ1 => v = .tuple #[] ∧ Spec prog disk_Disk_On.fid #[.pointer (some ⟨d, 0, none⟩)] σ1 (Cont R fun v σ2 => v = .tuple #[] ∧ K σ2)) := by
  refine h.offS (fun hu => ⟨rfl, ?_⟩) fun hu σ1 gs hg _ h1 => ⟨rfl, ?_⟩
  · obtain ⟨t, a, b, c⟩ := hc.after hu
    exact h.onS fun σ2 h2 => ⟨rfl, hR σ2 _ t h2 rfl (hc.arm hu) rfl a b c⟩
  · obtain ⟨t, a, b, c⟩ := hc.now hu gs hg
    exact h1.onS fun σ2 h2 => ⟨rfl, hR σ2 _ t h2 rfl rfl rfl a b c⟩

theorem LogOk.cutt {rc : Recs} {sg : Sg} {safe : Nat} (h : LogOk D.files D.cnt W rc sg safe) (hu : D.up = true) : Cutt D W.dir (rc ++ toldS sg) safe :=
  ⟨fun hh => (by rw [hu] at hh; cases hh), fun hh => (by rw [hu] at hh; cases hh), fun _ gs hg => h.crash hg⟩
theorem Cutt.weak {dir : ByteArray} {told told' : Recs} {safe safe' : Nat} (h : Cutt D dir told safe) (ht : told <+: told') (hs : safe' ≤ safe) : Cutt D dir told' safe' :=
  ⟨h.arm, fun hu => let ⟨t, a, b, c⟩ := h.after hu; ⟨t, a, b.trans ht, by omega⟩, fun hu gs hg => let ⟨t, a, b, c⟩ := h.now hu gs hg; ⟨t, a, b.trans ht, by omega⟩⟩
theorem Cutt.down {dir : ByteArray} {told t : Recs} {safe : Nat} (hu : D.up = false) (ha : D.armed = false) (ho : OpenOk D.files dir D.cnt t) (ht : t <+: told) (hs : safe ≤ t.length) : Cutt D dir told safe :=
  ⟨fun _ => ha, fun _ => ⟨t, ho, ht, hs⟩, fun hh => (by rw [hu] at hh; cases hh)⟩

variable {p0 p1 : Option Addr} {n0 c0 n1 c1 : Nat} {recs : Recs} {opens : List Bool}

/-- All that the law does when the power has gone. -/
def keepsEnd (R : Ending → Hp → Prop) (x3 x14 : Int) (q9 p13 : Option Addr) (n13 c13 : Nat) (σ : Hp) : Prop :=
  Spec prog 28 #[(.pointer q9), (.int .i64 x3)] σ (Cont R (fun v σ1 => v = (.tuple #[]) ∧ Spec prog 29 #[(.pointer q9)] σ1 (Cont R (fun v_2 σ1_2 => v_2 = (.tuple #[]) ∧ Spec prog 12 #[(.pointer q9), (.string (ByteArray.mk #[120]))] σ1_2 (Cont R (fun v_3 σ1_3 => ∃ q102a : Option Addr, ∃ p102b : Option Addr, ∃ n102b : Nat, ∃ c102b : Nat, ∃ x102c : Int, v_3 = (.tuple #[(.pointer q102a), (.slice p102b n102b c102b), (.int .i64 x102c)]) ∧ Spec prog 12 #[(.pointer q9), (.string (ByteArray.mk #[120]))] σ1_3 (Cont R (fun v_4 σ1_4 => ∃ q108a : Option Addr, ∃ p108b : Option Addr, ∃ n108b : Nat, ∃ c108b : Nat, ∃ x108c : Int, v_4 = (.tuple #[(.pointer q108a), (.slice p108b n108b c108b), (.int .i64 x108c)]) ∧ ((x102c : Int) = 0 → ((x108c : Int) = 0 → ((x14 : Int) ≤ (n102b : Int) → (((n102b : Int) : Int) ≤ (n13 : Int) → ((0 : Int) ≤ (n102b : Int) ∧ (n102b : Int) ≤ (c13 : Int)) ∧ Spec prog 21 #[(.slice p102b n102b c102b), (.slice p13 (Int.toNat (n102b : Int)) c13)] σ1_4 (Cont R (fun v_5 σ1_5 => ∃ t137 : Bool, v_5 = (.bool t137) ∧ (t137 = true → Spec prog 21 #[(.slice p108b n108b c108b), (.slice p102b n102b c102b)] σ1_5 (Cont R (fun v_6 σ1_6 => ∃ t142 : Bool, v_6 = (.bool t142) ∧ (t142 = true → Spec prog 15 #[] σ1_6 (Cont R (fun v_7 σ1_7 => ∃ t145 : Bool, v_7 = (.bool t145) ∧ R (.returned (.bool t145)) σ1_7))) ∧ (t142 = false → R (.returned (.bool false)) σ1_6)))) ∧ (t137 = false → R (.returned (.bool false)) σ1_5)))) ∧ (¬ (((n102b : Int) : Int) ≤ (n13 : Int)) → R (.returned (.bool false)) σ1_4)) ∧ (¬ ((x14 : Int) ≤ (n102b : Int)) → R (.returned (.bool false)) σ1_4)) ∧ (¬ ((x108c : Int) = 0) → R (.returned (.bool false)) σ1_4)) ∧ (¬ ((x102c : Int) = 0) → R (.returned (.bool false)) σ1_4)))))))))

theorem keeps_end {told : Recs} {safe n13 c13 : Nat} {x3 x14 : Int} {p13 : Option Addr} (h : DiskU σ d D ρ) (ht : Tb ρ) (hc : Cutt D dx told safe) (hcnt : D.cnt < 1048575) (hbig : told.length ≤ 4194304) (hx : Ext τ (ρ.del p13)) (how : OwnLL ρ p13 n13 c13 told) (h14 : x14 ≤ safe)
    (hR : ∀ σ', Ext τ σ' → R (.returned (.bool true)) σ') : keepsEnd R x3 x14 (some ⟨d, 0, none⟩) p13 n13 c13 σ := by
  have hxτ := hx.trans (Ext.of_del _ _)
  refine h.offOn hc fun σ1 D1 t h1 u1 a1 k1 ho1 ht1 hs1 => ?_
  have htl : t.length ≤ told.length := ht1.length_le
  refine open_spec h1 ht u1 a1 dx_ok (by omega) ho1 (by omega) fun b σ2 W2 rc2 sg2 ρ2 p2 n2 c2 fs2 k2 h2 x2 r2 e2 ok2 told2 _ _ _ k2a k2b _ => ⟨_, _, _, _, _, rfl, ?_⟩
  have hop := ok2.openOk.ok
  rw [e2, told2] at hop
  refine open_spec h2.disk (ht.mono x2) rfl rfl dx_ok (by show k2 < _; omega) hop (by omega) fun b3 σ3 W3 rc3 sg3 ρ3 p3 n3 c3 fs3 k3 h3 x3 r3 e3 ok3 told3 _ _ _ _ _ _ => ⟨_, _, _, _, _, rfl, fun _ => ⟨fun _ => ?_, fun hh => absurd rfl hh⟩, fun hh => absurd rfl hh⟩
  have hn2 : t.length = n2 := r2.1
  have hn13 : told.length = n13 := how.1
  have hc13 : n13 ≤ c13 := by obtain ⟨_, cs, ho, _⟩ := how; exact Own.cap ho
  have hr2 := RdLL.mono (x3.trans h3.ext) r2
  have ht13 : RdLL σ3 p13 n2 t := by
    have := RdS.take (k := n2) (RdLL.mono ((x2.trans x3).trans h3.ext) (OwnL.rd EBy.mono how)) (by omega)
    rwa [← hn2, ← List.prefix_iff_eq_take.1 ht1, hn2] at this
  refine ⟨fun _ => ⟨fun _ => ⟨by omega, ?_⟩, fun hh => absurd (by omega) hh⟩, fun hh => absurd (by omega) hh⟩
  refine sameLists_spec hr2 ht13 ⟨_, rfl, fun _ => ?_, fun hh => by simp at hh⟩
  refine sameLists_spec (r3.mono h3.ext) hr2 ⟨_, rfl, fun _ => ?_, fun hh => by simp at hh⟩
  exact awake_spec (((ht.mono x2).mono x3).mono h3.ext) fun σ4 hx4 => ⟨_, rfl, hR σ4 ((((hxτ.trans x2).trans x3).trans h3.ext).trans hx4)⟩

/-- The law, in its midst: the power is on, or off. -/
structure Kp7 (σ : Hp) (d b : Nat) (D : Dk) (ρ : Hp) (told : Recs) (safe : Nat) : Prop where
  disk : DiskU σ d D ρ
  cut : Cutt D dx told safe
  log : D.up = true → ∃ W sg safe', LogU σ d b D W ρ ∧ W.dir = dx ∧ LogOk D.files D.cnt W [] sg safe' ∧ toldS sg = told ∧ safe ≤ safe'

theorem keeps_pt (ht : Tb τ) (hr : RdLL τ p0 n0 recs) (h8 : ∀ r ∈ recs, By8 r) (hb : RdBo τ p1 n1 opens) (hn0 : n0 ≤ 1048572) {x3 : Int} (hR : ∀ σ', Ext τ σ' → R (.returned (.bool true)) σ') :
    ∀ (m k : Nat) (σ : Hp) (D : Dk) (told : Recs) (safe : Nat) (ρ : Hp) (p9 : Option Addr) (n9 c9 : Nat), n0 - k = m → k ≤ n0 → Kp7 σ d b D ρ told safe → D.cnt ≤ k → told.length ≤ k → Ext τ (ρ.del p9) → OwnLL ρ p9 n9 c9 told →
      law7_WalKeeps.pt27 R p0 n0 c0 p1 n1 c1 x3 (some ⟨d, 0, none⟩) (some ⟨b, 0, none⟩) p9 n9 c9 safe k σ := by
  intro m
  have hlen : recs.length = n0 := hr.1
  have hlb : opens.length = n1 := by have := hb.1; simpa using this
  have fin : ∀ (k : Nat) (σ : Hp) (D : Dk) (told : Recs) (safe : Nat) (ρ : Hp) (p9 : Option Addr) (n9 c9 : Nat), k ≤ n0 → Kp7 σ d b D ρ told safe → D.cnt ≤ k → told.length ≤ k → Ext τ (ρ.del p9) → OwnLL ρ p9 n9 c9 told → keepsEnd R x3 safe (some ⟨d, 0, none⟩) p9 n9 c9 σ := fun k σ D told safe ρ p9 n9 c9 hk h hc htl hx how =>
    keeps_end h.disk (ht.mono (hx.trans (Ext.of_del _ _))) h.cut (by omega) (by omega) hx how (Int.le_refl _) hR
  induction m with
  | zero =>
    intro k σ D told safe ρ p9 n9 c9 hm hk h hc htl hx how
    exact law7_WalKeeps.pt27_of ⟨fun hh => (by omega), fun _ => fin k σ D told safe ρ p9 n9 c9 hk h hc htl hx how⟩
  | succ m ih =>
    intro k σ D told safe ρ p9 n9 c9 hm hk h hc htl hx how
    have hxρ := hx.trans (Ext.of_del _ _)
    have htρ := ht.mono hxρ
    have nxt : ∀ σ' D' told' safe' ρ' p9' n9' c9', Kp7 σ' d b D' ρ' told' safe' → D'.cnt ≤ k + 1 → told'.length ≤ k + 1 → Ext τ (ρ'.del p9') → OwnLL ρ' p9' n9' c9' told' → law7_WalKeeps.pt46 R p0 n0 c0 p1 n1 c1 x3 (some ⟨d, 0, none⟩) (some ⟨b, 0, none⟩) p9' n9' c9' safe' k σ' := fun σ' D' told' safe' ρ' p9' n9' c9' a1 a2 a3 a4 a5 =>
      law7_WalKeeps.pt46_of ⟨by unfold I64; omega, ih (k + 1) σ' D' told' safe' ρ' p9' n9' c9' (by omega) (by omega) a1 a2 a3 a4 a5⟩
    refine law7_WalKeeps.pt27_of ⟨fun _ => h.disk.upS ⟨_, rfl, fun hu => ?_, fun _ => fin k σ D told safe ρ p9 n9 c9 hk h hc htl hx how⟩, fun hh => (by omega)⟩
    obtain ⟨W, sg, safe', hl, hdir, hok, htold, hsf⟩ := h.log hu
    obtain ⟨x, hxk⟩ := hr.ex (k := k) (by omega)
    obtain ⟨b41, o41, p42, n42, c42, hp0, hl42, hc42, hrd42⟩ := hr.at hxk
    have hxl : x.length = n42 := hrd42.1
    have hσ := hxρ.trans hl.ext
    refine ⟨b41, o41, hp0, by omega, p42, n42, c42, by simpa using hσ.ld hl42, fun hlong => ?_, fun hshort => ⟨by omega, p42, n42, c42, by simpa using hσ.ld hl42, fun b66 hb66 => ?_⟩⟩
    · rw [← hp0]
      exact nxt σ D told safe ρ p9 n9 c9 h (by omega) (by omega) hx how
    · have hx8 : By8 x := h8 x (List.mem_of_getElem? hxk)
      have hp9 : ∀ a, p9 = some a → σ a.block ≠ none := fun a ha hn => by
        cases hq : ρ a.block with
        | none => exact (OwnL.block how) a ha hq
        | some o => have := hl.ext _ _ hq; rw [hn] at this; cases this
      obtain ⟨ρ1, h1, x1, t1⟩ := hl.box (o := .cells #[.slice p42 n42 c42] 23 (0, 0)) hb66
      have hx1 : Ext τ (ρ1.del p9) := hx.trans (x1.del p9)
      have ht1 : (ρ1.del p9) b66 = some (.cells #[.slice p42 n42 c42] 23 (0, 0)) := del_some.2 ⟨fun a ha e => hp9 a ha (by rw [← e]; exact hb66), t1⟩
      have hn9 : told.length = n9 := how.1
      refine h1.appLL (τ := τ) (xs := told) (ys := [x]) hx1 (OwnL.mono EBy.mono x1 how) (one_rdLL ht1 hc42 (hrd42.mono hx1)) (by omega) fun p' c' σ2 ρ2 h2 how2 hx2 => ⟨p', _, c', rfl, by omega, p42, n42, c42, ?_, ?_⟩
      · simpa using ((hx2.trans (Ext.of_del _ _)).trans h2.ext).ld hl42
      have hx2ρ := hx2.trans (Ext.of_del _ _)
      refine copyBytes_spec ((hrd42.mono hx2ρ).mono h2.ext) (by omega) fun p73 c73 σ3 ho73 hx3 => ⟨p73, _, c73, rfl, ?_⟩
      obtain ⟨ρ3, h3, x3', x3n⟩ := h2.grow hx3
      have hxs3 : Ext τ (ρ3.del p') := hx2.trans (x3'.del p')
      have how3 : OwnLL ρ3 p' (n9 + 1) c' (told ++ [x]) := OwnL.mono EBy.mono x3' how2
      have htl' : (told ++ [x]).length ≤ k + 1 := by simp; omega
      have htk3 : Tb ρ3 := ht.mono (hx2ρ.trans x3')
      refine wappend_spec h3 htk3 ((OwnI.rd ho73).mono x3n) hx8 hu (by omega) (by rw [hdir]; exact dx_ok) hok (fun hh => by omega) fun _ => ⟨fun σ4 D4 W4 sg4 sf4 h4 u4 a4 k4 d4 _ hok4 s4 told4 out4 new4 ch4 _ _ _ => ⟨0, rfl, fun _ => ?_, fun hh => absurd rfl hh⟩, fun ha σ4 D4 t4 h4 u4 a4 k4 o4 ht4 hs4 => ⟨60, rfl, fun hh => (by cases hh), fun _ => ?_⟩⟩
      · have htold4 : toldS sg4 = told ++ [x] := by rw [told4, htold]
        have hd4 : W4.dir = dx := d4.trans hdir
        have kp4 : ∀ s, s ≤ sf4 → Kp7 σ4 d b D4 ρ3 (told ++ [x]) s := fun s hs => ⟨h4.disk, by have := (hok4.cutt u4); rw [hd4, htold4, List.nil_append] at this; exact this.weak (List.prefix_refl _) hs, fun _ => ⟨W4, sg4, sf4, h4, hd4, hok4, htold4, hs⟩⟩
        refine ⟨fun hkn => ?_, fun _ => ?_⟩
        · obtain ⟨t, htk1⟩ : ∃ t, opens[k]? = some t := ⟨_, List.getElem?_eq_getElem (by omega)⟩
          obtain ⟨b85, o85, hp1, hl85⟩ := RdBo.at (RdC.mono (((hx2ρ.trans x3').trans h4.ext)) hb) htk1
          refine ⟨b85, o85, hp1, by omega, t, by simpa using hl85, fun htt => ?_, fun htf => ?_⟩
          · rw [← hp0, ← hp1]
            refine wsync_spec h4 htk3 u4 (by omega) (by rw [hd4]; exact dx_ok) hok4 (fun σ5 D5 h5 u5 a5 k5 hok5 out5 new5 _ => ⟨0, rfl, fun _ => ?_, fun hh => absurd rfl hh⟩) (fun ha σ5 D5 t5 h5 u5 a5 k5 o5 ht5 hs5 => ⟨60, rfl, fun hh => (by cases hh), fun _ => ?_⟩)
            · have hsf5 : n9 + 1 ≤ ([] ++ toldS sg4 : Recs).length := by rw [htold4]; simp; omega
              exact nxt σ5 D5 (told ++ [x]) (n9 + 1) ρ3 p' (n9 + 1) c' ⟨h5.disk, by have := hok5.cutt u5; rw [hd4, htold4, List.nil_append] at this; exact this.weak (List.prefix_refl _) (by simp; omega), fun _ => ⟨W4, sg4, _, h5, hd4, hok5, htold4, hsf5⟩⟩ (by omega) htl' hxs3 how3
            · rw [hd4, k5] at o5
              rw [htold4, List.nil_append] at ht5
              exact nxt σ5 D5 (told ++ [x]) safe ρ3 p' (n9 + 1) c' ⟨h5, Cutt.down u5 a5 (by rw [k5]; exact o5) ht5 (by omega), fun hh => (by rw [u5] at hh; cases hh)⟩ (by omega) htl' hxs3 how3
          · rw [← hp0, ← hp1]
            exact nxt σ4 D4 (told ++ [x]) safe ρ3 p' (n9 + 1) c' (kp4 safe (by omega)) (by omega) htl' hxs3 how3
        · rw [← hp0]
          exact nxt σ4 D4 (told ++ [x]) safe ρ3 p' (n9 + 1) c' (kp4 safe (by omega)) (by omega) htl' hxs3 how3
      · rw [← hp0]
        rw [hdir] at o4
        rw [htold, List.nil_append] at ht4
        exact nxt σ4 D4 (told ++ [x]) safe ρ3 p' (n9 + 1) c' ⟨h4, Cutt.down u4 a4 o4 ht4 (by omega), fun hh => (by rw [u4] at hh; cases hh)⟩ (by omega) htl' hxs3 how3

theorem walKeeps_spec {x2 x3 : Int} (ht : Tb σ) (hr : RdLL σ p0 n0 recs) (h8 : ∀ r ∈ recs, By8 r) (hb : RdBo σ p1 n1 opens) (hn0 : n0 ≤ 1048572) (hR : ∀ σ', Ext σ σ' → R (.returned (.bool true)) σ') :
    Spec prog law7_WalKeeps.fid #[.slice p0 n0 c0, .slice p1 n1 c1, .int .i64 x2, .int .i64 x3] σ R := by
  refine law7_WalKeeps.start (disk_new_spec fun d σ1 S1 hd1 hx1 => ⟨_, rfl, ?_⟩)
  have h1 : DiskU σ1 d ⟨fun _ => none, true, false, 0⟩ σ := ⟨S1, hd1, hx1⟩
  refine open_empty h1 ht rfl rfl dx_ok (by simp) (fun _ => rfl) fun b σ2 W ρ p n c fs' cnt' a1 a2 a3 a4 a5 a6 a7 a8 a9 a10 => ⟨_, _, _, _, _, rfl, fun hh => absurd rfl hh, fun _ => ⟨fun hh => (by cases hh), fun _ => ?_⟩⟩
  have hc0 : cnt' = 0 := by simp only at a10; omega
  subst hc0
  refine low_spec fun y hy0 hy1 => ⟨y, rfl, by unfold I64; omega, by unfold I64; omega, by omega, fun x42 _ => ?_⟩
  refine a1.armS fun σ3 a h3 => ⟨rfl, ?_⟩
  refine keeps_pt ht hr h8 hb hn0 hR n0 0 σ3 _ [] 0 ρ none 0 0 rfl (Nat.zero_le _) ⟨h3.disk, ?_, fun _ => ⟨W, [], 0, h3, a4, a7, rfl, Nat.le_refl _⟩⟩ (Nat.le_refl _) (Nat.zero_le _) ?_ ?_
  · have := LogOk.cutt (D := { dk fs' 0 with armed := a }) a7 rfl
    rw [a4] at this; exact this
  · exact a2.trans (by rw [Hp.del_none]; exact Ext.refl _)
  · exact OwnL.nil
end
end TwW
end
