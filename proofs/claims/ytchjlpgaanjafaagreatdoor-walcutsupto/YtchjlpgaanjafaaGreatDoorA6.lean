/-
  Part 6 of the proof that the law WalCutsUptoCardSaid of the given program answers true for every input of the given statement; the input reads behind the call as it did. (The texts: XJ.)
-/
import Derived.Test.YtchjlpgaanjafaaGreatDoorA5
set_option linter.all false
section
set_option linter.unusedVariables false
/-! WalCuts. -/
namespace TwW
open Go Tw Go.RowKit Go.Proofs.Tryz

section
variable {σ τ ρ : Hp} {d b : Nat} {D : Dk} {W : Wl} {R : Ending → Hp → Prop} {p0 p1 : Option Addr} {n0 c0 n1 c1 : Nat} {recs kept : Recs}

/-- A record more behind the cut; and all once more. -/
def cutsTail (R : Ending → Hp → Prop) (q9 q114a p114b : Option Addr) (n114b c114b : Nat) (σ : Hp) : Prop :=
  ∀ b152 : Nat, σ b152 = none → Spec prog 13 #[(.pointer q114a), (.slice (some ⟨b152, 0, none⟩) 1 1)] (Hp.set σ b152 (.cells #[(.int .u8 9)] 5 (0, 0))) (Cont R (fun v_11 σ1_11 => ∃ x153 : Int, v_11 = (.int .i64 x153) ∧ Spec prog 16 #[(.pointer q114a)] σ1_11 (Cont R (fun v_12 σ1_12 => ∃ x155 : Int, v_12 = (.int .i64 x155) ∧ Spec prog 12 #[(.pointer q9), (.string (ByteArray.mk #[120]))] σ1_12 (Cont R (fun v_13 σ1_13 => ∃ q158a : Option Addr, ∃ p158b : Option Addr, ∃ n158b : Nat, ∃ c158b : Nat, ∃ x158c : Int, v_13 = (.tuple #[(.pointer q158a), (.slice p158b n158b c158b), (.int .i64 x158c)]) ∧ ((x153 : Int) = 0 → ((x155 : Int) = 0 → ((x158c : Int) = 0 → Spec prog 23 #[(.slice p114b n114b c114b)] σ1_13 (Cont R (fun v_14 σ1_14 => ∃ p175 : Option Addr, ∃ n175 : Nat, ∃ c175 : Nat, v_14 = (.slice p175 n175 c175) ∧ ∀ b176 : Nat, σ1_14 b176 = none → ∀ b177 : Nat, (Hp.set σ1_14 b176 (.cells #[(.int .u8 9)] 5 (0, 0))) b177 = none → Eff prog (Builtin.append_ #[22, 22] 22 #[(.slice p175 n175 c175), (.slice (some ⟨b177, 0, none⟩) 1 1)]) (Hp.set (Hp.set σ1_14 b176 (.cells #[(.int .u8 9)] 5 (0, 0))) b177 (.cells #[(.slice (some ⟨b176, 0, none⟩) 1 1)] 23 (0, 0))) (fun v_15 σ1_15 => ∃ p178 : Option Addr, ∃ n178 : Nat, ∃ c178 : Nat, v_15 = (.slice p178 n178 c178) ∧ Spec prog 21 #[(.slice p158b n158b c158b), (.slice p178 n178 c178)] σ1_15 (Cont R (fun v_16 σ1_16 => ∃ t179 : Bool, v_16 = (.bool t179) ∧ (t179 = true → Spec prog 15 #[] σ1_16 (Cont R (fun v_17 σ1_17 => ∃ t182 : Bool, v_17 = (.bool t182) ∧ R (.returned (.bool t182)) σ1_17))) ∧ (t179 = false → R (.returned (.bool false)) σ1_16))))))) ∧ (¬ ((x158c : Int) = 0) → R (.returned (.bool false)) σ1_13)) ∧ (¬ ((x155 : Int) = 0) → R (.returned (.bool false)) σ1_13)) ∧ (¬ ((x153 : Int) = 0) → R (.returned (.bool false)) σ1_13)))))))

theorem cuts_tail {told rc : Recs} {sg : Sg} {p : Option Addr} {n c : Nat} (h : LogU σ d b D W ρ) (ht : Tb ρ) (hu : D.up = true) (ha : D.armed = false) (hdir : W.dir = dx) (hok : LogOk D.files D.cnt W rc sg 0) (htold : rc ++ toldS sg = told)
    (hc : D.cnt + 1 < 1048576) (hbig : told.length ≤ 1048576) (hs : ∀ x ∈ told, x.length ≤ 140737488355328) (hr : RdLL ρ p n told) (hx : Ext τ ρ) (hR : ∀ σ', Ext τ σ' → R (.returned (.bool true)) σ') : cutsTail R (some ⟨d, 0, none⟩) (some ⟨b, 0, none⟩) p n c σ := by
  intro b152 hb
  obtain ⟨ρ1, h1, x1, t1⟩ := h.box (o := .cells #[.int .u8 9] 5 (0, 0)) hb
  have hdd : dirOk W.dir = true := by rw [hdir]; exact dx_ok
  have ht1 := ht.mono x1
  have hn : told.length = n := hr.1
  refine wappend_spec h1 ht1 (one_rd t1) (by8_one (by omega)) hu (by omega) hdd hok (fun hh => by omega) fun _ => ⟨fun σ2 D2 W2 sg2 sf2 h2 u2 a2 k2 d2 _ hok2 s2 told2 out2 new2 ch2 _ _ _ => ⟨0, rfl, ?_⟩, fun hh => by rw [ha] at hh; cases hh⟩
  refine wsync_spec h2 ht1 u2 (by omega) (by rw [d2]; exact hdd) hok2 (fun σ3 D3 h3 u3 a3 k3 hok3 out3 new3 _ => ⟨0, rfl, ?_⟩) (fun hh => by rw [a2, ha] at hh; cases hh)
  have hop := hok3.openOk.ok
  rw [d2, hdir, told2, ← List.append_assoc, htold] at hop
  refine open_spec (told := told ++ [[9]]) h3.disk ht1 u3 (by rw [a3, a2, ha]) dx_ok (by omega) hop (by simp; omega) fun b4 σ4 W4 rc4 sg4 ρ4 p4 n4 c4 fs4 k4 h4 x4 r4 e4 ok4 told4 _ _ _ _ _ _ => ⟨_, _, _, _, _, rfl, fun _ => ⟨fun _ => ⟨fun _ => ?_, fun hh => absurd rfl hh⟩, fun hh => absurd rfl hh⟩, fun hh => absurd rfl hh⟩
  have hr4 := RdLL.mono (x1.trans x4) hr
  refine copyLists_spec (RdLL.mono h4.ext hr4) (by omega) hs fun p5 c5 σ5 ho5 hx5 => ⟨_, _, _, rfl, fun b176 hb176 b177 hb177 => ?_⟩
  have hp5 : ∀ a, p5 = some a → σ4 a.block = none ∧ σ5 a.block ≠ none := fun a ha => by
    have h8 := OwnL.block ho5 a ha
    cases hh : (σ4.new σ5) a.block with
    | none => exact absurd hh h8
    | some o => have := new_some.1 hh; exact ⟨this.1, by rw [this.2]; simp⟩
  obtain ⟨ρ5, h5, x5, x5n⟩ := h4.grow hx5
  obtain ⟨ρ6, h6, x6, t6⟩ := h5.box (o := .cells #[.int .u8 9] 5 (0, 0)) hb176
  obtain ⟨ρ7, h7, x7, t7⟩ := h6.box (o := .cells #[.slice (some ⟨b176, 0, none⟩) 1 1] 23 (0, 0)) hb177
  have hx47 : Ext ρ4 (ρ7.del p5) := fun k o hk => del_some.2 ⟨fun a ha e => (by
    have h8 := (hp5 a ha).1
    have h9 := h4.ext _ _ hk
    rw [e, h8] at h9; cases h9), x7 _ _ (x6 _ _ (x5 _ _ hk))⟩
  have t6d : (ρ7.del p5) b176 = some (.cells #[.int .u8 9] 5 (0, 0)) := del_some.2 ⟨fun a ha e => (hp5 a ha).2 (by rw [← e]; exact hb176), x7 _ _ t6⟩
  have hb177' : σ5 b177 = none := by
    have hne : b177 ≠ b176 := fun e => by rw [e, Hp.set_same] at hb177; cases hb177
    rwa [Hp.set_ne hne] at hb177
  have t7d : (ρ7.del p5) b177 = some (.cells #[.slice (some ⟨b176, 0, none⟩) 1 1] 23 (0, 0)) := del_some.2 ⟨fun a ha e => (hp5 a ha).2 (by rw [← e]; exact hb177'), t7⟩
  refine h7.appLL (xs := told) (ys := [[9]]) hx47 (OwnL.mono EBy.mono (x5n.trans (x6.trans x7)) ho5) (one_rdLL t7d (Nat.le_refl _) (one_rd t6d)) (by omega) fun p8 c8 σ8 ρ8 h8 ho8 hx8 => ⟨_, _, _, rfl, ?_⟩
  have hxe := (hx8.trans (Ext.of_del _ _)).trans h8.ext
  refine sameLists_spec (RdLL.mono hxe r4) (RdLL.mono h8.ext (OwnL.rd EBy.mono ho8)) ⟨_, rfl, fun _ => ?_, fun hh => by simp at hh⟩
  exact awake_spec ((ht1.mono x4).mono hxe) fun σ9 hx9 => ⟨_, rfl, hR σ9 (((hx.trans x1).trans x4).trans (hxe.trans hx9))⟩

/-- The sum that the law makes. -/
def plus10 (rs : Recs) : Nat := (rs.map fun r => r.length + 10).sum
theorem plus10_le {rs : Recs} {N : Nat} (h : (rs.map fun x => x.length + 1).sum + 1 ≤ N) (hN : N ≤ 1048576) : plus10 rs ≤ 10485760 := by
  have : ∀ rs : Recs, plus10 rs ≤ 10 * (rs.map fun x => x.length + 1).sum := fun rs => by
    induction rs with
    | nil => simp [plus10]
    | cons r rs ih =>
      have e : plus10 (r :: rs) = r.length + 10 + plus10 rs := by simp [plus10]
      rw [e, List.map_cons, List.sum_cons]; omega
  have := this rs; omega
theorem sum_mem {rs : Recs} {x : List Int} (h : x ∈ rs) : x.length + 1 ≤ (rs.map fun x => x.length + 1).sum := by
  induction rs with
  | nil => cases h
  | cons r rs ih =>
    rw [List.map_cons, List.sum_cons]
    rcases List.mem_cons.1 h with rfl | h
    · omega
    · have := ih h; omega
theorem joinF_plus10 : ∀ {rs : Recs}, Short rs → (joinF rs).length ≤ plus10 rs
  | [], _ => by simp [joinF]
  | r :: rs, h => by
    rw [joinF_cons, List.length_append]
    have h1 := frame_small (h r (by simp))
    have h2 := joinF_plus10 (rs := rs) fun x hx => h x (by simp [hx])
    have e : plus10 (r :: rs) = r.length + 10 + plus10 rs := by simp [plus10]
    omega
theorem plus10_snoc (rs : Recs) (x : List Int) : plus10 (rs ++ [x]) = plus10 rs + x.length + 10 := by simp [plus10]; omega
theorem plus10_append (rs ss : Recs) : plus10 (rs ++ ss) = plus10 rs + plus10 ss := by simp [plus10]
theorem plus10_take (rs : Recs) (k : Nat) : plus10 (rs.take k) ≤ plus10 rs := by
  have := plus10_append (rs.take k) (rs.drop k)
  rw [List.take_append_drop] at this; omega
theorem prefix_all {α : Type} {t l : List α} (h : t <+: l) (hl : l.length ≤ t.length) : t = l := h.eq_of_length (by have := h.length_le; omega)

theorem cuts_pt44 {sg : Sg} {sf : Nat} {x2 x3 : Int} (ht : Tb ρ) (hr0 : RdLL ρ p0 n0 recs) (hr1 : RdLL ρ p1 n1 kept) (h8 : ∀ r ∈ kept, By8 r) (hs0 : Short recs) (hx : Ext τ ρ) (hk10 : plus10 kept ≤ 10485760) (hn1 : n1 ≤ 1048576) (hlen : ∀ x ∈ kept, x.length ≤ 140737488355328)
    (h : LogU σ d b D W ρ) (hu : D.up = true) (ha : D.armed = false) (hdir : W.dir = dx) (hok : LogOk D.files D.cnt W [] sg sf) (htold : toldS sg = recs) (hnew : D.files (fnew dx) = none) (hc : D.cnt + 3 < 1048576) (hbig : recs.length ≤ 1048576) (hR : ∀ σ', Ext τ σ' → R (.returned (.bool true)) σ') :
    ∀ (m k : Nat), n1 - k = m → k ≤ n1 → Short (kept.take k) → law7_WalCuts.pt44 R p0 n0 c0 p1 n1 c1 x2 x3 (some ⟨d, 0, none⟩) (some ⟨b, 0, none⟩) (plus10 (kept.take k) : Nat) k σ := by
  intro m
  have hkl : kept.length = n1 := hr1.1
  have hdd : dirOk W.dir = true := by rw [hdir]; exact dx_ok
  have hnew' : D.files (fnew W.dir) = none := by rw [hdir]; exact hnew
  induction m with
  | zero =>
    intro k hm hk hsh
    rw [List.take_of_length_le (by omega)] at hsh ⊢
    refine law7_WalCuts.pt44_of ⟨fun hh => (by omega), fun _ => ⟨fun _ => awake_spec (ht.mono h.ext) fun σ' hx' => ⟨_, rfl, hR σ' ((hx.trans h.ext).trans hx')⟩, fun h10 => ?_⟩⟩
    have hj : (joinF kept).length ≤ 4194304 := by have := joinF_plus10 hsh; omega
    refine wsync_spec h ht hu (by omega) hdd hok (fun σ1 D1 h1 u1 a1 k1 hok1 out1 new1 _ => ⟨0, rfl, ?_⟩) (fun hh => by rw [ha] at hh; cases hh)
    refine low_spec fun y hy0 hy1 => ⟨y, rfl, by decide, fun x98 _ => ?_⟩
    refine h1.armS fun σ2 a h2 => ⟨rfl, ?_⟩
    refine copyLists_spec (RdLL.mono h2.ext hr1) (by omega) hlen fun p103 c103 σ3 ho3 hx3 => ⟨_, _, _, rfl, ?_⟩
    obtain ⟨ρ3, h3, x3, x3n⟩ := h2.grow hx3
    have hcopy : RdLL ρ3 p103 n1 kept := RdLL.mono x3n (OwnL.rd EBy.mono ho3)
    have ht3 := ht.mono x3
    have hr03 := RdLL.mono x3 hr0
    have hr13 := RdLL.mono x3 hr1
    refine wcut_spec h3 ht3 hcopy h8 u1 (by show D1.cnt < _; omega) hdd hok1 (by show D1.files _ = none; rw [new1]; exact hnew') (fun hh => absurd hsh hh) fun _ => ⟨hj, ⟨fun σ4 D4 W4 h4 u4 a4 k4 d4 _ hok4 out4 new4 => ⟨0, rfl, ?_⟩, fun harm σ4 D4 t4 h4 u4 a4 k4 o4 ht4 => ⟨60, rfl, ?_⟩⟩⟩
    · have hk4 : D4.cnt = D1.cnt + 1 := k4
      refine h4.disk.upS ⟨_, rfl, ?_⟩
      have hcut := hok4.cutt u4
      rw [d4, hdir, toldS, List.flatMap_nil, List.append_nil] at hcut
      refine h4.disk.offOn hcut fun σ5 D5 t h5 u5 a5 k5 ho5 ht5 hs5 => ?_
      obtain rfl : t = kept := prefix_all ht5 hs5
      refine open_spec h5 ht3 u5 a5 dx_ok (by omega) ho5 (by omega) fun b6 σ6 W6 rc6 sg6 ρ6 p6 n6 c6 fs6 k6 h6 x6 r6 e6 ok6 told6 _ _ _ k6a k6b _ => ⟨_, _, _, _, _, rfl, fun hh => absurd rfl hh, fun _ => ⟨fun hh => (by cases hh), fun _ => ⟨fun _ => ⟨fun _ => ?_, fun hh => absurd rfl hh⟩, fun hh => (by rw [u4] at hh; cases hh)⟩⟩⟩
      have r6' := RdLL.mono h6.ext r6
      have r1' := RdLL.mono (x6.trans h6.ext) hr13
      refine sameLists_spec r6' r1' ⟨_, rfl, fun hh => by simp at hh, fun _ => ?_⟩
      refine sameLists_spec r6' r1' ⟨_, rfl, fun hh => by simp at hh, fun _ => ?_⟩
      exact cuts_tail h6 (ht3.mono x6) rfl rfl e6 ok6 told6 (by show k6 + 1 < _; omega) (by omega) hlen r6 ((hx.trans x3).trans x6) hR
    · have hk4 : D4.cnt = D1.cnt + 1 := k4
      rw [hdir] at o4
      have ht4' : t4 = kept ∨ t4 = recs := by
        rcases ht4 with e | ⟨e1, e2⟩
        · exact .inl e
        · rw [List.nil_append, htold] at e1 e2
          exact .inr (prefix_all e1 e2)
      have hs4 : ∀ x ∈ t4, x.length ≤ 140737488355328 := by
        rcases ht4' with e | e
        · rw [e]; exact hlen
        · rw [e]; exact fun x hx => by have := hs0 x hx; omega
      have hl4 : t4.length ≤ 1048576 := by rcases ht4' with e | e <;> rw [e] <;> omega
      refine h4.upS ⟨_, rfl, ?_⟩
      refine h4.offOn (Cutt.down u4 a4 o4 (List.prefix_refl _) (Nat.le_refl _)) fun σ5 D5 t h5 u5 a5 k5 ho5 ht5 hs5 => ?_
      obtain rfl : t = t4 := prefix_all ht5 hs5
      refine open_spec h5 ht3 u5 a5 dx_ok (by omega) ho5 (by omega) fun b6 σ6 W6 rc6 sg6 ρ6 p6 n6 c6 fs6 k6 h6 x6 r6 e6 ok6 told6 _ _ _ k6a k6b _ => ⟨_, _, _, _, _, rfl, fun hh => absurd rfl hh, fun _ => ⟨fun hh => (by cases hh), fun _ => ⟨fun hh => (by rw [u4] at hh; cases hh), fun _ => ⟨fun hh => absurd hh (by decide), fun _ => ?_⟩⟩⟩⟩
      have r6' := RdLL.mono h6.ext r6
      have tl := cuts_tail (R := R) (c := c6) h6 (ht3.mono x6) rfl rfl e6 ok6 told6 (by show k6 + 1 < _; omega) hl4 hs4 r6 ((hx.trans x3).trans x6) hR
      refine sameLists_spec r6' (RdLL.mono (x6.trans h6.ext) hr13) ⟨_, rfl, fun hne => ?_, fun _ => tl⟩
      refine sameLists_spec r6' (RdLL.mono (x6.trans h6.ext) hr03) ⟨_, rfl, fun hne2 => ?_, fun _ => tl⟩
      exfalso
      simp only [decide_eq_false_iff_not] at hne hne2
      rcases ht4' with e | e
      · exact hne e
      · exact hne2 e
  | succ m ih =>
    intro k hm hk hsh
    obtain ⟨x, hxk⟩ := hr1.ex (k := k) (by omega)
    obtain ⟨b70, o70, p71, n71, c71, hp1, hl71, hc71, hrd⟩ := hr1.at hxk
    have hxl : x.length = n71 := hrd.1
    have e := plus10_snoc (kept.take k) x
    rw [← take_succ' hxk] at e
    have hle := plus10_take kept (k + 1)
    refine law7_WalCuts.pt44_of ⟨fun _ => ⟨b70, o70, hp1, by omega, p71, n71, c71, by simpa using h.ext.ld hl71, fun hlong => ?_, fun hshort => ⟨by omega, p71, n71, c71, by simpa using h.ext.ld hl71, by unfold I64; omega, by unfold I64; omega, by unfold I64; omega, ?_⟩⟩, fun hh => (by omega)⟩
    · rw [← hp1]
      refine copyLists_spec (RdLL.mono h.ext hr1) (by omega) hlen fun p76 c76 σ1 ho1 hx1 => ⟨_, _, _, rfl, ?_⟩
      obtain ⟨ρ1, h1, x1, x1n⟩ := h.grow hx1
      refine wcut_spec h1 (ht.mono x1) (RdLL.mono x1n (OwnL.rd EBy.mono ho1)) h8 hu (by omega) hdd hok hnew' (fun _ σ2 h2 => ⟨70, rfl, fun _ => awake_spec ((ht.mono x1).mono h2.ext) fun σ' hx' => ⟨_, rfl, hR σ' (((hx.trans x1).trans h2.ext).trans hx')⟩, fun hh => absurd rfl hh⟩) fun hs => ?_
      have := hs x (List.mem_of_getElem? hxk); omega
    · have e2 : ((plus10 (kept.take k) : Nat) : Int) + (n71 : Int) + 10 = (plus10 (kept.take (k + 1)) : Nat) := by omega
      rw [← hp1, e2]
      refine ih (k + 1) (by omega) (by omega) ?_
      rw [take_succ' hxk]
      intro r hr
      rcases List.mem_append.1 hr with hr | hr
      · exact hsh r hr
      · simp at hr; subst hr; omega

theorem cuts_pt21 {x2 x3 : Int} (ht : Tb τ) (hr0 : RdLL τ p0 n0 recs) (hr1 : RdLL τ p1 n1 kept) (h80 : ∀ r ∈ recs, By8 r) (h8 : ∀ r ∈ kept, By8 r) (hk10 : plus10 kept ≤ 10485760) (hn1 : n1 ≤ 1048576) (hlen : ∀ x ∈ kept, x.length ≤ 140737488355328) (hn0 : n0 ≤ 1048572) (hR : ∀ σ', Ext τ σ' → R (.returned (.bool true)) σ') :
    ∀ (m k : Nat) (σ : Hp) (D : Dk) (W : Wl) (sg : Sg) (sf : Nat) (ρ : Hp), n0 - k = m → k ≤ n0 → LogU σ d b D W ρ → D.up = true → D.armed = false → W.dir = dx → LogOk D.files D.cnt W [] sg sf → toldS sg = recs.take k → D.files (fnew dx) = none → D.cnt ≤ k → Short (recs.take k) → Ext τ ρ →
      law7_WalCuts.pt21 R p0 n0 c0 p1 n1 c1 x2 x3 (some ⟨d, 0, none⟩) (some ⟨b, 0, none⟩) k σ := by
  intro m
  have hl0 : recs.length = n0 := hr0.1
  induction m with
  | zero =>
    intro k σ D W sg sf ρ hm hk h hu ha hdir hok htold hnew hc hsh hx
    rw [List.take_of_length_le (by omega)] at htold hsh
    exact law7_WalCuts.pt21_of ⟨fun hh => (by omega), fun _ => cuts_pt44 (ht.mono hx) (RdLL.mono hx hr0) (RdLL.mono hx hr1) h8 hsh hx hk10 hn1 hlen h hu ha hdir hok htold hnew (by omega) (by omega) hR n1 0 rfl (Nat.zero_le _) (fun r hr => by simp at hr)⟩
  | succ m ih =>
    intro k σ D W sg sf ρ hm hk h hu ha hdir hok htold hnew hc hsh hx
    obtain ⟨x, hxk⟩ := hr0.ex (k := k) (by omega)
    obtain ⟨b47, o47, p48, n48, c48, hp0, hl48, hc48, hrd⟩ := hr0.at hxk
    have hxl : x.length = n48 := hrd.1
    have hσ := hx.trans h.ext
    refine law7_WalCuts.pt21_of ⟨fun _ => ⟨b47, o47, hp0, by omega, p48, n48, c48, by simpa using hσ.ld hl48, fun _ => awake_spec (ht.mono hσ) fun σ' hx' => ⟨_, rfl, hR σ' (hσ.trans hx')⟩, fun hshort => ⟨by omega, p48, n48, c48, by simpa using hσ.ld hl48, ?_⟩⟩, fun hh => (by omega)⟩
    refine copyBytes_spec (hrd.mono hσ) (by omega) fun p57 c57 σ1 ho1 hx1 => ⟨_, _, _, rfl, ?_⟩
    obtain ⟨ρ1, h1, x1, x1n⟩ := h.grow hx1
    refine wappend_spec h1 ((ht.mono hx).mono x1) ((OwnI.rd ho1).mono x1n) (h80 x (List.mem_of_getElem? hxk)) hu (by omega) (by rw [hdir]; exact dx_ok) hok (fun hh => by omega) fun _ => ⟨fun σ2 D2 W2 sg2 sf2 h2 u2 a2 k2 d2 _ hok2 s2 told2 out2 new2 ch2 _ _ _ => ⟨0, rfl, fun hh => absurd rfl hh, fun _ => ⟨by unfold I64; omega, ?_⟩⟩, fun hh => by rw [ha] at hh; cases hh⟩
    rw [← hp0]
    refine ih (k + 1) σ2 D2 W2 sg2 sf2 ρ1 (by omega) (by omega) h2 u2 (a2.trans ha) (d2.trans hdir) hok2 ?_ ?_ (by omega) ?_ (hx.trans x1)
    · rw [told2, htold, take_succ' hxk]
    · have := new2; rw [hdir] at this; exact this.trans hnew
    · rw [take_succ' hxk]
      intro r hr
      rcases List.mem_append.1 hr with hr | hr
      · exact hsh r hr
      · simp at hr; subst hr; omega

theorem walCuts_spec {x2 x3 : Int} (ht : Tb σ) (hr0 : RdLL σ p0 n0 recs) (hr1 : RdLL σ p1 n1 kept) (h80 : ∀ r ∈ recs, By8 r) (h8 : ∀ r ∈ kept, By8 r) (hk10 : plus10 kept ≤ 10485760) (hn1 : n1 ≤ 1048576) (hlen : ∀ x ∈ kept, x.length ≤ 140737488355328) (hn0 : n0 ≤ 1048572) (hR : ∀ σ', Ext σ σ' → R (.returned (.bool true)) σ') :
    Spec prog law7_WalCuts.fid #[.slice p0 n0 c0, .slice p1 n1 c1, .int .i64 x2, .int .i64 x3] σ R := by
  refine law7_WalCuts.start (disk_new_spec fun d σ1 S1 hd1 hx1 => ⟨_, rfl, ?_⟩)
  have h1 : DiskU σ1 d ⟨fun _ => none, true, false, 0⟩ σ := ⟨S1, hd1, hx1⟩
  refine open_empty h1 ht rfl rfl dx_ok (by simp) (fun _ => rfl) fun b σ2 W ρ p n c fs' cnt' a1 a2 a3 a4 a5 a6 a7 a8 a9 a10 => ⟨_, _, _, _, _, rfl, fun hh => absurd rfl hh, fun _ => ⟨fun hh => (by cases hh), fun _ => ?_⟩⟩
  have hc0 : cnt' = 0 := by simp only at a10; omega
  subst hc0
  exact cuts_pt21 ht hr0 hr1 h80 h8 hk10 hn1 hlen hn0 hR n0 0 σ2 (dk fs' 0) W [] 0 ρ rfl (Nat.zero_le _) a1 rfl rfl a4 a7 rfl (a8 _) (Nat.le_refl _) (fun r hr => by simp at hr) a2
end
end TwW
end
