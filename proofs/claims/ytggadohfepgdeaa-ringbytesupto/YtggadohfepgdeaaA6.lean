/-
  Part 6 of the proof that the law RingBytesUptoSaid of the given program answers true for every input of the given statement; the input reads behind the call as it did. (The texts: RU RV RW RX RY SH SE TwN SJ SK.)
-/
import Derived.Test.YtggadohfepgdeaaA5
import Derived.Laws.BytesArg
import Derived.ProofKit
import Derived.SizedLaws
import Derived.Deep.Slices
import Derived.Test.YtggadohfepgdeaaRows
import Derived.Lib.SmallJoins
set_option linter.all false
section
set_option linter.unusedVariables false
namespace TwR
open Go Tw

def un (x : Int) : Nat := (IntKind.u64.wrap x).toNat
theorem un_cast (x : Int) : IntKind.u64.wrap x = ((un x : Nat) : Int) ∧ un x < 18446744073709551616 := by
  unfold un
  simp [IntKind.wrap, IntKind.bits, IntKind.signed]; omega
theorem un_small {x : Int} (h0 : 0 ≤ x) (h1 : x < 18446744073709551616) : un x = x.toNat := by
  unfold un
  simp [IntKind.wrap, IntKind.bits, IntKind.signed]; omega

/-- A ring's bytes. -/
def encT (ts : List Int) : List Int := ts.flatMap fun t => uv (un t)
def encM (m : Mem) : List Int := uv (un m.id) ++ uv (un m.state) ++ uv (un m.toks.length) ++ encT m.toks
def enc (e : Nat) (ms : List Mem) : List Int := uv e ++ uv (un ms.length) ++ ms.flatMap encM

theorem uvu_len (x : Int) : (uv (un x)).length ≤ 10 := uv_len10 (un_cast x).2
theorem encT_len : ∀ ts : List Int, (encT ts).length ≤ 10 * ts.length
  | [] => by simp [encT]
  | t :: ts => by
    have := encT_len ts
    have h2 := uvu_len t
    simp only [encT, List.flatMap_cons, List.length_append, List.length_cons] at *
    omega
theorem encM_len {m : Mem} (h : m.toks.length ≤ 64) : (encM m).length ≤ 670 := by
  have h1 := encT_len m.toks
  have h2 := uvu_len m.id
  have h3 := uvu_len m.state
  have h4 := uvu_len m.toks.length
  simp only [encM, List.length_append]; omega
theorem encMs_len : ∀ ms : List Mem, (∀ m ∈ ms, m.toks.length ≤ 64) → (ms.flatMap encM).length ≤ 670 * ms.length
  | [], _ => by simp
  | m :: ms, h => by
    have h1 := encMs_len ms (fun x hx => h x (List.mem_cons_of_mem _ hx))
    have h2 := encM_len (h m (List.mem_cons_self ..))
    simp only [List.flatMap_cons, List.length_append, List.length_cons]; omega

theorem encT_snoc {ts : List Int} {k : Nat} {t : Int} (h : ts[k]? = some t) : encT (ts.take (k + 1)) = encT (ts.take k) ++ uv (un t) := by
  simp [encT, take_succ' h]
theorem encMs_snoc {ms : List Mem} {i : Nat} {m : Mem} (h : ms[i]? = some m) : (ms.take (i + 1)).flatMap encM = (ms.take i).flatMap encM ++ encM m := by
  rw [show ms.take (i + 1) = ms.take i ++ [m] by simp [List.take_add_one, h]]; simp

section
variable {R : Ending → Hp → Prop} {σ0 σ : Hp} {p : Option Addr} {n c : Nat} {xs : List Int}
/-- One number more. -/
theorem put1 (h0 : Ext σ0 σ) (ho : OwnI .u8 (σ0.new σ) p n c xs) (hn : n ≤ 1000000) {y : Int} {x : Nat} (hy : y = (x : Nat)) (hx : x < 18446744073709551616)
    (h : ∀ p' n' c' σ', OwnI .u8 (σ0.new σ') p' n' c' (xs ++ uv x) → n' ≤ n + 10 → Ext σ0 σ' → Ext σ σ' → R (.returned (.slice p' n' c')) σ') : Spec prog codec_PutUint.fid #[.slice p n c, .int .u64 y] σ R := by
  subst hy
  refine putUint_spec (ho.rd.mono (Ext.of_new _ _)) (by omega) hx fun p' n' c' σ' ho' hx' => h p' n' c' σ' (Own.mono (Ext.new_trans h0) ho') ?_ (h0.trans hx') hx'
  have h1 := ho'.rd.1
  have h2 := ho.rd.1
  have := uv_len10 hx
  rw [List.length_append] at h1; omega
theorem refPut1 (h0 : Ext σ0 σ) (ho : OwnI .u8 (σ0.new σ) p n c xs) (hn : n ≤ 1000000) {y : Int} {x : Nat} (hy : y = (x : Nat)) (hx : x < 18446744073709551616)
    (h : ∀ p' n' c' σ', OwnI .u8 (σ0.new σ') p' n' c' (xs ++ uv x) → n' ≤ n + 10 → Ext σ0 σ' → Ext σ σ' → R (.returned (.slice p' n' c')) σ') : Spec prog ref2_PutUint.fid #[.slice p n c, .int .u64 y] σ R := by
  subst hy
  refine refPutUint_spec (ho.rd.mono (Ext.of_new _ _)) (by omega) hx fun p' n' c' σ' ho' hx' => h p' n' c' σ' (Own.mono (Ext.new_trans h0) ho') ?_ (h0.trans hx') hx'
  have h1 := ho'.rd.1
  have h2 := ho.rd.1
  have := uv_len10 hx
  rw [List.length_append] at h1; omega
end

/-- What a ring's bytes are, or that it has none. -/
structure EncR (e : Nat) (ms : List Mem) (σ : Hp) (Φ : Option Addr → Nat → Nat → Int → Hp → Prop) : Prop where
  bad : ¬ OkR ms → Φ none 0 0 130 σ
  ok : OkR ms → ∀ p n c σ', OwnI .u8 (σ.new σ') p n c (enc e ms) → Ext σ σ' → Φ p n c 0 σ'

theorem encode_spec {R : Ending → Hp → Prop} {σ : Hp} {e : Nat} {p : Option Addr} {n c : Nat} {ms : List Mem} (hr : RdM σ p n ms) (hs : Small ms) (he : e < 18446744073709551616)
    (h : EncR e ms σ fun p' n' c' code σ' => R (.returned (.tuple #[.slice p' n' c', .int .i64 code])) σ') : Spec prog ring_Encode.fid #[vRing e p n c] σ R := by
  have hn : ms.length = n := hr.1
  refine ring_Encode.start (check_spec hr hs ⟨_, rfl, fun hne => ?_, fun heq x23 hx23 => ?_⟩)
  · have : ¬ OkR ms := fun hok => hne (by simp [chk, hok])
    have hb := h.bad this
    simpa [chk, this] using hb
  have hok : OkR ms := Decidable.byContradiction fun hn => heq (by simp [chk, hn])
  have hlen := hok.len
  have h64 : ∀ m ∈ ms, m.toks.length ≤ 64 := fun m hm => (hok.1 m hm).2.2.2.2.2.1
  have hn23 : x23 = ((un ms.length : Nat) : Int) := by rw [hx23, ← hn]; exact (un_cast _).1
  refine put1 (.refl σ) (OwnI.nil (k := .u8)) (by omega) rfl he fun p1 n1 c1 σ1 ho1 hn1 hx1 _ => ⟨_, _, _, rfl, ?_⟩
  refine put1 hx1 ho1 (by omega) hn23 (un_cast _).2 fun p2 n2 c2 σ2 ho2 hn2 hx2 _ => ⟨_, _, _, rfl, ?_⟩
  suffices H : ∀ g i : Nat, ∀ q j d τ, n - i = g → i ≤ n → Ext σ τ → j ≤ 20 + 670 * i → OwnI .u8 (σ.new τ) q j d (uv e ++ uv (un ms.length) ++ (ms.take i).flatMap encM) → ring_Encode.pt20 R q j d p n c n i τ from
    H n 0 p2 n2 c2 σ2 rfl (by omega) hx2 (by omega) (by simpa using ho2)
  intro g
  induction g with
  | zero =>
    intro i q j d τ hg hi hx hj ho
    refine ring_Encode.pt20_of ⟨fun hlt => by omega, fun _ => ?_⟩
    rw [List.take_of_length_le (by omega)] at ho
    exact h.ok hok q j d τ ho hx
  | succ g ih =>
    intro i q j d τ hg hi hx hj ho
    obtain ⟨m, hm⟩ := hr.ex (k := i) (by omega)
    obtain ⟨b, o, q1, j1, d1, rfl, hl, ht⟩ := hr.at' hm
    have hok1 := hok.1 m (List.mem_of_getElem? hm)
    have hm64 := h64 m (List.mem_of_getElem? hm)
    have hj1 : m.toks.length = j1 := ht.1
    refine ring_Encode.pt20_of ⟨fun _ => ⟨b, o, rfl, by omega, m.id, m.state, q1, j1, d1, by simpa using hl.mono hx, fun b39 hb39 => ?_⟩, fun hge => by omega⟩
    have hx39 : Ext τ (τ.set b39 (.cells #[.int .i64 m.id, .int .i64 m.state, .int .i64 (j1 : Nat)] 3 (0, 0))) := .set hb39
    generalize hτ3 : τ.set b39 (.cells #[.int .i64 m.id, .int .i64 m.state, .int .i64 (j1 : Nat)] 3 (0, 0)) = τ3 at *
    have g0 : Hp.ld τ3 ⟨b39, 0 + Int.toNat 0 * 1, none⟩ = some (.int .i64 m.id) := by rw [← hτ3]; exact ld_same rfl
    have g1 : Hp.ld τ3 ⟨b39, 0 + Int.toNat (0 + 1) * 1, none⟩ = some (.int .i64 m.state) := by rw [← hτ3]; exact ld_same rfl
    have g2 : Hp.ld τ3 ⟨b39, 0 + Int.toNat (0 + 1 + 1) * 1, none⟩ = some (.int .i64 (j1 : Nat)) := by rw [← hτ3]; exact ld_same rfl
    have ho3 : OwnI .u8 (σ.new τ3) q j d _ := Own.mono (Ext.new_mono hx39) ho
    refine ring_Encode.pt35_of ⟨fun _ => ⟨b39, 0, rfl, by omega, _, g0, fun x47 hx47 => ?_⟩, fun hge => by omega⟩
    refine put1 (hx.trans hx39) ho3 (by omega) (hx47.trans (un_cast _).1) (un_cast _).2 fun q2 j2 d2 τ4 ho4 hj2 hx4 hx34 => ⟨_, _, _, rfl, by unfold I64; omega, ?_⟩
    refine ring_Encode.pt35_of ⟨fun _ => ⟨b39, 0, rfl, by omega, _, hx34.ld g1, fun x47 hx47 => ?_⟩, fun hge => by omega⟩
    refine put1 hx4 ho4 (by omega) (hx47.trans (un_cast _).1) (un_cast _).2 fun q3 j3 d3 τ5 ho5 hj3 hx5 hx45 => ⟨_, _, _, rfl, by unfold I64; omega, ?_⟩
    refine ring_Encode.pt35_of ⟨fun _ => ⟨b39, 0, rfl, by omega, _, (hx34.trans hx45).ld g2, fun x47 hx47 => ?_⟩, fun hge => by omega⟩
    refine put1 hx5 ho5 (by omega) (hx47.trans (un_cast _).1) (un_cast _).2 fun q4 j4 d4 τ6 ho6 hj4 hx6 hx56 => ⟨_, _, _, rfl, by unfold I64; omega, ?_⟩
    refine ring_Encode.pt35_of ⟨fun hlt => by omega, fun _ => ?_⟩
    suffices H2 : ∀ g2 k : Nat, ∀ q j d τ, j1 - k = g2 → k ≤ j1 → Ext σ τ → j ≤ 20 + 670 * i + 30 + 10 * k → OwnI .u8 (σ.new τ) q j d (uv e ++ uv (un ms.length) ++ (ms.take i).flatMap encM ++ uv (un m.id) ++ uv (un m.state) ++ uv (un (j1 : Nat)) ++ encT (m.toks.take k)) →
        ring_Encode.pt51 R q j d (some ⟨b, o, none⟩) n c n i q1 j1 d1 j1 k τ from H2 j1 0 q4 j4 d4 τ6 rfl (by omega) hx6 (by omega) (by simpa [encT] using ho6)
    intro g2
    induction g2 with
    | zero =>
      intro k q j d τ hg2 hk hx hj ho
      refine ring_Encode.pt51_of ⟨fun hlt => by omega, fun _ => ⟨by unfold I64; omega, ih (i + 1) q j d τ (by omega) (by omega) hx (by omega) ?_⟩⟩
      rw [List.take_of_length_le (show m.toks.length ≤ k by omega)] at ho
      rw [encMs_snoc hm, encM, hj1]
      simpa using ho
    | succ g2 ih2 =>
      intro k q j d τ hg2 hk hx hj ho
      obtain ⟨t, htk⟩ := ht.ex (k := k) (by omega)
      obtain ⟨b2, o2, rfl, hl2⟩ := ht.at htk
      refine ring_Encode.pt51_of ⟨fun _ => ⟨b2, o2, rfl, by omega, t, by simpa using hx.ld hl2, fun x59 hx59 => ?_⟩, fun hge => by omega⟩
      refine put1 hx ho (by omega) (hx59.trans (un_cast _).1) (un_cast _).2 fun q' j' d' τ' ho' hj' hx' _ => ⟨_, _, _, rfl, i64_succ (by omega) ht.big, ih2 (k + 1) q' j' d' τ' (by omega) (by omega) hx' (by omega) ?_⟩
      rw [encT_snoc htk]
      simpa using ho'

theorem refEncode_spec {R : Ending → Hp → Prop} {σ : Hp} {e : Nat} {p : Option Addr} {n c : Nat} {ms : List Mem} (hr : RdM σ p n ms) (he : e < 18446744073709551616)
    (h : EncR e ms σ fun p' n' c' code σ' => R (.returned (.tuple #[.slice p' n' c', .int .i64 code])) σ') : Spec prog ref13_Encode.fid #[vRing e p n c] σ R := by
  have hn : ms.length = n := hr.1
  refine ref13_Encode.start (refCheck_spec hr ⟨_, rfl, fun hne => ?_, fun heq x23 hx23 => ?_⟩)
  · have : ¬ OkR ms := fun hok => hne (by simp [chk, hok])
    have hb := h.bad this
    simpa [chk, this] using hb
  have hok : OkR ms := Decidable.byContradiction fun hn => heq (by simp [chk, hn])
  have hlen := hok.len
  have h64 : ∀ m ∈ ms, m.toks.length ≤ 64 := fun m hm => (hok.1 m hm).2.2.2.2.2.1
  have hn23 : x23 = ((un ms.length : Nat) : Int) := by rw [hx23, ← hn]; exact (un_cast _).1
  refine refPut1 (.refl σ) (OwnI.nil (k := .u8)) (by omega) rfl he fun p1 n1 c1 σ1 ho1 hn1 hx1 _ => ⟨_, _, _, rfl, ?_⟩
  refine refPut1 hx1 ho1 (by omega) hn23 (un_cast _).2 fun p2 n2 c2 σ2 ho2 hn2 hx2 _ => ⟨_, _, _, rfl, ?_⟩
  suffices H : ∀ g i : Nat, ∀ q j d τ, n - i = g → i ≤ n → Ext σ τ → j ≤ 20 + 670 * i → OwnI .u8 (σ.new τ) q j d (uv e ++ uv (un ms.length) ++ (ms.take i).flatMap encM) → ref13_Encode.pt21 R e p n c q j d i τ from
    H n 0 p2 n2 c2 σ2 rfl (by omega) hx2 (by omega) (by simpa using ho2)
  intro g
  induction g with
  | zero =>
    intro i q j d τ hg hi hx hj ho
    refine ref13_Encode.pt21_of ⟨fun hlt => by omega, fun _ => ?_⟩
    rw [List.take_of_length_le (by omega)] at ho
    exact h.ok hok q j d τ ho hx
  | succ g ih =>
    intro i q j d τ hg hi hx hj ho
    obtain ⟨m, hm⟩ := hr.ex (k := i) (by omega)
    obtain ⟨b, o, q1, j1, d1, rfl, hl, ht⟩ := hr.at' hm
    have hm64 := h64 m (List.mem_of_getElem? hm)
    have hj1 : m.toks.length = j1 := ht.1
    refine ref13_Encode.pt21_of ⟨fun _ => ⟨b, o, rfl, by omega, m.id, m.state, q1, j1, d1, by simpa using hl.mono hx, fun x37 hx37 x41 hx41 x46 hx46 => ?_⟩, fun hge => by omega⟩
    refine refPut1 hx ho (by omega) (hx37.trans (un_cast _).1) (un_cast _).2 fun q2 j2 d2 τ4 ho4 hj2 hx4 _ => ⟨_, _, _, rfl, ?_⟩
    refine refPut1 hx4 ho4 (by omega) (hx41.trans (un_cast _).1) (un_cast _).2 fun q3 j3 d3 τ5 ho5 hj3 hx5 _ => ⟨_, _, _, rfl, ?_⟩
    refine refPut1 hx5 ho5 (by omega) (hx46.trans (un_cast _).1) (un_cast _).2 fun q4 j4 d4 τ6 ho6 hj4 hx6 _ => ⟨_, _, _, rfl, ?_⟩
    suffices H2 : ∀ g2 k : Nat, ∀ q j d τ, j1 - k = g2 → k ≤ j1 → Ext σ τ → j ≤ 20 + 670 * i + 30 + 10 * k → OwnI .u8 (σ.new τ) q j d (uv e ++ uv (un ms.length) ++ (ms.take i).flatMap encM ++ uv (un m.id) ++ uv (un m.state) ++ uv (un (j1 : Nat)) ++ encT (m.toks.take k)) →
        ref13_Encode.pt37 R e (some ⟨b, o, none⟩) n c q j d i m.id m.state q1 j1 d1 k τ from H2 j1 0 q4 j4 d4 τ6 rfl (by omega) hx6 (by omega) (by simpa [encT] using ho6)
    intro g2
    induction g2 with
    | zero =>
      intro k q j d τ hg2 hk hx hj ho
      refine ref13_Encode.pt37_of ⟨fun hlt => by omega, fun _ => ⟨by unfold I64; omega, ih (i + 1) q j d τ (by omega) (by omega) hx (by omega) ?_⟩⟩
      rw [List.take_of_length_le (show m.toks.length ≤ k by omega)] at ho
      rw [encMs_snoc hm, encM, hj1]
      simpa using ho
    | succ g2 ih2 =>
      intro k q j d τ hg2 hk hx hj ho
      obtain ⟨t, htk⟩ := ht.ex (k := k) (by omega)
      obtain ⟨b2, o2, rfl, hl2⟩ := ht.at htk
      refine ref13_Encode.pt37_of ⟨fun _ => ⟨b2, o2, rfl, by omega, t, by simpa using hx.ld hl2, fun x59 hx59 => ?_⟩, fun hge => by omega⟩
      refine refPut1 hx ho (by omega) (hx59.trans (un_cast _).1) (un_cast _).2 fun q' j' d' τ' ho' hj' hx' _ => ⟨_, _, _, rfl, i64_succ (by omega) ht.big, ih2 (k + 1) q' j' d' τ' (by omega) (by omega) hx' (by omega) ?_⟩
      rw [encT_snoc htk]
      simpa using ho'
end TwR
end
section
set_option linter.unusedVariables false
namespace TwR
open Go Tw

theorem num8 {x y : Int} (hx : 0 ≤ x ∧ x < 256) (hy : 0 ≤ y ∧ y < 256) (h : UInt8.ofNat x.toNat = UInt8.ofNat y.toNat) : x = y := by
  have := congrArg UInt8.toNat h
  simp at this
  omega
theorem map8 : ∀ (xs ys : List Int), By8 xs → By8 ys → xs.map (fun n => UInt8.ofNat n.toNat) = ys.map (fun n => UInt8.ofNat n.toNat) → xs = ys
  | [], [], _, _, _ => rfl
  | [], y :: ys, _, _, h => by simp at h
  | x :: xs, [], _, _, h => by simp at h
  | x :: xs, y :: ys, hx, hy, h => by
    simp only [List.map_cons, List.cons.injEq] at h
    rw [num8 (hx x (List.mem_cons_self ..)) (hy y (List.mem_cons_self ..)) h.1, map8 xs ys (fun a ha => hx a (List.mem_cons_of_mem _ ha)) (fun a ha => hy a (List.mem_cons_of_mem _ ha)) h.2]
theorem str_eq {xs ys : List Int} (hx : By8 xs) (hy : By8 ys) : ((strOfNums xs).toList == (strOfNums ys).toList) = decide (xs = ys) := by
  rw [ByteArray.toList_eq, ByteArray.toList_eq, strOfNums_data, strOfNums_data]
  by_cases h : xs = ys
  · subst h; simp
  · rw [decide_eq_false h]
    have : xs.map (fun n => UInt8.ofNat n.toNat) ≠ ys.map (fun n => UInt8.ofNat n.toNat) := fun e => h (map8 xs ys hx hy e)
    simpa using this

theorem conv_eff {σ : Hp} {p : Option Addr} {n c : Nat} {xs : List Int} {Φ : Value → Hp → Prop} (hr : RdI .u8 σ p n xs) (h : Φ (.string (strOfNums xs)) σ) : Eff prog (convert 37 9 (.slice p n c)) σ Φ := by
  refine Eff.pu (fun w hs => ?_) h
  have h1 := Go.Proofs.Try.underlying37
  have h2 := Go.Proofs.Try.underlying9
  by_cases hn : n = 0
  · subst hn
    have hx : xs = [] := List.eq_nil_of_length_eq_zero hr.1
    subst hx
    rw [run_convert_bytes_string w 37 9 _ p 0 c h1 Go.Proofs.Try.underlying5 h2]
    cases p <;> simp [Conv.bytesToString, loadCells] <;> rfl
  · obtain ⟨x0, hx0⟩ := hr.ex (k := 0) (by omega)
    obtain ⟨b, o, rfl, _⟩ := hr.at hx0
    refine run_convert_bytes_arg w 37 _ h1 Go.Proofs.Try.underlying5 b o n c xs hr.1 (fun i hi => ?_) 9 h2
    obtain ⟨x, hx⟩ := hr.ex hi
    obtain ⟨b', o', he, hl⟩ := hr.at hx
    cases he
    rw [List.getD_eq_getElem?_getD, hx]
    simpa using hs.ld hl

theorem bytesEqual_spec {R : Ending → Hp → Prop} {σ : Hp} {p q : Option Addr} {n c m d : Nat} {xs ys : List Int} (hr : RdI .u8 σ p n xs) (hs : RdI .u8 σ q m ys) (hx : By8 xs) (hy : By8 ys) (h : R (.returned (.bool (decide (xs = ys)))) σ) :
    Spec prog bytes_Equal.fid #[.slice p n c, .slice q m d] σ R :=
  bytes_Equal.start (conv_eff hr ⟨_, rfl, conv_eff hs ⟨_, rfl, by rw [str_eq hx hy]; exact h⟩⟩)

theorem by8_append {xs ys : List Int} (hx : By8 xs) (hy : By8 ys) : By8 (xs ++ ys) := fun a ha => by
  rcases List.mem_append.1 ha with h | h
  · exact hx a h
  · exact hy a h
theorem uv_by {x : Nat} (h : x < 18446744073709551616) : By8 (uv x) := uv_by8 9 x (by omega)
theorem by8_flat {α : Type} {f : α → List Int} : ∀ (l : List α), (∀ x ∈ l, By8 (f x)) → By8 (l.flatMap f) := fun l h a ha => by
  obtain ⟨x, hx, hax⟩ := List.mem_flatMap.1 ha
  exact h x hx a hax
theorem enc_by8 {e : Nat} {ms : List Mem} (he : e < 18446744073709551616) : By8 (enc e ms) :=
  by8_append (by8_append (uv_by he) (uv_by (un_cast _).2)) (by8_flat ms fun m _ => by8_append (by8_append (by8_append (uv_by (un_cast _).2) (uv_by (un_cast _).2)) (uv_by (un_cast _).2)) (by8_flat m.toks fun t _ => uv_by (un_cast _).2))

/-! What bytes tell -/
def Tr (bs : List Int) (e : Nat) (ms : List Mem) : Prop := bs = enc e ms ∧ OkR ms ∧ (∀ m ∈ ms, ∀ t ∈ m.toks, W32 t) ∧ e < 18446744073709551616

structure DecR (bs : List Int) (σ : Hp) (Φ : Int → Option Addr → Nat → Nat → Int → Hp → Prop) : Prop where
  bad : (∀ e ms, ¬ Tr bs e ms) → Φ 0 none 0 0 130 σ
  ok : ∀ (e : Nat) ms p n c σ', Tr bs e ms → (∀ e0 ms0, Tr bs e0 ms0 → e = e0 ∧ ms = ms0) → RdM (σ.new σ') p n ms → Ext σ σ' → Φ e p n c 0 σ'

/-- The reader's three cells. -/
abbrev rd3 (b1 b4 b5 : Nat) (p : Option Addr) (n c : Nat) (i : Nat) (bad : Bool) : List (Nat × Obj) :=
  [(b5, .cells #[.bool bad] 4 (0, 0)), (b4, .cells #[.int .i64 i] 3 (0, 0)), (b1, .cells #[.slice p n c] 37 (0, 0))]
def N3 (b1 b4 b5 : Nat) : Prop := [b5, b4, b1].Nodup
def O3 (b1 b4 b5 : Nat) (τ : Hp) : Prop := ∀ b ∈ [b5, b4, b1], τ b = none
theorem size4 (w : World) : (Go.sizeOf 4).run prog w = .ok 1 w := Go.Proofs.Try.sizeOf4 w

theorem decNext_spec {R : Ending → Hp → Prop} {τ : Hp} {b1 b4 b5 n c i : Nat} {p : Option Addr} {bad : Bool} {bs : List Int} {most : Nat} (hn : N3 b1 b4 b5) (ho : O3 b1 b4 b5 τ) (hr : RdI .u8 τ p n bs) (h8 : By8 bs) (hi : i ≤ n)
    (h : ∀ (x j : Nat) (bad' : Bool), j ≤ n → x ≤ most → x < 18446744073709551616 → (∀ w, UvAt bs i w → bad = false → w ≤ most → x = w ∧ j = i + (uv w).length ∧ bad' = false) → R (.returned (.int .u64 x)) (sets τ (rd3 b1 b4 b5 p n c j bad'))) :
    Spec prog ring_Decode_1.fid #[.int .u64 most, .pointer (some ⟨b1, 0, none⟩), .pointer (some ⟨b4, 0, none⟩), .pointer (some ⟨b5, 0, none⟩)] (sets τ (rd3 b1 b4 b5 p n c i bad)) R := by
  have hx : Ext τ (sets τ (rd3 b1 b4 b5 p n c i bad)) := Off.ext (L := rd3 b1 b4 b5 p n c i bad) hn ho
  have hbad : ∀ j : Int, ((∀ w, UvAt bs i w → bad = false → w ≤ most → False)) → Eff prog (Instr.storeAt 4 (.pointer (some ⟨b5, 0, none⟩)) (.bool true)) (sets τ (rd3 b1 b4 b5 p n c i bad)) (fun _ σ1_2 => ∃ t26 : Bool, Hp.ld σ1_2 ⟨b5, 0, none⟩ = some (.bool t26) ∧ (t26 = true → R (.returned (.int .u64 0)) σ1_2) ∧ (t26 = false → Eff prog (Instr.storeAt 3 (.pointer (some ⟨b4, 0, none⟩)) (.int .i64 j)) σ1_2 (fun _ σ1_3 => R (.returned (.int .u64 0)) σ1_3))) := fun j hno => by
    refine Eff.storeL (i := 0) (c := #[.bool bad]) size4 hn rfl rfl rfl rfl rfl ?_
    exact ⟨true, ldL (L := rd3 b1 b4 b5 p n c i true) (i := 0) hn rfl rfl, fun _ => h 0 i true hi (by omega) (by omega) (fun w h1 h2 h3 => (hno w h1 h2 h3).elim), fun hf => by cases hf⟩
  refine ring_Decode_1.start ⟨p, n, c, ldL (i := 2) hn rfl rfl, i, ldL (i := 1) hn rfl rfl, uint_spec (hr.mono hx) h8 hi ⟨fun hno code hc => ⟨0, 0, code, rfl, bad, ldL (i := 0) hn rfl rfl, fun _ => hbad 0 (fun w h1 _ _ => hno w h1), fun _ => ⟨fun _ => hbad 0 (fun w h1 _ _ => hno w h1), fun h0 => absurd hc h0⟩⟩, fun v to hlt hle hv hu => ⟨v, to, 0, rfl, bad, ldL (i := 0) hn rfl rfl, fun hb => ?_, fun hb => ⟨fun h0 => absurd rfl h0, fun _ => ?_⟩⟩⟩⟩
  · refine Eff.storeL (i := 0) (c := #[.bool bad]) size4 hn rfl rfl rfl rfl rfl ?_
    exact ⟨true, ldL (L := rd3 b1 b4 b5 p n c i true) (i := 0) hn rfl rfl, fun _ => h 0 i true hi (by omega) (by omega) (fun w h1 h2 h3 => by rw [hb] at h2; cases h2), fun hf => by cases hf⟩
  · refine Eff.storeL (i := 0) (c := #[.bool bad]) (c' := #[.bool (decide (((most : Nat) : Int) < ((v : Nat) : Int)))]) size4 hn rfl rfl rfl rfl rfl ?_
    refine ⟨decide (((most : Nat) : Int) < ((v : Nat) : Int)), ldL (L := rd3 b1 b4 b5 p n c i _) (i := 0) hn rfl rfl, fun ht => ?_, fun hf => ?_⟩
    · exact h 0 i _ hi (by omega) (by omega) (fun w h1 h2 h3 => by
        have := (hu w h1).1
        simp at ht; omega)
    · refine Eff.storeL (L := rd3 b1 b4 b5 p n c i (decide (((most : Nat) : Int) < ((v : Nat) : Int)))) (i := 1) (c := #[.int .i64 i]) (c' := #[.int .i64 to]) sizeI hn rfl rfl rfl rfl rfl ?_
      have hvm : v ≤ most := by simp at hf; omega
      exact h v to _ hle hvm hv (fun w h1 h2 h3 => ⟨(hu w h1).1, (hu w h1).2, hf⟩)
end TwR
end
section
set_option linter.unusedVariables false
namespace TwR
open Go Tw

theorem en41 : Enters prog ring_Decode_1.fid := fun args w => Go.Proofs.Try.call41 args w
theorem w64 {x : Nat} (h : x < 9223372036854775808) {y : Int} (hy : y = IntKind.i64.wrap (x : Int)) : y = (x : Int) := by
  rw [hy]; simp [IntKind.wrap, IntKind.bits, IntKind.signed]; omega
theorem w32 (x : Nat) {y : Int} (hy : y = IntKind.u32.wrap (x : Int)) : W32 y ∧ (x < 4294967296 → y = (x : Int)) := by
  rw [hy]; unfold W32; simp [IntKind.wrap, IntKind.bits, IntKind.signed]; omega
theorem wpred {x : Nat} (h : 0 < x) (h2 : x < 18446744073709551616) {y : Int} (hy : y = IntKind.u64.wrap ((x : Int) - 1)) : y = ((x - 1 : Nat) : Int) := by
  rw [hy]; simp [IntKind.wrap, IntKind.bits, IntKind.signed]; omega
theorem un_nat {x : Nat} (h : x < 18446744073709551616) : un (x : Int) = x := by rw [un_small (by omega) (by omega)]; rfl

theorem drop_flat {ms : List Mem} {i : Nat} {m : Mem} (h : ms[i]? = some m) : (ms.drop i).flatMap encM = encM m ++ (ms.drop (i + 1)).flatMap encM := by
  obtain ⟨hlt, heq⟩ := List.getElem?_eq_some_iff.1 h
  rw [List.drop_eq_getElem_cons hlt, heq]; simp
theorem drop_encT {ts : List Int} {k : Nat} {t : Int} (h : ts[k]? = some t) : encT (ts.drop k) = uv (un t) ++ encT (ts.drop (k + 1)) := by
  obtain ⟨hlt, heq⟩ := List.getElem?_eq_some_iff.1 h
  rw [List.drop_eq_getElem_cons hlt, heq]; simp [encT]

theorem uvat {bs rest : List Int} {j w : Nat} (hw : w < 18446744073709551616) (h : bs.drop j = uv w ++ rest) : UvAt bs j w ∧ bs.drop (j + (uv w).length) = rest :=
  ⟨⟨hw, rest, h⟩, by rw [← List.drop_drop, h, List.drop_left]⟩

theorem decN {R : Ending → Hp → Prop} {τ : Hp} {b1 b4 b5 n c i : Nat} {p : Option Addr} {bad : Bool} {bs : List Int} (most : Nat) {mi : Int} (hmi : mi = (most : Nat)) (hn : N3 b1 b4 b5) (ho : O3 b1 b4 b5 τ) (hr : RdI .u8 τ p n bs) (h8 : By8 bs) (hi : i ≤ n)
    (h : ∀ (x j : Nat) (bad' : Bool), j ≤ n → x ≤ most → x < 18446744073709551616 → (∀ w rest, bs.drop i = uv w ++ rest → w < 18446744073709551616 → bad = false → w ≤ most → x = w ∧ bad' = false ∧ bs.drop j = rest) → R (.returned (.int .u64 x)) (sets τ (rd3 b1 b4 b5 p n c j bad'))) :
    Spec prog ring_Decode_1.fid #[.int .u64 mi, .pointer (some ⟨b1, 0, none⟩), .pointer (some ⟨b4, 0, none⟩), .pointer (some ⟨b5, 0, none⟩)] (sets τ (rd3 b1 b4 b5 p n c i bad)) R := by
  subst hmi
  exact decNext_spec hn ho hr h8 hi fun x j bad' h1 h2 h3 h4 => h x j bad' h1 h2 h3 fun w rest h5 h6 h7 h8 => by
    obtain ⟨g1, g2⟩ := uvat h6 h5
    obtain ⟨rfl, rfl, rfl⟩ := h4 w g1 h7 h8
    exact ⟨rfl, rfl, g2⟩

theorem decode_spec {R : Ending → Hp → Prop} {σ : Hp} {p : Option Addr} {n c : Nat} {bs : List Int} (hr : RdI .u8 σ p n bs) (h8 : By8 bs)
    (h : DecR bs σ fun e p' n' c' code σ' => R (.returned (.tuple #[vRing e p' n' c', .int .i64 code])) σ') : Spec prog ring_Decode.fid #[.slice p n c] σ R := by
  refine Spec.drop (ring_Decode.start fun b1 hb1 b4 hb4 b5 hb5 => ?_)
  obtain ⟨n41, hb4'⟩ := Hp.none_of_set hb4
  obtain ⟨n54, hb5'⟩ := Hp.none_of_set hb5
  obtain ⟨n51, hb5''⟩ := Hp.none_of_set hb5'
  have hN : N3 b1 b4 b5 := by unfold N3; simp; omega
  have hO : O3 b1 b4 b5 σ := fun b hb => by
    simp at hb
    rcases hb with rfl | rfl | rfl
    · exact hb5''
    · exact hb4'
    · exact hb1
  have hofx : ∀ {τ : Hp} (j : Nat) (bad : Bool), O3 b1 b4 b5 τ → Ext τ (sets τ (rd3 b1 b4 b5 p n c j bad)) := fun j bad ho => Off.ext (L := rd3 b1 b4 b5 p n c j bad) hN ho
  have hbl : bs.length = n := hr.1
  show Eff prog (Instr.storeAt 3 (.pointer (some ⟨b4, 0, none⟩)) (.int .i64 0)) (sets σ (rd3 b1 b4 b5 p n c 0 false)) _
  refine Eff.storeL (i := 1) (c := #[.int .i64 (0 : Nat)]) sizeI hN rfl rfl rfl rfl rfl ?_
  refine Eff.storeL (i := 0) (c := #[.bool false]) size4 hN rfl rfl rfl rfl rfl ?_
  show Spec prog ring_Decode_1.fid _ (sets σ (rd3 b1 b4 b5 p n c 0 false)) _
  refine decN 18446744073709551615 rfl hN hO hr h8 (Nat.zero_le n) fun e1 j1 bad1 hj1 _ he1 ht1 => ⟨_, rfl, ?_⟩
  refine decN 16 rfl hN hO hr h8 hj1 fun cnt j2 bad2 hj2 hcnt _ ht2 => ⟨_, rfl, ?_⟩
  -- the end
  have fin : ∀ (τ : Hp) (pm : Option Addr) (nm cm j : Nat) (bad : Bool) (ms : List Mem), O3 b1 b4 b5 τ → Ext σ τ → OwnM (σ.new τ) pm nm cm ms → nm ≤ 16 → (∀ m ∈ ms, m.toks.length ≤ 64 ∧ ∀ t ∈ m.toks, W32 t) →
      (∀ e0 ms0, Tr bs e0 ms0 → bad = false ∧ e1 = e0 ∧ ms = ms0) →
      Spec prog ring_Encode.fid #[vRing e1 pm nm cm] (sets τ (rd3 b1 b4 b5 p n c j bad)) (Cont (Drop R) (fun v σ1 => ∃ p60a : Option Addr, ∃ n60a : Nat, ∃ c60a : Nat, ∃ x60b : Int, v = (.tuple #[(.slice p60a n60a c60a), (.int .i64 x60b)]) ∧ ∃ t63 : Bool, Hp.ld σ1 ⟨b5, 0, none⟩ = some (.bool t63) ∧ (t63 = true → Drop R (.returned (.tuple #[(.agg #[(.int .u64 0), (.slice none 0 0)]), (.int .i64 130)])) σ1) ∧ (t63 = false → ((x60b : Int) ≠ 0 → Drop R (.returned (.tuple #[(.agg #[(.int .u64 0), (.slice none 0 0)]), (.int .i64 130)])) σ1) ∧ (¬ ((x60b : Int) ≠ 0) → ∃ p70 : Option Addr, ∃ n70 : Nat, ∃ c70 : Nat, Hp.ld σ1 ⟨b1, 0, none⟩ = some (.slice p70 n70 c70) ∧ Spec prog bytes_Equal.fid #[(.slice p60a n60a c60a), (.slice p70 n70 c70)] σ1 (Cont (Drop R) (fun v_2 σ1_2 => ∃ t71 : Bool, v_2 = (.bool t71) ∧ (t71 = false → Drop R (.returned (.tuple #[(.agg #[(.int .u64 0), (.slice none 0 0)]), (.int .i64 130)])) σ1_2) ∧ (t71 = true → Drop R (.returned (.tuple #[(.agg #[(.int .u64 e1), (.slice pm nm cm)]), (.int .i64 0)])) σ1_2))))))) := by
    intro τ pm nm cm j bad ms ho hx hown hnm htok hT
    have hrn : RdM (σ.new τ) pm nm ms := OwnL.rd EMem.mono hown
    have hrm : RdM τ pm nm ms := hrn.mono' (Ext.of_new σ τ)
    have hsm : Small ms := ⟨by rw [hrm.1]; omega, fun m hm => by have := (htok m hm).1; omega⟩
    have no : ¬ OkR ms → ∀ e0 ms0, ¬ Tr bs e0 ms0 := fun hno e0 ms0 ht => hno ((hT e0 ms0 ht).2.2 ▸ ht.2.1)
    refine Spec.frameL (L := rd3 b1 b4 b5 p n c j bad) hN ho (encode_spec hrm hsm he1 ⟨fun hno hoff => ⟨_, _, _, _, rfl, bad, ldL (i := 0) hN rfl rfl, fun hb => ?_, fun hb => ⟨fun _ => ?_, fun h0 => absurd (by decide) h0⟩⟩, fun hok p3 n3 c3 τ' ho3 hx3 hoff => ⟨_, _, _, _, rfl, bad, ldL (i := 0) hN rfl rfl, fun hb => ?_, fun hb => ⟨fun h0 => absurd rfl h0, fun _ => ⟨p, n, c, ldL (i := 2) hN rfl rfl, ?_⟩⟩⟩⟩)
    · exact .mk (hx.trans (hofx j bad ho)) (h.bad (no hno))
    · exact .mk (hx.trans (hofx j bad ho)) (h.bad (no hno))
    · exact .mk ((hx.trans hx3).trans (hofx j bad hoff)) (h.bad fun e0 ms0 ht => by have := (hT e0 ms0 ht).1; rw [hb] at this; cases this)
    · refine bytesEqual_spec (ho3.rd.mono ((Ext.of_new _ _).trans (hofx j bad hoff))) (hr.mono ((hx.trans hx3).trans (hofx j bad hoff))) (enc_by8 he1) h8 ⟨_, rfl, fun hf => ?_, fun ht => ?_⟩
      · refine .mk ((hx.trans hx3).trans (hofx j bad hoff)) (h.bad fun e0 ms0 ht => ?_)
        obtain ⟨_, rfl, rfl⟩ := hT e0 ms0 ht
        simp [← ht.1] at hf
      · have hbs : enc e1 ms = bs := by simpa using ht
        refine .mk (hofx j bad hoff) (h.ok e1 ms pm nm cm τ' ⟨hbs.symm, hok, fun m hm => (htok m hm).2, he1⟩ (fun e0 ms0 ht => (hT e0 ms0 ht).2) (hrn.mono' (Ext.new_mono hx3)) (hx.trans hx3))
  have hv6 : ∀ x : Value, (#[] ++ #[x] ++ #[.pointer (some ⟨b1, 0, none⟩), .pointer (some ⟨b4, 0, none⟩), .pointer (some ⟨b5, 0, none⟩)] : Array Value) = #[x, .pointer (some ⟨b1, 0, none⟩), .pointer (some ⟨b4, 0, none⟩), .pointer (some ⟨b5, 0, none⟩)] := fun x => rfl
  suffices H : ∀ g : Nat, ∀ (τ : Hp) (pm : Option Addr) (nm cm cnt j : Nat) (bad : Bool) (ms : List Mem), cnt = g → nm + cnt ≤ 16 → O3 b1 b4 b5 τ → Ext σ τ → OwnM (σ.new τ) pm nm cm ms → (∀ m ∈ ms, m.toks.length ≤ 64 ∧ ∀ t ∈ m.toks, W32 t) → j ≤ n →
      (∀ e0 ms0, Tr bs e0 ms0 → bad = false ∧ e1 = e0 ∧ ms = ms0.take nm ∧ nm + cnt = ms0.length ∧ bs.drop j = (ms0.drop nm).flatMap encM) →
      ring_Decode.pt15 (Drop R) b1 0 none 0 0 b5 (.func (.func 41) #[] #[.pointer (some ⟨b1, 0, none⟩), .pointer (some ⟨b4, 0, none⟩), .pointer (some ⟨b5, 0, none⟩)]) e1 pm nm cm cnt (sets τ (rd3 b1 b4 b5 p n c j bad)) from by
    refine H cnt σ none 0 0 cnt j2 bad2 [] rfl (by omega) hO (.refl σ) OwnL.nil (by simp) hj2 fun e0 ms0 ht => ?_
    have hd : bs.drop 0 = uv e0 ++ (uv (un ms0.length) ++ ms0.flatMap encM) := by rw [ht.1]; simp [enc]
    obtain ⟨rfl, hb1, hd1⟩ := ht1 e0 _ hd ht.2.2.2 rfl (by have := ht.2.2.2; omega)
    have hlen := ht.2.1.len
    have hun : un (ms0.length : Nat) = ms0.length := un_nat (by omega)
    obtain ⟨hc2, hb2, hd2⟩ := ht2 (un ms0.length) _ hd1 (un_cast _).2 hb1 (by omega)
    exact ⟨hb2, rfl, by simp, by omega, by simpa using hd2⟩
  intro g
  induction g with
  | zero =>
    intro τ pm nm cm cnt j bad ms hg hle ho hx hown htok hj hT
    subst hg
    refine ring_Decode.pt15_of ⟨fun hlt => by omega, fun _ => fin τ pm nm cm j bad ms ho hx hown (by omega) htok fun e0 ms0 ht => ?_⟩
    obtain ⟨f1, f2, f3, f4, _⟩ := hT e0 ms0 ht
    exact ⟨f1, f2, by rw [f3, List.take_of_length_le (by omega)]⟩
  | succ g ih =>
    intro τ pm nm cm cnt j bad ms hg hle ho hx hown htok hj hT
    refine ring_Decode.pt15_of ⟨fun hlt => ⟨bad, ldL (i := 0) hN rfl rfl, fun hb => ?_, fun hb => fin τ pm nm cm j bad ms ho hx hown (by omega) htok fun e0 ms0 ht => by have := (hT e0 ms0 ht).1; rw [hb] at this; cases this⟩, fun hge => by omega⟩
    have hrx := hr.mono hx
    -- the member that is there
    have hat : ∀ e0 ms0, Tr bs e0 ms0 → ∃ m, ms0[nm]? = some m := fun e0 ms0 ht => ⟨_, List.getElem?_eq_getElem (by have := (hT e0 ms0 ht).2.2.2.1; omega)⟩
    refine ⟨41, #[], _, rfl, en41, ?_⟩
    rw [hv6]
    refine decN 16 rfl hN ho hrx h8 hj fun x28 j3 bad3 hj3 hx28 _ ht3 => ⟨_, rfl, fun x29 hx29 => ⟨41, #[], _, rfl, en41, ?_⟩⟩
    rw [hv6]
    refine decN 3 rfl hN ho hrx h8 hj3 fun x31 j4 bad4 hj4 hx31 _ ht4 => ⟨_, rfl, fun x32 hx32 => ⟨41, #[], _, rfl, en41, ?_⟩⟩
    rw [hv6]
    refine decN 64 rfl hN ho hrx h8 hj4 fun x35 j5 bad5 hj5 hx35 _ ht5 => ⟨_, rfl, ?_⟩
    have e29 := w64 (by omega) hx29
    have e32 := w64 (by omega) hx32
    subst e29 e32
    have hT5 : ∀ e0 ms0, Tr bs e0 ms0 → ∃ m, ms0[nm]? = some m ∧ m.id = (x28 : Int) ∧ m.state = (x31 : Int) ∧ x35 = m.toks.length ∧ bad5 = false ∧ bs.drop j5 = encT m.toks ++ (ms0.drop (nm + 1)).flatMap encM := fun e0 ms0 ht => by
      obtain ⟨m, hm⟩ := hat e0 ms0 ht
      obtain ⟨f1, f2, f3, f4, f5⟩ := hT e0 ms0 ht
      have hok := ht.2.1.1 m (List.mem_of_getElem? hm)
      obtain ⟨k1, k2, k3, k4, k5, k6, _⟩ := hok
      rw [drop_flat hm] at f5
      have u1 : un m.id = m.id.toNat := un_small k1 (by omega)
      have u2 : un m.state = m.state.toNat := un_small (by omega) (by omega)
      have u3 : un (m.toks.length : Nat) = m.toks.length := un_nat (by omega)
      obtain ⟨g1, g2, g3⟩ := ht3 (un m.id) (uv (un m.state) ++ (uv (un m.toks.length) ++ (encT m.toks ++ (ms0.drop (nm + 1)).flatMap encM))) (by rw [f5]; simp [encM]) (un_cast _).2 f1 (by omega)
      obtain ⟨g4, g5, g6⟩ := ht4 (un m.state) _ g3 (un_cast _).2 g2 (by omega)
      obtain ⟨g7, g8, g9⟩ := ht5 (un m.toks.length) _ g6 (un_cast _).2 g5 (by omega)
      exact ⟨m, hm, by omega, by omega, by omega, g8, g9⟩
    suffices H2 : ∀ g2 : Nat, ∀ (τ' : Hp) (pt : Option Addr) (k ct left j : Nat) (bad : Bool) (ts : List Int), left = g2 → k + left ≤ 64 → O3 b1 b4 b5 τ' → Ext τ τ' → OwnI .u32 (τ.new τ') pt k ct ts → (∀ t ∈ ts, W32 t) → j ≤ n →
        (∀ e0 ms0, Tr bs e0 ms0 → ∃ m, ms0[nm]? = some m ∧ m.id = (x28 : Int) ∧ m.state = (x31 : Int) ∧ bad = false ∧ ts = m.toks.take k ∧ k + left = m.toks.length ∧ bs.drop j = encT (m.toks.drop k) ++ (ms0.drop (nm + 1)).flatMap encM) →
        ring_Decode.pt30 (Drop R) b1 0 none 0 0 b5 (.func (.func 41) #[] #[.pointer (some ⟨b1, 0, none⟩), .pointer (some ⟨b4, 0, none⟩), .pointer (some ⟨b5, 0, none⟩)]) e1 pm nm cm cnt x28 x31 pt k ct left (sets τ' (rd3 b1 b4 b5 p n c j bad)) from by
      refine H2 x35 τ none 0 0 x35 j5 bad5 [] rfl (by omega) ho (.refl τ) OwnI.nil (by simp) hj5 fun e0 ms0 ht => ?_
      obtain ⟨m, q1, q2, q3, q4, q5, q6⟩ := hT5 e0 ms0 ht
      exact ⟨m, q1, q2, q3, q5, by simp, by omega, by simpa using q6⟩
    -- a member is done
    have done : ∀ (τ' : Hp) (pt : Option Addr) (k ct j : Nat) (bad : Bool) (ts : List Int), k ≤ 64 → O3 b1 b4 b5 τ' → Ext τ τ' → OwnI .u32 (τ.new τ') pt k ct ts → (∀ t ∈ ts, W32 t) → j ≤ n →
        (∀ e0 ms0, Tr bs e0 ms0 → ∃ m, ms0[nm]? = some m ∧ m.id = (x28 : Int) ∧ m.state = (x31 : Int) ∧ bad = false ∧ ts = m.toks ∧ bs.drop j = (ms0.drop (nm + 1)).flatMap encM) →
        ∀ b55 : Nat, (sets τ' (rd3 b1 b4 b5 p n c j bad)) b55 = none → Eff prog (Builtin.append_ #[23, 23] 23 #[(.slice pm nm cm), (.slice (some ⟨b55, 0, none⟩) 1 1)]) (Hp.set (sets τ' (rd3 b1 b4 b5 p n c j bad)) b55 (.cells #[(.int .i64 x28), (.int .i64 x31), (.slice pt k ct)] 55 (0, 0))) (fun v σ1 => ∃ p56 : Option Addr, ∃ n56 : Nat, ∃ c56 : Nat, v = (.slice p56 n56 c56) ∧ ∀ x26 : Int, x26 = IntKind.u64.wrap ((cnt : Int) - 1) → ring_Decode.pt15 (Drop R) b1 0 none 0 0 b5 (.func (.func 41) #[] #[.pointer (some ⟨b1, 0, none⟩), .pointer (some ⟨b4, 0, none⟩), .pointer (some ⟨b5, 0, none⟩)]) e1 p56 n56 c56 x26 σ1) := by
      intro τ' pt k ct j bad ts hk ho' hx' hot htw hj hT' b55 hb55
      obtain ⟨hnot, hB⟩ := sets_none hb55
      rw [sets_fresh hnot]
      have hown' : OwnM (σ.new τ') pm nm cm ms := hown.mono EMem.mono (Ext.new_mono hx')
      have hpb : ∀ a, pm = some a → τ a.block ≠ none := fun a ha => by
        have := hown.block a ha
        cases hh : (σ.new τ) a.block with
        | none => exact absurd hh this
        | some oo => rw [(new_some.1 hh).2]; simp
      have hin : Ext (τ.new τ') ((σ.new τ').del pm) := Ext.new_into hx hpb
      have hot' : RdI .u32 (τ.new τ') pt k ts := OwnI.rd hot
      have htl : ts.length = k := hot'.1
      refine Eff.frameL (L := rd3 b1 b4 b5 p n c j bad) hN (Off.set (L := rd3 b1 b4 b5 p n c j bad) ho' hnot) (OwnL.app1 EMem.mono (vs := [.int .i64 x28, .int .i64 x31, .slice pt k ct]) (x := ⟨x28, x31, ts⟩) (hx.trans hx') hown' rfl oneC_mem (EMem.mk (hot'.mono hin)) (by omega) (fun p' c2 τ2 ho2 hx2 hoff2 => ⟨p', nm + 1, c2, rfl, fun x26 hx26 => ?_⟩) hB)
      have e26 := wpred (by omega) (by omega) hx26
      subst e26
      refine ih τ2 p' (nm + 1) c2 (cnt - 1) j bad _ (by omega) (by omega) hoff2 hx2 ho2 (fun m hm => ?_) hj fun e0 ms0 ht => ?_
      · rcases List.mem_append.1 hm with hm | hm
        · exact htok m hm
        · simp at hm; subst hm
          exact ⟨by show ts.length ≤ 64; omega, htw⟩
      · obtain ⟨m, q1, q2, q3, q4, q5, q6⟩ := hT' e0 ms0 ht
        obtain ⟨f1, f2, f3, f4, f5⟩ := hT e0 ms0 ht
        refine ⟨q4, f2, ?_, by omega, q6⟩
        rw [List.take_add_one, q1, f3]
        simp [mem_eq (a := ⟨x28, x31, ts⟩) (b := m) q2.symm q3.symm q5]
    intro g2
    induction g2 with
    | zero =>
      intro τ' pt k ct left j bad ts hg2 hle2 ho' hx' hot htw hj hT'
      subst hg2
      refine ring_Decode.pt30_of ⟨fun hlt => by omega, fun _ => done τ' pt k ct j bad ts (by omega) ho' hx' hot htw hj fun e0 ms0 ht => ?_⟩
      obtain ⟨m, q1, q2, q3, q4, q5, q6, q7⟩ := hT' e0 ms0 ht
      refine ⟨m, q1, q2, q3, q4, by rw [q5, List.take_of_length_le (by omega)], ?_⟩
      rw [q7, List.drop_eq_nil_of_le (by omega)]; simp [encT]
    | succ g2 ih2 =>
      intro τ' pt k ct left j bad ts hg2 hle2 ho' hx' hot htw hj hT'
      refine ring_Decode.pt30_of ⟨fun hlt => ⟨bad, ldL (i := 0) hN rfl rfl, fun hb => ?_, fun hb => done τ' pt k ct j bad ts (by omega) ho' hx' hot htw hj fun e0 ms0 ht => by obtain ⟨m, _, _, _, q4, _⟩ := hT' e0 ms0 ht; rw [hb] at q4; cases q4⟩, fun hge => by omega⟩
      refine ⟨41, #[], _, rfl, en41, ?_⟩
      rw [hv6]
      refine decN 4294967295 rfl hN ho' (hrx.mono hx') h8 hj fun x47 j6 bad6 hj6 hx47 _ ht6 => ⟨_, rfl, fun x48 hx48 b49 hb49 => ?_⟩
      obtain ⟨hw48, he48⟩ := w32 x47 hx48
      obtain ⟨hnot, hB⟩ := sets_none hb49
      rw [sets_fresh hnot]
      refine Eff.frameL (L := rd3 b1 b4 b5 p n c j6 bad6) hN (Off.set (L := rd3 b1 b4 b5 p n c j6 bad6) ho' hnot) (OwnI.app1 hx' hot (by omega) (fun p' c' τ2 ho2 hx2 _ hoff2 => ⟨p', k + 1, c', rfl, fun x43 hx43 => ?_⟩) hB)
      have e43 := wpred (by omega) (by omega) hx43
      subst e43
      refine ih2 τ2 p' (k + 1) c' (left - 1) j6 bad6 _ (by omega) (by omega) hoff2 hx2 ho2 (fun t ht => ?_) hj6 fun e0 ms0 ht => ?_
      · rcases List.mem_append.1 ht with ht | ht
        · exact htw t ht
        · simp at ht; subst ht; exact hw48
      · obtain ⟨m, q1, q2, q3, q4, q5, q6, q7⟩ := hT' e0 ms0 ht
        obtain ⟨t, htk⟩ : ∃ t, m.toks[k]? = some t := ⟨_, List.getElem?_eq_getElem (by omega)⟩
        have hwt := ht.2.2.1 m (List.mem_of_getElem? q1) t (List.mem_of_getElem? htk)
        unfold W32 at hwt
        have ut : un t = t.toNat := un_small hwt.1 (by omega)
        rw [drop_encT htk, List.append_assoc] at q7
        obtain ⟨r1, r2, r3⟩ := ht6 (un t) _ q7 (un_cast _).2 q4 (by omega)
        refine ⟨m, q1, q2, q3, r2, ?_, by omega, r3⟩
        rw [take_succ' htk, q5, he48 (by omega)]
        congr 2; omega
end TwR
end
section
set_option linter.unusedVariables false
namespace TwR
open Go Tw

/-- The document's reader. -/
abbrev rd1 (b : Nat) (p : Option Addr) (n c : Nat) (i : Nat) (bad : Bool) : List (Nat × Obj) := [(b, .cells #[.slice p n c, .int .i64 i, .bool bad] 65 (0, 0))]
theorem n1 {b : Nat} {p : Option Addr} {n c i : Nat} {bad : Bool} : (names (rd1 b p n c i bad)).Nodup := by simp [names]
theorem o1 {τ : Hp} {b : Nat} {p : Option Addr} {n c i : Nat} {bad : Bool} (h : τ b = none) : Off (rd1 b p n c i bad) τ := fun k hk => by simp [names] at hk; subst hk; exact h

theorem rUint_spec {R : Ending → Hp → Prop} {τ : Hp} {b n c i : Nat} {p : Option Addr} {bad : Bool} {bs : List Int} (ho : τ b = none) (hr : RdI .u8 τ p n bs) (h8 : By8 bs) (hi : i ≤ n)
    (h : ∀ (x j : Nat) (bad' : Bool), j ≤ n → x < 18446744073709551616 → (bad' = false → bad = false ∧ i < j) → (∀ w rest, bs.drop i = uv w ++ rest → w < 18446744073709551616 → bad = false → x = w ∧ bad' = false ∧ bs.drop j = rest) → R (.returned (.int .u64 x)) (sets τ (rd1 b p n c j bad'))) :
    Spec prog ref9_Reader_Uint.fid #[.pointer (some ⟨b, 0, none⟩)] (sets τ (rd1 b p n c i bad)) R := by
  have hx : Ext τ (sets τ (rd1 b p n c i bad)) := Off.ext n1 (o1 ho)
  have hst : ∀ (x to : Nat) (code : Int), Eff prog (Instr.storeAt 4 (.pointer (some ⟨b, (0 + 2), none⟩)) (.bool (decide (code ≠ 0)))) (sets τ (rd1 b p n c i bad)) (fun _ σ1_2 => Eff prog (Instr.storeAt 3 (.pointer (some ⟨b, (0 + 1), none⟩)) (.int .i64 to)) σ1_2 (fun _ σ1_3 => R (.returned (.int .u64 x)) σ1_3)) ↔ Eff prog (Instr.storeAt 4 (.pointer (some ⟨b, (0 + 2), none⟩)) (.bool (decide (code ≠ 0)))) (sets τ (rd1 b p n c i bad)) (fun _ σ1_2 => Eff prog (Instr.storeAt 3 (.pointer (some ⟨b, (0 + 1), none⟩)) (.int .i64 to)) σ1_2 (fun _ σ1_3 => R (.returned (.int .u64 x)) σ1_3)) := fun _ _ _ => Iff.rfl
  have put : ∀ (x to : Nat) (code : Int), R (.returned (.int .u64 x)) (sets τ (rd1 b p n c to (decide (code ≠ 0)))) → Eff prog (Instr.storeAt 4 (.pointer (some ⟨b, (0 + 2), none⟩)) (.bool (decide (code ≠ 0)))) (sets τ (rd1 b p n c i bad)) (fun _ σ1_2 => Eff prog (Instr.storeAt 3 (.pointer (some ⟨b, (0 + 1), none⟩)) (.int .i64 to)) σ1_2 (fun _ σ1_3 => R (.returned (.int .u64 x)) σ1_3)) := fun x to code hR => by
    refine Eff.storeL (i := 0) (c := #[.slice p n c, .int .i64 i, .bool bad]) (c' := #[.slice p n c, .int .i64 i, .bool (decide (code ≠ 0))]) size4 n1 rfl rfl rfl rfl rfl ?_
    refine Eff.storeL (L := rd1 b p n c i (decide (code ≠ 0))) (i := 0) (c := #[.slice p n c, .int .i64 i, .bool (decide (code ≠ 0))]) (c' := #[.slice p n c, .int .i64 to, .bool (decide (code ≠ 0))]) sizeI n1 rfl rfl rfl rfl rfl ?_
    exact hR
  refine ref9_Reader_Uint.start ⟨b, 0, rfl, bad, ldL (L := rd1 b p n c i bad) (i := 0) n1 rfl rfl, fun hb => ?_, fun hb => ⟨p, n, c, ldL (L := rd1 b p n c i bad) (i := 0) n1 rfl rfl, i, ldL (L := rd1 b p n c i bad) (i := 0) n1 rfl rfl, ?_⟩⟩
  · exact h 0 i bad hi (by omega) (fun h0 => by rw [hb] at h0; cases h0) (fun w rest _ _ h0 => by rw [hb] at h0; cases h0)
  · refine refUint_spec (hr.mono hx) h8 hi ⟨fun hno code hc => ⟨0, 0, code, rfl, put 0 0 code (h 0 0 _ (Nat.zero_le n) (by omega) (fun h0 => by simp [hc] at h0) fun w rest h1 h2 _ => (hno w ⟨h2, rest, h1⟩).elim)⟩, fun v to hlt hle hv hu => ⟨v, to, 0, rfl, put v to 0 (h v to _ hle hv (fun _ => ⟨hb, hlt⟩) fun w rest h1 h2 h3 => ?_)⟩⟩
    obtain ⟨rfl, rfl⟩ := hu w ⟨h2, rest, h1⟩
    exact ⟨rfl, rfl, (uvat h2 h1).2⟩

theorem refDecode_spec {R : Ending → Hp → Prop} {σ : Hp} {p : Option Addr} {n c : Nat} {bs : List Int} (hr : RdI .u8 σ p n bs) (h8 : By8 bs) (hn : n ≤ 1048576)
    (h : DecR bs σ fun e p' n' c' code σ' => R (.returned (.tuple #[vRing e p' n' c', .int .i64 code])) σ') : Spec prog ref13_Decode.fid #[.slice p n c] σ R := by
  refine Spec.drop (ref13_Decode.start fun b hb => ?_)
  have hofx : ∀ {τ : Hp} (j : Nat) (bad : Bool), τ b = none → Ext τ (sets τ (rd1 b p n c j bad)) := fun j bad ho => Off.ext n1 (o1 ho)
  have hbl : bs.length = n := hr.1
  show Spec prog ref9_Reader_Uint.fid _ (sets σ (rd1 b p n c 0 false)) _
  refine rUint_spec hb hr h8 (Nat.zero_le n) fun e1 j1 bad1 hj1 he1 hp1 ht1 => ⟨_, rfl, ?_⟩
  refine rUint_spec hb hr h8 hj1 fun cnt j2 bad2 hj2 hc64 hp2 ht2 => ⟨_, rfl, ?_⟩
  have fin : ∀ (τ : Hp) (pm : Option Addr) (nm cm j : Nat) (bad : Bool) (ms : List Mem), τ b = none → Ext σ τ → OwnM (σ.new τ) pm nm cm ms → (∀ m ∈ ms, ∀ t ∈ m.toks, W32 t) →
      (∀ e0 ms0, Tr bs e0 ms0 → bad = false ∧ e1 = e0 ∧ ms = ms0) →
      Spec prog ref13_Encode.fid #[vRing e1 pm nm cm] (sets τ (rd1 b p n c j bad)) (Cont (Drop R) (fun v σ1 => ∃ p85a : Option Addr, ∃ n85a : Nat, ∃ c85a : Nat, ∃ x85b : Int, v = (.tuple #[(.slice p85a n85a c85a), (.int .i64 x85b)]) ∧ ∃ t91 : Bool, Hp.ld σ1 ⟨b, (0 + 2), none⟩ = some (.bool t91) ∧ (t91 = true → Drop R (.returned (.tuple #[(.agg #[(.int .u64 0), (.slice none 0 0)]), (.int .i64 130)])) σ1) ∧ (t91 = false → ((x85b : Int) ≠ 0 → Drop R (.returned (.tuple #[(.agg #[(.int .u64 0), (.slice none 0 0)]), (.int .i64 130)])) σ1) ∧ (¬ ((x85b : Int) ≠ 0) → Eff prog (convert 37 9 (.slice p85a n85a c85a)) σ1 (fun v_2 σ1_2 => ∃ s98 : ByteArray, v_2 = (.string s98) ∧ Eff prog (convert 37 9 (.slice p n c)) σ1_2 (fun v_3 σ1_3 => ∃ s100 : ByteArray, v_3 = (.string s100) ∧ ((ByteArray.toList s98 == ByteArray.toList s100) = false → Drop R (.returned (.tuple #[(.agg #[(.int .u64 0), (.slice none 0 0)]), (.int .i64 130)])) σ1_3) ∧ ((ByteArray.toList s98 == ByteArray.toList s100) = true → Drop R (.returned (.tuple #[(.agg #[(.int .u64 e1), (.slice pm nm cm)]), (.int .i64 0)])) σ1_3))))))) := by
    intro τ pm nm cm j bad ms ho hx hown htok hT
    have hrn : RdM (σ.new τ) pm nm ms := OwnL.rd EMem.mono hown
    have hrm : RdM τ pm nm ms := hrn.mono' (Ext.of_new σ τ)
    have no : ¬ OkR ms → ∀ e0 ms0, ¬ Tr bs e0 ms0 := fun hno e0 ms0 ht => hno ((hT e0 ms0 ht).2.2 ▸ ht.2.1)
    refine Spec.frameL (L := rd1 b p n c j bad) n1 (o1 ho) (refEncode_spec hrm he1 ⟨fun hno hoff => ⟨_, _, _, _, rfl, bad, ldL (L := rd1 b p n c j bad) (i := 0) n1 rfl rfl, fun hb => ?_, fun hb => ⟨fun _ => ?_, fun h0 => absurd (by decide) h0⟩⟩, fun hok p3 n3 c3 τ' ho3 hx3 hoff => ⟨_, _, _, _, rfl, bad, ldL (L := rd1 b p n c j bad) (i := 0) n1 rfl rfl, fun hb => ?_, fun hb => ⟨fun h0 => absurd rfl h0, fun _ => ?_⟩⟩⟩)
    · exact .mk (hx.trans (hofx j bad ho)) (h.bad (no hno))
    · exact .mk (hx.trans (hofx j bad ho)) (h.bad (no hno))
    · exact .mk ((hx.trans hx3).trans (hofx j bad (hoff b (by simp [names])))) (h.bad fun e0 ms0 ht => by have := (hT e0 ms0 ht).1; rw [hb] at this; cases this)
    · have hoff := hoff b (by simp [names])
      refine conv_eff (ho3.rd.mono ((Ext.of_new _ _).trans (hofx j bad hoff))) ⟨_, rfl, conv_eff (hr.mono ((hx.trans hx3).trans (hofx j bad hoff))) ⟨_, rfl, ?_⟩⟩
      rw [str_eq (enc_by8 he1) h8]
      refine ⟨fun hf => ?_, fun ht => ?_⟩
      · refine .mk ((hx.trans hx3).trans (hofx j bad hoff)) (h.bad fun e0 ms0 ht => ?_)
        obtain ⟨_, rfl, rfl⟩ := hT e0 ms0 ht
        simp [← ht.1] at hf
      · have hbs : enc e1 ms = bs := by simpa using ht
        refine .mk (hofx j bad hoff) (h.ok e1 ms pm nm cm τ' ⟨hbs.symm, hok, htok, he1⟩ (fun e0 ms0 ht => (hT e0 ms0 ht).2) (hrn.mono' (Ext.new_mono hx3)) (hx.trans hx3))
  -- a loop that ends
  have stop : ∀ (τ : Hp) (pm : Option Addr) (nm cm cnt j : Nat) (bad : Bool) (ms : List Mem), (cnt = 0 ∨ bad = true) → τ b = none → Ext σ τ → OwnM (σ.new τ) pm nm cm ms → (∀ m ∈ ms, ∀ t ∈ m.toks, W32 t) →
      (∀ e0 ms0, Tr bs e0 ms0 → bad = false ∧ e1 = e0 ∧ ms = ms0) →
      ref13_Decode.pt13 (Drop R) p n c 0 none 0 0 (some ⟨b, 0, none⟩) e1 pm nm cm cnt (sets τ (rd1 b p n c j bad)) := by
    intro τ pm nm cm cnt j bad ms hc ho hx hown htok hT
    refine ref13_Decode.pt13_of ⟨fun hlt => ⟨b, 0, rfl, bad, ldL (L := rd1 b p n c j bad) (i := 0) n1 rfl rfl, fun hb => ?_, fun _ => fin τ pm nm cm j bad ms ho hx hown htok hT⟩, fun _ => (fin τ pm nm cm j bad ms ho hx hown htok hT).cont fun v σ' ⟨p, n, c, x, hv, hh⟩ => ⟨p, n, c, x, hv, b, 0, rfl, hh⟩⟩
    rcases hc with rfl | hc
    · omega
    · rw [hc] at hb; cases hb
  suffices H : ∀ g : Nat, ∀ (τ : Hp) (pm : Option Addr) (nm cm cnt j : Nat) (bad : Bool) (ms : List Mem), n - j = g → cnt < 18446744073709551616 → nm ≤ n + 1 → (bad = false → nm ≤ j) → τ b = none → Ext σ τ → OwnM (σ.new τ) pm nm cm ms → (∀ m ∈ ms, ∀ t ∈ m.toks, W32 t) → j ≤ n →
      (∀ e0 ms0, Tr bs e0 ms0 → bad = false ∧ e1 = e0 ∧ ms = ms0.take nm ∧ nm + cnt = ms0.length ∧ bs.drop j = (ms0.drop nm).flatMap encM) →
      ref13_Decode.pt13 (Drop R) p n c 0 none 0 0 (some ⟨b, 0, none⟩) e1 pm nm cm cnt (sets τ (rd1 b p n c j bad)) from by
    refine H _ σ none 0 0 cnt j2 bad2 [] rfl hc64 (by omega) (fun _ => Nat.zero_le _) hb (.refl σ) OwnL.nil (by simp) hj2 fun e0 ms0 ht => ?_
    have hd : bs.drop 0 = uv e0 ++ (uv (un ms0.length) ++ ms0.flatMap encM) := by rw [ht.1]; simp [enc]
    obtain ⟨rfl, hb1, hd1⟩ := ht1 e0 _ hd ht.2.2.2 rfl
    have hlen := ht.2.1.len
    have hun : un (ms0.length : Nat) = ms0.length := un_nat (by omega)
    obtain ⟨hc2, hb2, hd2⟩ := ht2 (un ms0.length) _ hd1 (un_cast _).2 hb1
    exact ⟨hb2, rfl, by simp, by omega, by simpa using hd2⟩
  intro g
  induction g using Nat.strongRecOn with
  | ind g ih =>
    intro τ pm nm cm cnt j bad ms hg hc hnm hnj ho hx hown htok hj hT
    by_cases hend : cnt = 0 ∨ bad = true
    · refine stop τ pm nm cm cnt j bad ms hend ho hx hown htok fun e0 ms0 ht => ?_
      obtain ⟨f1, f2, f3, f4, _⟩ := hT e0 ms0 ht
      refine ⟨f1, f2, ?_⟩
      rcases hend with h0 | h0
      · rw [f3, List.take_of_length_le (by omega)]
      · rw [h0] at f1; cases f1
    have hcnt : 0 < cnt := by omega
    have hbad : bad = false := by cases bad with | false => rfl | true => exact absurd (.inr rfl) hend
    refine ref13_Decode.pt13_of ⟨fun hlt => ⟨b, 0, rfl, bad, ldL (L := rd1 b p n c j bad) (i := 0) n1 rfl rfl, fun _ => ?_, fun hb => by rw [hbad] at hb; cases hb⟩, fun hge => by omega⟩
    have hrx := hr.mono hx
    refine rUint_spec ho hrx h8 hj fun x34 j3 bad3 hj3 hx34 hp3 ht3 => ⟨_, rfl, ?_⟩
    refine rUint_spec ho hrx h8 hj3 fun x36 j4 bad4 hj4 hx36 hp4 ht4 => ⟨_, rfl, fun x39 hx39 x42 hx42 => ?_⟩
    refine rUint_spec ho hrx h8 hj4 fun x45 j5 bad5 hj5 hx45 hp5 ht5 => ⟨_, rfl, ?_⟩
    have hj05 : bad5 = false → j < j5 := fun h5 => by
      obtain ⟨h4, l5⟩ := hp5 h5
      obtain ⟨h3, l4⟩ := hp4 h4
      obtain ⟨_, l3⟩ := hp3 h3
      omega
    have hT5 : ∀ e0 ms0, Tr bs e0 ms0 → ∃ m, ms0[nm]? = some m ∧ m.id = x39 ∧ m.state = x42 ∧ x45 = m.toks.length ∧ bad5 = false ∧ bs.drop j5 = encT m.toks ++ (ms0.drop (nm + 1)).flatMap encM := fun e0 ms0 ht => by
      obtain ⟨f1, f2, f3, f4, f5⟩ := hT e0 ms0 ht
      obtain ⟨m, hm⟩ : ∃ m, ms0[nm]? = some m := ⟨_, List.getElem?_eq_getElem (by omega)⟩
      have hok := ht.2.1.1 m (List.mem_of_getElem? hm)
      obtain ⟨k1, k2, k3, k4, k5, k6, _⟩ := hok
      rw [drop_flat hm] at f5
      have u1 : un m.id = m.id.toNat := un_small k1 (by omega)
      have u2 : un m.state = m.state.toNat := un_small (by omega) (by omega)
      have u3 : un (m.toks.length : Nat) = m.toks.length := un_nat (by omega)
      obtain ⟨g1, g2, g3⟩ := ht3 (un m.id) (uv (un m.state) ++ (uv (un m.toks.length) ++ (encT m.toks ++ (ms0.drop (nm + 1)).flatMap encM))) (by rw [f5]; simp [encM]) (un_cast _).2 f1
      obtain ⟨g4, g5, g6⟩ := ht4 (un m.state) _ g3 (un_cast _).2 g2
      obtain ⟨g7, g8, g9⟩ := ht5 (un m.toks.length) _ g6 (un_cast _).2 g5
      have e39 : x39 = (x34 : Int) := by
        rw [if_neg (by omega)] at hx39
        exact w64 (by omega) hx39
      have e42 : x42 = (x36 : Int) := by
        rw [if_neg (by omega)] at hx42
        exact w64 (by omega) hx42
      exact ⟨m, hm, by omega, by omega, by omega, g8, g9⟩
    have done : ∀ (τ' : Hp) (pt : Option Addr) (k ct j' : Nat) (bad : Bool) (ts : List Int), (bad = false → j < j') → τ' b = none → Ext τ τ' → OwnI .u32 (τ.new τ') pt k ct ts → (∀ t ∈ ts, W32 t) → j' ≤ n →
        (∀ e0 ms0, Tr bs e0 ms0 → ∃ m, ms0[nm]? = some m ∧ m.id = x39 ∧ m.state = x42 ∧ bad = false ∧ ts = m.toks ∧ bs.drop j' = (ms0.drop (nm + 1)).flatMap encM) →
        ∀ b80 : Nat, (sets τ' (rd1 b p n c j' bad)) b80 = none → Eff prog (Builtin.append_ #[23, 23] 23 #[(.slice pm nm cm), (.slice (some ⟨b80, 0, none⟩) 1 1)]) (Hp.set (sets τ' (rd1 b p n c j' bad)) b80 (.cells #[(.int .i64 x39), (.int .i64 x42), (.slice pt k ct)] 55 (0, 0))) (fun v σ1 => ∃ p81 : Option Addr, ∃ n81 : Nat, ∃ c81 : Nat, v = (.slice p81 n81 c81) ∧ ∀ x32 : Int, x32 = IntKind.u64.wrap ((cnt : Int) - 1) → ref13_Decode.pt13 (Drop R) p n c 0 none 0 0 (some ⟨b, 0, none⟩) e1 p81 n81 c81 x32 σ1) := by
      intro τ' pt k ct j' bad ts hjj ho' hx' hot htw hj' hT' b80 hb80
      obtain ⟨hnot, hB⟩ := sets_none hb80
      rw [sets_fresh hnot]
      have hown' : OwnM (σ.new τ') pm nm cm ms := hown.mono EMem.mono (Ext.new_mono hx')
      have hpb : ∀ a, pm = some a → τ a.block ≠ none := fun a ha => by
        have := hown.block a ha
        cases hh : (σ.new τ) a.block with
        | none => exact absurd hh this
        | some oo => rw [(new_some.1 hh).2]; simp
      have hin : Ext (τ.new τ') ((σ.new τ').del pm) := Ext.new_into hx hpb
      have hot' : RdI .u32 (τ.new τ') pt k ts := OwnI.rd hot
      have hnmj := hnj hbad
      refine Eff.frameL (L := rd1 b p n c j' bad) n1 (Off.set (L := rd1 b p n c j' bad) (o1 ho') hnot) (OwnL.app1 EMem.mono (vs := [.int .i64 x39, .int .i64 x42, .slice pt k ct]) (x := ⟨x39, x42, ts⟩) (hx.trans hx') hown' rfl oneC_mem (EMem.mk (hot'.mono hin)) (by omega) (fun p' c2 τ2 ho2 hx2 hoff2 => ⟨p', nm + 1, c2, rfl, fun x32 hx32 => ?_⟩) hB)
      have e32 := wpred hcnt hc hx32
      subst e32
      have htok' : ∀ m ∈ ms ++ [⟨x39, x42, ts⟩], ∀ t ∈ m.toks, W32 t := fun m hm => by
        rcases List.mem_append.1 hm with hm | hm
        · exact htok m hm
        · simp at hm; subst hm; exact htw
      have hoffb : τ2 b = none := hoff2 b (by simp [names])
      have hT2 : ∀ e0 ms0, Tr bs e0 ms0 → bad = false ∧ e1 = e0 ∧ ms ++ [⟨x39, x42, ts⟩] = ms0.take (nm + 1) ∧ nm + 1 + (cnt - 1) = ms0.length ∧ bs.drop j' = (ms0.drop (nm + 1)).flatMap encM := fun e0 ms0 ht => by
        obtain ⟨m, q1, q2, q3, q4, q5, q6⟩ := hT' e0 ms0 ht
        obtain ⟨f1, f2, f3, f4, f5⟩ := hT e0 ms0 ht
        refine ⟨q4, f2, ?_, by omega, q6⟩
        rw [List.take_add_one, q1, f3]
        simp [mem_eq (a := ⟨x39, x42, ts⟩) (b := m) q2.symm q3.symm q5]
      cases hb2 : bad with
      | true =>
        refine stop τ2 p' (nm + 1) c2 (cnt - 1) j' true _ (.inr rfl) hoffb hx2 ho2 htok' fun e0 ms0 ht => ?_
        have := (hT2 e0 ms0 ht).1
        rw [hb2] at this; cases this
      | false =>
        have hlt := hjj hb2
        have hb2' := hb2
        subst hb2'
        exact ih (n - j') (by omega) τ2 p' (nm + 1) c2 (cnt - 1) j' false _ rfl (by omega) (by omega) (fun _ => by omega) hoffb hx2 ho2 htok' hj' hT2
    suffices H2 : ∀ g2 : Nat, ∀ (τ' : Hp) (pt : Option Addr) (k ct left j' : Nat) (bad : Bool) (ts : List Int), n - j' = g2 → left < 18446744073709551616 → k ≤ n + 1 → (bad = false → j < j' ∧ k ≤ j') → τ' b = none → Ext τ τ' → OwnI .u32 (τ.new τ') pt k ct ts → (∀ t ∈ ts, W32 t) → j' ≤ n →
        (∀ e0 ms0, Tr bs e0 ms0 → ∃ m, ms0[nm]? = some m ∧ m.id = x39 ∧ m.state = x42 ∧ bad = false ∧ ts = m.toks.take k ∧ k + left = m.toks.length ∧ bs.drop j' = encT (m.toks.drop k) ++ (ms0.drop (nm + 1)).flatMap encM) →
        ref13_Decode.pt30 (Drop R) p n c 0 none 0 0 (some ⟨b, 0, none⟩) e1 pm nm cm cnt x39 x42 pt k ct left (sets τ' (rd1 b p n c j' bad)) from by
      refine H2 _ τ none 0 0 x45 j5 bad5 [] rfl hx45 (by omega) (fun h5 => ⟨hj05 h5, Nat.zero_le _⟩) ho (.refl τ) OwnI.nil (by simp) hj5 fun e0 ms0 ht => ?_
      obtain ⟨m, q1, q2, q3, q4, q5, q6⟩ := hT5 e0 ms0 ht
      exact ⟨m, q1, q2, q3, q5, by simp, by omega, by simpa using q6⟩
    intro g2
    induction g2 using Nat.strongRecOn with
    | ind g2 ih2 =>
      intro τ' pt k ct left j' bad' ts hg2 hl64 hk hjk ho' hx' hot htw hj' hT'
      have stop2 : (left = 0 ∨ bad' = true) → ∀ e0 ms0, Tr bs e0 ms0 → ∃ m, ms0[nm]? = some m ∧ m.id = x39 ∧ m.state = x42 ∧ bad' = false ∧ ts = m.toks ∧ bs.drop j' = (ms0.drop (nm + 1)).flatMap encM := fun hend e0 ms0 ht => by
        obtain ⟨m, q1, q2, q3, q4, q5, q6, q7⟩ := hT' e0 ms0 ht
        rcases hend with h0 | h0
        · refine ⟨m, q1, q2, q3, q4, by rw [q5, List.take_of_length_le (by omega)], ?_⟩
          rw [q7, List.drop_eq_nil_of_le (by omega)]; simp [encT]
        · rw [h0] at q4; cases q4
      by_cases h0 : left = 0
      · exact ref13_Decode.pt30_of ⟨fun hlt => by omega, fun _ => done τ' pt k ct j' bad' ts (fun hb => (hjk hb).1) ho' hx' hot htw hj' (stop2 (.inl h0))⟩
      refine ref13_Decode.pt30_of ⟨fun hlt => ⟨b, 0, rfl, bad', ldL (L := rd1 b p n c j' bad') (i := 0) n1 rfl rfl, fun hb => ?_, fun hb => done τ' pt k ct j' bad' ts (fun hb => (hjk hb).1) ho' hx' hot htw hj' (stop2 (.inr hb))⟩, fun hge => by omega⟩
      obtain ⟨hjj, hkj⟩ := hjk hb
      refine rUint_spec ho' (hrx.mono hx') h8 hj' fun x58 j6 bad6 hj6 hx58 hp6 ht6 => ⟨_, rfl, bad6, ldL (L := rd1 b p n c j6 bad6) (i := 0) n1 rfl rfl, fun hb6 => ?_, fun hb6 => ?_⟩
      all_goals
        -- the flag that comes of it
        have go : ∀ bad7 : Bool, (bad7 = false → bad6 = false ∧ x58 < 4294967296) → (bad6 = false → x58 < 4294967296 → bad7 = false) → ∀ x73 : Int, x73 = IntKind.u32.wrap (x58 : Int) → ∀ b74 : Nat, (sets τ' (rd1 b p n c j6 bad7)) b74 = none → Eff prog (Builtin.append_ #[53, 53] 53 #[(.slice pt k ct), (.slice (some ⟨b74, 0, none⟩) 1 1)]) (Hp.set (sets τ' (rd1 b p n c j6 bad7)) b74 (.cells #[(.int .u32 x73)] 26 (0, 0))) (fun v_2 σ1_3 => ∃ p75 : Option Addr, ∃ n75 : Nat, ∃ c75 : Nat, v_2 = (.slice p75 n75 c75) ∧ ∀ x56 : Int, x56 = IntKind.u64.wrap ((left : Int) - 1) → ref13_Decode.pt30 (Drop R) p n c 0 none 0 0 (some ⟨b, 0, none⟩) e1 pm nm cm cnt x39 x42 p75 n75 c75 x56 σ1_3) := by
          intro bad7 hb7 hb7' x73 hx73 b74 hb74
          obtain ⟨hw73, he73⟩ := w32 x58 hx73
          obtain ⟨hnot, hB⟩ := sets_none hb74
          rw [sets_fresh hnot]
          refine Eff.frameL (L := rd1 b p n c j6 bad7) n1 (Off.set (L := rd1 b p n c j6 bad7) (o1 ho') hnot) (OwnI.app1 hx' hot (by omega) (fun p' c' τ2 ho2 hx2 _ hoff2 => ⟨p', k + 1, c', rfl, fun x56 hx56 => ?_⟩) hB)
          have e56 := wpred (by omega) hl64 hx56
          subst e56
          have hoffb : τ2 b = none := hoff2 b (by simp [names])
          have htw2 : ∀ t ∈ ts ++ [x73], W32 t := fun t ht => by
            rcases List.mem_append.1 ht with ht | ht
            · exact htw t ht
            · simp at ht; subst ht; exact hw73
          have hT2 : ∀ e0 ms0, Tr bs e0 ms0 → ∃ m, ms0[nm]? = some m ∧ m.id = x39 ∧ m.state = x42 ∧ bad7 = false ∧ ts ++ [x73] = m.toks.take (k + 1) ∧ k + 1 + (left - 1) = m.toks.length ∧ bs.drop j6 = encT (m.toks.drop (k + 1)) ++ (ms0.drop (nm + 1)).flatMap encM := fun e0 ms0 ht => by
            obtain ⟨m, q1, q2, q3, q4, q5, q6, q7⟩ := hT' e0 ms0 ht
            obtain ⟨t, htk⟩ : ∃ t, m.toks[k]? = some t := ⟨_, List.getElem?_eq_getElem (by omega)⟩
            have hwt := ht.2.2.1 m (List.mem_of_getElem? q1) t (List.mem_of_getElem? htk)
            unfold W32 at hwt
            have ut : un t = t.toNat := un_small hwt.1 (by omega)
            rw [drop_encT htk, List.append_assoc] at q7
            obtain ⟨r1, r2, r3⟩ := ht6 (un t) _ q7 (un_cast _).2 q4
            refine ⟨m, q1, q2, q3, hb7' r2 (by omega), ?_, by omega, r3⟩
            rw [take_succ' htk, q5, he73 (by omega)]
            congr 2; omega
          cases hb8 : bad7 with
          | false =>
            have h6 := (hb7 hb8).1
            obtain ⟨_, hlt6⟩ := hp6 h6
            subst hb8
            exact ih2 (n - j6) (by omega) τ2 p' (k + 1) c' (left - 1) j6 false _ rfl (by omega) (by omega) (fun _ => ⟨by omega, by omega⟩) hoffb hx2 ho2 htw2 hj6 hT2
          | true =>
            subst hb8
            refine ref13_Decode.pt30_of ⟨fun hlt => ⟨b, 0, rfl, true, ldL (L := rd1 b p n c j6 true) (i := 0) n1 rfl rfl, fun hb => (by cases hb), fun _ => done τ2 p' (k + 1) c' j6 true _ (fun hb => by cases hb) hoffb hx2 ho2 htw2 hj6 fun e0 ms0 ht => by obtain ⟨m, _, _, _, q4, _⟩ := hT2 e0 ms0 ht; cases q4⟩, fun _ => done τ2 p' (k + 1) c' j6 true _ (fun hb => by cases hb) hoffb hx2 ho2 htw2 hj6 fun e0 ms0 ht => by obtain ⟨m, _, _, _, q4, _⟩ := hT2 e0 ms0 ht; cases q4⟩
      · refine Eff.storeL (L := rd1 b p n c j6 bad6) (i := 0) (c := #[.slice p n c, .int .i64 j6, .bool bad6]) (c' := #[.slice p n c, .int .i64 j6, .bool true]) size4 n1 rfl rfl rfl rfl rfl ?_
        exact go true (fun h => by cases h) (fun h => by rw [hb6] at h; cases h)
      · refine Eff.storeL (L := rd1 b p n c j6 bad6) (i := 0) (c := #[.slice p n c, .int .i64 j6, .bool bad6]) (c' := #[.slice p n c, .int .i64 j6, .bool (decide ((4294967295 : Int) < (x58 : Int)))]) size4 n1 rfl rfl rfl rfl rfl ?_
        exact go (decide ((4294967295 : Int) < (x58 : Int))) (fun h => ⟨hb6, by simp at h; omega⟩) (fun _ h => by simp; omega)
end TwR
end
section
set_option linter.unusedVariables false
namespace TwR
open Go Tw

/-! What every law asks at its end -/
theorem ok1 {s : Int} {t : List Int} (h1 : 1 ≤ s) (h2 : s ≤ 3) (hr : Rise t) (h3 : 1 ≤ t.length) (h4 : t.length ≤ 4) : OkR [⟨0, s, t⟩] := by
  refine ⟨fun m hm => ?_, by simp [ids, Rise]⟩
  simp at hm; subst hm
  exact ⟨by simp, by simp, h1, h2, h3, by simp; omega, hr⟩
theorem place1 {s : Int} {t : List Int} : place [⟨0, s, t⟩] 0 = 0 := by simp [place]
theorem turn1 {f g s code : Int} {t : List Int} {ms' : List Mem} (h : CTurn f g [⟨0, s, t⟩] 0 code ms') (hs : s = f) : code = 0 ∧ ms' = [⟨0, g, t⟩] := by
  rcases h with ⟨h1, _⟩ | ⟨k, m, hk, hm, h⟩
  · rw [place1] at h1; omega
  · rw [place1] at hk
    obtain rfl : k = 0 := by omega
    simp at hm; subst hm
    rcases h with ⟨h1, _⟩ | ⟨_, h1, h2⟩
    · exact absurd hs h1
    · exact ⟨h1, by rw [h2]; simp⟩

theorem round1 {t : List Int} {hash : Int} (hok : OkR [⟨0, 2, t⟩]) : round [⟨0, 2, t⟩] hash = [0] := by
  have h1 := round_len (hash := hash) hok
  have h2 : actives [⟨0, 2, t⟩] = [0] := by simp [actives]
  rw [h2] at h1
  match hr : round [⟨0, 2, t⟩] hash, h1 with
  | [x], _ =>
    have : x ∈ actives [⟨0, 2, t⟩] := (round_mem (hash := hash) hok).1 (by rw [hr]; simp)
    rw [h2] at this
    simp at this; rw [this]

theorem awake_spec {R : Ending → Hp → Prop} {σ : Hp} (h : ∀ σ', Ext σ σ' → R (.returned (.bool true)) σ') : Spec prog law13_awake.fid #[] σ R := by
  refine law13_awake.start ?_
  have fit0 : Fit [] 0 0 := ⟨⟨by simp, by simp [ids, Rise]⟩, by decide, by decide, by decide⟩
  have hj : ∀ code ms', CJoin [] 0 code ms' → code = 0 ∧ ∃ t, Rise t ∧ 1 ≤ t.length ∧ t.length ≤ 4 ∧ (∀ y ∈ t, 0 ≤ y ∧ y < 4294967296) ∧ ms' = [⟨0, 1, t⟩] := by
    rintro code ms' (⟨h1, _⟩ | ⟨_, h1, i, t, _, _, _, h2, h3, h4, h5, h6⟩)
    · exact absurd (by simp [place]) h1
    · exact ⟨h1, t, h2, h3, h4, h5, by simpa using h6⟩
  refine joinR_spec (ms := []) RdS.nil ⟨by simp, by simp⟩ (by decide) ⟨fun hb => absurd fit0 hb, fun _ code ms' hC hne => absurd (hj code ms' hC).1 hne, fun _ p1 n1 c1 σ1 ms1 hC hr1 hx1 => ⟨_, _, _, _, _, rfl, ?_⟩⟩
  obtain ⟨_, t, ht, ht1, ht4, htw, rfl⟩ := hj _ _ hC
  have k1 := ok1 (s := 1) (by decide) (by decide) ht ht1 ht4
  have k2 := ok1 (s := 2) (by decide) (by decide) ht ht1 ht4
  have k3 := ok1 (s := 3) (by decide) (by decide) ht ht1 ht4
  have fit : ∀ {s e : Int}, OkR [⟨0, s, t⟩] → e ≠ top64 → Fit [⟨0, s, t⟩] e 0 := fun hk he => ⟨hk, he, by decide, by decide⟩
  refine activateR_spec hr1 k1.small (by decide) ⟨fun hb => absurd (fit k1 (by decide)) hb, fun _ code ms' hC hne => absurd (turn1 hC rfl).1 hne, fun _ p2 n2 c2 σ2 ms2 hC hr2 hx2 => ⟨_, _, _, _, _, rfl, ?_⟩⟩
  obtain ⟨_, rfl⟩ := turn1 hC rfl
  have hact : actives [⟨0, 2, t⟩] = [0] := by simp [actives]
  refine replicas_spec hr2 k2.small ⟨fun hb => absurd ⟨k2, by decide, by decide⟩ hb, fun _ _ _ hlt => ?_, fun _ _ _ k hk _ q d σ3 ho3 hx3 => ⟨_, _, _, _, rfl, ?_⟩⟩
  · rw [hact] at hlt; simp at hlt
  obtain rfl : k = 1 := by omega
  rw [round1 k2] at ho3
  have hr3 := hr2.mono' hx3
  refine replicas_spec hr3 k2.small ⟨fun hb => absurd ⟨k2, by decide, by decide⟩ hb, fun _ _ _ _ => ⟨_, _, _, _, rfl, ?_⟩, fun _ _ _ k hk hk2 => ?_⟩
  · refine encode_spec (e := 2) hr3 k2.small (by decide) ⟨fun hb => absurd k2 hb, fun _ p4 n4 c4 σ4 ho4 hx4 => ⟨_, _, _, _, rfl, ?_⟩⟩
    have htr : Tr (enc 2 [⟨0, 2, t⟩]) 2 [⟨0, 2, t⟩] := ⟨rfl, k2, fun m hm y hy => by simp at hm; subst hm; exact htw y hy, by decide⟩
    have hr4 := hr3.mono' hx4
    refine decode_spec (ho4.rd.mono (Ext.of_new _ _)) (enc_by8 (by decide)) ⟨fun hb => absurd htr (hb _ _), fun e5 ms5 p5 n5 c5 σ5 _ hu hr5 hx5 => ⟨_, _, _, _, _, rfl, ?_⟩⟩
    obtain ⟨rfl, rfl⟩ := hu _ _ htr
    have hr5' := hr4.mono' hx5
    refine leaveR_spec hr5' k2.small (by decide) ⟨fun hb => absurd (fit k2 (by decide)) hb, fun _ code ms' hC hne => absurd (turn1 hC rfl).1 hne, fun _ p6 n6 c6 σ6 ms6 hC hr6 hx6 => ⟨_, _, _, _, _, rfl, ?_⟩⟩
    obtain ⟨_, rfl⟩ := turn1 hC rfl
    have hg : ∀ code ms', CGone [⟨0, 3, t⟩] 0 code ms' → code = 0 ∧ ms' = [] := by
      rintro code ms' (⟨h1, _⟩ | ⟨k, m, hk, hm, h⟩)
      · rw [place1] at h1; omega
      · rw [place1] at hk
        obtain rfl : k = 0 := by omega
        simp at hm; subst hm
        rcases h with ⟨h1, _⟩ | ⟨_, h1, h2⟩
        · exact absurd rfl h1
        · exact ⟨h1, by rw [h2]; rfl⟩
    refine goneR_spec hr6 k3.small (by decide) ⟨fun hb => absurd (fit k3 (by decide)) hb, fun _ code ms' hC hne => absurd (hg _ _ hC).1 hne, fun _ p7 n7 c7 σ7 ms7 hC hr7 hx7 => ⟨_, _, _, _, _, rfl, ?_⟩⟩
    obtain ⟨_, rfl⟩ := hg _ _ hC
    have hx37 : Ext σ3 σ7 := ((hx4.trans hx5).trans hx6).trans hx7
    refine ⟨fun _ => ⟨fun _ => ⟨fun _ b69 hb69 => ?_, fun hn => absurd rfl hn⟩, fun hn => absurd rfl hn⟩, fun hn => absurd rfl hn⟩
    have hx8 : Ext σ7 (σ7.set b69 (.cells #[.int .i64 0] 3 (0, 0))) := .set hb69
    have hlit : RdI .i64 (σ7.set b69 (.cells #[.int .i64 0] 3 (0, 0))) (some ⟨b69, 0, none⟩) 1 [0] := .of_rdc ⟨rfl, by decide, .inr ⟨b69, 0, rfl, by simp [Hp.ld, Hp.set_same], trivial⟩⟩
    refine sameInts_spec (((ho3.rd.mono (Ext.of_new _ _)).mono hx37).mono hx8) hlit ⟨_, rfl, fun _ => ?_, fun hf => by simp at hf⟩
    refine ⟨fun _ => ⟨fun _ => ⟨fun _ => ?_, fun hn => absurd rfl hn⟩, fun hn => absurd rfl hn⟩, fun hn => absurd rfl hn⟩
    have hx58 : Ext σ5 (σ7.set b69 (.cells #[.int .i64 0] 3 (0, 0))) := (hx6.trans hx7).trans hx8
    have hrb := (hr5'.mono' hx58)
    refine sameRing_spec (RdM.mono' hx58 (RdM.mono' (Ext.of_new _ _) hr5)) hrb ⟨_, rfl, fun _ => ?_, fun hf => by simp at hf⟩
    refine ⟨fun _ => ⟨fun _ => ⟨fun _ => ⟨fun _ => ?_, fun hn => absurd (by have := hr7.1; simp at this; omega) hn⟩, fun hn => absurd rfl hn⟩, fun hn => absurd rfl hn⟩, fun hn => absurd rfl hn⟩
    refine state_spec hrb k2.small ⟨_, rfl, fun _ => ?_, fun hn => absurd (by simp [stateOf, k2]) hn⟩
    refine tokens_spec (x := 0) (by decide) fun p9 n9 c9 σ9 ys _ _ hx9 _ hn9 _ => ⟨_, _, _, rfl, fun _ b120 hb120 => ?_, fun hn => absurd (by omega) hn⟩
    have hlm : RdM (σ9.set b120 (.cells #[.int .i64 0, .int .i64 0, .slice none 0 0] 55 (0, 0))) (some ⟨b120, 0, none⟩) 1 [⟨0, 0, []⟩] := by
      refine ⟨rfl, [.int .i64 0, .int .i64 0, .slice none 0 0], ⟨rfl, by decide, .inr ⟨b120, 0, rfl, by simp [Hp.ld, Hp.set_same], by simp [Hp.ld, Hp.set_same], by simp [Hp.ld, Hp.set_same], trivial⟩⟩, Ch.one rfl (EMem.mk RdS.nil)⟩
    refine check_spec hlm ⟨by simp, by simp⟩ ⟨_, rfl, ?_⟩
    have hbad : ¬ OkR [⟨0, 0, []⟩] := fun hk => by have := (hk.1 _ (List.mem_singleton.2 rfl)).2.2.1; simp at this
    rw [show decide ((chk [⟨0, 0, []⟩] : Int) = 130) = true by simp [chk, hbad]]
    exact h _ ((((((hx1.trans hx2).trans hx3).trans hx37).trans hx8).trans hx9).trans (.set hb120))
  · rw [hact] at hk2; simp at hk2; omega
end TwR
end
section
set_option linter.unusedVariables false
namespace TwR
open Go Tw

/-! What the laws share -/
theorem Ext.into_del {σ σ' : Hp} {p : Option Addr} (h : Ext σ σ') (hp : ∀ a, p = some a → σ a.block = none) : Ext σ (σ'.del p) := fun b o hb =>
  del_some.2 ⟨fun a ha he => (by rw [he, hp a ha] at hb; cases hb), h b o hb⟩

def repOf (ms : List Mem) (hash rf : Int) : List Int × Int :=
  if OkR ms ∧ 1 ≤ rf ∧ rf ≤ 5 then (if ((actives ms).length : Int) < rf then ([], 133) else ((round ms hash).take rf.toNat, 0)) else ([], 130)

theorem RepR.uni {ms : List Mem} {hash rf : Int} {σ : Hp} {Φ : Option Addr → Nat → Nat → Int → Hp → Prop} (h : ∀ q k d σ', OwnI .i64 (σ.new σ') q k d (repOf ms hash rf).1 → Ext σ σ' → Φ q k d (repOf ms hash rf).2 σ') : RepR ms hash rf σ Φ := by
  constructor
  · intro hb
    have := h none 0 0 σ (by simp only [repOf, if_neg hb]; exact OwnI.nil) (.refl _)
    simpa only [repOf, if_neg hb] using this
  · intro hok h1 h5 hlt
    have e : repOf ms hash rf = ([], 133) := by simp only [repOf, if_pos (show OkR ms ∧ 1 ≤ rf ∧ rf ≤ 5 from ⟨hok, h1, h5⟩), if_pos hlt]
    have := h none 0 0 σ (by rw [e]; exact OwnI.nil) (.refl _)
    rwa [e] at this
  · intro hok h1 h5 k hk hle q d σ' ho hx
    subst hk
    have e : repOf ms hash k = ((round ms hash).take k, 0) := by
      simp only [repOf]
      rw [if_pos ⟨hok, h1, h5⟩, if_neg (by omega), Int.toNat_natCast]
    have := h q k d σ' (by rw [e]; exact ho) hx
    rwa [e] at this

/-! Spoiling -/
section
variable {R : Ending → Hp → Prop} {σ : Hp} {p p0 : Option Addr} {n n0 c c0 : Nat}
theorem size3 (w : World) : (Go.sizeOf 3).run prog w = .ok 1 w := Go.Proofs.Try.sizeOf3 w
theorem size5 (w : World) : (Go.sizeOf 5).run prog w = .ok 1 w := Go.Proofs.Try.sizeOf5 w

theorem fill9 (hn : n ≤ 4611686018427387904) : ∀ (d k : Nat) (τ : Hp) (ys : List Int), n - k = d → k ≤ n → OwnI .i64 τ p n c ys → Ext (σ.del p) (τ.del p) → (∀ σ' ys', OwnI .i64 σ' p n c ys' → Ext (σ.del p) (σ'.del p) → law0_SpoilInts.pt23 R p0 n0 c0 0 σ') →
    law0_SpoilInts.pt9 R p0 n0 c0 p n c k τ
  | 0, k, τ, ys, hd, hk, ho, hx, h => law0_SpoilInts.pt9_of ⟨fun hlt => by omega, fun _ => h τ ys ho hx⟩
  | d + 1, k, τ, ys, hd, hk, ho, hx, h => by
    refine law0_SpoilInts.pt9_of ⟨fun _ => ?_, fun hge => by omega⟩
    obtain ⟨b, o, hp, he⟩ := OwnI.stores (T := 3) (v := -77) (Ψ := fun σ1 => I64 ((k : Int) + 1) ∧ law0_SpoilInts.pt9 R p0 n0 c0 p n c ((k : Int) + 1) σ1) ho (i := k) (by omega) size3 fun σ' ho' hx' =>
      ⟨i64_succ (show k < n by omega) hn, fill9 hn d (k + 1) σ' _ (by omega) (by omega) ho' (hx.trans hx') h⟩
    exact ⟨b, o, hp, by omega, by rw [← hp]; simpa using he⟩

theorem fill23 (hn : n ≤ 4611686018427387904) : ∀ (d k : Nat) (τ : Hp) (ys : List Int), n - k = d → k ≤ n → OwnI .i64 τ p n c ys → Ext (σ.del p) (τ.del p) → (∀ σ', Ext (σ.del p) (σ'.del p) → R (.returned (.tuple #[])) σ') →
    law0_SpoilInts.pt23 R p n c k τ
  | 0, k, τ, ys, hd, hk, ho, hx, h => law0_SpoilInts.pt23_of ⟨fun hlt => by omega, fun _ => h τ hx⟩
  | d + 1, k, τ, ys, hd, hk, ho, hx, h => by
    refine law0_SpoilInts.pt23_of ⟨fun _ => ?_, fun hge => by omega⟩
    obtain ⟨b, o, hp, he⟩ := OwnI.stores (T := 3) (v := -77) (Ψ := fun σ1 => I64 ((k : Int) + 1) ∧ law0_SpoilInts.pt23 R p n c ((k : Int) + 1) σ1) ho (i := k) (by omega) size3 fun σ' ho' hx' =>
      ⟨i64_succ (show k < n by omega) hn, fill23 hn d (k + 1) σ' _ (by omega) (by omega) ho' (hx.trans hx') h⟩
    exact ⟨b, o, hp, by omega, by rw [← hp]; simpa using he⟩

theorem OwnI.of_own {ik : IntKind} {cs : List Value} {xs : List Int} (h : Own 1 σ p n c cs) (he : cs = xs.map (.int ik)) : OwnI ik σ p n c xs := by subst he; exact h

theorem spoilInts_spec {xs : List Int} (ho : OwnI .i64 σ p n c xs) (hb : n ≤ 1000000) (h : ∀ σ', Ext (σ.del p) σ' → R (.returned (.tuple #[])) σ') : Spec prog law0_SpoilInts.fid #[.slice p n c] σ R := by
  refine law0_SpoilInts.start fun b6 hb6 => ?_
  have hx0 : Ext σ (σ.set b6 (.cells #[.int .i64 (-77)] 3 (0, 0))) := .set hb6
  refine app_eff2 (ys := [.int .i64 (-77)]) (Own.mono hx0 ho) ⟨rfl, by decide, .inr ⟨b6, 0, rfl, by simp [Hp.ld, Hp.set_same], trivial⟩⟩ (OneC.map_int (xs := [-77])) (by omega) fun p' c' σ1 ho1 hx1 hcase => ⟨_, _, _, rfl, ?_⟩
  have ho1' : OwnI .i64 σ1 p' (n + 1) c' (xs ++ [-77]) := OwnI.of_own ho1 (by simp)
  refine fill9 (σ := σ1) (by omega) (n + 1) 0 σ1 _ (by omega) (by omega) ho1' (.refl _) fun σ2 ys ho2 hx2 => ?_
  rcases hcase with ⟨rfl, rfl, hle⟩ | ⟨hlt, hx, hnb⟩
  · have ho2' : OwnI .i64 σ2 p' n c' (ys.take n) := OwnI.of_own (Own.take ho2 (Nat.le_succ n)) (by simp [List.map_take])
    exact fill23 (σ := σ2) (by omega) n 0 σ2 _ (by omega) (by omega) ho2' (.refl _) fun σ3 hx3 => h σ3 ((((hx0.del p').trans hx1).trans hx2).trans hx3 |>.trans (Ext.of_del _ _))
  · have hxa : Ext σ (σ1.del p') := Ext.into_del (hx0.trans hx) fun a ha => ext_none hx0 (hnb a ha)
    have hxb : Ext σ σ2 := (hxa.trans hx2).trans (Ext.of_del _ _)
    exact fill23 (σ := σ2) (by omega) n 0 σ2 _ (by omega) (by omega) (Own.mono hxb ho) (.refl _) fun σ3 hx3 => h σ3 (((hxb.del p).trans hx3).trans (Ext.of_del _ _))
end

theorem wrap64_nat {x : Nat} (h : x < 9223372036854775808) : IntKind.i64.wrap (x : Int) = x := by
  simp [IntKind.wrap, IntKind.bits, IntKind.signed]; omega
theorem low_pos (x : Int) : 0 ≤ Go.bits .and .i64 x 9223372036854775807 := by
  unfold Go.bits
  show 0 ≤ IntKind.i64.wrap ((BitVec.ofInt 64 x &&& BitVec.ofInt 64 9223372036854775807).toNat : Int)
  have h : (BitVec.ofInt 64 x &&& BitVec.ofInt 64 9223372036854775807).toNat < 9223372036854775808 := by
    rw [BitVec.toNat_and, show (BitVec.ofInt 64 9223372036854775807).toNat = 2 ^ 63 - 1 by decide, Nat.and_two_pow_sub_one_eq_mod]
    exact Nat.mod_lt _ (by decide)
  rw [wrap64_nat h]; omega

theorem stateOf_active {ms : List Mem} {x : Int} (hok : OkR ms) (h : x ∈ actives ms) : stateOf ms x = 2 := by
  unfold actives at h
  obtain ⟨m, hm, rfl⟩ := List.mem_map.1 h
  obtain ⟨hm, hs⟩ := List.mem_filter.1 hm
  have hs : m.state = 2 := by simpa using hs
  obtain ⟨k, hk⟩ := List.getElem?_of_mem hm
  have : ms.find? (fun u => decide (u.id = m.id)) = some m := by
    refine find_of hk rfl fun u hu he => ?_
    obtain ⟨j, hj⟩ := List.getElem?_of_mem hu
    have hjk : j < k := by have := (List.getElem?_eq_some_iff.1 hj).1; simp at this; omega
    rw [List.getElem?_take, if_pos hjk] at hj
    have := rise_get hok.2 hjk (ids_at hj) (ids_at hk)
    omega
  simp [stateOf, hok, this, hs]
end TwR
end
section
set_option linter.unusedVariables false
namespace TwR
open Go Tw

section
variable {R : Ending → Hp → Prop} {σ : Hp} {p q : Option Addr} {n c d : Nat} {xs : List Int}
theorem copyBytes_spec (hr : RdI .u8 σ p n xs) (hb : n ≤ 140737488355328) (h : ∀ p' c' σ', OwnI .u8 (σ.new σ') p' n c' xs → Ext σ σ' → R (.returned (.slice p' n c')) σ') : Spec prog law0_CopyBytes.fid #[.slice p n c] σ R := by
  refine law0_CopyBytes.start fun b hn => ?_
  refine app_eff Own.empty ((RdC.of_map hr).mono (.set hn)) OneC.map_int (by omega) fun p' c' σ' hown hext => ?_
  rw [Hp.del_set_self hn] at hext
  have hx : Ext σ σ' := hext.trans (Ext.of_del _ _)
  have hpn : ∀ a, p' = some a → σ a.block = none := fun a ha => by
    cases hb : σ a.block with
    | none => rfl
    | some o => exact absurd (hext _ _ hb) (by simp [Hp.del, ha])
  refine ⟨p', 0 + n, c', rfl, ?_⟩
  rw [Nat.zero_add] at hown ⊢
  exact h p' c' σ' (Own.to_new (by simpa using hown) hpn) hx

theorem lend_spec (hr : RdI .u8 σ p n xs) (hb : n ≤ 1000000000) (h : ∀ p' c' σ', OwnI .u8 (σ.new σ') p' (n + 2) c' (xs ++ [201, 201]) → Ext σ σ' → R (.returned (.slice p' n c')) σ') : Spec prog law0_LendBytes.fid #[.slice p n c] σ R := by
  refine law0_LendBytes.start (copyBytes_spec hr (by omega) fun p1 c1 σ1 ho1 hx1 => ⟨_, _, _, rfl, fun b6 hb6 => ?_⟩)
  refine app_lit (ys := [.int .u8 201, .int .u8 201]) hx1 ho1 rfl (OneC.map_int (xs := [201, 201])) (by omega) (fun p2 c2 σ2 ho2 hx2 _ => ⟨_, _, _, rfl, ?_⟩) hb6
  have ho2' : OwnI .u8 (σ.new σ2) p2 (n + 2) c2 (xs ++ [201, 201]) := OwnI.of_own ho2 (by simp)
  have := ho2'.room.1
  refine ⟨by omega, ?_⟩
  rw [Int.toNat_natCast]
  exact h p2 c2 σ2 ho2' hx2

theorem fill13 {t : Bool} (hn : n ≤ 4611686018427387904) : ∀ (d k : Nat) (τ : Hp) (ys : List Int), n - k = d → k ≤ n → OwnI .u8 τ p n c ys → Ext (σ.del p) (τ.del p) → (∀ σ', Ext (σ.del p) (σ'.del p) → R (.returned (.bool t)) σ') →
    law0_KeptBytes.pt13 R p n c t k τ
  | 0, k, τ, ys, hd, hk, ho, hx, h => law0_KeptBytes.pt13_of ⟨fun hlt => by omega, fun _ => h τ hx⟩
  | d + 1, k, τ, ys, hd, hk, ho, hx, h => by
    refine law0_KeptBytes.pt13_of ⟨fun _ => ?_, fun hge => by omega⟩
    obtain ⟨b, o, hp, he⟩ := OwnI.stores (T := 5) (v := 201) (Ψ := fun σ1 => I64 ((k : Int) + 1) ∧ law0_KeptBytes.pt13 R p n c t ((k : Int) + 1) σ1) ho (i := k) (by omega) size5 fun σ' ho' hx' =>
      ⟨i64_succ (show k < n by omega) hn, fill13 hn d (k + 1) σ' _ (by omega) (by omega) ho' (hx.trans hx') h⟩
    exact ⟨b, o, hp, by omega, by rw [← hp]; simpa using he⟩

theorem kept_spec (hb : n ≤ 1000000000) (ho : OwnI .u8 σ p (n + 2) c (xs ++ [201, 201])) (hr : RdI .u8 σ q n xs) (h : ∀ σ', Ext (σ.del p) σ' → R (.returned (.bool true)) σ') : Spec prog law0_KeptBytes.fid #[.slice p n c, .slice q n d] σ R := by
  have hxl := hr.1
  obtain ⟨hcap, L, hC, hL⟩ := ho.room
  have e2 : Int.toNat ((n : Int) + 2) = n + 2 := by omega
  have hrd0 : RdI .u8 σ p n xs := by
    refine OwnI.rd (c := c) (OwnI.of_own (Own.take ho (show n ≤ n + 2 by omega)) ?_)
    rw [← List.map_take, Nat.mul_one, List.take_left' hxl]
  refine law0_KeptBytes.start ⟨by unfold I64; omega, by omega, sameBytes_spec hrd0 hr ⟨_, rfl, fun _ => ⟨by omega, fun b2 hb2 => ?_⟩, fun hf => by simp at hf⟩⟩
  rw [e2, Int.toNat_natCast, show n + 2 - n = 2 by omega]
  have hx2 : Ext σ (σ.set b2 (.cells #[.int .u8 201, .int .u8 201] 5 (0, 0))) := .set hb2
  have hlit : RdI .u8 (σ.set b2 (.cells #[.int .u8 201, .int .u8 201] 5 (0, 0))) (some ⟨b2, 0, none⟩) 2 [201, 201] := .of_rdc ⟨rfl, by decide, .inr ⟨b2, 0, rfl, by simp [Hp.ld, Hp.set_same], by simp [Hp.ld, Hp.set_same], trivial⟩⟩
  have hsub : RdI .u8 σ (slP p n c 1) 2 [201, 201] := by
    have := hC.rd (i := n) (n := 2) (by omega) (by decide)
    refine .of_rdc ?_
    have e : List.take (2 * 1) (List.drop (n * 1) L) = [201, 201].map (.int .u8) := by
      have h1 : List.drop (n * 1) (List.take ((n + 2) * 1) L) = List.take (2 * 1) (List.drop (n * 1) L) := by rw [List.drop_take]; congr 1; omega
      rw [← h1, hL, ← List.map_drop, Nat.mul_one, List.drop_left' hxl]
    rwa [e] at this
  refine sameBytes_spec (hsub.mono hx2) hlit ⟨_, rfl, ?_⟩
  rw [show decide (([201, 201] : List Int) = [201, 201]) = true by decide]
  refine fill13 (σ := σ.set b2 (.cells #[.int .u8 201, .int .u8 201] 5 (0, 0))) (by omega) (n + 2) 0 _ _ (by omega) (by omega) (Own.mono hx2 ho) (.refl _) fun σ' hx' => ?_
  exact h σ' (((hx2.del p).trans hx').trans (Ext.of_del _ _))
end

def encOf (e : Nat) (ms : List Mem) : List Int × Int := if OkR ms then (enc e ms, 0) else ([], 130)
theorem EncR.uni {e : Nat} {ms : List Mem} {σ : Hp} {Φ : Option Addr → Nat → Nat → Int → Hp → Prop} (h : ∀ p n c σ', OwnI .u8 (σ.new σ') p n c (encOf e ms).1 → Ext σ σ' → Φ p n c (encOf e ms).2 σ') : EncR e ms σ Φ := by
  constructor
  · intro hb
    have := h none 0 0 σ (by simp only [encOf, if_neg hb]; exact OwnI.nil) (.refl _)
    simpa only [encOf, if_neg hb] using this
  · intro hok p n c σ' ho hx
    have := h p n c σ' (by simp only [encOf, if_pos hok]; exact ho) hx
    simpa only [encOf, if_pos hok] using this

def DecTo (bs : List Int) (e : Nat) (ms : List Mem) (code : Int) : Prop := (code = 0 ∧ Tr bs e ms ∧ ∀ e0 ms0, Tr bs e0 ms0 → e = e0 ∧ ms = ms0) ∨ (code = 130 ∧ e = 0 ∧ ms = [] ∧ ∀ e0 ms0, ¬ Tr bs e0 ms0)
theorem DecTo.uni {bs : List Int} {e e' : Nat} {ms ms' : List Mem} {code code' : Int} (h : DecTo bs e ms code) (h' : DecTo bs e' ms' code') : e = e' ∧ ms = ms' ∧ code = code' := by
  rcases h with ⟨h1, h2, h3⟩ | ⟨h1, h2, h3, h4⟩ <;> rcases h' with ⟨g1, g2, g3⟩ | ⟨g1, g2, g3, g4⟩
  · obtain ⟨a, b⟩ := h3 _ _ g2; exact ⟨a, b, by rw [h1, g1]⟩
  · exact absurd h2 (g4 _ _)
  · exact absurd g2 (h4 _ _)
  · exact ⟨by rw [h2, g2], by rw [h3, g3], by rw [h1, g1]⟩
theorem DecR.uni {bs : List Int} {σ : Hp} {Φ : Int → Option Addr → Nat → Nat → Int → Hp → Prop} (h : ∀ (e : Nat) ms code p n c σ', DecTo bs e ms code → RdM (σ.new σ') p n ms → Ext σ σ' → Φ e p n c code σ') : DecR bs σ Φ :=
  ⟨fun hb => h 0 [] 130 none 0 0 σ (.inr ⟨rfl, rfl, rfl, hb⟩) RdS.nil (.refl _), fun e ms p n c σ' ht hu hr hx => h e ms 0 p n c σ' (.inl ⟨rfl, ht, hu⟩) hr hx⟩

theorem ringBytes_law {R : Ending → Hp → Prop} {σ : Hp} {e : Nat} {p q : Option Addr} {n c k d : Nat} {ms : List Mem} {bs : List Int} (hr : RdM σ p n ms) (hs : Small ms) (ht : ∀ m ∈ ms, ∀ t ∈ m.toks, W32 t) (he : e < 18446744073709551616)
    (hq : RdI .u8 σ q k bs) (h8 : By8 bs) (hk : k ≤ 1048576) (h : ∀ σ', Ext σ σ' → R (.returned (.bool true)) σ') : Spec prog law13_RingBytes.fid #[vRing e p n c, .slice q k d] σ R := by
  refine law13_RingBytes.start (refEncode_spec hr he (.uni fun pw nw cw σ1 how hx1 => ⟨_, _, _, _, rfl, ?_⟩))
  refine refDecode_spec (hq.mono hx1) h8 hk (.uni fun eb mb codeb pb nb cb σ2 hdb hrb hx2 => ⟨_, _, _, _, _, rfl, ?_⟩)
  have hx02 := hx1.trans hx2
  refine copyRing_spec (hr.mono' hx02) hs fun p3 c3 σ3 ho3 hx3 => ⟨_, _, _, _, rfl, ?_⟩
  have hr3 : RdM σ3 p3 n ms := (OwnL.rd EMem.mono ho3).mono EMem.mono (Ext.of_new _ _)
  have hx03 := hx02.trans hx3
  refine lend_spec (hq.mono hx03) (by omega) fun p4 c4 σ4 ho4 hx4 => ⟨_, _, _, rfl, ?_⟩
  have ho4' : OwnI .u8 σ4 p4 (k + 2) c4 (bs ++ [201, 201]) := Own.mono (Ext.of_new _ _) ho4
  have hb4 : ∀ a, p4 = some a → σ4 a.block ≠ none := ho4'.block
  have hn4 : ∀ a, p4 = some a → σ3 a.block = none := ho4.new_none
  have hx04 := hx03.trans hx4
  refine encode_spec (hr3.mono' hx4) hs he (.uni fun p5 n5 c5 σ5 ho5 hx5 => ⟨_, _, _, _, rfl, ?_⟩)
  have hx05 := hx04.trans hx5
  refine decode_spec (bs := bs) ?_ h8 (.uni fun e6 m6 code6 p6 n6 c6 σ6 hd6 hr6 hx6 => ⟨_, _, _, _, _, rfl, ?_⟩)
  · have := (OwnI.rd (OwnI.of_own (xs := bs) (Own.take (Own.mono hx5 ho4') (show k ≤ k + 2 by omega)) (by rw [← List.map_take, Nat.mul_one, List.take_left' hq.1])) : RdI .u8 σ5 p4 k bs)
    exact this
  obtain ⟨rfl, rfl, rfl⟩ := hd6.uni hdb
  have hx06 := hx05.trans hx6
  have hx36 : Ext σ3 σ6 := (hx4.trans hx5).trans hx6
  refine sameRing_spec ((hr3.mono' hx36)) (hr.mono' hx06) ⟨_, rfl, fun hf => by simp at hf, fun _ => ?_⟩
  refine kept_spec (by omega) (Own.mono (hx5.trans hx6) ho4') (hq.mono hx06) fun σ7 hx7 => ⟨_, rfl, fun hf => by simp at hf, fun _ => ⟨fun hn => absurd rfl hn, fun _ => ⟨fun hn => absurd rfl hn, fun _ => ?_⟩⟩⟩
  have y37 : Ext σ3 σ7 := (Ext.into_del hx36 hn4).trans hx7
  have y07 : Ext σ σ7 := hx03.trans y37
  have hc7 : RdI .u8 σ7 p5 n5 (encOf e ms).1 := (ho5.rd.mono ((Ext.new_del hb4).trans (hx6.del p4))).mono hx7
  have hw7 : RdI .u8 σ7 pw nw (encOf e ms).1 := (how.rd.mono (Ext.of_new _ _)).mono ((hx2.trans hx3).trans y37)
  refine sameBytes_spec hc7 hw7 ⟨_, rfl, fun hf => by simp at hf, fun _ => ?_⟩
  have hd7 : RdM σ7 p6 n6 m6 := (RdM.mono' (Ext.new_del fun a ha hnn => hb4 a ha (ext_none hx5 hnn)) hr6).mono' hx7
  have hb7 : RdM σ7 pb nb m6 := ((RdM.mono' (Ext.of_new _ _) hrb).mono' hx3).mono' y37
  refine sameRing_spec hd7 hb7 ⟨_, rfl, fun hf => by simp at hf, fun _ => ⟨fun h0 => ?_, fun _ => ?_⟩⟩
  · have hok : OkR ms := by
      unfold encOf at h0
      split at h0
      · assumption
      · simp at h0
    have eenc : (encOf e ms).1 = enc e ms := by simp [encOf, hok]
    rw [eenc] at hc7
    have htr : Tr (enc e ms) e ms := ⟨rfl, hok, ht, he⟩
    refine decode_spec hc7 (enc_by8 he) ⟨fun hb => absurd htr (hb _ _), fun e8 m8 p8 n8 c8 σ8 _ hu hr8 hx8 => ⟨_, _, _, _, _, rfl, fun _ => ?_, fun hn => absurd rfl hn⟩⟩
    obtain ⟨rfl, rfl⟩ := hu _ _ htr
    refine sameRing_spec (RdM.mono' (Ext.of_new _ _) hr8) (hr.mono' (y07.trans hx8)) ⟨_, rfl, fun _ => ?_, fun hf => by simp at hf⟩
    exact awake_spec fun σ9 hx9 => ⟨_, rfl, h σ9 ((y07.trans hx8).trans hx9)⟩
  · exact awake_spec fun σ9 hx9 => ⟨_, rfl, h σ9 (y07.trans hx9)⟩
end TwR
end
section
/-
  Tw, part N: from a contract to a row: what an argument reads as; what a law leaves.
-/
set_option linter.unusedVariables false
namespace Tw
open Go Go.RowKit Go.ChangeShapes Go.WideShapes Go.Deep

/-- All that a memory holds. -/
def full (w : World) : Hp := fun b => w.heap[b]?
theorem full_sat (w : World) : Sat (full w) w := fun _ _ h => h
theorem full_ld {w : World} {a : Addr} {v : Value} (h : w.cell? a = some v) : (full w).ld a = some v := h

theorem below_of {w w' : World} {σ' : Hp} (hx : Ext (full w) σ') (hs : Sat σ' w') (ho : SameOs w w') (hout : w'.output = w.output) (hg : w.heap.size ≤ w'.heap.size) : Below w.heap.size w w' :=
  ⟨ho.1, ho.2.1, hout, hg, fun k hk => by
    have h1 : w.heap[k]? = some w.heap[k] := Array.getElem?_eq_getElem hk
    rw [h1]; exact hs _ _ (hx _ _ h1)⟩

/-- A law: true, and all that was there stays. -/
def Lawful (P : Program) (f : FuncId) (args : Array Value) (w : World) : Prop := Spec P f args (full w) (fun e σ' => e = .returned (.bool true) ∧ Ext (full w) σ')
theorem Lawful.calls {P : Program} {f : FuncId} {args : Array Value} {w : World} (h : Lawful P f args w) : Calls P f args w fun e w' => e = .returned (.bool true) ∧ Below w.heap.size w w' :=
  (h w (fun _ => False) (full_sat w) (fun _ h => h.elim)).mono fun e w' ⟨σ', ⟨he, hx⟩, hf⟩ => ⟨he, below_of hx hf.sat hf.os hf.out hf.grow⟩

section
variable {H : Type} {enc : TypeId × Value → H} {P : Program}

theorem trodAll_below (hl : laidOutB P = true) {W W' : World} (hb : Below W.heap.size W W') : ∀ {ts : List TypeId} {vs : List Value} {ds : List (DataW H)} {ps : List MemPlace}, (ts.all fun t => P.readableRec t && Nat.blt t P.types.size) = true → (∀ x ∈ ps, x.block < W.heap.size) →
    DataW.TrodAll enc P W 0 (fun _ => true) true ts vs ds ps → DataW.TrodAll enc P W' 0 (fun b => decide (b < W.heap.size)) true ts vs ds ps
  | [], [], [], ps, _, _, h => h
  | t :: ts, v :: vs, d :: ds, ps, hr, hlt, ⟨p, q, h1, h2, e⟩ => by
    simp only [List.all_cons, Bool.and_eq_true] at hr
    subst e
    exact ⟨p, q, Below.trod hl hr.1.1 (Nat.le_of_ble_eq_true hr.1.2) h1 hb (fun x hx => hlt x (List.mem_append_left _ hx)), trodAll_below hl hb hr.2 (fun x hx => hlt x (List.mem_append_right _ hx)) h2, rfl⟩
  | [], _ :: _, _, _, _, _, h => h.elim
  | [], [], _ :: _, _, _, _, h => h.elim
  | _ :: _, [], _, _, _, _, h => h.elim
  | _ :: _, _ :: _, [], _, _, _, h => h.elim

/-- What a law leaves. -/
theorem law_post {f : Func} {s : ChangeSpec} {W W' : World} {args : Array Value} {ds gs : List (DataW H)} {before : List MemPlace} {tb : TypeId} (hl : laidOutB P = true) (hr : (f.params.toList.all fun t => P.readableRec t && Nat.blt t P.types.size) = true)
    (hrt : f.resultTypes = #[tb]) (htb : P.underlying tb = some .bool) (hv : s.vars = []) (hfn : (s.fn H (ds ++ gs)).results = [.lit (.bool true)] ∧ (s.fn H (ds ++ gs)).args = ds ∧ (s.fn H (ds ++ gs)).vars = [])
    (hW : DataW.Whole enc P f.params.toList s.vars false W args.toList ds gs before) (hb : Below W.heap.size W W') : s.post enc P f false true false false W args (.bool true) W' := by
  have hlt : ∀ p ∈ before, p.block < W.heap.size := fun p hp => hW.lt p hp
  have hW' := hW
  obtain ⟨p, q, hA, hV, rfl, hfz, _⟩ := hW'
  refine ⟨ds, gs, p ++ q, [], p, [], hW, ?_, ?_, ?_, World.keptBut_mono (fun x hx => ⟨hx, ?_⟩) (hb.frame (· ∈ p ++ q)), fun h => by cases h⟩
  · rw [hfn.1, hrt]
    exact trodAll_mk1 (shut_bool htb true)
  · rw [hfn.2.1]
    exact trodAll_below hl hb hr (fun x hx => hlt x (List.mem_append_left _ hx)) hA
  · rw [hfn.2.2, hv]; rfl
  · rw [hv] at hV
    have : q = [] := by
      cases gs with
      | nil => exact hV
      | cons _ _ => exact hV.elim
    subst this
    exact .inr (.inl (by simpa using hx))

/-! What values read as -/
def Rdt (P : Program) {α : Type} (t : TypeId) (E : Hp → List Value → α → Prop) (I : α → Prop) : Prop :=
  ∀ {H : Type} {enc : TypeId × Value → H} {w : World} {base : Nat} {sp : Nat → Bool} {held : Bool} {fuel : Nat} {cs : List Value} {x : DataW H × List MemPlace},
    DataW.trod enc P w base sp held fuel t cs = some x → (∀ n ∈ x.1.weights P t, n ≤ reachBytes) → ∃ y, E (full w) cs y ∧ I y

theorem Rdt.int {t : TypeId} {k : IntKind} (ht : P.underlying t = some (.int k)) : Rdt P t (EInt k) (fun x => (Lit.int k x).wf = true) := fun h _ => by
  obtain ⟨n, rfl, rfl, hw⟩ := DataW.trod_int ht h
  exact ⟨n, rfl, hw⟩

theorem weights_mem {e : TypeId} : ∀ {l : List (DataW H)} {d : DataW H}, d ∈ l → ∀ n ∈ d.weights P e, n ∈ DataW.weightsAll P e l
  | x :: l, d, hd, n, hn => by
    simp only [DataW.weightsAll, List.mem_append]
    rcases List.mem_cons.1 hd with rfl | hd
    · exact .inl hn
    · exact .inr (weights_mem hd n hn)
theorem weights_each {n : Nat} : ∀ {ts : List TypeId} {l : List (DataW H)} {j : Nat} {t : TypeId} {d : DataW H}, ts[j]? = some t → l[j]? = some d → n ∈ d.weights P t → n ∈ DataW.weightsEach P ts l := fun ht hd hn => DataW.weights_mem_each ht hd n hn

theorem LdL.snoc {σ : Hp} {b : Nat} : ∀ {l m : List Value} {o : Nat}, LdL σ b o l → LdL σ b (o + l.length) m → LdL σ b o (l ++ m)
  | [], m, o, _, h => by simpa using h
  | v :: l, m, o, h, h' => ⟨h.1, LdL.snoc h.2 (by simpa [Nat.add_assoc, Nat.add_comm 1] using h')⟩

theorem RdS.mk' {α : Type} {s : Nat} {E : Hp → List Value → α → Prop} {I : α → Prop} {σ : Hp} {b o : Nat} : ∀ {n : Nat}, n ≤ 4611686018427387904 → (∀ i, i < n → ∃ vs x, vs.length = s ∧ LdL σ b (o + i * s) vs ∧ E σ vs x ∧ I x) →
    ∃ xs, RdS s E σ (some ⟨b, o, none⟩) n xs ∧ ∀ x ∈ xs, I x
  | 0, _, _ => ⟨[], RdS.nil, by simp⟩
  | n + 1, hn, h => by
    obtain ⟨xs, ⟨h1, cs, ⟨hl, _, h2⟩, h3⟩, hI⟩ := RdS.mk' (n := n) (by omega) (fun i hi => h i (by omega))
    obtain ⟨vs, x, hv, hld, hE, hx⟩ := h n (by omega)
    have hcs : LdL σ b o cs := by
      rcases h2 with rfl | ⟨b', o', hp, hl'⟩
      · have : cs = [] := List.eq_nil_of_length_eq_zero (by simpa using hl)
        subst this; trivial
      · cases hp; exact hl'
    refine ⟨xs ++ [x], ⟨by simp [h1], cs ++ vs, ⟨by rw [List.length_append, hl, hv, Nat.add_mul]; omega, hn, .inr ⟨b, o, rfl, hcs.snoc (by rw [hl]; exact hld)⟩⟩, h3.snoc hv hE⟩, fun y hy => ?_⟩
    rcases List.mem_append.1 hy with hy | hy
    · exact hI y hy
    · simp at hy; subst hy; exact hx

def ESl {α : Type} (s : Nat) (E : Hp → List Value → α → Prop) (σ : Hp) (vs : List Value) (xs : List α) : Prop := ∃ p n c, vs = [.slice p n c] ∧ RdS s E σ p n xs

theorem cell_spot {w : World} {a : Addr} {v : Value} (h : w.cell? a = some v) : a.spot = none := by
  unfold World.cell? at h
  split at h
  · split at h
    · cases h
    · rename_i hs; simpa using hs
  · cases h

theorem Rdt.slice {α : Type} {t e : TypeId} {s bs : Nat} {E : Hp → List Value → α → Prop} {I : α → Prop} (ht : P.underlying t = some (.slice e)) (hs : P.cellsOf e = s) (hbs : P.bytesOf e = bs) (hs0 : 0 < s) (hb0 : 0 < bs) (he : Rdt P e E I) :
    Rdt P t (ESl s E) (fun xs => (∀ x ∈ xs, I x) ∧ xs.length * bs ≤ reachBytes) := by
  intro H enc w base sp held fuel cs x h hw
  subst hs hbs
  rcases open_slice ht h with ⟨rfl, rfl⟩ | ⟨a, len, cap, m, n, D, Pl, rfl, hb, hl, hm, hmm, rfl, hi⟩
  · exact ⟨[], ⟨none, 0, 0, rfl, RdS.nil⟩, by simp, by simp⟩
  · have hlm : len ≤ m := by rw [hmm]; split <;> omega
    have hw1 : len * P.bytesOf e ≤ reachBytes := by
      have := hw _ (by simp only [DataW.weights, ht]; exact List.mem_cons_self ..)
      simp only [List.length_map, List.length_range] at this
      exact Nat.le_trans (Nat.mul_le_mul_right _ (by omega)) this
    have hlen : len ≤ reachBytes := Nat.le_trans (Nat.le_mul_of_pos_right _ hb0) hw1
    have hlen62 : len ≤ 4611686018427387904 := Nat.le_trans hlen (by decide)
    have hweight : ∀ i, i < len → ∀ k ∈ (D i).weights P e, k ≤ reachBytes := fun i hi' k hk => hw k (by
      simp only [DataW.weights, ht]
      exact List.mem_cons_of_mem _ (List.mem_append_left _ (weights_mem (List.mem_map.2 ⟨i, List.mem_range.2 hi', rfl⟩) k hk)))
    by_cases h0 : len = 0
    · subst h0
      exact ⟨[], ⟨some a, 0, cap, rfl, RdS.nil⟩, by simp, by simp⟩
    · have hspot : a.spot = none := by
        obtain ⟨cs', hc, _⟩ := hi 0 (by omega)
        obtain ⟨_, hcl, hat⟩ := World.cells?_some hc
        have h1 := hat 0 hs0
        rw [List.getElem?_eq_getElem (by omega)] at h1
        have := cell_spot h1
        simpa [Addr.add] using this
      obtain ⟨b, o, sp'⟩ := a
      simp only at hspot
      subst hspot
      obtain ⟨xs, hr, hI⟩ := RdS.mk' (s := P.cellsOf e) (E := E) (I := I) (σ := full w) (b := b) (o := o) hlen62 (fun i hi' => by
        obtain ⟨cs', hc, ht'⟩ := hi i (by omega)
        obtain ⟨_, hcl, hat⟩ := World.cells?_some hc
        obtain ⟨y, hE, hy⟩ := he ht' (hweight i hi')
        refine ⟨cs', y, hcl, LdL.of fun j v hj => ?_, hE, hy⟩
        have hj' : j < P.cellsOf e := by have := (List.getElem?_eq_some_iff.1 hj).1; omega
        have h1 := hat j hj'
        rw [hj, add_off, add_off] at h1
        exact full_ld h1)
      exact ⟨xs, ⟨some ⟨b, o, none⟩, len, cap, rfl, hr⟩, hI, by rw [hr.1]; exact hw1⟩
end
end Tw
end
section
set_option linter.unusedVariables false
namespace TwR
open Go Tw Go.ChangeShapes Go.WideShapes Go.RowKit

theorem own : ownKnob prog.godebug = none := by kernel_rfl
theorem laidOut : laidOutB prog = true := by kernel_rfl
theorem wf32 {x : Int} (h : (Lit.int .u32 x).wf = true) : W32 x := by
  simp [Lit.wf, IntKind.min, IntKind.max, IntKind.signed, IntKind.bits] at h
  unfold W32; omega
theorem wf64 {x : Int} (h : (Lit.int .u64 x).wf = true) : 0 ≤ x ∧ x ≤ top64 := by
  simp [Lit.wf, IntKind.min, IntKind.max, IntKind.signed, IntKind.bits] at h
  unfold top64; omega
theorem wf8 {x : Int} (h : (Lit.int .u8 x).wf = true) : 0 ≤ x ∧ x < 256 := by
  simp [Lit.wf, IntKind.min, IntKind.max, IntKind.signed, IntKind.bits] at h
  omega

theorem rdt_toks : Rdt prog 53 (ESl 1 (EInt .u32)) (fun xs => (∀ x ∈ xs, (Lit.int .u32 x).wf = true) ∧ xs.length * 4 ≤ reachBytes) :=
  Rdt.slice Go.Proofs.Try.underlying53 (by kernel_rfl) (by kernel_rfl) (by decide) (by decide) (Rdt.int Go.Proofs.Try.underlying26)
theorem rdt_bytes : Rdt prog 37 (ESl 1 (EInt .u8)) (fun xs => (∀ x ∈ xs, (Lit.int .u8 x).wf = true) ∧ xs.length * 1 ≤ reachBytes) :=
  Rdt.slice Go.Proofs.Try.underlying37 (by kernel_rfl) (by kernel_rfl) (by decide) (by decide) (Rdt.int Go.Proofs.Try.underlying5)

theorem weights_struct {H : Type} {P : Program} {t : TypeId} {fs : Array Field} (ht : P.underlying t = some (.struct fs)) {ds : List (DataW H)} {j : Nat} {f : Field} {d : DataW H} (hf : fs[j]? = some f) (hd : ds[j]? = some d) (hw : ∀ n ∈ (DataW.agg ds).weights P t, n ≤ reachBytes) :
    ∀ n ∈ d.weights P f.type, n ≤ reachBytes := fun n hn => hw n (by
  simp only [DataW.weights, ht]
  exact weights_each (by simp [hf]) hd hn)

set_option maxRecDepth 100000 in
theorem rdt_mem : Rdt prog 55 EMem (fun m => (∀ t ∈ m.toks, W32 t) ∧ m.toks.length ≤ 35184372088832) := by
  intro H enc w base sp held fuel cs x h hw
  obtain ⟨xs, n, _, rfl, hlen, hxl, hg⟩ := DataW.trod_struct Go.Proofs.Try.underlying55 h
  rw [show prog.cellsOf 55 = 3 by kernel_rfl] at hlen
  match cs, hlen, xs, hxl with
  | [c0, c1, c2], _, [y0, y1, y2], _ =>
    have h0 := hg 0 _ rfl
    have h1 := hg 1 _ rfl
    have h2 := hg 2 _ rfl
    simp only [show prog.cellsOf 3 = 1 by kernel_rfl, show prog.cellsOf 53 = 1 by kernel_rfl, List.drop, List.take, List.getElem?_cons_zero, List.getElem?_cons_succ] at h0 h1 h2
    obtain ⟨a, e0, _, _⟩ := DataW.trod_int Go.Proofs.Try.underlying3 h0
    obtain ⟨b, e1, _, _⟩ := DataW.trod_int Go.Proofs.Try.underlying3 h1
    obtain ⟨ts, ⟨p, k, c, e2, hr⟩, hI, hL⟩ := rdt_toks h2 (weights_struct Go.Proofs.Try.underlying55 (j := 2) (ds := [y0.1, y1.1, y2.1]) (f := { name := "Tokens", type := 53, offset := 2, embedded := false, tag := "", pkgPath := "", byteOffset := 16 }) rfl rfl (by simpa using hw))
    cases e0; cases e1; cases e2
    refine ⟨⟨a, b, ts⟩, ⟨p, k, c, rfl, hr⟩, fun t ht => wf32 (hI t ht), ?_⟩
    unfold reachBytes at hL
    show ts.length ≤ _
    omega
theorem rdt_mems : Rdt prog 23 (ESl 3 EMem) (fun ms => (∀ m ∈ ms, (∀ t ∈ m.toks, W32 t) ∧ m.toks.length ≤ 35184372088832) ∧ ms.length * 40 ≤ reachBytes) :=
  Rdt.slice Go.Proofs.Try.underlying23 (by kernel_rfl) (by kernel_rfl) (by decide) (by decide) rdt_mem

/-- A ring that comes in. -/
structure RingArg (W : World) (v : Value) (e : Nat) (p : Option Addr) (n c : Nat) (ms : List Mem) : Prop where
  val : v = vRing e p n c
  rd : RdM (full W) p n ms
  small : Small ms
  toks : ∀ m ∈ ms, ∀ t ∈ m.toks, W32 t
  epoch : e < 18446744073709551616
theorem RingArg.ep {W : World} {v : Value} {e : Nat} {p : Option Addr} {n c : Nat} {ms : List Mem} (h : RingArg W v e p n c ms) : (0 : Int) ≤ (e : Int) ∧ (e : Int) ≤ top64 := by
  have := h.epoch
  unfold top64; omega

set_option maxRecDepth 100000 in
theorem open_ring {H : Type} {enc : TypeId × Value → H} {W : World} {base : Nat} {v : Value} {d : DataW H} {ps : List MemPlace} {r : Reach} (hv : Value.okWide prog W r base 25 v) (h : DataW.Trod enc prog W 0 (fun _ => true) true 25 v d ps)
    (hw : ∀ n ∈ d.weights prog 25, n ≤ reachBytes) : ∃ e p n c ms, RingArg W v e p n c ms := by
  obtain ⟨cs, rfl, hsz⟩ := okWide_struct Go.Proofs.Try.underlying25 hv
  obtain ⟨fuel, hf⟩ := h
  obtain ⟨xs, n, _, hx, hlen, hxl, hg⟩ := DataW.trod_struct Go.Proofs.Try.underlying25 hf
  simp only [Prod.mk.injEq] at hx
  obtain ⟨l⟩ := cs
  rw [show prog.cellsOf 25 = 2 by kernel_rfl] at hlen
  match l, hlen, xs, hxl with
  | [c0, c1], _, [y0, y1], _ =>
    have h0 := hg 0 _ rfl
    have h1 := hg 1 _ rfl
    simp only [Value.cells, show prog.cellsOf 22 = 1 by kernel_rfl, show prog.cellsOf 23 = 1 by kernel_rfl, List.drop, List.take, List.getElem?_cons_zero, List.getElem?_cons_succ] at h0 h1
    obtain ⟨a, e0, _, wa⟩ := DataW.trod_int Go.Proofs.Try.underlying22 h0
    obtain ⟨ms, ⟨p, k, c, e2, hr⟩, hI, hL⟩ := rdt_mems h1 (weights_struct Go.Proofs.Try.underlying25 (j := 1) (ds := [y0.1, y1.1]) (f := { name := "Members", type := 23, offset := 1, embedded := false, tag := "", pkgPath := "", byteOffset := 8 }) rfl rfl (by rw [hx.1] at hw; simpa using hw))
    cases e0; cases e2
    have hw64 := wf64 wa
    obtain ⟨e, rfl⟩ : ∃ e : Nat, a = e := ⟨a.toNat, by omega⟩
    refine ⟨e, p, k, c, ms, rfl, hr, ⟨?_, fun m hm => (hI m hm).2⟩, fun m hm => (hI m hm).1, by unfold top64 at hw64; omega⟩
    unfold reachBytes at hL
    omega

theorem law_of {f : FuncId} {fn : Func} {s : ChangeSpec} {H : Type} {enc : TypeId × Value → H} {W : World} {args : Array Value} {ds gs : List (DataW H)} {before : List MemPlace} (hr : (fn.params.toList.all fun t => prog.readableRec t && Nat.blt t prog.types.size) = true)
    (hrt : fn.resultTypes = #[4]) (hv : s.vars = []) (hfn : (s.fn H (ds ++ gs)).results = [.lit (.bool true)] ∧ (s.fn H (ds ++ gs)).args = ds ∧ (s.fn H (ds ++ gs)).vars = [])
    (hW : DataW.Whole enc prog fn.params.toList s.vars false W args.toList ds gs before) (h : Lawful prog f args W) :
    Calls prog f args W fun e W' => ∃ v, e = .returned v ∧ s.post enc prog fn false true false false W args v W' :=
  h.calls.mono fun e W' ⟨he, hb⟩ => ⟨_, he, law_post laidOut hr hrt Go.Proofs.Try.underlying4 hv hfn hW hb⟩

/-- What is asked of the sizes, argument by argument. -/
theorem sized_of {H : Type} {ts : List TypeId} {ds : List (DataW H)} (h : (DataW.weightsEach prog ts ds).all (· ≤ reachBytes) = true) {j : Nat} {t : TypeId} {d : DataW H} (ht : ts[j]? = some t) (hd : ds[j]? = some d) : ∀ n ∈ d.weights prog t, n ≤ reachBytes :=
  fun n hn => by have := List.all_eq_true.1 h n (weights_each ht hd hn); simpa using this
end TwR
end
section
set_option linter.unusedVariables false
namespace TwR
open Go Tw Go.ChangeShapes Go.WideShapes Go.RowKit Go.Deep Go.Proofs.Ytggadohfepgdeaa

set_option maxRecDepth 100000 in
/-- Bytes that come in. -/
theorem open_bytes {H : Type} {enc : TypeId × Value → H} {W : World} {base : Nat} {v : Value} {d : DataW H} {ps : List MemPlace} {r : Reach} (hv : Value.okWide prog W r base 37 v) (h : DataW.Trod enc prog W 0 (fun _ => true) true 37 v d ps)
    (hw : ∀ n ∈ d.weights prog 37, n ≤ reachBytes) : ∃ p n c xs, v = .slice p n c ∧ RdI .u8 (full W) p n xs ∧ (∀ x ∈ xs, (Lit.int .u8 x).wf = true) ∧ n + 1 ≤ Rows.uptoBulk d + 1 := by
  obtain ⟨a, l, c, rfl⟩ := okWide_slice Go.Proofs.Try.underlying37 hv
  obtain ⟨fuel, hf⟩ := h
  obtain ⟨xs, ⟨p, n, c', e, hr⟩, hI, _⟩ := rdt_bytes hf hw
  have e' : [Value.slice a l c] = [.slice p n c'] := by simpa [Value.cells] using e
  cases e'
  refine ⟨a, l, c, xs, rfl, hr, hI, ?_⟩
  have len : ∀ l : List (DataW H), l.length ≤ Rows.uptoBulkAll l := fun l => by
    induction l with
    | nil => simp
    | cons x l ih =>
      have : 1 ≤ Rows.uptoBulk x := by
        cases x with
        | lit y => cases y <;> simp [Rows.uptoBulk]
        | _ => simp [Rows.uptoBulk]
      simp only [Rows.uptoBulkAll, List.length_cons]; omega
  rcases open_slice Go.Proofs.Try.underlying37 hf with ⟨h1, h2⟩ | ⟨a', l', c', m, k, D, Pl, h1, _, _, _, _, h2, _⟩
  · simp [Value.cells] at h1
    obtain ⟨_, rfl, _⟩ := h1
    omega
  · simp [Value.cells] at h1
    obtain ⟨_, rfl, _⟩ := h1
    simp only [Prod.mk.injEq] at h2
    rw [h2.1]
    have := len ((List.range l).map D)
    rw [List.length_map, List.length_range] at this
    simp only [Rows.uptoBulk]; omega

theorem short_bytes {H : Type} {d0 d1 : DataW H} {n : Nat} (hk : Rows.uptoSmall H ([d0, d1] ++ []) = true) (h : n + 1 ≤ Rows.uptoBulk d1 + 1) : n ≤ 1048576 := by
  have := of_decide_eq_true hk
  simp only [List.append_nil, Rows.uptoBulkAll] at this
  omega
end TwR
end
