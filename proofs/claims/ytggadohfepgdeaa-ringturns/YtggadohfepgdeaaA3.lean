/-
  Part 3 of the proof that the law RingTurnsSaid of the given program answers true for every input of the given statement; the input reads behind the call as it did. (The texts: RA RM RB RC GD GD GD GD GD GD.)
-/
import Derived.Test.YtggadohfepgdeaaA2
set_option linter.all false
section
namespace TwR
open Go Tw

theorem has_spec {R : Ending → Hp → Prop} {σ : Hp} {p : Option Addr} {n c : Nat} {x : Int} {xs : List Int} (hr : RdI .i64 σ p n xs) (h : R (.returned (.bool (decide (x ∈ xs)))) σ) :
    Spec prog ref13_has.fid #[.slice p n c, .int .i64 x] σ R := by
  refine ref13_has.start ?_
  suffices H : ∀ d k : Nat, n - k = d → k ≤ n → x ∉ xs.take k → ref13_has.pt9 R p n c x k σ from H n 0 rfl (Nat.zero_le _) (by simp)
  intro d
  induction d with
  | zero =>
    intro k hd hk hno
    refine ref13_has.pt9_of ⟨fun hlt => by omega, fun _ => ?_⟩
    have : xs.take k = xs := List.take_of_length_le (by rw [hr.1]; omega)
    rw [this] at hno
    simpa [hno] using h
  | succ d ih =>
    intro k hd hk hno
    refine ref13_has.pt9_of ⟨fun hlt => ?_, fun hge => by omega⟩
    have hk' : k < n := by omega
    obtain ⟨y, hy⟩ : ∃ y, xs[k]? = some y := ⟨_, List.getElem?_eq_getElem (by rw [hr.1]; exact hk')⟩
    obtain ⟨b, o, rfl, hl⟩ := hr.at hy
    refine ⟨b, o, rfl, by omega, y, by simpa using hl, fun he => ?_, fun hne => ⟨i64_succ hk' hr.big, ih (k + 1) (by omega) (by omega) ?_⟩⟩
    · have : x ∈ xs := he ▸ List.mem_of_getElem? hy
      simpa [this] using h
    · rw [mem_take_succ hy]
      rintro (h1 | h1)
      · exact hno h1
      · exact hne h1.symm

/-- Two lists alike: up to k. -/
theorem take_eq_of {xs ys : List Int} {k : Nat} {x y : Int} (hx : xs[k]? = some x) (hy : ys[k]? = some y) (h : xs.take k = ys.take k) (he : x = y) : xs.take (k + 1) = ys.take (k + 1) := by
  rw [take_succ' hx, take_succ' hy, h, he]

theorem sameInts_spec {R : Ending → Hp → Prop} {σ : Hp} {p q : Option Addr} {n c m d : Nat} {xs ys : List Int} (hr : RdI .i64 σ p n xs) (hs : RdI .i64 σ q m ys) (h : R (.returned (.bool (decide (xs = ys)))) σ) :
    Spec prog law0_SameInts.fid #[.slice p n c, .slice q m d] σ R := by
  refine law0_SameInts.start ⟨fun hne => ?_, fun he => ?_⟩
  · have : xs ≠ ys := fun e => hne (by rw [← hr.1, ← hs.1, e])
    simpa [this] using h
  · obtain rfl : n = m := by omega
    suffices H : ∀ d' k : Nat, n - k = d' → k ≤ n → xs.take k = ys.take k → law0_SameInts.pt17 R p n c q n d k σ from H n 0 rfl (Nat.zero_le _) (by simp)
    intro d'
    induction d' with
    | zero =>
      intro k hd hk hno
      refine law0_SameInts.pt17_of ⟨fun hlt => by omega, fun _ => ?_⟩
      rw [List.take_of_length_le (by rw [hr.1]; omega), List.take_of_length_le (by rw [hs.1]; omega)] at hno
      simpa [hno] using h
    | succ d' ih =>
      intro k hd hk hno
      refine law0_SameInts.pt17_of ⟨fun hlt => ?_, fun hge => by omega⟩
      have hk' : k < n := by omega
      obtain ⟨x, hx⟩ := hr.ex hk'
      obtain ⟨y, hy⟩ := hs.ex hk'
      obtain ⟨b, o, rfl, hl⟩ := hr.at hx
      obtain ⟨b', o', rfl, hl'⟩ := hs.at hy
      refine ⟨b, o, rfl, by omega, x, by simpa using hl, b', o', rfl, by omega, y, by simpa using hl', fun hne => ?_, fun he => ⟨i64_succ hk' hr.big, ih (k + 1) (by omega) (by omega) (take_eq_of hx hy hno (by simpa using he))⟩⟩
      have : xs ≠ ys := fun e => hne (by rw [e, hy] at hx; cases hx; rfl)
      simpa [this] using h

theorem sameWords_spec {R : Ending → Hp → Prop} {σ : Hp} {p q : Option Addr} {n c m d : Nat} {xs ys : List Int} (hr : RdI .u32 σ p n xs) (hs : RdI .u32 σ q m ys) (h : R (.returned (.bool (decide (xs = ys)))) σ) :
    Spec prog law0_SameWords.fid #[.slice p n c, .slice q m d] σ R := by
  refine law0_SameWords.start ⟨fun hne => ?_, fun he => ?_⟩
  · have : xs ≠ ys := fun e => hne (by rw [← hr.1, ← hs.1, e])
    simpa [this] using h
  · obtain rfl : n = m := by omega
    suffices H : ∀ d' k : Nat, n - k = d' → k ≤ n → xs.take k = ys.take k → law0_SameWords.pt17 R p n c q n d k σ from H n 0 rfl (Nat.zero_le _) (by simp)
    intro d'
    induction d' with
    | zero =>
      intro k hd hk hno
      refine law0_SameWords.pt17_of ⟨fun hlt => by omega, fun _ => ?_⟩
      rw [List.take_of_length_le (by rw [hr.1]; omega), List.take_of_length_le (by rw [hs.1]; omega)] at hno
      simpa [hno] using h
    | succ d' ih =>
      intro k hd hk hno
      refine law0_SameWords.pt17_of ⟨fun hlt => ?_, fun hge => by omega⟩
      have hk' : k < n := by omega
      obtain ⟨x, hx⟩ := hr.ex hk'
      obtain ⟨y, hy⟩ := hs.ex hk'
      obtain ⟨b, o, rfl, hl⟩ := hr.at hx
      obtain ⟨b', o', rfl, hl'⟩ := hs.at hy
      refine ⟨b, o, rfl, by omega, x, by simpa using hl, b', o', rfl, by omega, y, by simpa using hl', fun hne => ?_, fun he => ⟨i64_succ hk' hr.big, ih (k + 1) (by omega) (by omega) (take_eq_of hx hy hno (by simpa using he))⟩⟩
      have : xs ≠ ys := fun e => hne (by rw [e, hy] at hx; cases hx; rfl)
      simpa [this] using h

theorem sameBytes_spec {R : Ending → Hp → Prop} {σ : Hp} {p q : Option Addr} {n c m d : Nat} {xs ys : List Int} (hr : RdI .u8 σ p n xs) (hs : RdI .u8 σ q m ys) (h : R (.returned (.bool (decide (xs = ys)))) σ) :
    Spec prog law0_SameBytes.fid #[.slice p n c, .slice q m d] σ R := by
  refine law0_SameBytes.start ⟨fun hne => ?_, fun he => ?_⟩
  · have : xs ≠ ys := fun e => hne (by rw [← hr.1, ← hs.1, e])
    simpa [this] using h
  · obtain rfl : n = m := by omega
    suffices H : ∀ d' k : Nat, n - k = d' → k ≤ n → xs.take k = ys.take k → law0_SameBytes.pt17 R p n c q n d k σ from H n 0 rfl (Nat.zero_le _) (by simp)
    intro d'
    induction d' with
    | zero =>
      intro k hd hk hno
      refine law0_SameBytes.pt17_of ⟨fun hlt => by omega, fun _ => ?_⟩
      rw [List.take_of_length_le (by rw [hr.1]; omega), List.take_of_length_le (by rw [hs.1]; omega)] at hno
      simpa [hno] using h
    | succ d' ih =>
      intro k hd hk hno
      refine law0_SameBytes.pt17_of ⟨fun hlt => ?_, fun hge => by omega⟩
      have hk' : k < n := by omega
      obtain ⟨x, hx⟩ := hr.ex hk'
      obtain ⟨y, hy⟩ := hs.ex hk'
      obtain ⟨b, o, rfl, hl⟩ := hr.at hx
      obtain ⟨b', o', rfl, hl'⟩ := hs.at hy
      refine ⟨b, o, rfl, by omega, x, by simpa using hl, b', o', rfl, by omega, y, by simpa using hl', fun hne => ?_, fun he => ⟨i64_succ hk' hr.big, ih (k + 1) (by omega) (by omega) (take_eq_of hx hy hno (by simpa using he))⟩⟩
      have : xs ≠ ys := fun e => hne (by rw [e, hy] at hx; cases hx; rfl)
      simpa [this] using h

theorem has13_spec {R : Ending → Hp → Prop} {σ : Hp} {p : Option Addr} {n c : Nat} {x : Int} {xs : List Int} (hr : RdI .i64 σ p n xs) (h : R (.returned (.bool (decide (x ∈ xs)))) σ) :
    Spec prog law13_has.fid #[.slice p n c, .int .i64 x] σ R := by
  refine law13_has.start ?_
  suffices H : ∀ d k : Nat, n - k = d → k ≤ n → x ∉ xs.take k → law13_has.pt9 R p n c x k σ from H n 0 rfl (Nat.zero_le _) (by simp)
  intro d
  induction d with
  | zero =>
    intro k hd hk hno
    refine law13_has.pt9_of ⟨fun hlt => by omega, fun _ => ?_⟩
    have : xs.take k = xs := List.take_of_length_le (by rw [hr.1]; omega)
    rw [this] at hno
    simpa [hno] using h
  | succ d ih =>
    intro k hd hk hno
    refine law13_has.pt9_of ⟨fun hlt => ?_, fun hge => by omega⟩
    have hk' : k < n := by omega
    obtain ⟨y, hy⟩ : ∃ y, xs[k]? = some y := ⟨_, List.getElem?_eq_getElem (by rw [hr.1]; exact hk')⟩
    obtain ⟨b, o, rfl, hl⟩ := hr.at hy
    refine ⟨b, o, rfl, by omega, y, by simpa using hl, fun he => ?_, fun hne => ⟨i64_succ hk' hr.big, ih (k + 1) (by omega) (by omega) ?_⟩⟩
    · have : x ∈ xs := he ▸ List.mem_of_getElem? hy
      simpa [this] using h
    · rw [mem_take_succ hy]
      rintro (h1 | h1)
      · exact hno h1
      · exact hne h1.symm


/-! Copies -/
theorem copyWords_spec {R : Ending → Hp → Prop} {σ : Hp} {p : Option Addr} {n c : Nat} {xs : List Int} (hr : RdI .u32 σ p n xs) (hb : n * 4 ≤ 140737488355328)
    (h : ∀ p' c' σ', OwnI .u32 (σ.new σ') p' n c' xs → Ext σ σ' → R (.returned (.slice p' n c')) σ') : Spec prog law0_CopyWords.fid #[.slice p n c] σ R := by
  refine law0_CopyWords.start fun b hn => ?_
  refine app_eff Own.empty ((RdC.of_map hr).mono (.set hn)) OneC.map_int (by omega) fun p' c' σ' hown hext => ?_
  have hq : ∀ a : Addr, (some (⟨b, 0, none⟩ : Addr)) = some a → σ a.block = none := fun a ha => by cases ha; exact hn
  refine ⟨p', 0 + n, c', rfl, ?_⟩
  rw [Nat.zero_add] at hown ⊢
  exact h p' c' σ' (Own.to_new hown (new_block hq hext (.set hn))) (ext_new hq hext (.set hn))

end TwR
end
section
/-!
  The ring's data.
-/
namespace TwR
open Go Tw

structure Mem where
  id : Int
  state : Int
  toks : List Int

def EMem (σ : Hp) (vs : List Value) (m : Mem) : Prop := ∃ p n c, vs = [.int .i64 m.id, .int .i64 m.state, .slice p n c] ∧ RdI .u32 σ p n m.toks
theorem EMem.mono : Mono EMem := fun _ _ _ _ h ⟨p, n, c, hv, hr⟩ => ⟨p, n, c, hv, hr.mono h⟩
abbrev RdM := RdS 3 EMem
abbrev OwnM := OwnL 3 EMem
theorem RdM.mono' {σ σ' : Hp} (h : Ext σ σ') {p : Option Addr} {n : Nat} {ms : List Mem} (hr : RdM σ p n ms) : RdM σ' p n ms := RdS.mono EMem.mono h hr

/-- The member at a place. -/
theorem RdM.at' {σ : Hp} {p : Option Addr} {n i : Nat} {ms : List Mem} {m : Mem} (hr : RdM σ p n ms) (hx : ms[i]? = some m) :
    ∃ b o q k c, p = some ⟨b, o, none⟩ ∧ LdL σ b (o + i * 3) [.int .i64 m.id, .int .i64 m.state, .slice q k c] ∧ RdI .u32 σ q k m.toks := by
  obtain ⟨b, o, vs, hp, ⟨q, k, c, rfl, hq⟩, hl⟩ := RdS.idx hr hx
  exact ⟨b, o, q, k, c, hp, hl, hq⟩

theorem oneC_mem {a b : Int} {p : Option Addr} {n c : Nat} : OneC [.int .i64 a, .int .i64 b, .slice p n c] := by
  intro u hu
  simp only [List.mem_cons, List.not_mem_nil, or_false] at hu
  rcases hu with rfl | rfl | rfl <;> rfl
end TwR
end
section
namespace TwR
open Go Tw

/-! Rising -/
def Rise (xs : List Int) : Prop := xs.Pairwise (· < ·)
instance (xs : List Int) : Decidable (Rise xs) := inferInstanceAs (Decidable (xs.Pairwise (· < ·)))

theorem take_pred {xs : List Int} {k : Nat} {y : Int} (hk : 0 < k) (hy : xs[k - 1]? = some y) : xs.take k = xs.take (k - 1) ++ [y] := by
  have := take_succ' hy
  rwa [Nat.sub_add_cancel hk] at this
theorem rise_snoc {xs : List Int} {k : Nat} {x y : Int} (hk : 0 < k) (hy : xs[k - 1]? = some y) (hx : xs[k]? = some x) (h : Rise (xs.take k)) (hl : y < x) : Rise (xs.take (k + 1)) := by
  unfold Rise at *
  rw [take_succ' hx, List.pairwise_append]
  refine ⟨h, by simp, fun a ha b hb => ?_⟩
  simp only [List.mem_singleton] at hb
  subst hb
  rw [take_pred hk hy] at ha h
  rw [List.pairwise_append] at h
  simp only [List.mem_append, List.mem_singleton] at ha
  rcases ha with ha | rfl
  · have := h.2.2 a ha y (by simp); omega
  · exact hl
theorem rise_not {xs : List Int} {k : Nat} {x y : Int} (hk : 0 < k) (hy : xs[k - 1]? = some y) (hx : xs[k]? = some x) (hl : x ≤ y) : ¬ Rise xs := fun h => by
  have h1 := (List.pairwise_iff_getElem.1 h) (k - 1) k (List.getElem?_eq_some_iff.1 hy).1 (List.getElem?_eq_some_iff.1 hx).1 (by omega)
  rw [(List.getElem?_eq_some_iff.1 hy).2, (List.getElem?_eq_some_iff.1 hx).2] at h1
  omega
theorem rise_small {xs : List Int} (h : xs.length ≤ 1) : Rise xs := by
  match xs, h with
  | [], _ => simp [Rise]
  | [x], _ => simp [Rise]

theorem risingW_spec {R : Ending → Hp → Prop} {σ : Hp} {p : Option Addr} {n c : Nat} {xs : List Int} (hr : RdI .u32 σ p n xs) (h : R (.returned (.bool (decide (Rise xs)))) σ) :
    Spec prog ring_rising_uint32.fid #[.slice p n c] σ R := by
  refine ring_rising_uint32.start ?_
  suffices H : ∀ d k : Nat, n - k = d → 0 < k → Rise (xs.take k) → ring_rising_uint32.pt9 R p n c k σ from H (n - 1) 1 rfl (by omega) (rise_small (by simp; omega))
  intro d
  induction d with
  | zero =>
    intro k hd hk hno
    refine ring_rising_uint32.pt9_of ⟨fun hlt => by omega, fun _ => ?_⟩
    rw [List.take_of_length_le (by rw [hr.1]; omega)] at hno
    simpa [hno] using h
  | succ d ih =>
    intro k hd hk hno
    refine ring_rising_uint32.pt9_of ⟨fun hlt => ?_, fun hge => by omega⟩
    have hk' : k < n := by omega
    obtain ⟨x, hx⟩ := hr.ex hk'
    obtain ⟨y, hy⟩ := hr.ex (k := k - 1) (by omega)
    obtain ⟨b, o, rfl, hl⟩ := hr.at hx
    obtain ⟨b', o', he, hl'⟩ := hr.at hy
    cases he
    have e : ((k : Int) - 1) = ((k - 1 : Nat) : Int) := by omega
    have hb := hr.big
    refine ⟨b, o, rfl, by omega, x, by simpa using hl, by unfold I64; omega, by omega, y, by rw [e]; simpa using hl', fun hle => ?_, fun hgt => ⟨i64_succ hk' hr.big, ih (k + 1) (by omega) (by omega) (rise_snoc hk hy hx hno (by omega))⟩⟩
    simpa [rise_not hk hy hx hle] using h

theorem risingI_spec {R : Ending → Hp → Prop} {σ : Hp} {p : Option Addr} {n c : Nat} {xs : List Int} (hr : RdI .i64 σ p n xs) (h : R (.returned (.bool (decide (Rise xs)))) σ) :
    Spec prog ring_rising_int.fid #[.slice p n c] σ R := by
  refine ring_rising_int.start ?_
  suffices H : ∀ d k : Nat, n - k = d → 0 < k → Rise (xs.take k) → ring_rising_int.pt9 R p n c k σ from H (n - 1) 1 rfl (by omega) (rise_small (by simp; omega))
  intro d
  induction d with
  | zero =>
    intro k hd hk hno
    refine ring_rising_int.pt9_of ⟨fun hlt => by omega, fun _ => ?_⟩
    rw [List.take_of_length_le (by rw [hr.1]; omega)] at hno
    simpa [hno] using h
  | succ d ih =>
    intro k hd hk hno
    refine ring_rising_int.pt9_of ⟨fun hlt => ?_, fun hge => by omega⟩
    have hk' : k < n := by omega
    obtain ⟨x, hx⟩ := hr.ex hk'
    obtain ⟨y, hy⟩ := hr.ex (k := k - 1) (by omega)
    obtain ⟨b, o, rfl, hl⟩ := hr.at hx
    obtain ⟨b', o', he, hl'⟩ := hr.at hy
    cases he
    have e : ((k : Int) - 1) = ((k - 1 : Nat) : Int) := by omega
    have hb := hr.big
    refine ⟨b, o, rfl, by omega, x, by simpa using hl, by unfold I64; omega, by omega, y, by rw [e]; simpa using hl', fun hle => ?_, fun hgt => ⟨i64_succ hk' hr.big, ih (k + 1) (by omega) (by omega) (rise_snoc hk hy hx hno (by omega))⟩⟩
    simpa [rise_not hk hy hx hle] using h

/-! A ring that may be -/
def OkM (m : Mem) : Prop := 0 ≤ m.id ∧ m.id < 16 ∧ 1 ≤ m.state ∧ m.state ≤ 3 ∧ 1 ≤ m.toks.length ∧ m.toks.length ≤ 64 ∧ Rise m.toks
instance (m : Mem) : Decidable (OkM m) := by unfold OkM; infer_instance
def ids (ms : List Mem) : List Int := ms.map Mem.id
def OkR (ms : List Mem) : Prop := (∀ m ∈ ms, OkM m) ∧ Rise (ids ms)
instance (ms : List Mem) : Decidable (OkR ms) := by unfold OkR; infer_instance
def chk (ms : List Mem) : Int := if OkR ms then 0 else 130

theorem id_spec {R : Ending → Hp → Prop} {σ : Hp} {x : Int} (h : R (.returned (.bool (decide (0 ≤ x ∧ x < 16)))) σ) : Spec prog ring_id.fid #[.int .i64 x] σ R := by
  refine ring_id.start ⟨fun h0 => by simpa [h0] using h, fun h0 => by simpa [h0] using h⟩

theorem ids_at {ms : List Mem} {k : Nat} {m : Mem} (h : ms[k]? = some m) : (ids ms)[k]? = some m.id := by simp [ids, h]
theorem ids_take {ms : List Mem} {k : Nat} : ids (ms.take k) = (ids ms).take k := by simp [ids, List.map_take]

theorem refCheck_spec {R : Ending → Hp → Prop} {σ : Hp} {e : Int} {p : Option Addr} {n c : Nat} {ms : List Mem} (hr : RdM σ p n ms) (h : R (.returned (.int .i64 (chk ms))) σ) :
    Spec prog ref13_Check.fid #[.agg #[.int .u64 e, .slice p n c]] σ R := by
  refine ref13_Check.start ?_
  have bad : ¬ OkR ms → R (.returned (.int .i64 130)) σ := fun hn => by simpa [chk, hn] using h
  suffices H : ∀ d k : Nat, n - k = d → k ≤ n → (∀ m ∈ ms.take k, OkM m) → Rise (ids (ms.take k)) → ref13_Check.pt9 R e p n c k σ from H n 0 rfl (by omega) (by simp) (by simp [ids, Rise])
  intro d
  induction d with
  | zero =>
    intro k hd hk ho hi
    refine ref13_Check.pt9_of ⟨fun hlt => by omega, fun _ => ?_⟩
    rw [List.take_of_length_le (by rw [hr.1]; omega)] at ho hi
    have : OkR ms := ⟨ho, hi⟩
    simpa [chk, this] using h
  | succ d ih =>
    intro k hd hk ho hi
    refine ref13_Check.pt9_of ⟨fun hlt => ?_, fun hge => by omega⟩
    have hk' : k < n := by omega
    obtain ⟨m, hm⟩ := hr.ex hk'
    obtain ⟨b, o, q, j, c', rfl, hl, ht⟩ := hr.at' hm
    have hb := hr.big
    have hmem : m ∈ ms := List.mem_of_getElem? hm
    have badm : ¬ OkM m → R (.returned (.int .i64 130)) σ := fun hn => bad fun h => hn (h.1 m hmem)
    have hlen := ht.1
    have inner : 0 ≤ m.id → m.id < 16 → 1 ≤ m.state → m.state ≤ 3 → 1 ≤ j → j ≤ 64 → Rise (ids (ms.take (k + 1))) → ref13_Check.pt31 R e (some ⟨b, o, none⟩) n c k m.id m.state q j c' 1 σ := by
      intro h1 h2 h3 h4 h5 h6 h7
      suffices H2 : ∀ d2 i : Nat, j - i = d2 → 0 < i → i ≤ j → Rise (m.toks.take i) → ref13_Check.pt31 R e (some ⟨b, o, none⟩) n c k m.id m.state q j c' i σ from H2 (j - 1) 1 rfl (by omega) (by omega) (rise_small (by simp; omega))
      intro d2
      induction d2 with
      | zero =>
        intro i hd2 hi0 hij hri
        refine ref13_Check.pt31_of ⟨fun hlt => by omega, fun _ => ⟨i64_succ hk' hr.big, ih (k + 1) (by omega) (by omega) ?_ h7⟩⟩
        rw [List.take_of_length_le (by omega)] at hri
        intro m' hm'
        rw [List.take_add_one, hm] at hm'
        simp only [Option.toList, List.mem_append, List.mem_singleton] at hm'
        rcases hm' with hm' | rfl
        · exact ho m' hm'
        · exact ⟨h1, h2, h3, h4, by omega, by omega, hri⟩
      | succ d2 ih2 =>
        intro i hd2 hi0 hij hri
        refine ref13_Check.pt31_of ⟨fun hlt => ?_, fun hge => by omega⟩
        have hi' : i < j := by omega
        obtain ⟨x, hx⟩ := ht.ex hi'
        obtain ⟨y, hy⟩ := ht.ex (k := i - 1) (by omega)
        obtain ⟨b2, o2, rfl, hl2⟩ := ht.at hx
        obtain ⟨b2', o2', he, hl2'⟩ := ht.at hy
        cases he
        have ee : ((i : Int) - 1) = ((i - 1 : Nat) : Int) := by omega
        refine ⟨b2, o2, rfl, by omega, x, by simpa using hl2, by unfold I64; omega, by omega, y, by rw [ee]; simpa using hl2', fun hle => ?_, fun hgt => ⟨i64_succ hi' ht.big, ih2 (i + 1) (by omega) (by omega) (by omega) (rise_snoc hi0 hy hx hri (by omega))⟩⟩
        exact badm fun hm => rise_not hi0 hy hx hle hm.2.2.2.2.2.2
    have rest : Rise (ids (ms.take (k + 1))) → 0 ≤ m.id → m.id < 16 →
        ((m.state : Int) < 1 → R (.returned (.int .i64 130)) σ) ∧ (¬ ((m.state : Int) < 1) → ((3 : Int) < m.state → R (.returned (.int .i64 130)) σ) ∧ (¬ ((3 : Int) < m.state) → ((((j : Nat) : Int) : Int) < 1 → R (.returned (.int .i64 130)) σ) ∧ (¬ ((((j : Nat) : Int) : Int) < 1) → ((64 : Int) < ((j : Nat) : Int) → R (.returned (.int .i64 130)) σ) ∧ (¬ ((64 : Int) < ((j : Nat) : Int)) → ref13_Check.pt31 R e (some ⟨b, o, none⟩) n c k m.id m.state q j c' 1 σ)))) := by
      intro hrise h1 h2
      refine ⟨fun h3 => badm fun hm => ?_, fun h3 => ⟨fun h4 => badm fun hm => ?_, fun h4 => ⟨fun h5 => badm fun hm => ?_, fun h5 => ⟨fun h6 => badm fun hm => ?_, fun h6 => inner h1 h2 (by omega) (by omega) (by omega) (by omega) hrise⟩⟩⟩⟩
      · have := hm.2.2.1; omega
      · have := hm.2.2.2.1; omega
      · have := hm.2.2.2.2.1; omega
      · have := hm.2.2.2.2.2.1; omega
    refine ⟨b, o, rfl, by omega, m.id, m.state, q, j, c', by simpa using hl, fun h1 => badm fun hm => by have := hm.1; omega, fun h1 => ⟨fun h2 => badm fun hm => by have := hm.2.1; omega, fun h2 => ⟨fun h0 => ?_, fun h0 => ?_⟩⟩⟩
    · obtain ⟨m', hm'⟩ := hr.ex (k := k - 1) (by omega)
      obtain ⟨b', o', _, _, _, he, hl', _⟩ := hr.at' hm'
      cases he
      have ee : ((k : Int) - 1) = ((k - 1 : Nat) : Int) := by omega
      have hk0 : 0 < k := by omega
      refine ⟨by unfold I64; omega, by omega, m'.id, by rw [ee]; simpa using hl'.1, fun hle => bad fun h => rise_not hk0 (ids_at hm') (ids_at hm) hle h.2, fun hgt => ?_⟩
      refine rest ?_ (by omega) (by omega)
      rw [ids_take] at hi ⊢
      exact rise_snoc hk0 (ids_at hm') (ids_at hm) hi (by omega)
    · have : k = 0 := by omega
      subst this
      exact rest (rise_small (by simp [ids]; omega)) (by omega) (by omega)
end TwR
end
section
namespace TwR
open Go Tw

def Small (ms : List Mem) : Prop := ms.length ≤ 3518437208883 ∧ ∀ m ∈ ms, m.toks.length ≤ 35184372088832

theorem check_spec {R : Ending → Hp → Prop} {σ : Hp} {e : Int} {p : Option Addr} {n c : Nat} {ms : List Mem} (hr : RdM σ p n ms) (hs : Small ms) (h : R (.returned (.int .i64 (chk ms))) σ) :
    Spec prog ring_Check.fid #[.agg #[.int .u64 e, .slice p n c]] σ R := by
  refine Spec.drop (ring_Check.start ?_)
  have hlen : n ≤ 3518437208883 := by have := hs.1; have := hr.1; omega
  have bad : ¬ OkR ms → ∀ σ', Ext σ σ' → Drop R (.returned (.int .i64 130)) σ' := fun hn σ' hx => .mk hx (by simpa [chk, hn] using h)
  suffices H : ∀ d k : Nat, ∀ p3 c3 σ', n - k = d → k ≤ n → (∀ m ∈ ms.take k, OkM m) → Ext σ σ' → OwnI .i64 (σ.new σ') p3 k c3 (ids (ms.take k)) → ring_Check.pt10 (Drop R) p3 k c3 p n c n k σ' from H n 0 _ _ _ rfl (by omega) (by simp) (.refl σ) OwnI.nil
  intro d
  induction d with
  | zero =>
    intro k p3 c3 σ' hd hk ho hx hown
    refine ring_Check.pt10_of ⟨fun hlt => by omega, fun _ => risingI_spec (hown.rd.mono (Ext.of_new σ σ')) ⟨_, rfl, ?_, ?_⟩⟩
    all_goals rw [List.take_of_length_le (by rw [hr.1]; omega)] at ho ⊢
    · intro hf
      exact bad (fun hok => by simp [hok.2] at hf) _ hx
    · intro ht
      have : OkR ms := ⟨ho, by simpa using ht⟩
      exact .mk hx (by simpa [chk, this] using h)
  | succ d ih =>
    intro k p3 c3 σ' hd hk ho hx hown
    refine ring_Check.pt10_of ⟨fun hlt => ?_, fun hge => by omega⟩
    have hk' : k < n := by omega
    obtain ⟨m, hm⟩ := hr.ex hk'
    obtain ⟨b, o, q, j, c', rfl, hl, ht⟩ := hr.at' hm
    have hmem : m ∈ ms := List.mem_of_getElem? hm
    have hlj := ht.1
    refine ⟨b, o, rfl, by omega, m.id, m.state, q, j, c', by simpa using hl.mono hx, fun b16 hb16 => ?_⟩
    refine OwnI.app1 hx hown (by omega) (fun p' c2 σ2 ho2 hx2 _ => ⟨p', k + 1, c2, rfl, id_spec ⟨_, rfl, ?_, ?_⟩⟩) hb16
    · intro hf
      exact bad (fun hok => by have := hok.1 m hmem; simp [OkM] at this hf; omega) _ hx2
    intro ht1
    refine ⟨fun h1 => bad (fun hok => by have := hok.1 m hmem; simp [OkM] at this; omega) _ hx2, fun h1 => ⟨fun h2 => bad (fun hok => by have := hok.1 m hmem; simp [OkM] at this; omega) _ hx2, fun h2 => ⟨fun h3 => bad (fun hok => by have := hok.1 m hmem; simp [OkM] at this; omega) _ hx2, fun h3 => ⟨fun h4 => bad (fun hok => by have := hok.1 m hmem; simp [OkM] at this; omega) _ hx2, fun h4 => ?_⟩⟩⟩⟩
    refine risingW_spec (ht.mono hx2) ⟨_, rfl, fun hf => bad (fun hok => by have := hok.1 m hmem; simp [OkM] at this hf; exact hf this.2.2.2.2.2.2) _ hx2, fun hri => ⟨i64_succ hk' hr.big, ih (k + 1) _ _ _ (by omega) (by omega) ?_ hx2 ?_⟩⟩
    · intro m' hm'
      rw [List.take_add_one, hm] at hm'
      simp only [Option.toList, List.mem_append, List.mem_singleton] at hm'
      rcases hm' with hm' | rfl
      · exact ho m' hm'
      · simp at ht1 hri
        exact ⟨by omega, by omega, by omega, by omega, by omega, by omega, hri⟩
    · have : ids (ms.take (k + 1)) = ids (ms.take k) ++ [m.id] := by simp [ids, List.take_add_one, hm]
      rw [this]; exact ho2

/-- A ring in new memory. -/
theorem copyRing_spec {R : Ending → Hp → Prop} {σ : Hp} {e : Int} {p : Option Addr} {n c : Nat} {ms : List Mem} (hr : RdM σ p n ms) (hs : Small ms)
    (h : ∀ p' c' σ', OwnM (σ.new σ') p' n c' ms → Ext σ σ' → R (.returned (.agg #[.int .u64 e, .slice p' n c'])) σ') : Spec prog law0_CopyRing.fid #[.agg #[.int .u64 e, .slice p n c]] σ R := by
  refine law0_CopyRing.start ?_
  have hlen : n ≤ 3518437208883 := by have := hs.1; have := hr.1; omega
  suffices H : ∀ d k : Nat, ∀ p3 c3 σ', n - k = d → k ≤ n → Ext σ σ' → OwnM (σ.new σ') p3 k c3 (ms.take k) → law0_CopyRing.pt11 R e p n c 0 none 0 0 e p3 k c3 k σ' from H n 0 _ _ _ rfl (by omega) (.refl σ) OwnL.nil
  intro d
  induction d with
  | zero =>
    intro k p3 c3 σ' hd hk hx hown
    refine law0_CopyRing.pt11_of ⟨fun hlt => by omega, fun _ => ?_⟩
    rw [List.take_of_length_le (by rw [hr.1]; omega)] at hown
    have : k = n := by omega
    subst this
    exact h _ _ _ hown hx
  | succ d ih =>
    intro k p3 c3 σ' hd hk hx hown
    refine law0_CopyRing.pt11_of ⟨fun hlt => ?_, fun hge => by omega⟩
    have hk' : k < n := by omega
    obtain ⟨m, hm⟩ := hr.ex hk'
    obtain ⟨b, o, q, j, c', rfl, hl, ht⟩ := hr.at' hm
    have hmem : m ∈ ms := List.mem_of_getElem? hm
    have hlj := ht.1
    have hsj := hs.2 m hmem
    refine ⟨b, o, rfl, by omega, m.id, m.state, q, j, c', by simpa using hl.mono hx, ?_⟩
    refine copyWords_spec (ht.mono hx) (by omega) fun q' j' σ1 hq hx1 => ⟨q', j, j', rfl, fun b28 hb28 => ?_⟩
    have hown1 : OwnM (σ.new σ1) p3 k c3 (ms.take k) := hown.mono EMem.mono (Ext.new_mono hx1)
    have hpb : ∀ a, p3 = some a → σ' a.block ≠ none := fun a ha => by
      have := hown.block a ha
      cases hh : (σ.new σ') a.block with
      | none => exact absurd hh this
      | some oo => rw [(new_some.1 hh).2]; simp
    have hin : Ext (σ'.new σ1) ((σ.new σ1).del p3) := Ext.new_into hx hpb
    have he : EMem ((σ.new σ1).del p3) [.int .i64 m.id, .int .i64 m.state, .slice q' j j'] m := ⟨q', j, j', rfl, hq.rd.mono hin⟩
    refine OwnL.app1 EMem.mono (hx.trans hx1) hown1 rfl oneC_mem he (by omega) (fun p' c2 σ2 ho2 hx2 => ⟨p', k + 1, c2, rfl, i64_succ hk' hr.big, ih (k + 1) _ _ _ (by omega) (by omega) hx2 ?_⟩) hb28
    rw [List.take_add_one, hm]; exact ho2

theorem mem_eq {a b : Mem} (h1 : a.id = b.id) (h2 : a.state = b.state) (h3 : a.toks = b.toks) : a = b := by cases a; cases b; simp_all
instance : DecidableEq Mem := fun a b => if h : a.id = b.id ∧ a.state = b.state ∧ a.toks = b.toks then .isTrue (mem_eq h.1 h.2.1 h.2.2) else .isFalse fun e => h (by subst e; exact ⟨rfl, rfl, rfl⟩)

theorem sameRing_spec {R : Ending → Hp → Prop} {σ : Hp} {e f : Int} {p q : Option Addr} {n c m d : Nat} {ms ns : List Mem} (hr : RdM σ p n ms) (hs : RdM σ q m ns)
    (h : R (.returned (.bool (decide (e = f ∧ ms = ns)))) σ) : Spec prog law0_SameRing.fid #[.agg #[.int .u64 e, .slice p n c], .agg #[.int .u64 f, .slice q m d]] σ R := by
  have bad : ¬ (e = f ∧ ms = ns) → R (.returned (.bool false)) σ := fun hn => by simpa [hn] using h
  refine law0_SameRing.start ⟨fun hne => bad fun hh => hne hh.1, fun he => ⟨fun hl => bad fun hh => hl (by rw [← hr.1, ← hs.1, hh.2]), fun hl => ?_⟩⟩
  obtain rfl : n = m := by omega
  have hef : e = f := by omega
  suffices H : ∀ d' k : Nat, n - k = d' → k ≤ n → ms.take k = ns.take k → law0_SameRing.pt17 R e p n c f q n d k σ from H n 0 rfl (by omega) (by simp)
  intro d'
  induction d' with
  | zero =>
    intro k hd hk hno
    refine law0_SameRing.pt17_of ⟨fun hlt => by omega, fun _ => ?_⟩
    rw [List.take_of_length_le (by rw [hr.1]; omega), List.take_of_length_le (by rw [hs.1]; omega)] at hno
    simpa [hno, hef] using h
  | succ d' ih =>
    intro k hd hk hno
    refine law0_SameRing.pt17_of ⟨fun hlt => ?_, fun hge => by omega⟩
    have hk' : k < n := by omega
    obtain ⟨x, hx⟩ := hr.ex hk'
    obtain ⟨y, hy⟩ := hs.ex hk'
    obtain ⟨b, o, q1, j1, c1, rfl, hl1, ht1⟩ := hr.at' hx
    obtain ⟨b2, o2, q2, j2, c2, rfl, hl2, ht2⟩ := hs.at' hy
    have ne : x ≠ y → R (.returned (.bool false)) σ := fun hn => bad fun hh => hn (by rw [hh.2, hy] at hx; cases hx; rfl)
    obtain ⟨h11, h12, h13, _⟩ := hl1
    obtain ⟨h21, h22, h23, _⟩ := hl2
    refine ⟨b, o, rfl, by omega, x.id, by simpa using h11, b2, o2, rfl, by omega, y.id, by simpa using h21, fun hn => ne fun hh => hn (by rw [hh]), fun e1 => ⟨by omega, x.state, by simpa using h12, by omega, y.state, by simpa using h22, fun hn => ne fun hh => hn (by rw [hh]), fun e2 => ⟨by omega, q1, j1, c1, by simpa using h13, by omega, q2, j2, c2, by simpa using h23, ?_⟩⟩⟩
    refine sameWords_spec ht1 ht2 ⟨_, rfl, fun hf => ne fun hh => by simp [hh] at hf, fun ht => ⟨i64_succ hk' hr.big, ih (k + 1) (by omega) (by omega) ?_⟩⟩
    have hxy : x = y := mem_eq (by omega) (by omega) (by simpa using ht)
    rw [take_succ' hx, take_succ' hy, hno, hxy]
end TwR
end
section
/- written by gen.py: program points and what leads to them -/
set_option linter.unusedVariables false
set_option maxRecDepth 100000
namespace TwR
open Go Tw Go.Proofs.Try
namespace ring_Decode
abbrev fid : Nat := 19
noncomputable def K0 : Code := f19.body.getD .skip
noncomputable def K1 := Tw.cl K0
noncomputable def K2 := Tw.cr K0
noncomputable def K3 := Tw.cl K2
noncomputable def K4 := Tw.cr K2
noncomputable def K5 := Tw.cl K4
noncomputable def K6 := Tw.cr K4
noncomputable def K7 := Tw.cl K6
noncomputable def K8 := Tw.cr K6
noncomputable def K9 := Tw.cl K8
noncomputable def K10 := Tw.cl K9
noncomputable def K11 := Tw.cr K9
noncomputable def K12 := Tw.cl K11
noncomputable def K13 := Tw.cl K12
noncomputable def K14 := Tw.cl K13
noncomputable def K15 := Tw.cl K14
noncomputable def K16 := Tw.cr K14
noncomputable def K17 := Tw.cl K16
noncomputable def K18 := Tw.cr K16
noncomputable def K19 := Tw.cr K13
noncomputable def K20 := Tw.cl K19
noncomputable def K21 := Tw.cl K20
noncomputable def K22 := Tw.cl K21
noncomputable def K23 := Tw.cr K21
noncomputable def K24 := Tw.cl K23
noncomputable def K25 := Tw.cl K24
noncomputable def K26 := Tw.cr K24
noncomputable def K27 := Tw.cl K26
noncomputable def K28 := Tw.cl K27
noncomputable def K29 := Tw.cl K28
noncomputable def K30 := Tw.cl K29
noncomputable def K31 := Tw.cr K29
noncomputable def K32 := Tw.cl K31
noncomputable def K33 := Tw.cr K31
noncomputable def K34 := Tw.cr K28
noncomputable def K35 := Tw.cl K34
noncomputable def K36 := Tw.cl K35
noncomputable def K37 := Tw.cr K34
noncomputable def K38 := Tw.cr K23
noncomputable def K39 := Tw.cr K19
noncomputable def K40 := Tw.cr K8
noncomputable def K41 := Tw.cl K40
noncomputable def K42 := Tw.cl K41
noncomputable def K43 := Tw.cr K41
noncomputable def K44 := Tw.cl K43
noncomputable def K45 := Tw.cr K43
noncomputable def K46 := Tw.cl K45
noncomputable def K47 := Tw.cl K46
noncomputable def K48 := Tw.cr K46
noncomputable def K49 := Tw.cr K45
noncomputable def K50 := Tw.cr K40
noncomputable def K51 := Tw.cl K50
noncomputable def K52 := Tw.cr K50
noncomputable abbrev gl (R : Ending → Hp → Prop) : Gl := Gl.fn prog 19 76 R
def pt15 (R : Ending → Hp → Prop) (b1 : Nat) (x2a : Int) (p2b : Option Addr) (n2b : Nat) (c2b : Nat) (b5 : Nat) (v6 : Value) (x7a : Int) (p7b : Option Addr) (n7b : Nat) (c7b : Nat) (x8 : Int) (σ : Hp) : Prop := ∀ (J : Env) (b2 : Nat) (b7 : Nat), At (gl R) [.code K15, .code K16, .code K19, .inLoop K13, .inBlock 0, .code K40] (upds J [(1, (.pointer (some ⟨b1, 0, none⟩))), (2, (.pointer (some ⟨b2, 0, none⟩))), (5, (.pointer (some ⟨b5, 0, none⟩))), (6, v6), (7, (.pointer (some ⟨b7, 0, none⟩))), (8, (.int .u64 x8))]) [(b7, .cells #[(.int .u64 x7a), (.slice p7b n7b c7b)] 25 (0, 0)), (b2, .cells #[(.int .u64 x2a), (.slice p2b n2b c2b)] 25 (0, 0))] σ
def pt30 (R : Ending → Hp → Prop) (b1 : Nat) (x2a : Int) (p2b : Option Addr) (n2b : Nat) (c2b : Nat) (b5 : Nat) (v6 : Value) (x7a : Int) (p7b : Option Addr) (n7b : Nat) (c7b : Nat) (x8 : Int) (x9a : Int) (x9b : Int) (p9c : Option Addr) (n9c : Nat) (c9c : Nat) (x10 : Int) (σ : Hp) : Prop := ∀ (J : Env) (b2 : Nat) (b7 : Nat) (b9 : Nat), At (gl R) [.code K30, .code K31, .code K34, .inLoop K28, .inBlock 2, .code K38, .inBlock 1, .code K39, .inLoop K13, .inBlock 0, .code K40] (upds J [(1, (.pointer (some ⟨b1, 0, none⟩))), (2, (.pointer (some ⟨b2, 0, none⟩))), (5, (.pointer (some ⟨b5, 0, none⟩))), (6, v6), (7, (.pointer (some ⟨b7, 0, none⟩))), (8, (.int .u64 x8)), (9, (.pointer (some ⟨b9, 0, none⟩))), (10, (.int .u64 x10))]) [(b9, .cells #[(.int .i64 x9a), (.int .i64 x9b), (.slice p9c n9c c9c)] 55 (0, 0)), (b7, .cells #[(.int .u64 x7a), (.slice p7b n7b c7b)] 25 (0, 0)), (b2, .cells #[(.int .u64 x2a), (.slice p2b n2b c2b)] 25 (0, 0))] σ
theorem start {R : Ending → Hp → Prop} {p0 : Option Addr} {n0 : Nat} {c0 : Nat} {σ : Hp} (h : ∀ b1 : Nat, σ b1 = none → ∀ b4 : Nat, (Hp.set σ b1 (.cells #[(.slice p0 n0 c0)] 37 (0, 0))) b4 = none → ∀ b5 : Nat, (Hp.set (Hp.set σ b1 (.cells #[(.slice p0 n0 c0)] 37 (0, 0))) b4 (.cells #[(.int .i64 0)] 3 (0, 0))) b5 = none → Eff prog (Instr.storeAt 3 (.pointer (some ⟨b4, 0, none⟩)) (.int .i64 0)) (Hp.set (Hp.set (Hp.set σ b1 (.cells #[(.slice p0 n0 c0)] 37 (0, 0))) b4 (.cells #[(.int .i64 0)] 3 (0, 0))) b5 (.cells #[(.bool false)] 4 (0, 0))) (fun _ σ1 => Eff prog (Instr.storeAt 4 (.pointer (some ⟨b5, 0, none⟩)) (.bool false)) σ1 (fun _ σ1_2 => Spec prog 41 #[(.int .u64 18446744073709551615), (.pointer (some ⟨b1, 0, none⟩)), (.pointer (some ⟨b4, 0, none⟩)), (.pointer (some ⟨b5, 0, none⟩))] σ1_2 (Cont R (fun v σ1_3 => ∃ x15 : Int, v = (.int .u64 x15) ∧ Spec prog 41 #[(.int .u64 16), (.pointer (some ⟨b1, 0, none⟩)), (.pointer (some ⟨b4, 0, none⟩)), (.pointer (some ⟨b5, 0, none⟩))] σ1_3 (Cont R (fun v_2 σ1_4 => ∃ x18 : Int, v_2 = (.int .u64 x18) ∧ pt15 R b1 0 none 0 0 b5 ((.func (.func 41) #[] #[(.pointer (some ⟨b1, 0, none⟩)), (.pointer (some ⟨b4, 0, none⟩)), (.pointer (some ⟨b5, 0, none⟩))])) x15 none 0 0 x18 σ1_4))))))) : Spec prog 19 #[(.slice p0 n0 c0)] σ R := by
 refine Spec.of_at (fn := f19) (c := K0) func19 (by kernel_rfl) (Nat.le_of_ble_eq_true (by kernel_rfl)) (fun e he => ?_)
 refine At.ofL (l := [(0, (.slice p0 n0 c0))]) ⟨he 0, trivial⟩ (fun J => ?_)
 show At (gl R) _ _ _ _
 refine At.s K1 K2 ?_
 refine At.rg 0 [0, 1, 2] ?_
 refine Seq.o ?_
 refine OpTo.boxO (T := 37) (d := (some 1)) (ty := 0) (x := (.tmp 0)) (gd := none) (cs := #[(.slice p0 n0 c0)]) (by kernel_rfl) rfl rfl rfl (fun b1 hn => ?_)
 replace h := h b1 hn
 refine Seq.o ?_
 refine OpTo.alloc (T := 25) (d := (some 2)) (ty := 0)  (gd := none) (cs := #[(.int .u64 0), (.slice none 0 0)]) (by kernel_rfl) rfl rfl zeroValue25 rfl (fun b2 => ?_)
 refine Seq.u 3 (.int .i64 0) ?_
 refine Seq.done ?_
 refine At.L [(1, (.pointer (some ⟨b1, 0, none⟩))), (2, (.pointer (some ⟨b2, 0, none⟩)))] fun J => ?_
 refine At.s K3 K4 ?_
 refine At.rg 1 [0, 1, 2, 3] ?_
 refine Seq.o ?_
 refine OpTo.allocO (T := 3) (d := (some 4)) (ty := 0)  (gd := none) (cs := #[(.int .i64 0)]) (by kernel_rfl) rfl rfl zeroValue3 rfl (fun b4 hn => ?_)
 replace h := h b4 hn
 refine Seq.o ?_
 refine OpTo.allocO (T := 4) (d := (some 5)) (ty := 0)  (gd := none) (cs := #[(.bool false)]) (by kernel_rfl) rfl rfl zeroValue4 rfl (fun b5 hn => ?_)
 replace h := h b5 hn
 refine Seq.o ?_
 refine OpTo.store (T := 3) (ty := 0) (x := (.tmp 4)) (y := (.const (.int .i64 0))) (p := (.pointer (some ⟨b4, 0, none⟩))) (v := (.int .i64 0)) (gd := none) (by kernel_rfl) rfl rfl rfl (h.mono (fun _ σ1 h2 => ?_)); replace h := h2; clear h2
 refine Seq.o ?_
 refine OpTo.store (T := 4) (ty := 0) (x := (.tmp 5)) (y := (.const (.bool false))) (p := (.pointer (some ⟨b5, 0, none⟩))) (v := (.bool false)) (gd := none) (by kernel_rfl) rfl rfl rfl (h.mono (fun _ σ1_2 h2 => ?_)); replace h := h2; clear h2
 refine Seq.done ?_
 refine At.L [(1, (.pointer (some ⟨b1, 0, none⟩))), (2, (.pointer (some ⟨b2, 0, none⟩))), (4, (.pointer (some ⟨b4, 0, none⟩))), (5, (.pointer (some ⟨b5, 0, none⟩)))] fun J => ?_
 refine At.s K5 K6 ?_
 refine At.rg 2 [0, 1] ?_
 refine Seq.z 13 (.makeFunc (.func 41) #[] #[(.tmp 1), (.tmp 4), (.tmp 5)]) 69 (.func (.func 41) #[] #[(.pointer (some ⟨b1, 0, none⟩)), (.pointer (some ⟨b4, 0, none⟩)), (.pointer (some ⟨b5, 0, none⟩))]) (Y.makeFunc rfl rfl) ?_
 refine Seq.u 6 (.func (.func 41) #[] #[(.pointer (some ⟨b1, 0, none⟩)), (.pointer (some ⟨b4, 0, none⟩)), (.pointer (some ⟨b5, 0, none⟩))]) ?_
 refine Seq.done ?_
 refine At.L [(1, (.pointer (some ⟨b1, 0, none⟩))), (2, (.pointer (some ⟨b2, 0, none⟩))), (5, (.pointer (some ⟨b5, 0, none⟩))), (6, (.func (.func 41) #[] #[(.pointer (some ⟨b1, 0, none⟩)), (.pointer (some ⟨b4, 0, none⟩)), (.pointer (some ⟨b5, 0, none⟩))]))] fun J => ?_
 refine At.s K7 K8 ?_
 refine At.rg 3 [0, 1, 2, 3, 4] ?_
 refine Seq.u 14 (.func (.func 41) #[] #[(.pointer (some ⟨b1, 0, none⟩)), (.pointer (some ⟨b4, 0, none⟩)), (.pointer (some ⟨b5, 0, none⟩))]) ?_
 refine Seq.o ?_
 refine OpTo.cl (some 15) call41 (h.cont fun v σ1_3 h2 => ?_); replace h := h2; clear h2
 obtain ⟨x15, rfl, h⟩ := h
 refine Seq.z 16 (.build 25 #[(0, (.tmp 15))]) 25 (.agg #[(.int .u64 x15), (.slice none 0 0)]) (Y.build (vs := [(0, (.int .u64 x15))]) rfl (by kernel_rfl)) ?_
 refine Seq.o ?_
 refine OpTo.alloc (T := 25) (d := (some 7)) (ty := 0)  (gd := none) (cs := #[(.int .u64 0), (.slice none 0 0)]) (by kernel_rfl) rfl rfl zeroValue25 rfl (fun b7 => ?_)
 refine Seq.o ?_
 refine OpTo.storeb (T := 25) (ty := 0) (x := (.tmp 7)) (y := (.tmp 16)) (t := 25) (j := 0) (b := b7) (o := 0) (c' := #[(.int .u64 x15), (.slice none 0 0)]) (v := (.agg #[(.int .u64 x15), (.slice none 0 0)])) (gd := none) (by kernel_rfl) rfl sizeOf25 rfl rfl rfl rfl rfl rfl rfl ?_
 simp only [List.set]
 refine Seq.done ?_
 refine At.L [(1, (.pointer (some ⟨b1, 0, none⟩))), (2, (.pointer (some ⟨b2, 0, none⟩))), (5, (.pointer (some ⟨b5, 0, none⟩))), (6, (.func (.func 41) #[] #[(.pointer (some ⟨b1, 0, none⟩)), (.pointer (some ⟨b4, 0, none⟩)), (.pointer (some ⟨b5, 0, none⟩))])), (7, (.pointer (some ⟨b7, 0, none⟩)))] fun J => ?_
 refine At.s K9 K40 ?_
 refine At.s K10 K11 ?_
 refine At.rg 4 [0, 1, 2] ?_
 refine Seq.u 17 (.func (.func 41) #[] #[(.pointer (some ⟨b1, 0, none⟩)), (.pointer (some ⟨b4, 0, none⟩)), (.pointer (some ⟨b5, 0, none⟩))]) ?_
 refine Seq.o ?_
 refine OpTo.cl (some 18) call41 (h.cont fun v_2 σ1_4 h2 => ?_); replace h := h2; clear h2
 obtain ⟨x18, rfl, h⟩ := h
 refine Seq.u 8 (.int .u64 x18) ?_
 refine Seq.done ?_
 refine At.L [(1, (.pointer (some ⟨b1, 0, none⟩))), (2, (.pointer (some ⟨b2, 0, none⟩))), (5, (.pointer (some ⟨b5, 0, none⟩))), (6, (.func (.func 41) #[] #[(.pointer (some ⟨b1, 0, none⟩)), (.pointer (some ⟨b4, 0, none⟩)), (.pointer (some ⟨b5, 0, none⟩))])), (7, (.pointer (some ⟨b7, 0, none⟩))), (8, (.int .u64 x18))] fun J => ?_
 refine At.b 0 K12 ?_
 refine At.loop (x := K13) (by kernel_rfl) ?_
 refine At.s K14 K19 ?_
 refine At.s K15 K16 ?_
 exact At.v [(1, (.pointer (some ⟨b1, 0, none⟩))), (2, (.pointer (some ⟨b2, 0, none⟩))), (5, (.pointer (some ⟨b5, 0, none⟩))), (6, (.func (.func 41) #[] #[(.pointer (some ⟨b1, 0, none⟩)), (.pointer (some ⟨b4, 0, none⟩)), (.pointer (some ⟨b5, 0, none⟩))])), (7, (.pointer (some ⟨b7, 0, none⟩))), (8, (.int .u64 x18))] (h _ b2 b7)
theorem pt15_of {R : Ending → Hp → Prop} {b1 : Nat} {x2a : Int} {p2b : Option Addr} {n2b : Nat} {c2b : Nat} {b5 : Nat} {v6 : Value} {x7a : Int} {p7b : Option Addr} {n7b : Nat} {c7b : Nat} {x8 : Int} {σ : Hp} (h : ((0 : Int) < x8 → ∃ t22 : Bool, Hp.ld σ ⟨b5, 0, none⟩ = some (.bool t22) ∧ (t22 = false → ∃ (f28 : Nat) (fst28 cap28 : Array Value), v6 = .func (.func f28) fst28 cap28 ∧ Enters prog f28 ∧ Spec prog f28 (fst28 ++ #[(.int .u64 16)] ++ cap28) σ (Cont R (fun v σ1 => ∃ x28 : Int, v = (.int .u64 x28) ∧ ∀ x29 : Int, x29 = IntKind.i64.wrap x28 → ∃ (f31 : Nat) (fst31 cap31 : Array Value), v6 = .func (.func f31) fst31 cap31 ∧ Enters prog f31 ∧ Spec prog f31 (fst31 ++ #[(.int .u64 3)] ++ cap31) σ1 (Cont R (fun v_2 σ1_2 => ∃ x31 : Int, v_2 = (.int .u64 x31) ∧ ∀ x32 : Int, x32 = IntKind.i64.wrap x31 → ∃ (f35 : Nat) (fst35 cap35 : Array Value), v6 = .func (.func f35) fst35 cap35 ∧ Enters prog f35 ∧ Spec prog f35 (fst35 ++ #[(.int .u64 64)] ++ cap35) σ1_2 (Cont R (fun v_3 σ1_3 => ∃ x35 : Int, v_3 = (.int .u64 x35) ∧ pt30 R b1 x2a p2b n2b c2b b5 v6 x7a p7b n7b c7b x8 x29 x32 none 0 0 x35 σ1_3))))))) ∧ (t22 = true → Spec prog 18 #[(.agg #[(.int .u64 x7a), (.slice p7b n7b c7b)])] σ (Cont R (fun v σ1 => ∃ p60a : Option Addr, ∃ n60a : Nat, ∃ c60a : Nat, ∃ x60b : Int, v = (.tuple #[(.slice p60a n60a c60a), (.int .i64 x60b)]) ∧ ∃ t63 : Bool, Hp.ld σ1 ⟨b5, 0, none⟩ = some (.bool t63) ∧ (t63 = true → R (.returned (.tuple #[(.agg #[(.int .u64 0), (.slice none 0 0)]), (.int .i64 130)])) σ1) ∧ (t63 = false → ((x60b : Int) ≠ 0 → R (.returned (.tuple #[(.agg #[(.int .u64 0), (.slice none 0 0)]), (.int .i64 130)])) σ1) ∧ (¬ ((x60b : Int) ≠ 0) → ∃ p70 : Option Addr, ∃ n70 : Nat, ∃ c70 : Nat, Hp.ld σ1 ⟨b1, 0, none⟩ = some (.slice p70 n70 c70) ∧ Spec prog 43 #[(.slice p60a n60a c60a), (.slice p70 n70 c70)] σ1 (Cont R (fun v_2 σ1_2 => ∃ t71 : Bool, v_2 = (.bool t71) ∧ (t71 = false → R (.returned (.tuple #[(.agg #[(.int .u64 0), (.slice none 0 0)]), (.int .i64 130)])) σ1_2) ∧ (t71 = true → R (.returned (.tuple #[(.agg #[(.int .u64 x7a), (.slice p7b n7b c7b)]), (.int .i64 0)])) σ1_2))))))))) ∧ (¬ ((0 : Int) < x8) → Spec prog 18 #[(.agg #[(.int .u64 x7a), (.slice p7b n7b c7b)])] σ (Cont R (fun v σ1 => ∃ p60a : Option Addr, ∃ n60a : Nat, ∃ c60a : Nat, ∃ x60b : Int, v = (.tuple #[(.slice p60a n60a c60a), (.int .i64 x60b)]) ∧ ∃ t63 : Bool, Hp.ld σ1 ⟨b5, 0, none⟩ = some (.bool t63) ∧ (t63 = true → R (.returned (.tuple #[(.agg #[(.int .u64 0), (.slice none 0 0)]), (.int .i64 130)])) σ1) ∧ (t63 = false → ((x60b : Int) ≠ 0 → R (.returned (.tuple #[(.agg #[(.int .u64 0), (.slice none 0 0)]), (.int .i64 130)])) σ1) ∧ (¬ ((x60b : Int) ≠ 0) → ∃ p70 : Option Addr, ∃ n70 : Nat, ∃ c70 : Nat, Hp.ld σ1 ⟨b1, 0, none⟩ = some (.slice p70 n70 c70) ∧ Spec prog 43 #[(.slice p60a n60a c60a), (.slice p70 n70 c70)] σ1 (Cont R (fun v_2 σ1_2 => ∃ t71 : Bool, v_2 = (.bool t71) ∧ (t71 = false → R (.returned (.tuple #[(.agg #[(.int .u64 0), (.slice none 0 0)]), (.int .i64 130)])) σ1_2) ∧ (t71 = true → R (.returned (.tuple #[(.agg #[(.int .u64 x7a), (.slice p7b n7b c7b)]), (.int .i64 0)])) σ1_2))))))))) : pt15 R b1 x2a p2b n2b c2b b5 v6 x7a p7b n7b c7b x8 σ := by
 intro J b2 b7
 show At (gl R) _ _ _ _
 refine At.rg 5 [0, 1, 2, 3, 4, 5] ?_
 refine Seq.u 19 (.int .u64 x8) ?_
 refine Seq.u 20 (.bool (decide ((0 : Int) < x8))) ?_
 refine Seq.u 21 (.bool (decide ((0 : Int) < x8))) ?_
 cases hb : (decide ((0 : Int) < x8)) with
 | true =>
  replace h := h.1 (of_decide_eq_true hb)
  obtain ⟨t22, hl, h⟩ := h
  refine Seq.zg 22 (.load 4 (.tmp 5)) 4 (2, true) (.bool t22) (Y.ld isAgg4 rfl hl) ?_
  refine Seq.u 23 (.bool (!t22)) ?_
  refine Seq.u 24 (.bool (!t22)) ?_
  refine Seq.done ?_
  refine At.L [(1, (.pointer (some ⟨b1, 0, none⟩))), (2, (.pointer (some ⟨b2, 0, none⟩))), (5, (.pointer (some ⟨b5, 0, none⟩))), (6, v6), (7, (.pointer (some ⟨b7, 0, none⟩))), (8, (.int .u64 x8)), (24, (.bool (!t22)))] fun J => ?_
  cases hb : (!t22) with
  | true =>
   replace h := h.1 (Tw.nt hb)
   refine At.cT 24 K17 K18 ?_
   refine At.skip ?_
   refine At.s K20 K39 ?_
   refine At.b 1 K21 ?_
   refine At.s K22 K23 ?_
   refine At.rg 7 [0, 1, 2, 3, 4, 5, 6, 7, 8] ?_
   refine Seq.u 27 v6 ?_
   obtain ⟨f28, fst28, cap28, hfv, hen, h⟩ := h
   refine Seq.o ?_
   refine OpTo.callE (g := (gl R)) (f := f28) (fst := fst28) (cap := cap28) (vs := #[(.int .u64 16)]) (u := v6) (d := (some 28)) (x := (.tmp 27)) (xs := #[(.const (.int .u64 16))]) (ts := #[22]) (ty := 22) (gd := none) (by kernel_rfl) rfl rfl rfl rfl hfv hen (h.cont (fun v σ1 h2 => ?_)); replace h := h2; clear h2
   obtain ⟨x28, rfl, h⟩ := h
   obtain ⟨x29, hwx29⟩ : ∃ y, y = IntKind.i64.wrap x28 := ⟨_, rfl⟩
   replace h := h x29 hwx29
   refine Seq.y (d := (some 29)) (op := (.convert 22 3 (.tmp 28))) (ty := 3) (v := (.int .i64 x29)) (by kernel_rfl) rfl (hwx29 ▸ Y.conv (by kernel_rfl) underlying3 rfl) ?_
   refine Seq.u 30 v6 ?_
   obtain ⟨f31, fst31, cap31, hfv, hen, h⟩ := h
   refine Seq.o ?_
   refine OpTo.callE (g := (gl R)) (f := f31) (fst := fst31) (cap := cap31) (vs := #[(.int .u64 3)]) (u := v6) (d := (some 31)) (x := (.tmp 30)) (xs := #[(.const (.int .u64 3))]) (ts := #[22]) (ty := 22) (gd := none) (by kernel_rfl) rfl rfl rfl rfl hfv hen (h.cont (fun v_2 σ1_2 h2 => ?_)); replace h := h2; clear h2
   obtain ⟨x31, rfl, h⟩ := h
   obtain ⟨x32, hwx32⟩ : ∃ y, y = IntKind.i64.wrap x31 := ⟨_, rfl⟩
   replace h := h x32 hwx32
   refine Seq.y (d := (some 32)) (op := (.convert 22 3 (.tmp 31))) (ty := 3) (v := (.int .i64 x32)) (by kernel_rfl) rfl (hwx32 ▸ Y.conv (by kernel_rfl) underlying3 rfl) ?_
   refine Seq.z 33 (.build 55 #[(0, (.tmp 29)), (1, (.tmp 32))]) 55 (.agg #[(.int .i64 x29), (.int .i64 x32), (.slice none 0 0)]) (Y.build (vs := [(0, (.int .i64 x29)), (1, (.int .i64 x32))]) rfl (by kernel_rfl)) ?_
   refine Seq.o ?_
   refine OpTo.alloc (T := 55) (d := (some 9)) (ty := 0)  (gd := none) (cs := #[(.int .i64 0), (.int .i64 0), (.slice none 0 0)]) (by kernel_rfl) rfl rfl zeroValue55 rfl (fun b9 => ?_)
   refine Seq.o ?_
   refine OpTo.storeb (T := 55) (ty := 0) (x := (.tmp 9)) (y := (.tmp 33)) (t := 55) (j := 0) (b := b9) (o := 0) (c' := #[(.int .i64 x29), (.int .i64 x32), (.slice none 0 0)]) (v := (.agg #[(.int .i64 x29), (.int .i64 x32), (.slice none 0 0)])) (gd := none) (by kernel_rfl) rfl sizeOf55 rfl rfl rfl rfl rfl rfl rfl ?_
   simp only [List.set]
   refine Seq.done ?_
   refine At.L [(1, (.pointer (some ⟨b1, 0, none⟩))), (2, (.pointer (some ⟨b2, 0, none⟩))), (5, (.pointer (some ⟨b5, 0, none⟩))), (6, v6), (7, (.pointer (some ⟨b7, 0, none⟩))), (8, (.int .u64 x8)), (9, (.pointer (some ⟨b9, 0, none⟩)))] fun J => ?_
   refine At.s K24 K38 ?_
   refine At.s K25 K26 ?_
   refine At.rg 8 [0, 1, 2] ?_
   refine Seq.u 34 v6 ?_
   obtain ⟨f35, fst35, cap35, hfv, hen, h⟩ := h
   refine Seq.o ?_
   refine OpTo.callE (g := (gl R)) (f := f35) (fst := fst35) (cap := cap35) (vs := #[(.int .u64 64)]) (u := v6) (d := (some 35)) (x := (.tmp 34)) (xs := #[(.const (.int .u64 64))]) (ts := #[22]) (ty := 22) (gd := none) (by kernel_rfl) rfl rfl rfl rfl hfv hen (h.cont (fun v_3 σ1_3 h2 => ?_)); replace h := h2; clear h2
   obtain ⟨x35, rfl, h⟩ := h
   refine Seq.u 10 (.int .u64 x35) ?_
   refine Seq.done ?_
   refine At.L [(1, (.pointer (some ⟨b1, 0, none⟩))), (2, (.pointer (some ⟨b2, 0, none⟩))), (5, (.pointer (some ⟨b5, 0, none⟩))), (6, v6), (7, (.pointer (some ⟨b7, 0, none⟩))), (8, (.int .u64 x8)), (9, (.pointer (some ⟨b9, 0, none⟩))), (10, (.int .u64 x35))] fun J => ?_
   refine At.b 2 K27 ?_
   refine At.loop (x := K28) (by kernel_rfl) ?_
   refine At.s K29 K34 ?_
   refine At.s K30 K31 ?_
   exact At.v [(1, (.pointer (some ⟨b1, 0, none⟩))), (2, (.pointer (some ⟨b2, 0, none⟩))), (5, (.pointer (some ⟨b5, 0, none⟩))), (6, v6), (7, (.pointer (some ⟨b7, 0, none⟩))), (8, (.int .u64 x8)), (9, (.pointer (some ⟨b9, 0, none⟩))), (10, (.int .u64 x35))] (h _ b2 b7 b9)
  | false =>
   replace h := h.2 (Tw.nf hb)
   refine At.cF 24 K17 K18 ?_
   refine At.x 0 [.code K40] ?_
   refine At.s K41 K50 ?_
   refine At.s K42 K43 ?_
   refine At.rg 13 [0, 1, 2, 3, 4, 5, 6] ?_
   refine Seq.z 59 (.load 25 (.tmp 7)) 25 (.agg #[(.int .u64 x7a), (.slice p7b n7b c7b)]) (Y.ldab (vs := [(.int .u64 x7a), (.slice p7b n7b c7b)]) isAgg25 sizeOf25 rfl rfl (List.mem_cons_self ..) rfl) ?_
   refine Seq.o ?_
   refine OpTo.cl (some 60) call18 (h.cont fun v σ1 h2 => ?_); replace h := h2; clear h2
   obtain ⟨p60a, n60a, c60a, x60b, rfl, h⟩ := h
   refine Seq.u 58 (.tuple #[(.slice p60a n60a c60a), (.int .i64 x60b)]) ?_
   refine Seq.u 61 (.slice p60a n60a c60a) ?_
   refine Seq.u 62 (.int .i64 x60b) ?_
   refine Seq.u 11 (.slice p60a n60a c60a) ?_
   refine Seq.u 12 (.int .i64 x60b) ?_
   refine Seq.done ?_
   refine At.L [(1, (.pointer (some ⟨b1, 0, none⟩))), (2, (.pointer (some ⟨b2, 0, none⟩))), (5, (.pointer (some ⟨b5, 0, none⟩))), (7, (.pointer (some ⟨b7, 0, none⟩))), (11, (.slice p60a n60a c60a)), (12, (.int .i64 x60b))] fun J => ?_
   refine At.s K44 K45 ?_
   refine At.rg 14 [0, 1, 2, 3, 4, 5, 6, 7, 8, 9, 10] ?_
   obtain ⟨t63, hl, h⟩ := h
   refine Seq.z 63 (.load 4 (.tmp 5)) 4 (.bool t63) (Y.ld isAgg4 rfl hl) ?_
   refine Seq.u 64 (.bool t63) ?_
   cases hb : t63 with
   | true =>
    replace h := h.1 hb
    refine Seq.n 65 ?_
    refine Seq.n 66 ?_
    refine Seq.u 67 (.bool true) ?_
    refine Seq.u 68 (.bool true) ?_
    refine Seq.n 69 ?_
    refine Seq.n 70 ?_
    refine Seq.n 71 ?_
    refine Seq.n 72 ?_
    refine Seq.u 73 (.bool true) ?_
    refine Seq.done ?_
    refine At.L [(2, (.pointer (some ⟨b2, 0, none⟩))), (7, (.pointer (some ⟨b7, 0, none⟩))), (73, (.bool true))] fun J => ?_
    refine At.cT 73 K46 K49 ?_
    refine At.s K47 K48 ?_
    refine At.rg 15 [0, 1, 2] ?_
    refine Seq.z 74 (.build 25 #[]) 25 (.agg #[(.int .u64 0), (.slice none 0 0)]) (Y.build (vs := []) rfl (by kernel_rfl)) ?_
    refine Seq.o ?_
    refine OpTo.storeb (T := 25) (ty := 0) (x := (.tmp 2)) (y := (.tmp 74)) (t := 25) (j := 1) (b := b2) (o := 0) (c' := #[(.int .u64 0), (.slice none 0 0)]) (v := (.agg #[(.int .u64 0), (.slice none 0 0)])) (gd := none) (by kernel_rfl) rfl sizeOf25 rfl rfl rfl rfl rfl rfl rfl ?_
    simp only [List.set]
    refine Seq.u 3 (.int .i64 130) ?_
    refine Seq.done ?_
    refine At.L [(2, (.pointer (some ⟨b2, 0, none⟩))), (3, (.int .i64 130))] fun J => ?_
    exact At.rt [.cell 2 25, .tmp 3] [(.agg #[(.int .u64 0), (.slice none 0 0)]), (.int .i64 130)] func19 ⟨_, _, rfl, ⟨_, rfl, ldab_run isAgg25 sizeOf25 rfl (.tail _ (List.mem_cons_self ..))⟩, ⟨_, rfl, rfl⟩⟩ h
   | false =>
    replace h := h.2 hb
    refine Seq.u 65 (.int .i64 x60b) ?_
    refine Seq.u 66 (.bool (decide ((x60b : Int) ≠ 0))) ?_
    refine Seq.u 67 (.bool (decide ((x60b : Int) ≠ 0))) ?_
    refine Seq.u 68 (.bool (decide ((x60b : Int) ≠ 0))) ?_
    cases hb : (decide ((x60b : Int) ≠ 0)) with
    | true =>
     replace h := h.1 (of_decide_eq_true hb)
     refine Seq.n 69 ?_
     refine Seq.n 70 ?_
     refine Seq.n 71 ?_
     refine Seq.n 72 ?_
     refine Seq.u 73 (.bool true) ?_
     refine Seq.done ?_
     refine At.L [(2, (.pointer (some ⟨b2, 0, none⟩))), (7, (.pointer (some ⟨b7, 0, none⟩))), (73, (.bool true))] fun J => ?_
     refine At.cT 73 K46 K49 ?_
     refine At.s K47 K48 ?_
     refine At.rg 15 [0, 1, 2] ?_
     refine Seq.z 74 (.build 25 #[]) 25 (.agg #[(.int .u64 0), (.slice none 0 0)]) (Y.build (vs := []) rfl (by kernel_rfl)) ?_
     refine Seq.o ?_
     refine OpTo.storeb (T := 25) (ty := 0) (x := (.tmp 2)) (y := (.tmp 74)) (t := 25) (j := 1) (b := b2) (o := 0) (c' := #[(.int .u64 0), (.slice none 0 0)]) (v := (.agg #[(.int .u64 0), (.slice none 0 0)])) (gd := none) (by kernel_rfl) rfl sizeOf25 rfl rfl rfl rfl rfl rfl rfl ?_
     simp only [List.set]
     refine Seq.u 3 (.int .i64 130) ?_
     refine Seq.done ?_
     refine At.L [(2, (.pointer (some ⟨b2, 0, none⟩))), (3, (.int .i64 130))] fun J => ?_
     exact At.rt [.cell 2 25, .tmp 3] [(.agg #[(.int .u64 0), (.slice none 0 0)]), (.int .i64 130)] func19 ⟨_, _, rfl, ⟨_, rfl, ldab_run isAgg25 sizeOf25 rfl (.tail _ (List.mem_cons_self ..))⟩, ⟨_, rfl, rfl⟩⟩ h
    | false =>
     replace h := h.2 (of_decide_eq_false hb)
     refine Seq.u 69 (.slice p60a n60a c60a) ?_
     obtain ⟨p70, n70, c70, hl, h⟩ := h
     refine Seq.zg 70 (.load 37 (.tmp 1)) 37 (5, false) (.slice p70 n70 c70) (Y.ld isAgg37 rfl hl) ?_
     refine Seq.o ?_
     refine OpTo.cl (some 71) call43 (h.cont fun v_2 σ1_2 h2 => ?_); replace h := h2; clear h2
     obtain ⟨t71, rfl, h⟩ := h
     refine Seq.u 72 (.bool (!t71)) ?_
     refine Seq.u 73 (.bool (!t71)) ?_
     refine Seq.done ?_
     refine At.L [(2, (.pointer (some ⟨b2, 0, none⟩))), (7, (.pointer (some ⟨b7, 0, none⟩))), (73, (.bool (!t71)))] fun J => ?_
     cases hb : (!t71) with
     | true =>
      replace h := h.1 (Tw.nt hb)
      refine At.cT 73 K46 K49 ?_
      refine At.s K47 K48 ?_
      refine At.rg 15 [0, 1, 2] ?_
      refine Seq.z 74 (.build 25 #[]) 25 (.agg #[(.int .u64 0), (.slice none 0 0)]) (Y.build (vs := []) rfl (by kernel_rfl)) ?_
      refine Seq.o ?_
      refine OpTo.storeb (T := 25) (ty := 0) (x := (.tmp 2)) (y := (.tmp 74)) (t := 25) (j := 1) (b := b2) (o := 0) (c' := #[(.int .u64 0), (.slice none 0 0)]) (v := (.agg #[(.int .u64 0), (.slice none 0 0)])) (gd := none) (by kernel_rfl) rfl sizeOf25 rfl rfl rfl rfl rfl rfl rfl ?_
      simp only [List.set]
      refine Seq.u 3 (.int .i64 130) ?_
      refine Seq.done ?_
      refine At.L [(2, (.pointer (some ⟨b2, 0, none⟩))), (3, (.int .i64 130))] fun J => ?_
      exact At.rt [.cell 2 25, .tmp 3] [(.agg #[(.int .u64 0), (.slice none 0 0)]), (.int .i64 130)] func19 ⟨_, _, rfl, ⟨_, rfl, ldab_run isAgg25 sizeOf25 rfl (.tail _ (List.mem_cons_self ..))⟩, ⟨_, rfl, rfl⟩⟩ h
     | false =>
      replace h := h.2 (Tw.nf hb)
      refine At.cF 73 K46 K49 ?_
      refine At.skip ?_
      refine At.s K51 K52 ?_
      refine At.rg 16 [0, 1, 2] ?_
      refine Seq.z 75 (.load 25 (.tmp 7)) 25 (.agg #[(.int .u64 x7a), (.slice p7b n7b c7b)]) (Y.ldab (vs := [(.int .u64 x7a), (.slice p7b n7b c7b)]) isAgg25 sizeOf25 rfl rfl (List.mem_cons_self ..) rfl) ?_
      refine Seq.o ?_
      refine OpTo.storeb (T := 25) (ty := 0) (x := (.tmp 2)) (y := (.tmp 75)) (t := 25) (j := 1) (b := b2) (o := 0) (c' := #[(.int .u64 x7a), (.slice p7b n7b c7b)]) (v := (.agg #[(.int .u64 x7a), (.slice p7b n7b c7b)])) (gd := none) (by kernel_rfl) rfl sizeOf25 rfl rfl rfl rfl rfl rfl rfl ?_
      simp only [List.set]
      refine Seq.u 3 (.int .i64 0) ?_
      refine Seq.done ?_
      refine At.L [(2, (.pointer (some ⟨b2, 0, none⟩))), (3, (.int .i64 0))] fun J => ?_
      exact At.rt [.cell 2 25, .tmp 3] [(.agg #[(.int .u64 x7a), (.slice p7b n7b c7b)]), (.int .i64 0)] func19 ⟨_, _, rfl, ⟨_, rfl, ldab_run isAgg25 sizeOf25 rfl (.tail _ (List.mem_cons_self ..))⟩, ⟨_, rfl, rfl⟩⟩ h
 | false =>
  replace h := h.2 (of_decide_eq_false hb)
  refine Seq.n 22 ?_
  refine Seq.n 23 ?_
  refine Seq.u 24 (.bool false) ?_
  refine Seq.done ?_
  refine At.L [(1, (.pointer (some ⟨b1, 0, none⟩))), (2, (.pointer (some ⟨b2, 0, none⟩))), (5, (.pointer (some ⟨b5, 0, none⟩))), (6, v6), (7, (.pointer (some ⟨b7, 0, none⟩))), (8, (.int .u64 x8)), (24, (.bool false))] fun J => ?_
  refine At.cF 24 K17 K18 ?_
  refine At.x 0 [.code K40] ?_
  refine At.s K41 K50 ?_
  refine At.s K42 K43 ?_
  refine At.rg 13 [0, 1, 2, 3, 4, 5, 6] ?_
  refine Seq.z 59 (.load 25 (.tmp 7)) 25 (.agg #[(.int .u64 x7a), (.slice p7b n7b c7b)]) (Y.ldab (vs := [(.int .u64 x7a), (.slice p7b n7b c7b)]) isAgg25 sizeOf25 rfl rfl (List.mem_cons_self ..) rfl) ?_
  refine Seq.o ?_
  refine OpTo.cl (some 60) call18 (h.cont fun v σ1 h2 => ?_); replace h := h2; clear h2
  obtain ⟨p60a, n60a, c60a, x60b, rfl, h⟩ := h
  refine Seq.u 58 (.tuple #[(.slice p60a n60a c60a), (.int .i64 x60b)]) ?_
  refine Seq.u 61 (.slice p60a n60a c60a) ?_
  refine Seq.u 62 (.int .i64 x60b) ?_
  refine Seq.u 11 (.slice p60a n60a c60a) ?_
  refine Seq.u 12 (.int .i64 x60b) ?_
  refine Seq.done ?_
  refine At.L [(1, (.pointer (some ⟨b1, 0, none⟩))), (2, (.pointer (some ⟨b2, 0, none⟩))), (5, (.pointer (some ⟨b5, 0, none⟩))), (7, (.pointer (some ⟨b7, 0, none⟩))), (11, (.slice p60a n60a c60a)), (12, (.int .i64 x60b))] fun J => ?_
  refine At.s K44 K45 ?_
  refine At.rg 14 [0, 1, 2, 3, 4, 5, 6, 7, 8, 9, 10] ?_
  obtain ⟨t63, hl, h⟩ := h
  refine Seq.z 63 (.load 4 (.tmp 5)) 4 (.bool t63) (Y.ld isAgg4 rfl hl) ?_
  refine Seq.u 64 (.bool t63) ?_
  cases hb : t63 with
  | true =>
   replace h := h.1 hb
   refine Seq.n 65 ?_
   refine Seq.n 66 ?_
   refine Seq.u 67 (.bool true) ?_
   refine Seq.u 68 (.bool true) ?_
   refine Seq.n 69 ?_
   refine Seq.n 70 ?_
   refine Seq.n 71 ?_
   refine Seq.n 72 ?_
   refine Seq.u 73 (.bool true) ?_
   refine Seq.done ?_
   refine At.L [(2, (.pointer (some ⟨b2, 0, none⟩))), (7, (.pointer (some ⟨b7, 0, none⟩))), (73, (.bool true))] fun J => ?_
   refine At.cT 73 K46 K49 ?_
   refine At.s K47 K48 ?_
   refine At.rg 15 [0, 1, 2] ?_
   refine Seq.z 74 (.build 25 #[]) 25 (.agg #[(.int .u64 0), (.slice none 0 0)]) (Y.build (vs := []) rfl (by kernel_rfl)) ?_
   refine Seq.o ?_
   refine OpTo.storeb (T := 25) (ty := 0) (x := (.tmp 2)) (y := (.tmp 74)) (t := 25) (j := 1) (b := b2) (o := 0) (c' := #[(.int .u64 0), (.slice none 0 0)]) (v := (.agg #[(.int .u64 0), (.slice none 0 0)])) (gd := none) (by kernel_rfl) rfl sizeOf25 rfl rfl rfl rfl rfl rfl rfl ?_
   simp only [List.set]
   refine Seq.u 3 (.int .i64 130) ?_
   refine Seq.done ?_
   refine At.L [(2, (.pointer (some ⟨b2, 0, none⟩))), (3, (.int .i64 130))] fun J => ?_
   exact At.rt [.cell 2 25, .tmp 3] [(.agg #[(.int .u64 0), (.slice none 0 0)]), (.int .i64 130)] func19 ⟨_, _, rfl, ⟨_, rfl, ldab_run isAgg25 sizeOf25 rfl (.tail _ (List.mem_cons_self ..))⟩, ⟨_, rfl, rfl⟩⟩ h
  | false =>
   replace h := h.2 hb
   refine Seq.u 65 (.int .i64 x60b) ?_
   refine Seq.u 66 (.bool (decide ((x60b : Int) ≠ 0))) ?_
   refine Seq.u 67 (.bool (decide ((x60b : Int) ≠ 0))) ?_
   refine Seq.u 68 (.bool (decide ((x60b : Int) ≠ 0))) ?_
   cases hb : (decide ((x60b : Int) ≠ 0)) with
   | true =>
    replace h := h.1 (of_decide_eq_true hb)
    refine Seq.n 69 ?_
    refine Seq.n 70 ?_
    refine Seq.n 71 ?_
    refine Seq.n 72 ?_
    refine Seq.u 73 (.bool true) ?_
    refine Seq.done ?_
    refine At.L [(2, (.pointer (some ⟨b2, 0, none⟩))), (7, (.pointer (some ⟨b7, 0, none⟩))), (73, (.bool true))] fun J => ?_
    refine At.cT 73 K46 K49 ?_
    refine At.s K47 K48 ?_
    refine At.rg 15 [0, 1, 2] ?_
    refine Seq.z 74 (.build 25 #[]) 25 (.agg #[(.int .u64 0), (.slice none 0 0)]) (Y.build (vs := []) rfl (by kernel_rfl)) ?_
    refine Seq.o ?_
    refine OpTo.storeb (T := 25) (ty := 0) (x := (.tmp 2)) (y := (.tmp 74)) (t := 25) (j := 1) (b := b2) (o := 0) (c' := #[(.int .u64 0), (.slice none 0 0)]) (v := (.agg #[(.int .u64 0), (.slice none 0 0)])) (gd := none) (by kernel_rfl) rfl sizeOf25 rfl rfl rfl rfl rfl rfl rfl ?_
    simp only [List.set]
    refine Seq.u 3 (.int .i64 130) ?_
    refine Seq.done ?_
    refine At.L [(2, (.pointer (some ⟨b2, 0, none⟩))), (3, (.int .i64 130))] fun J => ?_
    exact At.rt [.cell 2 25, .tmp 3] [(.agg #[(.int .u64 0), (.slice none 0 0)]), (.int .i64 130)] func19 ⟨_, _, rfl, ⟨_, rfl, ldab_run isAgg25 sizeOf25 rfl (.tail _ (List.mem_cons_self ..))⟩, ⟨_, rfl, rfl⟩⟩ h
   | false =>
    replace h := h.2 (of_decide_eq_false hb)
    refine Seq.u 69 (.slice p60a n60a c60a) ?_
    obtain ⟨p70, n70, c70, hl, h⟩ := h
    refine Seq.zg 70 (.load 37 (.tmp 1)) 37 (5, false) (.slice p70 n70 c70) (Y.ld isAgg37 rfl hl) ?_
    refine Seq.o ?_
    refine OpTo.cl (some 71) call43 (h.cont fun v_2 σ1_2 h2 => ?_); replace h := h2; clear h2
    obtain ⟨t71, rfl, h⟩ := h
    refine Seq.u 72 (.bool (!t71)) ?_
    refine Seq.u 73 (.bool (!t71)) ?_
    refine Seq.done ?_
    refine At.L [(2, (.pointer (some ⟨b2, 0, none⟩))), (7, (.pointer (some ⟨b7, 0, none⟩))), (73, (.bool (!t71)))] fun J => ?_
    cases hb : (!t71) with
    | true =>
     replace h := h.1 (Tw.nt hb)
     refine At.cT 73 K46 K49 ?_
     refine At.s K47 K48 ?_
     refine At.rg 15 [0, 1, 2] ?_
     refine Seq.z 74 (.build 25 #[]) 25 (.agg #[(.int .u64 0), (.slice none 0 0)]) (Y.build (vs := []) rfl (by kernel_rfl)) ?_
     refine Seq.o ?_
     refine OpTo.storeb (T := 25) (ty := 0) (x := (.tmp 2)) (y := (.tmp 74)) (t := 25) (j := 1) (b := b2) (o := 0) (c' := #[(.int .u64 0), (.slice none 0 0)]) (v := (.agg #[(.int .u64 0), (.slice none 0 0)])) (gd := none) (by kernel_rfl) rfl sizeOf25 rfl rfl rfl rfl rfl rfl rfl ?_
     simp only [List.set]
     refine Seq.u 3 (.int .i64 130) ?_
     refine Seq.done ?_
     refine At.L [(2, (.pointer (some ⟨b2, 0, none⟩))), (3, (.int .i64 130))] fun J => ?_
     exact At.rt [.cell 2 25, .tmp 3] [(.agg #[(.int .u64 0), (.slice none 0 0)]), (.int .i64 130)] func19 ⟨_, _, rfl, ⟨_, rfl, ldab_run isAgg25 sizeOf25 rfl (.tail _ (List.mem_cons_self ..))⟩, ⟨_, rfl, rfl⟩⟩ h
    | false =>
     replace h := h.2 (Tw.nf hb)
     refine At.cF 73 K46 K49 ?_
     refine At.skip ?_
     refine At.s K51 K52 ?_
     refine At.rg 16 [0, 1, 2] ?_
     refine Seq.z 75 (.load 25 (.tmp 7)) 25 (.agg #[(.int .u64 x7a), (.slice p7b n7b c7b)]) (Y.ldab (vs := [(.int .u64 x7a), (.slice p7b n7b c7b)]) isAgg25 sizeOf25 rfl rfl (List.mem_cons_self ..) rfl) ?_
     refine Seq.o ?_
     refine OpTo.storeb (T := 25) (ty := 0) (x := (.tmp 2)) (y := (.tmp 75)) (t := 25) (j := 1) (b := b2) (o := 0) (c' := #[(.int .u64 x7a), (.slice p7b n7b c7b)]) (v := (.agg #[(.int .u64 x7a), (.slice p7b n7b c7b)])) (gd := none) (by kernel_rfl) rfl sizeOf25 rfl rfl rfl rfl rfl rfl rfl ?_
     simp only [List.set]
     refine Seq.u 3 (.int .i64 0) ?_
     refine Seq.done ?_
     refine At.L [(2, (.pointer (some ⟨b2, 0, none⟩))), (3, (.int .i64 0))] fun J => ?_
     exact At.rt [.cell 2 25, .tmp 3] [(.agg #[(.int .u64 x7a), (.slice p7b n7b c7b)]), (.int .i64 0)] func19 ⟨_, _, rfl, ⟨_, rfl, ldab_run isAgg25 sizeOf25 rfl (.tail _ (List.mem_cons_self ..))⟩, ⟨_, rfl, rfl⟩⟩ h
theorem pt30_of {R : Ending → Hp → Prop} {b1 : Nat} {x2a : Int} {p2b : Option Addr} {n2b : Nat} {c2b : Nat} {b5 : Nat} {v6 : Value} {x7a : Int} {p7b : Option Addr} {n7b : Nat} {c7b : Nat} {x8 : Int} {x9a : Int} {x9b : Int} {p9c : Option Addr} {n9c : Nat} {c9c : Nat} {x10 : Int} {σ : Hp} (h : ((0 : Int) < x10 → ∃ t39 : Bool, Hp.ld σ ⟨b5, 0, none⟩ = some (.bool t39) ∧ (t39 = false → ∃ (f47 : Nat) (fst47 cap47 : Array Value), v6 = .func (.func f47) fst47 cap47 ∧ Enters prog f47 ∧ Spec prog f47 (fst47 ++ #[(.int .u64 4294967295)] ++ cap47) σ (Cont R (fun v σ1 => ∃ x47 : Int, v = (.int .u64 x47) ∧ ∀ x48 : Int, x48 = IntKind.u32.wrap x47 → ∀ b49 : Nat, σ1 b49 = none → Eff prog (Builtin.append_ #[53, 53] 53 #[(.slice p9c n9c c9c), (.slice (some ⟨b49, 0, none⟩) 1 1)]) (Hp.set σ1 b49 (.cells #[(.int .u32 x48)] 26 (0, 0))) (fun v_2 σ1_2 => ∃ p50 : Option Addr, ∃ n50 : Nat, ∃ c50 : Nat, v_2 = (.slice p50 n50 c50) ∧ ∀ x43 : Int, x43 = IntKind.u64.wrap (x10 - 1) → pt30 R b1 x2a p2b n2b c2b b5 v6 x7a p7b n7b c7b x8 x9a x9b p50 n50 c50 x43 σ1_2)))) ∧ (t39 = true → ∀ b55 : Nat, σ b55 = none → Eff prog (Builtin.append_ #[23, 23] 23 #[(.slice p7b n7b c7b), (.slice (some ⟨b55, 0, none⟩) 1 1)]) (Hp.set σ b55 (.cells #[(.int .i64 x9a), (.int .i64 x9b), (.slice p9c n9c c9c)] 55 (0, 0))) (fun v σ1 => ∃ p56 : Option Addr, ∃ n56 : Nat, ∃ c56 : Nat, v = (.slice p56 n56 c56) ∧ ∀ x26 : Int, x26 = IntKind.u64.wrap (x8 - 1) → pt15 R b1 x2a p2b n2b c2b b5 v6 x7a p56 n56 c56 x26 σ1))) ∧ (¬ ((0 : Int) < x10) → ∀ b55 : Nat, σ b55 = none → Eff prog (Builtin.append_ #[23, 23] 23 #[(.slice p7b n7b c7b), (.slice (some ⟨b55, 0, none⟩) 1 1)]) (Hp.set σ b55 (.cells #[(.int .i64 x9a), (.int .i64 x9b), (.slice p9c n9c c9c)] 55 (0, 0))) (fun v σ1 => ∃ p56 : Option Addr, ∃ n56 : Nat, ∃ c56 : Nat, v = (.slice p56 n56 c56) ∧ ∀ x26 : Int, x26 = IntKind.u64.wrap (x8 - 1) → pt15 R b1 x2a p2b n2b c2b b5 v6 x7a p56 n56 c56 x26 σ1))) : pt30 R b1 x2a p2b n2b c2b b5 v6 x7a p7b n7b c7b x8 x9a x9b p9c n9c c9c x10 σ := by
 intro J b2 b7 b9
 show At (gl R) _ _ _ _
 refine At.rg 9 [0, 1, 2, 3, 4, 5] ?_
 refine Seq.u 36 (.int .u64 x10) ?_
 refine Seq.u 37 (.bool (decide ((0 : Int) < x10))) ?_
 refine Seq.u 38 (.bool (decide ((0 : Int) < x10))) ?_
 cases hb : (decide ((0 : Int) < x10)) with
 | true =>
  replace h := h.1 (of_decide_eq_true hb)
  obtain ⟨t39, hl, h⟩ := h
  refine Seq.zg 39 (.load 4 (.tmp 5)) 4 (2, true) (.bool t39) (Y.ld isAgg4 rfl hl) ?_
  refine Seq.u 40 (.bool (!t39)) ?_
  refine Seq.u 41 (.bool (!t39)) ?_
  refine Seq.done ?_
  refine At.L [(1, (.pointer (some ⟨b1, 0, none⟩))), (2, (.pointer (some ⟨b2, 0, none⟩))), (5, (.pointer (some ⟨b5, 0, none⟩))), (6, v6), (7, (.pointer (some ⟨b7, 0, none⟩))), (8, (.int .u64 x8)), (9, (.pointer (some ⟨b9, 0, none⟩))), (10, (.int .u64 x10)), (41, (.bool (!t39)))] fun J => ?_
  cases hb : (!t39) with
  | true =>
   replace h := h.1 (Tw.nt hb)
   refine At.cT 41 K32 K33 ?_
   refine At.skip ?_
   refine At.s K35 K37 ?_
   refine At.b 3 K36 ?_
   refine At.draw (id := 11) (ops := cO K36) (n := 8) (q := (some [])) (plan := [(0, true), (1, true), (2, true), (3, false), (4, true), (5, false), (6, false), (7, true)]) (tl := [8]) mixed (by kernel_rfl) (by kernel_rfl) ?_
   refine Head.z 44 (.fieldAddr 55 (.tmp 9) 2) 0 (.pointer (some ⟨b9, 2, none⟩)) (Y.fieldAddr (fd := (fieldOf prog 55 2)) underlying55 (by kernel_rfl) sizeOf53 rfl rfl) ?_
   refine Head.z 45 (.load 53 (.tmp 44)) 53 (.slice p9c n9c c9c) (Y.ldb isAgg53 rfl (List.mem_cons_self ..) rfl) ?_
   refine Head.u 46 v6 ?_
   obtain ⟨f47, fst47, cap47, hfv, hen, h⟩ := h
   refine Head.o (q' := (some [])) rfl ?_
   refine OpTo.callE (g := (gl R)) (f := f47) (fst := fst47) (cap := cap47) (vs := #[(.int .u64 4294967295)]) (u := v6) (d := (some 47)) (x := (.tmp 46)) (xs := #[(.const (.int .u64 4294967295))]) (ts := #[22]) (ty := 22) (gd := none) (by kernel_rfl) rfl rfl rfl rfl hfv hen (h.cont (fun v σ1 h2 => ?_)); replace h := h2; clear h2
   obtain ⟨x47, rfl, h⟩ := h
   refine ⟨⟨fun _ h => h, kp_q (L := []) Kp.nil⟩, ?_⟩
   obtain ⟨x48, hwx48⟩ : ∃ y, y = IntKind.u32.wrap x47 := ⟨_, rfl⟩
   replace h := h x48 hwx48
   refine Head.y (d := (some 48)) (op := (.convert 22 26 (.tmp 47))) (ty := 26) (v := (.int .u32 x48)) (by kernel_rfl) rfl (hwx48 ▸ Y.conv (by kernel_rfl) underlying26 rfl) ?_
   refine Head.o (q' := (some [])) rfl ?_
   refine OpTo.bslice (T := 53) (E := 26) (m := 1) (ps := #[(0, (.tmp 48))]) (d := (some 49)) (ty := 53) (gd := none) (vs := [(0, (.int .u32 x48))]) (cs := #[(.int .u32 x48)]) underlying53 (by kernel_rfl) rfl rfl rfl (by kernel_rfl) (fun b49 hn => ?_)
   refine ⟨⟨fun _ h => h, kp_q (Kp.of_ext (Ext.set hn))⟩, ?_⟩
   replace h := h b49 hn
   refine Head.o (q' := (some [])) rfl ?_
   refine OpTo.eff (d := (some 50)) (op := (.call { callee := .builtin .append, args := #[(.tmp 45), (.tmp 49)], argTypes := #[53, 53] })) (ty := 53) (gd := none) (by kernel_rfl) rfl rfl (Builtin.append_ #[53, 53] 53 #[(.slice p9c n9c c9c), (.slice (some ⟨b49, 0, none⟩) 1 1)]) (fun o ho ht => exec_b_append rfl rfl o ho ht) (h.mono (fun v_2 σ1_2 h2 => ?_)); replace h := h2; clear h2
   obtain ⟨p50, n50, c50, rfl, h⟩ := h
   refine ⟨⟨fun _ h => h, kp_q (L := []) Kp.nil⟩, ?_⟩
   refine Head.z 51 (.fieldAddr 55 (.tmp 9) 2) 0 (.pointer (some ⟨b9, 2, none⟩)) (Y.fieldAddr (fd := (fieldOf prog 55 2)) underlying55 (by kernel_rfl) sizeOf53 rfl rfl) ?_
   refine Head.done ?_
   refine Seq.o ?_
   refine OpTo.storeb (T := 53) (ty := 0) (x := (.tmp 51)) (y := (.tmp 50)) (t := 55) (j := 0) (b := b9) (o := 2) (c' := #[(.int .i64 x9a), (.int .i64 x9b), (.slice p50 n50 c50)]) (v := (.slice p50 n50 c50)) (gd := none) (by kernel_rfl) rfl sizeOf53 rfl rfl rfl rfl rfl rfl rfl ?_
   simp only [List.set]
   refine Seq.done ?_
   refine At.L [(1, (.pointer (some ⟨b1, 0, none⟩))), (2, (.pointer (some ⟨b2, 0, none⟩))), (5, (.pointer (some ⟨b5, 0, none⟩))), (6, v6), (7, (.pointer (some ⟨b7, 0, none⟩))), (8, (.int .u64 x8)), (9, (.pointer (some ⟨b9, 0, none⟩))), (10, (.int .u64 x10))] fun J => ?_
   refine At.inBlock ?_
   refine At.rg 10 [0, 1, 2] ?_
   refine Seq.u 42 (.int .u64 x10) ?_
   obtain ⟨x43, hwx43⟩ : ∃ y, y = IntKind.u64.wrap (x10 - 1) := ⟨_, rfl⟩
   replace h := h x43 hwx43
   refine Seq.y (d := (some 43)) (op := (.binOp .sub 22 (.tmp 42) (.const (.int .u64 1)) 22)) (ty := 22) (v := (.int .u64 x43)) (by kernel_rfl) rfl (hwx43 ▸ Y.sub rfl rfl) ?_
   refine Seq.u 10 (.int .u64 x43) ?_
   refine Seq.done ?_
   refine At.L [(1, (.pointer (some ⟨b1, 0, none⟩))), (2, (.pointer (some ⟨b2, 0, none⟩))), (5, (.pointer (some ⟨b5, 0, none⟩))), (6, v6), (7, (.pointer (some ⟨b7, 0, none⟩))), (8, (.int .u64 x8)), (9, (.pointer (some ⟨b9, 0, none⟩))), (10, (.int .u64 x43))] fun J => ?_
   refine At.inLoop ?_
   refine At.s K29 K34 ?_
   refine At.s K30 K31 ?_
   exact At.v [(1, (.pointer (some ⟨b1, 0, none⟩))), (2, (.pointer (some ⟨b2, 0, none⟩))), (5, (.pointer (some ⟨b5, 0, none⟩))), (6, v6), (7, (.pointer (some ⟨b7, 0, none⟩))), (8, (.int .u64 x8)), (9, (.pointer (some ⟨b9, 0, none⟩))), (10, (.int .u64 x43))] (h _ b2 b7 b9)
  | false =>
   replace h := h.2 (Tw.nf hb)
   refine At.cF 41 K32 K33 ?_
   refine At.x 2 [.code K38, .inBlock 1, .code K39, .inLoop K13, .inBlock 0, .code K40] ?_
   refine At.rg 12 [0, 1, 2, 3, 4, 5, 6] ?_
   refine Seq.z 52 (.fieldAddr 25 (.tmp 7) 1) 0 (.pointer (some ⟨b7, 1, none⟩)) (Y.fieldAddr (fd := (fieldOf prog 25 1)) underlying25 (by kernel_rfl) sizeOf23 rfl rfl) ?_
   refine Seq.z 53 (.load 23 (.tmp 52)) 23 (.slice p7b n7b c7b) (Y.ldb isAgg23 rfl (.tail _ (List.mem_cons_self ..)) rfl) ?_
   refine Seq.z 54 (.load 55 (.tmp 9)) 55 (.agg #[(.int .i64 x9a), (.int .i64 x9b), (.slice p9c n9c c9c)]) (Y.ldab (vs := [(.int .i64 x9a), (.int .i64 x9b), (.slice p9c n9c c9c)]) isAgg55 sizeOf55 rfl rfl (List.mem_cons_self ..) rfl) ?_
   refine Seq.o ?_
   refine OpTo.bslice (T := 23) (E := 55) (m := 1) (ps := #[(0, (.tmp 54))]) (d := (some 55)) (ty := 23) (gd := none) (vs := [(0, (.agg #[(.int .i64 x9a), (.int .i64 x9b), (.slice p9c n9c c9c)]))]) (cs := #[(.int .i64 x9a), (.int .i64 x9b), (.slice p9c n9c c9c)]) underlying23 (by kernel_rfl) rfl rfl rfl (by kernel_rfl) (fun b55 hn => ?_)
   replace h := h b55 hn
   refine Seq.o ?_
   refine OpTo.eff (d := (some 56)) (op := (.call { callee := .builtin .append, args := #[(.tmp 53), (.tmp 55)], argTypes := #[23, 23] })) (ty := 23) (gd := none) (by kernel_rfl) rfl rfl (Builtin.append_ #[23, 23] 23 #[(.slice p7b n7b c7b), (.slice (some ⟨b55, 0, none⟩) 1 1)]) (fun o ho ht => exec_b_append rfl rfl o ho ht) (h.mono (fun v σ1 h2 => ?_)); replace h := h2; clear h2
   obtain ⟨p56, n56, c56, rfl, h⟩ := h
   refine Seq.z 57 (.fieldAddr 25 (.tmp 7) 1) 0 (.pointer (some ⟨b7, 1, none⟩)) (Y.fieldAddr (fd := (fieldOf prog 25 1)) underlying25 (by kernel_rfl) sizeOf23 rfl rfl) ?_
   refine Seq.o ?_
   refine OpTo.storeb (T := 23) (ty := 0) (x := (.tmp 57)) (y := (.tmp 56)) (t := 25) (j := 1) (b := b7) (o := 1) (c' := #[(.int .u64 x7a), (.slice p56 n56 c56)]) (v := (.slice p56 n56 c56)) (gd := none) (by kernel_rfl) rfl sizeOf23 rfl rfl rfl rfl rfl rfl rfl ?_
   simp only [List.set]
   refine Seq.done ?_
   refine At.L [(1, (.pointer (some ⟨b1, 0, none⟩))), (2, (.pointer (some ⟨b2, 0, none⟩))), (5, (.pointer (some ⟨b5, 0, none⟩))), (6, v6), (7, (.pointer (some ⟨b7, 0, none⟩))), (8, (.int .u64 x8))] fun J => ?_
   refine At.inBlock ?_
   refine At.rg 6 [0, 1, 2] ?_
   refine Seq.u 25 (.int .u64 x8) ?_
   obtain ⟨x26, hwx26⟩ : ∃ y, y = IntKind.u64.wrap (x8 - 1) := ⟨_, rfl⟩
   replace h := h x26 hwx26
   refine Seq.y (d := (some 26)) (op := (.binOp .sub 22 (.tmp 25) (.const (.int .u64 1)) 22)) (ty := 22) (v := (.int .u64 x26)) (by kernel_rfl) rfl (hwx26 ▸ Y.sub rfl rfl) ?_
   refine Seq.u 8 (.int .u64 x26) ?_
   refine Seq.done ?_
   refine At.L [(1, (.pointer (some ⟨b1, 0, none⟩))), (2, (.pointer (some ⟨b2, 0, none⟩))), (5, (.pointer (some ⟨b5, 0, none⟩))), (6, v6), (7, (.pointer (some ⟨b7, 0, none⟩))), (8, (.int .u64 x26))] fun J => ?_
   refine At.inLoop ?_
   refine At.s K14 K19 ?_
   refine At.s K15 K16 ?_
   refine At.sub (bx' := [(b7, .cells #[(.int .u64 x7a), (.slice p56 n56 c56)] 25 (0, 0)), (b2, .cells #[(.int .u64 x2a), (.slice p2b n2b c2b)] 25 (0, 0))]) (.cons _ (.cons_cons _ (.cons_cons _ .slnil))) ?_
   exact At.v [(1, (.pointer (some ⟨b1, 0, none⟩))), (2, (.pointer (some ⟨b2, 0, none⟩))), (5, (.pointer (some ⟨b5, 0, none⟩))), (6, v6), (7, (.pointer (some ⟨b7, 0, none⟩))), (8, (.int .u64 x26))] (h _ b2 b7)
 | false =>
  replace h := h.2 (of_decide_eq_false hb)
  refine Seq.n 39 ?_
  refine Seq.n 40 ?_
  refine Seq.u 41 (.bool false) ?_
  refine Seq.done ?_
  refine At.L [(1, (.pointer (some ⟨b1, 0, none⟩))), (2, (.pointer (some ⟨b2, 0, none⟩))), (5, (.pointer (some ⟨b5, 0, none⟩))), (6, v6), (7, (.pointer (some ⟨b7, 0, none⟩))), (8, (.int .u64 x8)), (9, (.pointer (some ⟨b9, 0, none⟩))), (10, (.int .u64 x10)), (41, (.bool false))] fun J => ?_
  refine At.cF 41 K32 K33 ?_
  refine At.x 2 [.code K38, .inBlock 1, .code K39, .inLoop K13, .inBlock 0, .code K40] ?_
  refine At.rg 12 [0, 1, 2, 3, 4, 5, 6] ?_
  refine Seq.z 52 (.fieldAddr 25 (.tmp 7) 1) 0 (.pointer (some ⟨b7, 1, none⟩)) (Y.fieldAddr (fd := (fieldOf prog 25 1)) underlying25 (by kernel_rfl) sizeOf23 rfl rfl) ?_
  refine Seq.z 53 (.load 23 (.tmp 52)) 23 (.slice p7b n7b c7b) (Y.ldb isAgg23 rfl (.tail _ (List.mem_cons_self ..)) rfl) ?_
  refine Seq.z 54 (.load 55 (.tmp 9)) 55 (.agg #[(.int .i64 x9a), (.int .i64 x9b), (.slice p9c n9c c9c)]) (Y.ldab (vs := [(.int .i64 x9a), (.int .i64 x9b), (.slice p9c n9c c9c)]) isAgg55 sizeOf55 rfl rfl (List.mem_cons_self ..) rfl) ?_
  refine Seq.o ?_
  refine OpTo.bslice (T := 23) (E := 55) (m := 1) (ps := #[(0, (.tmp 54))]) (d := (some 55)) (ty := 23) (gd := none) (vs := [(0, (.agg #[(.int .i64 x9a), (.int .i64 x9b), (.slice p9c n9c c9c)]))]) (cs := #[(.int .i64 x9a), (.int .i64 x9b), (.slice p9c n9c c9c)]) underlying23 (by kernel_rfl) rfl rfl rfl (by kernel_rfl) (fun b55 hn => ?_)
  replace h := h b55 hn
  refine Seq.o ?_
  refine OpTo.eff (d := (some 56)) (op := (.call { callee := .builtin .append, args := #[(.tmp 53), (.tmp 55)], argTypes := #[23, 23] })) (ty := 23) (gd := none) (by kernel_rfl) rfl rfl (Builtin.append_ #[23, 23] 23 #[(.slice p7b n7b c7b), (.slice (some ⟨b55, 0, none⟩) 1 1)]) (fun o ho ht => exec_b_append rfl rfl o ho ht) (h.mono (fun v σ1 h2 => ?_)); replace h := h2; clear h2
  obtain ⟨p56, n56, c56, rfl, h⟩ := h
  refine Seq.z 57 (.fieldAddr 25 (.tmp 7) 1) 0 (.pointer (some ⟨b7, 1, none⟩)) (Y.fieldAddr (fd := (fieldOf prog 25 1)) underlying25 (by kernel_rfl) sizeOf23 rfl rfl) ?_
  refine Seq.o ?_
  refine OpTo.storeb (T := 23) (ty := 0) (x := (.tmp 57)) (y := (.tmp 56)) (t := 25) (j := 1) (b := b7) (o := 1) (c' := #[(.int .u64 x7a), (.slice p56 n56 c56)]) (v := (.slice p56 n56 c56)) (gd := none) (by kernel_rfl) rfl sizeOf23 rfl rfl rfl rfl rfl rfl rfl ?_
  simp only [List.set]
  refine Seq.done ?_
  refine At.L [(1, (.pointer (some ⟨b1, 0, none⟩))), (2, (.pointer (some ⟨b2, 0, none⟩))), (5, (.pointer (some ⟨b5, 0, none⟩))), (6, v6), (7, (.pointer (some ⟨b7, 0, none⟩))), (8, (.int .u64 x8))] fun J => ?_
  refine At.inBlock ?_
  refine At.rg 6 [0, 1, 2] ?_
  refine Seq.u 25 (.int .u64 x8) ?_
  obtain ⟨x26, hwx26⟩ : ∃ y, y = IntKind.u64.wrap (x8 - 1) := ⟨_, rfl⟩
  replace h := h x26 hwx26
  refine Seq.y (d := (some 26)) (op := (.binOp .sub 22 (.tmp 25) (.const (.int .u64 1)) 22)) (ty := 22) (v := (.int .u64 x26)) (by kernel_rfl) rfl (hwx26 ▸ Y.sub rfl rfl) ?_
  refine Seq.u 8 (.int .u64 x26) ?_
  refine Seq.done ?_
  refine At.L [(1, (.pointer (some ⟨b1, 0, none⟩))), (2, (.pointer (some ⟨b2, 0, none⟩))), (5, (.pointer (some ⟨b5, 0, none⟩))), (6, v6), (7, (.pointer (some ⟨b7, 0, none⟩))), (8, (.int .u64 x26))] fun J => ?_
  refine At.inLoop ?_
  refine At.s K14 K19 ?_
  refine At.s K15 K16 ?_
  refine At.sub (bx' := [(b7, .cells #[(.int .u64 x7a), (.slice p56 n56 c56)] 25 (0, 0)), (b2, .cells #[(.int .u64 x2a), (.slice p2b n2b c2b)] 25 (0, 0))]) (.cons _ (.cons_cons _ (.cons_cons _ .slnil))) ?_
  exact At.v [(1, (.pointer (some ⟨b1, 0, none⟩))), (2, (.pointer (some ⟨b2, 0, none⟩))), (5, (.pointer (some ⟨b5, 0, none⟩))), (6, v6), (7, (.pointer (some ⟨b7, 0, none⟩))), (8, (.int .u64 x26))] (h _ b2 b7)
end ring_Decode
end TwR
end
section
/- written by gen.py: program points and what leads to them -/
set_option linter.unusedVariables false
set_option maxRecDepth 100000
namespace TwR
open Go Tw Go.Proofs.Try
namespace ring_changed
abbrev fid : Nat := 45
noncomputable def K0 : Code := f45.body.getD .skip
noncomputable def K1 := Tw.cl K0
noncomputable def K2 := Tw.cr K0
noncomputable def K3 := Tw.cl K2
noncomputable def K4 := Tw.cl K3
noncomputable def K5 := Tw.cr K3
noncomputable def K6 := Tw.cl K5
noncomputable def K7 := Tw.cl K6
noncomputable def K8 := Tw.cr K6
noncomputable def K9 := Tw.cr K5
noncomputable def K10 := Tw.cr K2
noncomputable def K11 := Tw.cl K10
noncomputable def K12 := Tw.cr K10
noncomputable def K13 := Tw.cl K12
noncomputable def K14 := Tw.cr K12
noncomputable def K15 := Tw.cl K14
noncomputable def K16 := Tw.cl K15
noncomputable def K17 := Tw.cr K15
noncomputable def K18 := Tw.cl K17
noncomputable def K19 := Tw.cr K17
noncomputable def K20 := Tw.cl K19
noncomputable def K21 := Tw.cl K20
noncomputable def K22 := Tw.cr K20
noncomputable def K23 := Tw.cr K19
noncomputable def K24 := Tw.cr K14
noncomputable def K25 := Tw.cl K24
noncomputable def K26 := Tw.cr K24
noncomputable abbrev gl (R : Ending → Hp → Prop) : Gl := Gl.fn prog 45 42 R
theorem start {R : Ending → Hp → Prop} {x0a : Int} {p0b : Option Addr} {n0b : Nat} {c0b : Nat} {x1 : Int} {v2 : Value} {σ : Hp} (h : Spec prog 32 #[(.agg #[(.int .u64 x0a), (.slice p0b n0b c0b)])] σ (Cont R (fun v σ1 => ∃ x11 : Int, v = (.int .i64 x11) ∧ ((x11 : Int) ≠ 0 → R (.returned (.tuple #[(.agg #[(.int .u64 0), (.slice none 0 0)]), (.int .i64 130)])) σ1) ∧ (¬ ((x11 : Int) ≠ 0) → ((x0a : Int) = 18446744073709551615 → R (.returned (.tuple #[(.agg #[(.int .u64 0), (.slice none 0 0)]), (.int .i64 130)])) σ1) ∧ (¬ ((x0a : Int) = 18446744073709551615) → Spec prog 51 #[(.int .i64 x1)] σ1 (Cont R (fun v_2 σ1_2 => ∃ t20 : Bool, v_2 = (.bool t20) ∧ (t20 = false → R (.returned (.tuple #[(.agg #[(.int .u64 0), (.slice none 0 0)]), (.int .i64 130)])) σ1_2) ∧ (t20 = true → Spec prog 67 #[(.agg #[(.int .u64 x0a), (.slice p0b n0b c0b)])] σ1_2 (Cont R (fun v_3 σ1_3 => ∃ x25a : Int, ∃ p25b : Option Addr, ∃ n25b : Nat, ∃ c25b : Nat, v_3 = (.agg #[(.int .u64 x25a), (.slice p25b n25b c25b)]) ∧ ∀ b8 : Nat, σ1_3 b8 = none → Eff prog (Instr.storeAt 25 (.pointer (some ⟨b8, 0, none⟩)) (.agg #[(.int .u64 x25a), (.slice p25b n25b c25b)])) (Hp.set σ1_3 b8 (.cells #[(.int .u64 0), (.slice none 0 0)] 25 (0, 0))) (fun _ σ1_4 => ∃ x27 : Int, Hp.ld σ1_4 ⟨b8, 0, none⟩ = some (.int .u64 x27) ∧ ∀ x28 : Int, x28 = IntKind.u64.wrap (x27 + 1) → Eff prog (Instr.storeAt 22 (.pointer (some ⟨b8, 0, none⟩)) (.int .u64 x28)) σ1_4 (fun _ σ1_5 => Spec prog 44 #[(.agg #[(.int .u64 x0a), (.slice p0b n0b c0b)]), (.int .i64 x1)] σ1_5 (Cont R (fun v_4 σ1_6 => ∃ x34 : Int, v_4 = (.int .i64 x34) ∧ ∃ (f36 : Nat) (fst36 cap36 : Array Value), v2 = .func (.func f36) fst36 cap36 ∧ Enters prog f36 ∧ Spec prog f36 (fst36 ++ #[(.agg #[(.pointer (some ⟨b8, 0, none⟩)), (.int .i64 x1), (.int .i64 x34)])] ++ cap36) σ1_6 (Cont R (fun v_5 σ1_7 => ∃ x36 : Int, v_5 = (.int .i64 x36) ∧ ((x36 : Int) ≠ 0 → R (.returned (.tuple #[(.agg #[(.int .u64 0), (.slice none 0 0)]), (.int .i64 x36)])) σ1_7) ∧ (¬ ((x36 : Int) ≠ 0) → ∃ x41a : Int, ∃ p41b : Option Addr, ∃ n41b : Nat, ∃ c41b : Nat, LdL σ1_7 b8 0 [(.int .u64 x41a), (.slice p41b n41b c41b)] ∧ R (.returned (.tuple #[(.agg #[(.int .u64 x41a), (.slice p41b n41b c41b)]), (.int .i64 0)])) σ1_7))))))))))))))))) : Spec prog 45 #[(.agg #[(.int .u64 x0a), (.slice p0b n0b c0b)]), (.int .i64 x1), v2] σ R := by
 refine Spec.of_at (fn := f45) (c := K0) func45 (by kernel_rfl) (Nat.le_of_ble_eq_true (by kernel_rfl)) (fun e he => ?_)
 refine At.ofL (l := [(0, (.agg #[(.int .u64 x0a), (.slice p0b n0b c0b)])), (1, (.int .i64 x1)), (2, v2)]) ⟨he 0, he 1, he 2, trivial⟩ (fun J => ?_)
 show At (gl R) _ _ _ _
 refine At.s K1 K2 ?_
 refine At.rg 0 [0, 1, 2] ?_
 refine Seq.o ?_
 refine OpTo.box (T := 25) (d := (some 3)) (ty := 0) (x := (.tmp 0)) (gd := none) (cs := #[(.int .u64 x0a), (.slice p0b n0b c0b)]) (by kernel_rfl) rfl rfl rfl (fun b3 => ?_)
 refine Seq.o ?_
 refine OpTo.alloc (T := 25) (d := (some 6)) (ty := 0)  (gd := none) (cs := #[(.int .u64 0), (.slice none 0 0)]) (by kernel_rfl) rfl rfl zeroValue25 rfl (fun b6 => ?_)
 refine Seq.u 7 (.int .i64 0) ?_
 refine Seq.done ?_
 refine At.L [(1, (.int .i64 x1)), (2, v2), (3, (.pointer (some ⟨b3, 0, none⟩))), (6, (.pointer (some ⟨b6, 0, none⟩)))] fun J => ?_
 refine At.s K3 K10 ?_
 refine At.s K4 K5 ?_
 refine At.rg 1 [0, 1, 2, 3, 4, 5, 6, 7, 8, 9, 10, 11, 12] ?_
 refine Seq.z 10 (.load 25 (.tmp 3)) 25 (.agg #[(.int .u64 x0a), (.slice p0b n0b c0b)]) (Y.ldab (vs := [(.int .u64 x0a), (.slice p0b n0b c0b)]) isAgg25 sizeOf25 rfl rfl (.tail _ (List.mem_cons_self ..)) rfl) ?_
 refine Seq.o ?_
 refine OpTo.cl (some 11) call32 (h.cont fun v σ1 h2 => ?_); replace h := h2; clear h2
 obtain ⟨x11, rfl, h⟩ := h
 refine Seq.u 12 (.bool (decide ((x11 : Int) ≠ 0))) ?_
 refine Seq.u 13 (.bool (decide ((x11 : Int) ≠ 0))) ?_
 cases hb : (decide ((x11 : Int) ≠ 0)) with
 | true =>
  replace h := h.1 (of_decide_eq_true hb)
  refine Seq.n 14 ?_
  refine Seq.n 15 ?_
  refine Seq.n 16 ?_
  refine Seq.u 17 (.bool true) ?_
  refine Seq.u 18 (.bool true) ?_
  refine Seq.n 19 ?_
  refine Seq.n 20 ?_
  refine Seq.n 21 ?_
  refine Seq.u 22 (.bool true) ?_
  refine Seq.done ?_
  refine At.L [(1, (.int .i64 x1)), (2, v2), (3, (.pointer (some ⟨b3, 0, none⟩))), (6, (.pointer (some ⟨b6, 0, none⟩))), (22, (.bool true))] fun J => ?_
  refine At.cT 22 K6 K9 ?_
  refine At.s K7 K8 ?_
  refine At.rg 2 [0, 1, 2] ?_
  refine Seq.z 23 (.build 25 #[]) 25 (.agg #[(.int .u64 0), (.slice none 0 0)]) (Y.build (vs := []) rfl (by kernel_rfl)) ?_
  refine Seq.o ?_
  refine OpTo.storeb (T := 25) (ty := 0) (x := (.tmp 6)) (y := (.tmp 23)) (t := 25) (j := 0) (b := b6) (o := 0) (c' := #[(.int .u64 0), (.slice none 0 0)]) (v := (.agg #[(.int .u64 0), (.slice none 0 0)])) (gd := none) (by kernel_rfl) rfl sizeOf25 rfl rfl rfl rfl rfl rfl rfl ?_
  simp only [List.set]
  refine Seq.u 7 (.int .i64 130) ?_
  refine Seq.done ?_
  refine At.L [(6, (.pointer (some ⟨b6, 0, none⟩))), (7, (.int .i64 130))] fun J => ?_
  exact At.rt [.cell 6 25, .tmp 7] [(.agg #[(.int .u64 0), (.slice none 0 0)]), (.int .i64 130)] func45 ⟨_, _, rfl, ⟨_, rfl, ldab_run isAgg25 sizeOf25 rfl (List.mem_cons_self ..)⟩, ⟨_, rfl, rfl⟩⟩ h
 | false =>
  replace h := h.2 (of_decide_eq_false hb)
  refine Seq.zg 14 (.fieldAddr 25 (.tmp 3) 0) 0 (3, false) (.pointer (some ⟨b3, 0, none⟩)) (Y.fieldAddr (fd := (fieldOf prog 25 0)) underlying25 (by kernel_rfl) sizeOf22 rfl rfl) ?_
  refine Seq.zg 15 (.load 22 (.tmp 14)) 22 (3, false) (.int .u64 x0a) (Y.ldb isAgg22 rfl (.tail _ (List.mem_cons_self ..)) rfl) ?_
  refine Seq.u 16 (.bool (decide ((x0a : Int) = 18446744073709551615))) ?_
  refine Seq.u 17 (.bool (decide ((x0a : Int) = 18446744073709551615))) ?_
  refine Seq.u 18 (.bool (decide ((x0a : Int) = 18446744073709551615))) ?_
  cases hb : (decide ((x0a : Int) = 18446744073709551615)) with
  | true =>
   replace h := h.1 (of_decide_eq_true hb)
   refine Seq.n 19 ?_
   refine Seq.n 20 ?_
   refine Seq.n 21 ?_
   refine Seq.u 22 (.bool true) ?_
   refine Seq.done ?_
   refine At.L [(1, (.int .i64 x1)), (2, v2), (3, (.pointer (some ⟨b3, 0, none⟩))), (6, (.pointer (some ⟨b6, 0, none⟩))), (22, (.bool true))] fun J => ?_
   refine At.cT 22 K6 K9 ?_
   refine At.s K7 K8 ?_
   refine At.rg 2 [0, 1, 2] ?_
   refine Seq.z 23 (.build 25 #[]) 25 (.agg #[(.int .u64 0), (.slice none 0 0)]) (Y.build (vs := []) rfl (by kernel_rfl)) ?_
   refine Seq.o ?_
   refine OpTo.storeb (T := 25) (ty := 0) (x := (.tmp 6)) (y := (.tmp 23)) (t := 25) (j := 0) (b := b6) (o := 0) (c' := #[(.int .u64 0), (.slice none 0 0)]) (v := (.agg #[(.int .u64 0), (.slice none 0 0)])) (gd := none) (by kernel_rfl) rfl sizeOf25 rfl rfl rfl rfl rfl rfl rfl ?_
   simp only [List.set]
   refine Seq.u 7 (.int .i64 130) ?_
   refine Seq.done ?_
   refine At.L [(6, (.pointer (some ⟨b6, 0, none⟩))), (7, (.int .i64 130))] fun J => ?_
   exact At.rt [.cell 6 25, .tmp 7] [(.agg #[(.int .u64 0), (.slice none 0 0)]), (.int .i64 130)] func45 ⟨_, _, rfl, ⟨_, rfl, ldab_run isAgg25 sizeOf25 rfl (List.mem_cons_self ..)⟩, ⟨_, rfl, rfl⟩⟩ h
  | false =>
   replace h := h.2 (of_decide_eq_false hb)
   refine Seq.u 19 (.int .i64 x1) ?_
   refine Seq.o ?_
   refine OpTo.cl (some 20) call51 (h.cont fun v_2 σ1_2 h2 => ?_); replace h := h2; clear h2
   obtain ⟨t20, rfl, h⟩ := h
   refine Seq.u 21 (.bool (!t20)) ?_
   refine Seq.u 22 (.bool (!t20)) ?_
   refine Seq.done ?_
   refine At.L [(1, (.int .i64 x1)), (2, v2), (3, (.pointer (some ⟨b3, 0, none⟩))), (6, (.pointer (some ⟨b6, 0, none⟩))), (22, (.bool (!t20)))] fun J => ?_
   cases hb : (!t20) with
   | true =>
    replace h := h.1 (Tw.nt hb)
    refine At.cT 22 K6 K9 ?_
    refine At.s K7 K8 ?_
    refine At.rg 2 [0, 1, 2] ?_
    refine Seq.z 23 (.build 25 #[]) 25 (.agg #[(.int .u64 0), (.slice none 0 0)]) (Y.build (vs := []) rfl (by kernel_rfl)) ?_
    refine Seq.o ?_
    refine OpTo.storeb (T := 25) (ty := 0) (x := (.tmp 6)) (y := (.tmp 23)) (t := 25) (j := 0) (b := b6) (o := 0) (c' := #[(.int .u64 0), (.slice none 0 0)]) (v := (.agg #[(.int .u64 0), (.slice none 0 0)])) (gd := none) (by kernel_rfl) rfl sizeOf25 rfl rfl rfl rfl rfl rfl rfl ?_
    simp only [List.set]
    refine Seq.u 7 (.int .i64 130) ?_
    refine Seq.done ?_
    refine At.L [(6, (.pointer (some ⟨b6, 0, none⟩))), (7, (.int .i64 130))] fun J => ?_
    exact At.rt [.cell 6 25, .tmp 7] [(.agg #[(.int .u64 0), (.slice none 0 0)]), (.int .i64 130)] func45 ⟨_, _, rfl, ⟨_, rfl, ldab_run isAgg25 sizeOf25 rfl (List.mem_cons_self ..)⟩, ⟨_, rfl, rfl⟩⟩ h
   | false =>
    replace h := h.2 (Tw.nf hb)
    refine At.cF 22 K6 K9 ?_
    refine At.skip ?_
    refine At.s K11 K12 ?_
    refine At.rg 3 [0, 1, 2, 3] ?_
    refine Seq.z 24 (.load 25 (.tmp 3)) 25 (.agg #[(.int .u64 x0a), (.slice p0b n0b c0b)]) (Y.ldab (vs := [(.int .u64 x0a), (.slice p0b n0b c0b)]) isAgg25 sizeOf25 rfl rfl (.tail _ (List.mem_cons_self ..)) rfl) ?_
    refine Seq.o ?_
    refine OpTo.cl (some 25) call67 (h.cont fun v_3 σ1_3 h2 => ?_); replace h := h2; clear h2
    obtain ⟨x25a, p25b, n25b, c25b, rfl, h⟩ := h
    refine Seq.o ?_
    refine OpTo.allocO (T := 25) (d := (some 8)) (ty := 0)  (gd := none) (cs := #[(.int .u64 0), (.slice none 0 0)]) (by kernel_rfl) rfl rfl zeroValue25 rfl (fun b8 hn => ?_)
    replace h := h b8 hn
    refine Seq.o ?_
    refine OpTo.store (T := 25) (ty := 0) (x := (.tmp 8)) (y := (.tmp 25)) (p := (.pointer (some ⟨b8, 0, none⟩))) (v := (.agg #[(.int .u64 x25a), (.slice p25b n25b c25b)])) (gd := none) (by kernel_rfl) rfl rfl rfl (h.mono (fun _ σ1_4 h2 => ?_)); replace h := h2; clear h2
    refine Seq.done ?_
    refine At.L [(1, (.int .i64 x1)), (2, v2), (3, (.pointer (some ⟨b3, 0, none⟩))), (6, (.pointer (some ⟨b6, 0, none⟩))), (8, (.pointer (some ⟨b8, 0, none⟩)))] fun J => ?_
    refine At.s K13 K14 ?_
    refine At.rg 4 [0, 1, 2, 3, 4] ?_
    refine Seq.z 26 (.fieldAddr 25 (.tmp 8) 0) 0 (.pointer (some ⟨b8, 0, none⟩)) (Y.fieldAddr (fd := (fieldOf prog 25 0)) underlying25 (by kernel_rfl) sizeOf22 rfl rfl) ?_
    obtain ⟨x27, hl, h⟩ := h
    refine Seq.z 27 (.load 22 (.tmp 26)) 22 (.int .u64 x27) (Y.ld isAgg22 rfl hl) ?_
    obtain ⟨x28, hwx28⟩ : ∃ y, y = IntKind.u64.wrap (x27 + 1) := ⟨_, rfl⟩
    replace h := h x28 hwx28
    refine Seq.y (d := (some 28)) (op := (.binOp .add 22 (.tmp 27) (.const (.int .u64 1)) 22)) (ty := 22) (v := (.int .u64 x28)) (by kernel_rfl) rfl (hwx28 ▸ Y.add rfl rfl) ?_
    refine Seq.z 29 (.fieldAddr 25 (.tmp 8) 0) 0 (.pointer (some ⟨b8, 0, none⟩)) (Y.fieldAddr (fd := (fieldOf prog 25 0)) underlying25 (by kernel_rfl) sizeOf22 rfl rfl) ?_
    refine Seq.o ?_
    refine OpTo.store (T := 22) (ty := 0) (x := (.tmp 29)) (y := (.tmp 28)) (p := (.pointer (some ⟨b8, 0, none⟩))) (v := (.int .u64 x28)) (gd := none) (by kernel_rfl) rfl rfl rfl (h.mono (fun _ σ1_5 h2 => ?_)); replace h := h2; clear h2
    refine Seq.done ?_
    refine At.L [(1, (.int .i64 x1)), (2, v2), (3, (.pointer (some ⟨b3, 0, none⟩))), (6, (.pointer (some ⟨b6, 0, none⟩))), (8, (.pointer (some ⟨b8, 0, none⟩)))] fun J => ?_
    refine At.s K15 K24 ?_
    refine At.s K16 K17 ?_
    refine At.rg 5 [0, 1, 2, 3, 4, 5, 6, 7] ?_
    refine Seq.u 30 v2 ?_
    refine Seq.u 31 (.int .i64 x1) ?_
    refine Seq.z 32 (.load 25 (.tmp 3)) 25 (.agg #[(.int .u64 x0a), (.slice p0b n0b c0b)]) (Y.ldab (vs := [(.int .u64 x0a), (.slice p0b n0b c0b)]) isAgg25 sizeOf25 rfl rfl (.tail _ (List.mem_cons_self ..)) rfl) ?_
    refine Seq.u 33 (.int .i64 x1) ?_
    refine Seq.o ?_
    refine OpTo.cl (some 34) call44 (h.cont fun v_4 σ1_6 h2 => ?_); replace h := h2; clear h2
    obtain ⟨x34, rfl, h⟩ := h
    refine Seq.z 35 (.build 75 #[(0, (.tmp 8)), (1, (.tmp 31)), (2, (.tmp 34))]) 75 (.agg #[(.pointer (some ⟨b8, 0, none⟩)), (.int .i64 x1), (.int .i64 x34)]) (Y.build (vs := [(0, (.pointer (some ⟨b8, 0, none⟩))), (1, (.int .i64 x1)), (2, (.int .i64 x34))]) rfl (by kernel_rfl)) ?_
    obtain ⟨f36, fst36, cap36, hfv, hen, h⟩ := h
    refine Seq.o ?_
    refine OpTo.callE (g := (gl R)) (f := f36) (fst := fst36) (cap := cap36) (vs := #[(.agg #[(.pointer (some ⟨b8, 0, none⟩)), (.int .i64 x1), (.int .i64 x34)])]) (u := v2) (d := (some 36)) (x := (.tmp 30)) (xs := #[(.tmp 35)]) (ts := #[75]) (ty := 28) (gd := none) (by kernel_rfl) rfl rfl rfl rfl hfv hen (h.cont (fun v_5 σ1_7 h2 => ?_)); replace h := h2; clear h2
    obtain ⟨x36, rfl, h⟩ := h
    refine Seq.u 9 (.int .i64 x36) ?_
    refine Seq.done ?_
    refine At.L [(6, (.pointer (some ⟨b6, 0, none⟩))), (8, (.pointer (some ⟨b8, 0, none⟩))), (9, (.int .i64 x36))] fun J => ?_
    refine At.s K18 K19 ?_
    refine At.rg 6 [0, 1] ?_
    refine Seq.u 37 (.int .i64 x36) ?_
    refine Seq.u 38 (.bool (decide ((x36 : Int) ≠ 0))) ?_
    refine Seq.done ?_
    refine At.L [(6, (.pointer (some ⟨b6, 0, none⟩))), (8, (.pointer (some ⟨b8, 0, none⟩))), (9, (.int .i64 x36)), (38, (.bool (decide ((x36 : Int) ≠ 0))))] fun J => ?_
    cases hb : (decide ((x36 : Int) ≠ 0)) with
    | true =>
     replace h := h.1 (of_decide_eq_true hb)
     refine At.cT 38 K20 K23 ?_
     refine At.s K21 K22 ?_
     refine At.rg 7 [0, 1, 2, 3] ?_
     refine Seq.z 39 (.build 25 #[]) 25 (.agg #[(.int .u64 0), (.slice none 0 0)]) (Y.build (vs := []) rfl (by kernel_rfl)) ?_
     refine Seq.u 40 (.int .i64 x36) ?_
     refine Seq.o ?_
     refine OpTo.storeb (T := 25) (ty := 0) (x := (.tmp 6)) (y := (.tmp 39)) (t := 25) (j := 0) (b := b6) (o := 0) (c' := #[(.int .u64 0), (.slice none 0 0)]) (v := (.agg #[(.int .u64 0), (.slice none 0 0)])) (gd := none) (by kernel_rfl) rfl sizeOf25 rfl rfl rfl rfl rfl rfl rfl ?_
     simp only [List.set]
     refine Seq.u 7 (.int .i64 x36) ?_
     refine Seq.done ?_
     refine At.L [(6, (.pointer (some ⟨b6, 0, none⟩))), (7, (.int .i64 x36))] fun J => ?_
     exact At.rt [.cell 6 25, .tmp 7] [(.agg #[(.int .u64 0), (.slice none 0 0)]), (.int .i64 x36)] func45 ⟨_, _, rfl, ⟨_, rfl, ldab_run isAgg25 sizeOf25 rfl (List.mem_cons_self ..)⟩, ⟨_, rfl, rfl⟩⟩ h
    | false =>
     replace h := h.2 (of_decide_eq_false hb)
     refine At.cF 38 K20 K23 ?_
     refine At.skip ?_
     refine At.s K25 K26 ?_
     refine At.rg 8 [0, 1, 2] ?_
     obtain ⟨x41a, p41b, n41b, c41b, hl, h⟩ := h
     refine Seq.z 41 (.load 25 (.tmp 8)) 25 (.agg #[(.int .u64 x41a), (.slice p41b n41b c41b)]) (Y.lda isAgg25 sizeOf25 rfl rfl hl) ?_
     refine Seq.o ?_
     refine OpTo.storeb (T := 25) (ty := 0) (x := (.tmp 6)) (y := (.tmp 41)) (t := 25) (j := 0) (b := b6) (o := 0) (c' := #[(.int .u64 x41a), (.slice p41b n41b c41b)]) (v := (.agg #[(.int .u64 x41a), (.slice p41b n41b c41b)])) (gd := none) (by kernel_rfl) rfl sizeOf25 rfl rfl rfl rfl rfl rfl rfl ?_
     simp only [List.set]
     refine Seq.u 7 (.int .i64 0) ?_
     refine Seq.done ?_
     refine At.L [(6, (.pointer (some ⟨b6, 0, none⟩))), (7, (.int .i64 0))] fun J => ?_
     exact At.rt [.cell 6 25, .tmp 7] [(.agg #[(.int .u64 x41a), (.slice p41b n41b c41b)]), (.int .i64 0)] func45 ⟨_, _, rfl, ⟨_, rfl, ldab_run isAgg25 sizeOf25 rfl (List.mem_cons_self ..)⟩, ⟨_, rfl, rfl⟩⟩ h
end ring_changed
namespace slices_IndexFunc_Member
abbrev fid : Nat := 65
noncomputable def K0 : Code := f65.body.getD .skip
noncomputable def K1 := Tw.cl K0
noncomputable def K2 := Tw.cr K0
noncomputable def K3 := Tw.cl K2
noncomputable def K4 := Tw.cl K3
noncomputable def K5 := Tw.cr K3
noncomputable def K6 := Tw.cl K5
noncomputable def K7 := Tw.cl K6
noncomputable def K8 := Tw.cl K7
noncomputable def K9 := Tw.cr K7
noncomputable def K10 := Tw.cl K9
noncomputable def K11 := Tw.cl K10
noncomputable def K12 := Tw.cr K10
noncomputable def K13 := Tw.cr K9
noncomputable def K14 := Tw.cl K13
noncomputable def K15 := Tw.cl K14
noncomputable def K16 := Tw.cl K15
noncomputable def K17 := Tw.cr K15
noncomputable def K18 := Tw.cl K17
noncomputable def K19 := Tw.cr K17
noncomputable def K20 := Tw.cl K19
noncomputable def K21 := Tw.cl K20
noncomputable def K22 := Tw.cr K20
noncomputable def K23 := Tw.cr K19
noncomputable def K24 := Tw.cr K13
noncomputable def K25 := Tw.cr K2
noncomputable def K26 := Tw.cl K25
noncomputable def K27 := Tw.cr K25
noncomputable abbrev gl (R : Ending → Hp → Prop) : Gl := Gl.fn prog 65 19 R
def pt8 (R : Ending → Hp → Prop) (p0 : Option Addr) (n0 : Nat) (c0 : Nat) (v1 : Value) (x7 : Int) (x8 : Int) (σ : Hp) : Prop := ∀ (J : Env), At (gl R) [.code K8, .code K9, .inLoop K7, .inBlock 0, .code K25] (upds J [(0, (.slice p0 n0 c0)), (1, v1), (7, (.int .i64 x7)), (8, (.int .i64 x8))]) [] σ
theorem start {R : Ending → Hp → Prop} {p0 : Option Addr} {n0 : Nat} {c0 : Nat} {v1 : Value} {σ : Hp} (h : pt8 R p0 n0 c0 v1 ((n0 : Int)) 0 σ) : Spec prog 65 #[(.slice p0 n0 c0), v1] σ R := by
 refine Spec.of_at (fn := f65) (c := K0) func65 (by kernel_rfl) (Nat.le_of_ble_eq_true (by kernel_rfl)) (fun e he => ?_)
 refine At.ofL (l := [(0, (.slice p0 n0 c0)), (1, v1)]) ⟨he 0, he 1, trivial⟩ (fun J => ?_)
 show At (gl R) _ _ _ _
 refine At.s K1 K2 ?_
 refine At.rg 0 [0] ?_
 refine Seq.u 4 (.int .i64 0) ?_
 refine Seq.done ?_
 refine At.L [(0, (.slice p0 n0 c0)), (1, v1)] fun J => ?_
 refine At.s K3 K25 ?_
 refine At.s K4 K5 ?_
 refine At.rg 1 [0, 1, 2] ?_
 refine Seq.u 6 (.slice p0 n0 c0) ?_
 refine Seq.z 7 (.call { callee := .builtin .len, args := #[(.tmp 6)], argTypes := #[23] }) 3 (.int .i64 (n0 : Int)) (Y.lenS underlying23 rfl rfl) ?_
 refine Seq.u 8 (.int .i64 0) ?_
 refine Seq.done ?_
 refine At.L [(0, (.slice p0 n0 c0)), (1, v1), (7, (.int .i64 (n0 : Int))), (8, (.int .i64 0))] fun J => ?_
 refine At.b 0 K6 ?_
 refine At.loop (x := K7) (by kernel_rfl) ?_
 refine At.s K8 K9 ?_
 exact At.v [(0, (.slice p0 n0 c0)), (1, v1), (7, (.int .i64 (n0 : Int))), (8, (.int .i64 0))] (h _)
theorem pt8_of {R : Ending → Hp → Prop} {p0 : Option Addr} {n0 : Nat} {c0 : Nat} {v1 : Value} {x7 : Int} {x8 : Int} {σ : Hp} (h : ((x8 : Int) < x7 → ∃ (b14 o14 : Nat), p0 = some ⟨b14, o14, none⟩ ∧ ((0 : Int) ≤ x8 ∧ x8 < (n0 : Int)) ∧ ∃ x15a : Int, ∃ x15b : Int, ∃ p15c : Option Addr, ∃ n15c : Nat, ∃ c15c : Nat, LdL σ b14 (o14 + Int.toNat x8 * 3) [(.int .i64 x15a), (.int .i64 x15b), (.slice p15c n15c c15c)] ∧ ∃ (f16 : Nat) (fst16 cap16 : Array Value), v1 = .func (.func f16) fst16 cap16 ∧ Enters prog f16 ∧ Spec prog f16 (fst16 ++ #[(.agg #[(.int .i64 x15a), (.int .i64 x15b), (.slice p15c n15c c15c)])] ++ cap16) σ (Cont R (fun v σ1 => ∃ t16 : Bool, v = (.bool t16) ∧ (t16 = true → R (.returned (.int .i64 x8)) σ1) ∧ (t16 = false → I64 (x8 + 1) ∧ pt8 R ((some ⟨b14, o14, none⟩)) n0 c0 v1 x7 ((x8 + 1)) σ1)))) ∧ (¬ ((x8 : Int) < x7) → R (.returned (.int .i64 (-1))) σ)) : pt8 R p0 n0 c0 v1 x7 x8 σ := by
 intro J
 show At (gl R) _ _ _ _
 refine At.rg 2 [0] ?_
 refine Seq.u 9 (.bool (decide ((x8 : Int) < x7))) ?_
 refine Seq.done ?_
 refine At.L [(0, (.slice p0 n0 c0)), (1, v1), (7, (.int .i64 x7)), (8, (.int .i64 x8)), (9, (.bool (decide ((x8 : Int) < x7))))] fun J => ?_
 refine At.s K10 K13 ?_
 cases hb : (decide ((x8 : Int) < x7)) with
 | true =>
  replace h := h.1 (of_decide_eq_true hb)
  refine At.cT 9 K11 K12 ?_
  refine At.skip ?_
  refine At.s K14 K24 ?_
  refine At.b 1 K15 ?_
  refine At.s K16 K17 ?_
  refine At.rg 3 [0, 1] ?_
  refine Seq.u 10 (.int .i64 x8) ?_
  refine Seq.u 5 (.int .i64 x8) ?_
  refine Seq.done ?_
  refine At.L [(0, (.slice p0 n0 c0)), (1, v1), (5, (.int .i64 x8)), (7, (.int .i64 x7)), (8, (.int .i64 x8))] fun J => ?_
  refine At.s K18 K19 ?_
  refine At.rg 4 [0, 1, 2, 3, 4, 5] ?_
  refine Seq.u 11 v1 ?_
  refine Seq.u 12 (.slice p0 n0 c0) ?_
  refine Seq.u 13 (.int .i64 x8) ?_
  obtain ⟨b14, o14, hq, h⟩ := h
  subst hq
  obtain ⟨hi, h⟩ := h
  refine Seq.z 14 (.indexAddr 23 (.tmp 12) (.tmp 13)) 0 (.pointer (some ⟨b14, (o14 + Int.toNat x8 * 3), none⟩)) (Y.idx underlying23 sizeOf55 rfl rfl hi rfl) ?_
  obtain ⟨x15a, x15b, p15c, n15c, c15c, hl, h⟩ := h
  refine Seq.z 15 (.load 55 (.tmp 14)) 55 (.agg #[(.int .i64 x15a), (.int .i64 x15b), (.slice p15c n15c c15c)]) (Y.lda isAgg55 sizeOf55 rfl rfl hl) ?_
  obtain ⟨f16, fst16, cap16, hfv, hen, h⟩ := h
  refine Seq.o ?_
  refine OpTo.callE (g := (gl R)) (f := f16) (fst := fst16) (cap := cap16) (vs := #[(.agg #[(.int .i64 x15a), (.int .i64 x15b), (.slice p15c n15c c15c)])]) (u := v1) (d := (some 16)) (x := (.tmp 11)) (xs := #[(.tmp 15)]) (ts := #[55]) (ty := 4) (gd := none) (by kernel_rfl) rfl rfl rfl rfl hfv hen (h.cont (fun v σ1 h2 => ?_)); replace h := h2; clear h2
  obtain ⟨t16, rfl, h⟩ := h
  refine Seq.done ?_
  refine At.L [(0, (.slice (some ⟨b14, o14, none⟩) n0 c0)), (1, v1), (5, (.int .i64 x8)), (7, (.int .i64 x7)), (8, (.int .i64 x8)), (16, (.bool t16))] fun J => ?_
  cases hb : t16 with
  | true =>
   replace h := h.1 hb
   refine At.cT 16 K20 K23 ?_
   refine At.s K21 K22 ?_
   refine At.rg 5 [0, 1] ?_
   refine Seq.u 17 (.int .i64 x8) ?_
   refine Seq.u 4 (.int .i64 x8) ?_
   refine Seq.done ?_
   refine At.L [(4, (.int .i64 x8))] fun J => ?_
   exact At.rt [.tmp 4] [(.int .i64 x8)] func65 ⟨_, rfl, rfl⟩ h
  | false =>
   replace h := h.2 hb
   refine At.cF 16 K20 K23 ?_
   refine At.skip ?_
   refine At.inBlock ?_
   refine At.rg 6 [0, 1] ?_
   obtain ⟨hi, h⟩ := h
   refine Seq.z 18 (.binOp .add 3 (.tmp 8) (.const (.int .i64 1)) 3) 3 (.int .i64 (x8 + 1)) (Y.addI hi rfl rfl) ?_
   refine Seq.u 8 (.int .i64 (x8 + 1)) ?_
   refine Seq.done ?_
   refine At.L [(0, (.slice (some ⟨b14, o14, none⟩) n0 c0)), (1, v1), (7, (.int .i64 x7)), (8, (.int .i64 (x8 + 1)))] fun J => ?_
   refine At.inLoop ?_
   refine At.s K8 K9 ?_
   exact At.v [(0, (.slice (some ⟨b14, o14, none⟩) n0 c0)), (1, v1), (7, (.int .i64 x7)), (8, (.int .i64 (x8 + 1)))] (h _)
 | false =>
  replace h := h.2 (of_decide_eq_false hb)
  refine At.cF 9 K11 K12 ?_
  refine At.x 0 [.code K25] ?_
  refine At.s K26 K27 ?_
  refine At.rg 7 [0] ?_
  refine Seq.u 4 (.int .i64 (-1)) ?_
  refine Seq.done ?_
  refine At.L [(4, (.int .i64 (-1)))] fun J => ?_
  exact At.rt [.tmp 4] [(.int .i64 (-1))] func65 ⟨_, rfl, rfl⟩ h
end slices_IndexFunc_Member
namespace ring_circle_2
abbrev fid : Nat := 59
noncomputable def K0 : Code := f59.body.getD .skip
noncomputable def K1 := Tw.cl K0
noncomputable def K2 := Tw.cr K0
noncomputable def K3 := Tw.cl K2
noncomputable def K4 := Tw.cl K3
noncomputable def K5 := Tw.cl K4
noncomputable def K6 := Tw.cr K4
noncomputable def K7 := Tw.cl K6
noncomputable def K8 := Tw.cl K7
noncomputable def K9 := Tw.cr K7
noncomputable def K10 := Tw.cr K6
noncomputable def K11 := Tw.cl K10
noncomputable def K12 := Tw.cl K11
noncomputable def K13 := Tw.cl K12
noncomputable def K14 := Tw.cr K12
noncomputable def K15 := Tw.cl K14
noncomputable def K16 := Tw.cr K14
noncomputable def K17 := Tw.cl K16
noncomputable def K18 := Tw.cr K16
noncomputable def K19 := Tw.cr K10
noncomputable abbrev gl (R : Ending → Hp → Prop) : Gl := Gl.fn prog 59 24 R
def pt5 (R : Ending → Hp → Prop) (v0 : Value) (b1 : Nat) (b2 : Nat) (x6 : Int) (x7 : Int) (σ : Hp) : Prop := ∀ (J : Env), At (gl R) [.code K5, .code K6, .inLoop K4, .inBlock 0] (upds J [(0, v0), (1, (.pointer (some ⟨b1, 0, none⟩))), (2, (.pointer (some ⟨b2, 0, none⟩))), (6, (.int .i64 x6)), (7, (.int .i64 x7))]) [] σ
theorem start {R : Ending → Hp → Prop} {v0 : Value} {b1 : Nat} {b2 : Nat} {σ : Hp} (h : ∃ p5 : Option Addr, ∃ n5 : Nat, ∃ c5 : Nat, Hp.ld σ ⟨b1, 0, none⟩ = some (.slice p5 n5 c5) ∧ pt5 R v0 b1 b2 ((n5 : Int)) 0 σ) : Spec prog 59 #[v0, (.pointer (some ⟨b1, 0, none⟩)), (.pointer (some ⟨b2, 0, none⟩))] σ R := by
 refine Spec.of_at (fn := f59) (c := K0) func59 (by kernel_rfl) (Nat.le_of_ble_eq_true (by kernel_rfl)) (fun e he => ?_)
 refine At.ofL (l := [(0, v0), (1, (.pointer (some ⟨b1, 0, none⟩))), (2, (.pointer (some ⟨b2, 0, none⟩)))]) ⟨he 0, he 1, he 2, trivial⟩ (fun J => ?_)
 show At (gl R) _ _ _ _
 refine At.s K1 K2 ?_
 refine At.rg 0 [0, 1, 2] ?_
 obtain ⟨p5, n5, c5, hl, h⟩ := h
 refine Seq.z 5 (.load 79 (.tmp 1)) 79 (.slice p5 n5 c5) (Y.ld isAgg79 rfl hl) ?_
 refine Seq.z 6 (.call { callee := .builtin .len, args := #[(.tmp 5)], argTypes := #[79] }) 3 (.int .i64 (n5 : Int)) (Y.lenS underlying79 rfl rfl) ?_
 refine Seq.u 7 (.int .i64 0) ?_
 refine Seq.done ?_
 refine At.L [(0, v0), (1, (.pointer (some ⟨b1, 0, none⟩))), (2, (.pointer (some ⟨b2, 0, none⟩))), (6, (.int .i64 (n5 : Int))), (7, (.int .i64 0))] fun J => ?_
 refine At.b 0 K3 ?_
 refine At.loop (x := K4) (by kernel_rfl) ?_
 refine At.s K5 K6 ?_
 exact At.v [(0, v0), (1, (.pointer (some ⟨b1, 0, none⟩))), (2, (.pointer (some ⟨b2, 0, none⟩))), (6, (.int .i64 (n5 : Int))), (7, (.int .i64 0))] (h _)
theorem pt5_of {R : Ending → Hp → Prop} {v0 : Value} {b1 : Nat} {b2 : Nat} {x6 : Int} {x7 : Int} {σ : Hp} (h : ((x7 : Int) < x6 → ∃ p11 : Option Addr, ∃ n11 : Nat, ∃ c11 : Nat, Hp.ld σ ⟨b1, 0, none⟩ = some (.slice p11 n11 c11) ∧ ∃ x12 : Int, Hp.ld σ ⟨b2, 0, none⟩ = some (.int .i64 x12) ∧ I64 (x12 + x7) ∧ ∃ p15 : Option Addr, ∃ n15 : Nat, ∃ c15 : Nat, Hp.ld σ ⟨b1, 0, none⟩ = some (.slice p15 n15 c15) ∧ (n15 : Int) ≠ (0 : Int) ∧ ∀ x17 : Int, x17 = Int.tmod (x12 + x7) (n15 : Int) → ∃ (b18 o18 : Nat), p11 = some ⟨b18, o18, none⟩ ∧ ((0 : Int) ≤ x17 ∧ x17 < (n11 : Int)) ∧ ∃ x20 : Int, Hp.ld σ ⟨b18, ((o18 + Int.toNat x17 * 2) + 1), none⟩ = some (.int .i64 x20) ∧ ∃ l21 : Nat, v0 = .func (.yield l21) #[] #[] ∧ YSpec prog l21 #[(.int .i64 x20)] σ (Cont R (fun v σ1 => ∃ t21 : Bool, v = (.bool t21) ∧ (t21 = false → R (.returned (.tuple #[])) σ1) ∧ (t21 = true → I64 (x7 + 1) ∧ pt5 R v0 b1 b2 x6 ((x7 + 1)) σ1)))) ∧ (¬ ((x7 : Int) < x6) → R (.returned (.tuple #[])) σ)) : pt5 R v0 b1 b2 x6 x7 σ := by
 intro J
 show At (gl R) _ _ _ _
 refine At.rg 1 [0] ?_
 refine Seq.u 8 (.bool (decide ((x7 : Int) < x6))) ?_
 refine Seq.done ?_
 refine At.L [(0, v0), (1, (.pointer (some ⟨b1, 0, none⟩))), (2, (.pointer (some ⟨b2, 0, none⟩))), (6, (.int .i64 x6)), (7, (.int .i64 x7)), (8, (.bool (decide ((x7 : Int) < x6))))] fun J => ?_
 refine At.s K7 K10 ?_
 cases hb : (decide ((x7 : Int) < x6)) with
 | true =>
  replace h := h.1 (of_decide_eq_true hb)
  refine At.cT 8 K8 K9 ?_
  refine At.skip ?_
  refine At.s K11 K19 ?_
  refine At.b 1 K12 ?_
  refine At.s K13 K14 ?_
  refine At.rg 2 [0, 1] ?_
  refine Seq.u 9 (.int .i64 x7) ?_
  refine Seq.u 4 (.int .i64 x7) ?_
  refine Seq.done ?_
  refine At.L [(0, v0), (1, (.pointer (some ⟨b1, 0, none⟩))), (2, (.pointer (some ⟨b2, 0, none⟩))), (4, (.int .i64 x7)), (6, (.int .i64 x6)), (7, (.int .i64 x7))] fun J => ?_
  refine At.s K15 K16 ?_
  refine At.draw (id := 3) (ops := cO K15) (n := 13) (q := (some [])) (plan := [(0, true), (1, true), (2, true), (3, true), (4, true), (5, true), (6, true), (7, true), (8, true), (9, true), (10, true), (11, false), (12, true)]) (tl := []) mixed (by kernel_rfl) (by kernel_rfl) ?_
  refine Head.u 10 v0 ?_
  obtain ⟨p11, n11, c11, hl, h⟩ := h
  refine Head.yl b1 [[11, 10, 9, 8]] rfl (by kernel_rfl) (d := (some 11)) (op := (.load 79 (.tmp 1))) (ty := 79) (v := (.slice p11 n11 c11)) (by kernel_rfl) rfl (Y.ld isAgg79 rfl (lim_ld hl)) ?_
  obtain ⟨x12, hl, h⟩ := h
  refine Head.yl b2 [[11, 10, 9, 8, 7, 4]] rfl (by kernel_rfl) (d := (some 12)) (op := (.load 3 (.tmp 2))) (ty := 3) (v := (.int .i64 x12)) (by kernel_rfl) rfl (Y.ld isAgg3 rfl (lim_ld hl)) ?_
  refine Head.u 13 (.int .i64 x7) ?_
  obtain ⟨hi, h⟩ := h
  refine Head.z 14 (.binOp .add 3 (.tmp 12) (.tmp 13) 3) 3 (.int .i64 (x12 + x7)) (Y.addI hi rfl rfl) ?_
  obtain ⟨p15, n15, c15, hl, h⟩ := h
  refine Head.yl b1 [[11, 10, 9, 8, 7, 6]] rfl (by kernel_rfl) (d := (some 15)) (op := (.load 79 (.tmp 1))) (ty := 79) (v := (.slice p15 n15 c15)) (by kernel_rfl) rfl (Y.ld isAgg79 rfl (lim_ld hl)) ?_
  refine Head.z 16 (.call { callee := .builtin .len, args := #[(.tmp 15)], argTypes := #[79] }) 3 (.int .i64 (n15 : Int)) (Y.lenS underlying79 rfl rfl) ?_
  obtain ⟨hc, h⟩ := h
  obtain ⟨x17, hwx17⟩ : ∃ y, y = Int.tmod (x12 + x7) (n15 : Int) := ⟨_, rfl⟩
  replace h := h x17 hwx17
  refine Head.y (d := (some 17)) (op := (.binOp .rem 3 (.tmp 14) (.tmp 16) 3)) (ty := 3) (v := (.int .i64 x17)) (by kernel_rfl) rfl (hwx17 ▸ Y.rem hc rfl rfl) ?_
  obtain ⟨b18, o18, hq, h⟩ := h
  subst hq
  obtain ⟨hi, h⟩ := h
  refine Head.z 18 (.indexAddr 79 (.tmp 11) (.tmp 17)) 0 (.pointer (some ⟨b18, (o18 + Int.toNat x17 * 2), none⟩)) (Y.idx underlying79 sizeOf81 rfl rfl hi rfl) ?_
  refine Head.z 19 (.fieldAddr 81 (.tmp 18) 1) 0 (.pointer (some ⟨b18, ((o18 + Int.toNat x17 * 2) + 1), none⟩)) (Y.fieldAddr (fd := (fieldOf prog 81 1)) underlying81 (by kernel_rfl) sizeOf3 rfl rfl) ?_
  obtain ⟨x20, hl, h⟩ := h
  refine Head.yl b18 [[11]] rfl (by kernel_rfl) (d := (some 20)) (op := (.load 3 (.tmp 19))) (ty := 3) (v := (.int .i64 x20)) (by kernel_rfl) rfl (Y.ld isAgg3 rfl (lim_ld hl)) ?_
  obtain ⟨l21, hfv, h⟩ := h
  refine Head.o (q' := (some [])) rfl ?_
  refine OpTo.yield (g := (gl R)) (l := l21) (vs := #[(.int .i64 x20)]) (u := v0) (d := (some 21)) (x := (.tmp 10)) (xs := #[(.tmp 20)]) (ts := #[3]) (ty := 4) (gd := none) (by kernel_rfl) rfl rfl rfl rfl hfv (h.cont (fun v σ1 h2 => ?_)); replace h := h2; clear h2
  obtain ⟨t21, rfl, h⟩ := h
  refine ⟨⟨fun _ h => h, kp_q (L := []) Kp.nil⟩, ?_⟩
  refine Head.u 22 (.bool (!t21)) ?_
  refine Head.done ?_
  refine Seq.done ?_
  refine At.L [(0, v0), (1, (.pointer (some ⟨b1, 0, none⟩))), (2, (.pointer (some ⟨b2, 0, none⟩))), (6, (.int .i64 x6)), (7, (.int .i64 x7)), (22, (.bool (!t21)))] fun J => ?_
  cases hb : (!t21) with
  | true =>
   replace h := h.1 (Tw.nt hb)
   refine At.cT 22 K17 K18 ?_
   exact At.rt [] [] func59 rfl h
  | false =>
   replace h := h.2 (Tw.nf hb)
   refine At.cF 22 K17 K18 ?_
   refine At.skip ?_
   refine At.inBlock ?_
   refine At.rg 4 [0, 1] ?_
   obtain ⟨hi, h⟩ := h
   refine Seq.z 23 (.binOp .add 3 (.tmp 7) (.const (.int .i64 1)) 3) 3 (.int .i64 (x7 + 1)) (Y.addI hi rfl rfl) ?_
   refine Seq.u 7 (.int .i64 (x7 + 1)) ?_
   refine Seq.done ?_
   refine At.L [(0, v0), (1, (.pointer (some ⟨b1, 0, none⟩))), (2, (.pointer (some ⟨b2, 0, none⟩))), (6, (.int .i64 x6)), (7, (.int .i64 (x7 + 1)))] fun J => ?_
   refine At.inLoop ?_
   refine At.s K5 K6 ?_
   exact At.v [(0, v0), (1, (.pointer (some ⟨b1, 0, none⟩))), (2, (.pointer (some ⟨b2, 0, none⟩))), (6, (.int .i64 x6)), (7, (.int .i64 (x7 + 1)))] (h _)
 | false =>
  replace h := h.2 (of_decide_eq_false hb)
  refine At.cF 8 K8 K9 ?_
  refine At.x 0 [] ?_
  exact At.doneV (rs := []) (vs := []) func59 (by kernel_rfl) rfl h
end ring_circle_2
end TwR
end
section
/- written by gen.py: program points and what leads to them -/
set_option linter.unusedVariables false
set_option maxRecDepth 100000
namespace TwR
open Go Tw Go.Proofs.Try
namespace law13_awake
abbrev fid : Nat := 14
noncomputable def K0 : Code := f14.body.getD .skip
noncomputable def K1 := Tw.cl K0
noncomputable def K2 := Tw.cr K0
noncomputable def K3 := Tw.cl K2
noncomputable def K4 := Tw.cr K2
noncomputable def K5 := Tw.cl K4
noncomputable def K6 := Tw.cr K4
noncomputable def K7 := Tw.cl K6
noncomputable def K8 := Tw.cr K6
noncomputable def K9 := Tw.cl K8
noncomputable def K10 := Tw.cr K8
noncomputable def K11 := Tw.cl K10
noncomputable def K12 := Tw.cr K10
noncomputable def K13 := Tw.cl K12
noncomputable def K14 := Tw.cr K12
noncomputable def K15 := Tw.cl K14
noncomputable def K16 := Tw.cr K14
noncomputable def K17 := Tw.cl K16
noncomputable def K18 := Tw.cr K16
noncomputable def K19 := Tw.cl K18
noncomputable def K20 := Tw.cr K18
noncomputable abbrev gl (R : Ending → Hp → Prop) : Gl := Gl.fn prog 14 125 R
theorem start {R : Ending → Hp → Prop} {σ : Hp} (h : Spec prog 25 #[(.agg #[(.int .u64 0), (.slice none 0 0)]), (.int .i64 0)] σ (Cont R (fun v σ1 => ∃ x19aa : Int, ∃ p19ab : Option Addr, ∃ n19ab : Nat, ∃ c19ab : Nat, ∃ x19b : Int, v = (.tuple #[(.agg #[(.int .u64 x19aa), (.slice p19ab n19ab c19ab)]), (.int .i64 x19b)]) ∧ Spec prog 26 #[(.agg #[(.int .u64 x19aa), (.slice p19ab n19ab c19ab)]), (.int .i64 0)] σ1 (Cont R (fun v_2 σ1_2 => ∃ x24aa : Int, ∃ p24ab : Option Addr, ∃ n24ab : Nat, ∃ c24ab : Nat, ∃ x24b : Int, v_2 = (.tuple #[(.agg #[(.int .u64 x24aa), (.slice p24ab n24ab c24ab)]), (.int .i64 x24b)]) ∧ Spec prog 10 #[(.agg #[(.int .u64 x24aa), (.slice p24ab n24ab c24ab)]), (.int .u32 7), (.int .i64 1)] σ1_2 (Cont R (fun v_3 σ1_3 => ∃ p29a : Option Addr, ∃ n29a : Nat, ∃ c29a : Nat, ∃ x29b : Int, v_3 = (.tuple #[(.slice p29a n29a c29a), (.int .i64 x29b)]) ∧ Spec prog 10 #[(.agg #[(.int .u64 x24aa), (.slice p24ab n24ab c24ab)]), (.int .u32 7), (.int .i64 2)] σ1_3 (Cont R (fun v_4 σ1_4 => ∃ p34a : Option Addr, ∃ n34a : Nat, ∃ c34a : Nat, ∃ x34b : Int, v_4 = (.tuple #[(.slice p34a n34a c34a), (.int .i64 x34b)]) ∧ Spec prog 18 #[(.agg #[(.int .u64 x24aa), (.slice p24ab n24ab c24ab)])] σ1_4 (Cont R (fun v_5 σ1_5 => ∃ p39a : Option Addr, ∃ n39a : Nat, ∃ c39a : Nat, ∃ x39b : Int, v_5 = (.tuple #[(.slice p39a n39a c39a), (.int .i64 x39b)]) ∧ Spec prog 19 #[(.slice p39a n39a c39a)] σ1_5 (Cont R (fun v_6 σ1_6 => ∃ x44aa : Int, ∃ p44ab : Option Addr, ∃ n44ab : Nat, ∃ c44ab : Nat, ∃ x44b : Int, v_6 = (.tuple #[(.agg #[(.int .u64 x44aa), (.slice p44ab n44ab c44ab)]), (.int .i64 x44b)]) ∧ Spec prog 27 #[(.agg #[(.int .u64 x24aa), (.slice p24ab n24ab c24ab)]), (.int .i64 0)] σ1_6 (Cont R (fun v_7 σ1_7 => ∃ x49aa : Int, ∃ p49ab : Option Addr, ∃ n49ab : Nat, ∃ c49ab : Nat, ∃ x49b : Int, v_7 = (.tuple #[(.agg #[(.int .u64 x49aa), (.slice p49ab n49ab c49ab)]), (.int .i64 x49b)]) ∧ Spec prog 28 #[(.agg #[(.int .u64 x49aa), (.slice p49ab n49ab c49ab)]), (.int .i64 0)] σ1_7 (Cont R (fun v_8 σ1_8 => ∃ x54aa : Int, ∃ p54ab : Option Addr, ∃ n54ab : Nat, ∃ c54ab : Nat, ∃ x54b : Int, v_8 = (.tuple #[(.agg #[(.int .u64 x54aa), (.slice p54ab n54ab c54ab)]), (.int .i64 x54b)]) ∧ ((x19b : Int) = 0 → ((x24b : Int) = 0 → ((x29b : Int) = 0 → ∀ b69 : Nat, σ1_8 b69 = none → Spec prog 12 #[(.slice p29a n29a c29a), (.slice (some ⟨b69, 0, none⟩) 1 1)] (Hp.set σ1_8 b69 (.cells #[(.int .i64 0)] 3 (0, 0))) (Cont R (fun v_9 σ1_9 => ∃ t70 : Bool, v_9 = (.bool t70) ∧ (t70 = true → ((x34b : Int) = 133 → ((x39b : Int) = 0 → ((x44b : Int) = 0 → Spec prog 11 #[(.agg #[(.int .u64 x44aa), (.slice p44ab n44ab c44ab)]), (.agg #[(.int .u64 x24aa), (.slice p24ab n24ab c24ab)])] σ1_9 (Cont R (fun v_10 σ1_10 => ∃ t87 : Bool, v_10 = (.bool t87) ∧ (t87 = true → ((x44aa : Int) = 2 → ((x49b : Int) = 0 → ((x54b : Int) = 0 → (((n54ab : Int) : Int) = 0 → Spec prog 23 #[(.agg #[(.int .u64 x24aa), (.slice p24ab n24ab c24ab)]), (.int .i64 0)] σ1_10 (Cont R (fun v_11 σ1_11 => ∃ x110 : Int, v_11 = (.int .i64 x110) ∧ ((x110 : Int) = 2 → Spec prog 36 #[(.int .i64 0)] σ1_11 (Cont R (fun v_12 σ1_12 => ∃ p114 : Option Addr, ∃ n114 : Nat, ∃ c114 : Nat, v_12 = (.slice p114 n114 c114) ∧ ((0 : Int) < (n114 : Int) → ∀ b120 : Nat, σ1_12 b120 = none → Spec prog 32 #[(.agg #[(.int .u64 0), (.slice (some ⟨b120, 0, none⟩) 1 1)])] (Hp.set σ1_12 b120 (.cells #[(.int .i64 0), (.int .i64 0), (.slice none 0 0)] 55 (0, 0))) (Cont R (fun v_13 σ1_13 => ∃ x122 : Int, v_13 = (.int .i64 x122) ∧ R (.returned (.bool (decide ((x122 : Int) = 130)))) σ1_13))) ∧ (¬ ((0 : Int) < (n114 : Int)) → R (.returned (.bool false)) σ1_12)))) ∧ (¬ ((x110 : Int) = 2) → R (.returned (.bool false)) σ1_11)))) ∧ (¬ (((n54ab : Int) : Int) = 0) → R (.returned (.bool false)) σ1_10)) ∧ (¬ ((x54b : Int) = 0) → R (.returned (.bool false)) σ1_10)) ∧ (¬ ((x49b : Int) = 0) → R (.returned (.bool false)) σ1_10)) ∧ (¬ ((x44aa : Int) = 2) → R (.returned (.bool false)) σ1_10)) ∧ (t87 = false → R (.returned (.bool false)) σ1_10)))) ∧ (¬ ((x44b : Int) = 0) → R (.returned (.bool false)) σ1_9)) ∧ (¬ ((x39b : Int) = 0) → R (.returned (.bool false)) σ1_9)) ∧ (¬ ((x34b : Int) = 133) → R (.returned (.bool false)) σ1_9)) ∧ (t70 = false → R (.returned (.bool false)) σ1_9)))) ∧ (¬ ((x29b : Int) = 0) → R (.returned (.bool false)) σ1_8)) ∧ (¬ ((x24b : Int) = 0) → R (.returned (.bool false)) σ1_8)) ∧ (¬ ((x19b : Int) = 0) → R (.returned (.bool false)) σ1_8)))))))))))))))))) : Spec prog 14 #[] σ R := by
 refine Spec.of_at (fn := f14) (c := K0) func14 (by kernel_rfl) (Nat.le_of_ble_eq_true (by kernel_rfl)) (fun e he => ?_)
 refine At.L [] fun J => ?_
 show At (gl R) _ _ _ _
 refine At.s K1 K2 ?_
 refine At.rg 0 [0] ?_
 refine Seq.u 0 (.bool false) ?_
 refine Seq.done ?_
 refine At.L [] fun J => ?_
 refine At.s K3 K4 ?_
 refine At.rg 1 [0, 1, 2, 3, 4, 5, 6, 7] ?_
 refine Seq.z 18 (.build 25 #[]) 25 (.agg #[(.int .u64 0), (.slice none 0 0)]) (Y.build (vs := []) rfl (by kernel_rfl)) ?_
 refine Seq.o ?_
 refine OpTo.cl (some 19) call25 (h.cont fun v σ1 h2 => ?_); replace h := h2; clear h2
 obtain ⟨x19aa, p19ab, n19ab, c19ab, x19b, rfl, h⟩ := h
 refine Seq.u 17 (.tuple #[(.agg #[(.int .u64 x19aa), (.slice p19ab n19ab c19ab)]), (.int .i64 x19b)]) ?_
 refine Seq.u 20 (.agg #[(.int .u64 x19aa), (.slice p19ab n19ab c19ab)]) ?_
 refine Seq.u 21 (.int .i64 x19b) ?_
 refine Seq.o ?_
 refine OpTo.alloc (T := 25) (d := (some 1)) (ty := 0)  (gd := none) (cs := #[(.int .u64 0), (.slice none 0 0)]) (by kernel_rfl) rfl rfl zeroValue25 rfl (fun b1 => ?_)
 refine Seq.o ?_
 refine OpTo.storeb (T := 25) (ty := 0) (x := (.tmp 1)) (y := (.tmp 20)) (t := 25) (j := 0) (b := b1) (o := 0) (c' := #[(.int .u64 x19aa), (.slice p19ab n19ab c19ab)]) (v := (.agg #[(.int .u64 x19aa), (.slice p19ab n19ab c19ab)])) (gd := none) (by kernel_rfl) rfl sizeOf25 rfl rfl rfl rfl rfl rfl rfl ?_
 simp only [List.set]
 refine Seq.u 2 (.int .i64 x19b) ?_
 refine Seq.done ?_
 refine At.L [(1, (.pointer (some ⟨b1, 0, none⟩))), (2, (.int .i64 x19b))] fun J => ?_
 refine At.s K5 K6 ?_
 refine At.rg 2 [0, 1, 2, 3, 4, 5, 6, 7] ?_
 refine Seq.z 23 (.load 25 (.tmp 1)) 25 (.agg #[(.int .u64 x19aa), (.slice p19ab n19ab c19ab)]) (Y.ldab (vs := [(.int .u64 x19aa), (.slice p19ab n19ab c19ab)]) isAgg25 sizeOf25 rfl rfl (List.mem_cons_self ..) rfl) ?_
 refine Seq.o ?_
 refine OpTo.cl (some 24) call26 (h.cont fun v_2 σ1_2 h2 => ?_); replace h := h2; clear h2
 obtain ⟨x24aa, p24ab, n24ab, c24ab, x24b, rfl, h⟩ := h
 refine Seq.u 22 (.tuple #[(.agg #[(.int .u64 x24aa), (.slice p24ab n24ab c24ab)]), (.int .i64 x24b)]) ?_
 refine Seq.u 25 (.agg #[(.int .u64 x24aa), (.slice p24ab n24ab c24ab)]) ?_
 refine Seq.u 26 (.int .i64 x24b) ?_
 refine Seq.o ?_
 refine OpTo.alloc (T := 25) (d := (some 3)) (ty := 0)  (gd := none) (cs := #[(.int .u64 0), (.slice none 0 0)]) (by kernel_rfl) rfl rfl zeroValue25 rfl (fun b3 => ?_)
 refine Seq.o ?_
 refine OpTo.storeb (T := 25) (ty := 0) (x := (.tmp 3)) (y := (.tmp 25)) (t := 25) (j := 0) (b := b3) (o := 0) (c' := #[(.int .u64 x24aa), (.slice p24ab n24ab c24ab)]) (v := (.agg #[(.int .u64 x24aa), (.slice p24ab n24ab c24ab)])) (gd := none) (by kernel_rfl) rfl sizeOf25 rfl rfl rfl rfl rfl rfl rfl ?_
 simp only [List.set]
 refine Seq.u 4 (.int .i64 x24b) ?_
 refine Seq.done ?_
 refine At.L [(2, (.int .i64 x19b)), (3, (.pointer (some ⟨b3, 0, none⟩))), (4, (.int .i64 x24b))] fun J => ?_
 refine At.s K7 K8 ?_
 refine At.rg 3 [0, 1, 2, 3, 4, 5, 6] ?_
 refine Seq.z 28 (.load 25 (.tmp 3)) 25 (.agg #[(.int .u64 x24aa), (.slice p24ab n24ab c24ab)]) (Y.ldab (vs := [(.int .u64 x24aa), (.slice p24ab n24ab c24ab)]) isAgg25 sizeOf25 rfl rfl (List.mem_cons_self ..) rfl) ?_
 refine Seq.o ?_
 refine OpTo.cl (some 29) call10 (h.cont fun v_3 σ1_3 h2 => ?_); replace h := h2; clear h2
 obtain ⟨p29a, n29a, c29a, x29b, rfl, h⟩ := h
 refine Seq.u 27 (.tuple #[(.slice p29a n29a c29a), (.int .i64 x29b)]) ?_
 refine Seq.u 30 (.slice p29a n29a c29a) ?_
 refine Seq.u 31 (.int .i64 x29b) ?_
 refine Seq.u 5 (.slice p29a n29a c29a) ?_
 refine Seq.u 6 (.int .i64 x29b) ?_
 refine Seq.done ?_
 refine At.L [(2, (.int .i64 x19b)), (3, (.pointer (some ⟨b3, 0, none⟩))), (4, (.int .i64 x24b)), (5, (.slice p29a n29a c29a)), (6, (.int .i64 x29b))] fun J => ?_
 refine At.s K9 K10 ?_
 refine At.rg 4 [0, 1, 2, 3, 4, 5, 6] ?_
 refine Seq.z 33 (.load 25 (.tmp 3)) 25 (.agg #[(.int .u64 x24aa), (.slice p24ab n24ab c24ab)]) (Y.ldab (vs := [(.int .u64 x24aa), (.slice p24ab n24ab c24ab)]) isAgg25 sizeOf25 rfl rfl (List.mem_cons_self ..) rfl) ?_
 refine Seq.o ?_
 refine OpTo.cl (some 34) call10 (h.cont fun v_4 σ1_4 h2 => ?_); replace h := h2; clear h2
 obtain ⟨p34a, n34a, c34a, x34b, rfl, h⟩ := h
 refine Seq.u 32 (.tuple #[(.slice p34a n34a c34a), (.int .i64 x34b)]) ?_
 refine Seq.u 35 (.slice p34a n34a c34a) ?_
 refine Seq.u 36 (.int .i64 x34b) ?_
 refine Seq.u 7 (.slice p34a n34a c34a) ?_
 refine Seq.u 8 (.int .i64 x34b) ?_
 refine Seq.done ?_
 refine At.L [(2, (.int .i64 x19b)), (3, (.pointer (some ⟨b3, 0, none⟩))), (4, (.int .i64 x24b)), (5, (.slice p29a n29a c29a)), (6, (.int .i64 x29b)), (8, (.int .i64 x34b))] fun J => ?_
 refine At.s K11 K12 ?_
 refine At.rg 5 [0, 1, 2, 3, 4, 5, 6] ?_
 refine Seq.z 38 (.load 25 (.tmp 3)) 25 (.agg #[(.int .u64 x24aa), (.slice p24ab n24ab c24ab)]) (Y.ldab (vs := [(.int .u64 x24aa), (.slice p24ab n24ab c24ab)]) isAgg25 sizeOf25 rfl rfl (List.mem_cons_self ..) rfl) ?_
 refine Seq.o ?_
 refine OpTo.cl (some 39) call18 (h.cont fun v_5 σ1_5 h2 => ?_); replace h := h2; clear h2
 obtain ⟨p39a, n39a, c39a, x39b, rfl, h⟩ := h
 refine Seq.u 37 (.tuple #[(.slice p39a n39a c39a), (.int .i64 x39b)]) ?_
 refine Seq.u 40 (.slice p39a n39a c39a) ?_
 refine Seq.u 41 (.int .i64 x39b) ?_
 refine Seq.u 9 (.slice p39a n39a c39a) ?_
 refine Seq.u 10 (.int .i64 x39b) ?_
 refine Seq.done ?_
 refine At.L [(2, (.int .i64 x19b)), (3, (.pointer (some ⟨b3, 0, none⟩))), (4, (.int .i64 x24b)), (5, (.slice p29a n29a c29a)), (6, (.int .i64 x29b)), (8, (.int .i64 x34b)), (9, (.slice p39a n39a c39a)), (10, (.int .i64 x39b))] fun J => ?_
 refine At.s K13 K14 ?_
 refine At.rg 6 [0, 1, 2, 3, 4, 5, 6, 7] ?_
 refine Seq.u 43 (.slice p39a n39a c39a) ?_
 refine Seq.o ?_
 refine OpTo.cl (some 44) call19 (h.cont fun v_6 σ1_6 h2 => ?_); replace h := h2; clear h2
 obtain ⟨x44aa, p44ab, n44ab, c44ab, x44b, rfl, h⟩ := h
 refine Seq.u 42 (.tuple #[(.agg #[(.int .u64 x44aa), (.slice p44ab n44ab c44ab)]), (.int .i64 x44b)]) ?_
 refine Seq.u 45 (.agg #[(.int .u64 x44aa), (.slice p44ab n44ab c44ab)]) ?_
 refine Seq.u 46 (.int .i64 x44b) ?_
 refine Seq.o ?_
 refine OpTo.alloc (T := 25) (d := (some 11)) (ty := 0)  (gd := none) (cs := #[(.int .u64 0), (.slice none 0 0)]) (by kernel_rfl) rfl rfl zeroValue25 rfl (fun b11 => ?_)
 refine Seq.o ?_
 refine OpTo.storeb (T := 25) (ty := 0) (x := (.tmp 11)) (y := (.tmp 45)) (t := 25) (j := 0) (b := b11) (o := 0) (c' := #[(.int .u64 x44aa), (.slice p44ab n44ab c44ab)]) (v := (.agg #[(.int .u64 x44aa), (.slice p44ab n44ab c44ab)])) (gd := none) (by kernel_rfl) rfl sizeOf25 rfl rfl rfl rfl rfl rfl rfl ?_
 simp only [List.set]
 refine Seq.u 12 (.int .i64 x44b) ?_
 refine Seq.done ?_
 refine At.L [(2, (.int .i64 x19b)), (3, (.pointer (some ⟨b3, 0, none⟩))), (4, (.int .i64 x24b)), (5, (.slice p29a n29a c29a)), (6, (.int .i64 x29b)), (8, (.int .i64 x34b)), (10, (.int .i64 x39b)), (11, (.pointer (some ⟨b11, 0, none⟩))), (12, (.int .i64 x44b))] fun J => ?_
 refine At.s K15 K16 ?_
 refine At.rg 7 [0, 1, 2, 3, 4, 5, 6, 7] ?_
 refine Seq.z 48 (.load 25 (.tmp 3)) 25 (.agg #[(.int .u64 x24aa), (.slice p24ab n24ab c24ab)]) (Y.ldab (vs := [(.int .u64 x24aa), (.slice p24ab n24ab c24ab)]) isAgg25 sizeOf25 rfl rfl (.tail _ (List.mem_cons_self ..)) rfl) ?_
 refine Seq.o ?_
 refine OpTo.cl (some 49) call27 (h.cont fun v_7 σ1_7 h2 => ?_); replace h := h2; clear h2
 obtain ⟨x49aa, p49ab, n49ab, c49ab, x49b, rfl, h⟩ := h
 refine Seq.u 47 (.tuple #[(.agg #[(.int .u64 x49aa), (.slice p49ab n49ab c49ab)]), (.int .i64 x49b)]) ?_
 refine Seq.u 50 (.agg #[(.int .u64 x49aa), (.slice p49ab n49ab c49ab)]) ?_
 refine Seq.u 51 (.int .i64 x49b) ?_
 refine Seq.o ?_
 refine OpTo.alloc (T := 25) (d := (some 13)) (ty := 0)  (gd := none) (cs := #[(.int .u64 0), (.slice none 0 0)]) (by kernel_rfl) rfl rfl zeroValue25 rfl (fun b13 => ?_)
 refine Seq.o ?_
 refine OpTo.storeb (T := 25) (ty := 0) (x := (.tmp 13)) (y := (.tmp 50)) (t := 25) (j := 0) (b := b13) (o := 0) (c' := #[(.int .u64 x49aa), (.slice p49ab n49ab c49ab)]) (v := (.agg #[(.int .u64 x49aa), (.slice p49ab n49ab c49ab)])) (gd := none) (by kernel_rfl) rfl sizeOf25 rfl rfl rfl rfl rfl rfl rfl ?_
 simp only [List.set]
 refine Seq.u 14 (.int .i64 x49b) ?_
 refine Seq.done ?_
 refine At.L [(2, (.int .i64 x19b)), (3, (.pointer (some ⟨b3, 0, none⟩))), (4, (.int .i64 x24b)), (5, (.slice p29a n29a c29a)), (6, (.int .i64 x29b)), (8, (.int .i64 x34b)), (10, (.int .i64 x39b)), (11, (.pointer (some ⟨b11, 0, none⟩))), (12, (.int .i64 x44b)), (13, (.pointer (some ⟨b13, 0, none⟩))), (14, (.int .i64 x49b))] fun J => ?_
 refine At.s K17 K18 ?_
 refine At.rg 8 [0, 1, 2, 3, 4, 5, 6, 7] ?_
 refine Seq.z 53 (.load 25 (.tmp 13)) 25 (.agg #[(.int .u64 x49aa), (.slice p49ab n49ab c49ab)]) (Y.ldab (vs := [(.int .u64 x49aa), (.slice p49ab n49ab c49ab)]) isAgg25 sizeOf25 rfl rfl (List.mem_cons_self ..) rfl) ?_
 refine Seq.o ?_
 refine OpTo.cl (some 54) call28 (h.cont fun v_8 σ1_8 h2 => ?_); replace h := h2; clear h2
 obtain ⟨x54aa, p54ab, n54ab, c54ab, x54b, rfl, h⟩ := h
 refine Seq.u 52 (.tuple #[(.agg #[(.int .u64 x54aa), (.slice p54ab n54ab c54ab)]), (.int .i64 x54b)]) ?_
 refine Seq.u 55 (.agg #[(.int .u64 x54aa), (.slice p54ab n54ab c54ab)]) ?_
 refine Seq.u 56 (.int .i64 x54b) ?_
 refine Seq.o ?_
 refine OpTo.alloc (T := 25) (d := (some 15)) (ty := 0)  (gd := none) (cs := #[(.int .u64 0), (.slice none 0 0)]) (by kernel_rfl) rfl rfl zeroValue25 rfl (fun b15 => ?_)
 refine Seq.o ?_
 refine OpTo.storeb (T := 25) (ty := 0) (x := (.tmp 15)) (y := (.tmp 55)) (t := 25) (j := 0) (b := b15) (o := 0) (c' := #[(.int .u64 x54aa), (.slice p54ab n54ab c54ab)]) (v := (.agg #[(.int .u64 x54aa), (.slice p54ab n54ab c54ab)])) (gd := none) (by kernel_rfl) rfl sizeOf25 rfl rfl rfl rfl rfl rfl rfl ?_
 simp only [List.set]
 refine Seq.u 16 (.int .i64 x54b) ?_
 refine Seq.done ?_
 refine At.L [(2, (.int .i64 x19b)), (3, (.pointer (some ⟨b3, 0, none⟩))), (4, (.int .i64 x24b)), (5, (.slice p29a n29a c29a)), (6, (.int .i64 x29b)), (8, (.int .i64 x34b)), (10, (.int .i64 x39b)), (11, (.pointer (some ⟨b11, 0, none⟩))), (12, (.int .i64 x44b)), (14, (.int .i64 x49b)), (15, (.pointer (some ⟨b15, 0, none⟩))), (16, (.int .i64 x54b))] fun J => ?_
 refine At.s K19 K20 ?_
 refine At.rg 9 [0, 1, 2, 3, 4, 5, 6, 7, 8, 9, 10, 11, 12, 13, 14, 15, 16, 17, 18, 19, 20, 21, 22, 23, 24, 25, 26, 27, 28, 29, 30, 31, 32, 33, 34, 35, 36, 37, 38, 39, 40, 41, 42, 43, 44, 45, 46, 47, 48, 49, 50, 51, 52, 53, 54, 55, 56, 57, 58, 59, 60, 61, 62, 63, 64, 65, 66, 67, 68] ?_
 refine Seq.u 57 (.int .i64 x19b) ?_
 refine Seq.u 58 (.bool (decide ((x19b : Int) = 0))) ?_
 refine Seq.u 59 (.bool (decide ((x19b : Int) = 0))) ?_
 cases hb : (decide ((x19b : Int) = 0)) with
 | true =>
  replace h := h.1 (of_decide_eq_true hb)
  refine Seq.u 60 (.int .i64 x24b) ?_
  refine Seq.u 61 (.bool (decide ((x24b : Int) = 0))) ?_
  refine Seq.u 62 (.bool (decide ((x24b : Int) = 0))) ?_
  refine Seq.u 63 (.bool (decide ((x24b : Int) = 0))) ?_
  cases hb : (decide ((x24b : Int) = 0)) with
  | true =>
   replace h := h.1 (of_decide_eq_true hb)
   refine Seq.u 64 (.int .i64 x29b) ?_
   refine Seq.u 65 (.bool (decide ((x29b : Int) = 0))) ?_
   refine Seq.u 66 (.bool (decide ((x29b : Int) = 0))) ?_
   refine Seq.u 67 (.bool (decide ((x29b : Int) = 0))) ?_
   cases hb : (decide ((x29b : Int) = 0)) with
   | true =>
    replace h := h.1 (of_decide_eq_true hb)
    refine Seq.u 68 (.slice p29a n29a c29a) ?_
    refine Seq.o ?_
    refine OpTo.bslice (T := 27) (E := 3) (m := 1) (ps := #[(0, (.const (.int .i64 0)))]) (d := (some 69)) (ty := 27) (gd := (some (10, true))) (vs := [(0, (.int .i64 0))]) (cs := #[(.int .i64 0)]) underlying27 (by kernel_rfl) rfl rfl rfl (by kernel_rfl) (fun b69 hn => ?_)
    replace h := h b69 hn
    refine Seq.o ?_
    refine OpTo.cl (some 70) call12 (h.cont fun v_9 σ1_9 h2 => ?_); replace h := h2; clear h2
    obtain ⟨t70, rfl, h⟩ := h
    refine Seq.u 71 (.bool t70) ?_
    refine Seq.u 72 (.bool t70) ?_
    cases hb : t70 with
    | true =>
     replace h := h.1 hb
     refine Seq.u 73 (.int .i64 x34b) ?_
     refine Seq.u 74 (.bool (decide ((x34b : Int) = 133))) ?_
     refine Seq.u 75 (.bool (decide ((x34b : Int) = 133))) ?_
     refine Seq.u 76 (.bool (decide ((x34b : Int) = 133))) ?_
     cases hb : (decide ((x34b : Int) = 133)) with
     | true =>
      replace h := h.1 (of_decide_eq_true hb)
      refine Seq.u 77 (.int .i64 x39b) ?_
      refine Seq.u 78 (.bool (decide ((x39b : Int) = 0))) ?_
      refine Seq.u 79 (.bool (decide ((x39b : Int) = 0))) ?_
      refine Seq.u 80 (.bool (decide ((x39b : Int) = 0))) ?_
      cases hb : (decide ((x39b : Int) = 0)) with
      | true =>
       replace h := h.1 (of_decide_eq_true hb)
       refine Seq.u 81 (.int .i64 x44b) ?_
       refine Seq.u 82 (.bool (decide ((x44b : Int) = 0))) ?_
       refine Seq.u 83 (.bool (decide ((x44b : Int) = 0))) ?_
       refine Seq.u 84 (.bool (decide ((x44b : Int) = 0))) ?_
       cases hb : (decide ((x44b : Int) = 0)) with
       | true =>
        replace h := h.1 (of_decide_eq_true hb)
        refine Seq.zg 85 (.load 25 (.tmp 11)) 25 (27, true) (.agg #[(.int .u64 x44aa), (.slice p44ab n44ab c44ab)]) (Y.ldab (vs := [(.int .u64 x44aa), (.slice p44ab n44ab c44ab)]) isAgg25 sizeOf25 rfl rfl (.tail _ (.tail _ (List.mem_cons_self ..))) rfl) ?_
        refine Seq.zg 86 (.load 25 (.tmp 3)) 25 (27, true) (.agg #[(.int .u64 x24aa), (.slice p24ab n24ab c24ab)]) (Y.ldab (vs := [(.int .u64 x24aa), (.slice p24ab n24ab c24ab)]) isAgg25 sizeOf25 rfl rfl (.tail _ (.tail _ (.tail _ (List.mem_cons_self ..)))) rfl) ?_
        refine Seq.o ?_
        refine OpTo.cl (some 87) call11 (h.cont fun v_10 σ1_10 h2 => ?_); replace h := h2; clear h2
        obtain ⟨t87, rfl, h⟩ := h
        refine Seq.u 88 (.bool t87) ?_
        refine Seq.u 89 (.bool t87) ?_
        cases hb : t87 with
        | true =>
         replace h := h.1 hb
         refine Seq.zg 90 (.fieldAddr 25 (.tmp 11) 0) 0 (32, true) (.pointer (some ⟨b11, 0, none⟩)) (Y.fieldAddr (fd := (fieldOf prog 25 0)) underlying25 (by kernel_rfl) sizeOf22 rfl rfl) ?_
         refine Seq.zg 91 (.load 22 (.tmp 90)) 22 (32, true) (.int .u64 x44aa) (Y.ldb isAgg22 rfl (.tail _ (.tail _ (List.mem_cons_self ..))) rfl) ?_
         refine Seq.u 92 (.bool (decide ((x44aa : Int) = 2))) ?_
         refine Seq.u 93 (.bool (decide ((x44aa : Int) = 2))) ?_
         refine Seq.u 94 (.bool (decide ((x44aa : Int) = 2))) ?_
         cases hb : (decide ((x44aa : Int) = 2)) with
         | true =>
          replace h := h.1 (of_decide_eq_true hb)
          refine Seq.u 95 (.int .i64 x49b) ?_
          refine Seq.u 96 (.bool (decide ((x49b : Int) = 0))) ?_
          refine Seq.u 97 (.bool (decide ((x49b : Int) = 0))) ?_
          refine Seq.u 98 (.bool (decide ((x49b : Int) = 0))) ?_
          cases hb : (decide ((x49b : Int) = 0)) with
          | true =>
           replace h := h.1 (of_decide_eq_true hb)
           refine Seq.u 99 (.int .i64 x54b) ?_
           refine Seq.u 100 (.bool (decide ((x54b : Int) = 0))) ?_
           refine Seq.u 101 (.bool (decide ((x54b : Int) = 0))) ?_
           refine Seq.u 102 (.bool (decide ((x54b : Int) = 0))) ?_
           cases hb : (decide ((x54b : Int) = 0)) with
           | true =>
            replace h := h.1 (of_decide_eq_true hb)
            refine Seq.zg 103 (.fieldAddr 25 (.tmp 15) 1) 0 (45, true) (.pointer (some ⟨b15, 1, none⟩)) (Y.fieldAddr (fd := (fieldOf prog 25 1)) underlying25 (by kernel_rfl) sizeOf23 rfl rfl) ?_
            refine Seq.zg 104 (.load 23 (.tmp 103)) 23 (45, true) (.slice p54ab n54ab c54ab) (Y.ldb isAgg23 rfl (List.mem_cons_self ..) rfl) ?_
            refine Seq.zg 105 (.call { callee := .builtin .len, args := #[(.tmp 104)], argTypes := #[23] }) 3 (45, true) (.int .i64 (n54ab : Int)) (Y.lenS underlying23 rfl rfl) ?_
            refine Seq.u 106 (.bool (decide (((n54ab : Int) : Int) = 0))) ?_
            refine Seq.u 107 (.bool (decide (((n54ab : Int) : Int) = 0))) ?_
            refine Seq.u 108 (.bool (decide (((n54ab : Int) : Int) = 0))) ?_
            cases hb : (decide (((n54ab : Int) : Int) = 0)) with
            | true =>
             replace h := h.1 (of_decide_eq_true hb)
             refine Seq.zg 109 (.load 25 (.tmp 3)) 25 (51, true) (.agg #[(.int .u64 x24aa), (.slice p24ab n24ab c24ab)]) (Y.ldab (vs := [(.int .u64 x24aa), (.slice p24ab n24ab c24ab)]) isAgg25 sizeOf25 rfl rfl (.tail _ (.tail _ (.tail _ (List.mem_cons_self ..)))) rfl) ?_
             refine Seq.o ?_
             refine OpTo.cl (some 110) call23 (h.cont fun v_11 σ1_11 h2 => ?_); replace h := h2; clear h2
             obtain ⟨x110, rfl, h⟩ := h
             refine Seq.u 111 (.bool (decide ((x110 : Int) = 2))) ?_
             refine Seq.u 112 (.bool (decide ((x110 : Int) = 2))) ?_
             refine Seq.u 113 (.bool (decide ((x110 : Int) = 2))) ?_
             cases hb : (decide ((x110 : Int) = 2)) with
             | true =>
              replace h := h.1 (of_decide_eq_true hb)
              refine Seq.o ?_
              refine OpTo.cl (some 114) call36 (h.cont fun v_12 σ1_12 h2 => ?_); replace h := h2; clear h2
              obtain ⟨p114, n114, c114, rfl, h⟩ := h
              refine Seq.zg 115 (.call { callee := .builtin .len, args := #[(.tmp 114)], argTypes := #[53] }) 3 (56, true) (.int .i64 (n114 : Int)) (Y.lenS underlying53 rfl rfl) ?_
              refine Seq.u 116 (.bool (decide ((0 : Int) < (n114 : Int)))) ?_
              refine Seq.u 117 (.bool (decide ((0 : Int) < (n114 : Int)))) ?_
              refine Seq.u 118 (.bool (decide ((0 : Int) < (n114 : Int)))) ?_
              cases hb : (decide ((0 : Int) < (n114 : Int))) with
              | true =>
               replace h := h.1 (of_decide_eq_true hb)
               refine Seq.zg 119 (.build 55 #[]) 55 (61, true) (.agg #[(.int .i64 0), (.int .i64 0), (.slice none 0 0)]) (Y.build (vs := []) rfl (by kernel_rfl)) ?_
               refine Seq.o ?_
               refine OpTo.bslice (T := 23) (E := 55) (m := 1) (ps := #[(0, (.tmp 119))]) (d := (some 120)) (ty := 23) (gd := (some (61, true))) (vs := [(0, (.agg #[(.int .i64 0), (.int .i64 0), (.slice none 0 0)]))]) (cs := #[(.int .i64 0), (.int .i64 0), (.slice none 0 0)]) underlying23 (by kernel_rfl) rfl rfl rfl (by kernel_rfl) (fun b120 hn => ?_)
               replace h := h b120 hn
               refine Seq.zg 121 (.build 25 #[(1, (.tmp 120))]) 25 (61, true) (.agg #[(.int .u64 0), (.slice (some ⟨b120, 0, none⟩) 1 1)]) (Y.build (vs := [(1, (.slice (some ⟨b120, 0, none⟩) 1 1))]) rfl (by kernel_rfl)) ?_
               refine Seq.o ?_
               refine OpTo.cl (some 122) call32 (h.cont fun v_13 σ1_13 h2 => ?_); replace h := h2; clear h2
               obtain ⟨x122, rfl, h⟩ := h
               refine Seq.u 123 (.bool (decide ((x122 : Int) = 130))) ?_
               refine Seq.u 124 (.bool (decide ((x122 : Int) = 130))) ?_
               refine Seq.u 0 (.bool (decide ((x122 : Int) = 130))) ?_
               refine Seq.done ?_
               refine At.L [(0, (.bool (decide ((x122 : Int) = 130))))] fun J => ?_
               exact At.rt [.tmp 0] [(.bool (decide ((x122 : Int) = 130)))] func14 ⟨_, rfl, rfl⟩ h
              | false =>
               replace h := h.2 (of_decide_eq_false hb)
               refine Seq.n 119 ?_
               refine Seq.n 120 ?_
               refine Seq.n 121 ?_
               refine Seq.n 122 ?_
               refine Seq.n 123 ?_
               refine Seq.u 124 (.bool false) ?_
               refine Seq.u 0 (.bool false) ?_
               refine Seq.done ?_
               refine At.L [(0, (.bool false))] fun J => ?_
               exact At.rt [.tmp 0] [(.bool false)] func14 ⟨_, rfl, rfl⟩ h
             | false =>
              replace h := h.2 (of_decide_eq_false hb)
              refine Seq.n 114 ?_
              refine Seq.n 115 ?_
              refine Seq.n 116 ?_
              refine Seq.u 117 (.bool false) ?_
              refine Seq.u 118 (.bool false) ?_
              refine Seq.n 119 ?_
              refine Seq.n 120 ?_
              refine Seq.n 121 ?_
              refine Seq.n 122 ?_
              refine Seq.n 123 ?_
              refine Seq.u 124 (.bool false) ?_
              refine Seq.u 0 (.bool false) ?_
              refine Seq.done ?_
              refine At.L [(0, (.bool false))] fun J => ?_
              exact At.rt [.tmp 0] [(.bool false)] func14 ⟨_, rfl, rfl⟩ h
            | false =>
             replace h := h.2 (of_decide_eq_false hb)
             refine Seq.n 109 ?_
             refine Seq.n 110 ?_
             refine Seq.n 111 ?_
             refine Seq.u 112 (.bool false) ?_
             refine Seq.u 113 (.bool false) ?_
             refine Seq.n 114 ?_
             refine Seq.n 115 ?_
             refine Seq.n 116 ?_
             refine Seq.u 117 (.bool false) ?_
             refine Seq.u 118 (.bool false) ?_
             refine Seq.n 119 ?_
             refine Seq.n 120 ?_
             refine Seq.n 121 ?_
             refine Seq.n 122 ?_
             refine Seq.n 123 ?_
             refine Seq.u 124 (.bool false) ?_
             refine Seq.u 0 (.bool false) ?_
             refine Seq.done ?_
             refine At.L [(0, (.bool false))] fun J => ?_
             exact At.rt [.tmp 0] [(.bool false)] func14 ⟨_, rfl, rfl⟩ h
           | false =>
            replace h := h.2 (of_decide_eq_false hb)
            refine Seq.n 103 ?_
            refine Seq.n 104 ?_
            refine Seq.n 105 ?_
            refine Seq.n 106 ?_
            refine Seq.u 107 (.bool false) ?_
            refine Seq.u 108 (.bool false) ?_
            refine Seq.n 109 ?_
            refine Seq.n 110 ?_
            refine Seq.n 111 ?_
            refine Seq.u 112 (.bool false) ?_
            refine Seq.u 113 (.bool false) ?_
            refine Seq.n 114 ?_
            refine Seq.n 115 ?_
            refine Seq.n 116 ?_
            refine Seq.u 117 (.bool false) ?_
            refine Seq.u 118 (.bool false) ?_
            refine Seq.n 119 ?_
            refine Seq.n 120 ?_
            refine Seq.n 121 ?_
            refine Seq.n 122 ?_
            refine Seq.n 123 ?_
            refine Seq.u 124 (.bool false) ?_
            refine Seq.u 0 (.bool false) ?_
            refine Seq.done ?_
            refine At.L [(0, (.bool false))] fun J => ?_
            exact At.rt [.tmp 0] [(.bool false)] func14 ⟨_, rfl, rfl⟩ h
          | false =>
           replace h := h.2 (of_decide_eq_false hb)
           refine Seq.n 99 ?_
           refine Seq.n 100 ?_
           refine Seq.u 101 (.bool false) ?_
           refine Seq.u 102 (.bool false) ?_
           refine Seq.n 103 ?_
           refine Seq.n 104 ?_
           refine Seq.n 105 ?_
           refine Seq.n 106 ?_
           refine Seq.u 107 (.bool false) ?_
           refine Seq.u 108 (.bool false) ?_
           refine Seq.n 109 ?_
           refine Seq.n 110 ?_
           refine Seq.n 111 ?_
           refine Seq.u 112 (.bool false) ?_
           refine Seq.u 113 (.bool false) ?_
           refine Seq.n 114 ?_
           refine Seq.n 115 ?_
           refine Seq.n 116 ?_
           refine Seq.u 117 (.bool false) ?_
           refine Seq.u 118 (.bool false) ?_
           refine Seq.n 119 ?_
           refine Seq.n 120 ?_
           refine Seq.n 121 ?_
           refine Seq.n 122 ?_
           refine Seq.n 123 ?_
           refine Seq.u 124 (.bool false) ?_
           refine Seq.u 0 (.bool false) ?_
           refine Seq.done ?_
           refine At.L [(0, (.bool false))] fun J => ?_
           exact At.rt [.tmp 0] [(.bool false)] func14 ⟨_, rfl, rfl⟩ h
         | false =>
          replace h := h.2 (of_decide_eq_false hb)
          refine Seq.n 95 ?_
          refine Seq.n 96 ?_
          refine Seq.u 97 (.bool false) ?_
          refine Seq.u 98 (.bool false) ?_
          refine Seq.n 99 ?_
          refine Seq.n 100 ?_
          refine Seq.u 101 (.bool false) ?_
          refine Seq.u 102 (.bool false) ?_
          refine Seq.n 103 ?_
          refine Seq.n 104 ?_
          refine Seq.n 105 ?_
          refine Seq.n 106 ?_
          refine Seq.u 107 (.bool false) ?_
          refine Seq.u 108 (.bool false) ?_
          refine Seq.n 109 ?_
          refine Seq.n 110 ?_
          refine Seq.n 111 ?_
          refine Seq.u 112 (.bool false) ?_
          refine Seq.u 113 (.bool false) ?_
          refine Seq.n 114 ?_
          refine Seq.n 115 ?_
          refine Seq.n 116 ?_
          refine Seq.u 117 (.bool false) ?_
          refine Seq.u 118 (.bool false) ?_
          refine Seq.n 119 ?_
          refine Seq.n 120 ?_
          refine Seq.n 121 ?_
          refine Seq.n 122 ?_
          refine Seq.n 123 ?_
          refine Seq.u 124 (.bool false) ?_
          refine Seq.u 0 (.bool false) ?_
          refine Seq.done ?_
          refine At.L [(0, (.bool false))] fun J => ?_
          exact At.rt [.tmp 0] [(.bool false)] func14 ⟨_, rfl, rfl⟩ h
        | false =>
         replace h := h.2 hb
         refine Seq.n 90 ?_
         refine Seq.n 91 ?_
         refine Seq.n 92 ?_
         refine Seq.u 93 (.bool false) ?_
         refine Seq.u 94 (.bool false) ?_
         refine Seq.n 95 ?_
         refine Seq.n 96 ?_
         refine Seq.u 97 (.bool false) ?_
         refine Seq.u 98 (.bool false) ?_
         refine Seq.n 99 ?_
         refine Seq.n 100 ?_
         refine Seq.u 101 (.bool false) ?_
         refine Seq.u 102 (.bool false) ?_
         refine Seq.n 103 ?_
         refine Seq.n 104 ?_
         refine Seq.n 105 ?_
         refine Seq.n 106 ?_
         refine Seq.u 107 (.bool false) ?_
         refine Seq.u 108 (.bool false) ?_
         refine Seq.n 109 ?_
         refine Seq.n 110 ?_
         refine Seq.n 111 ?_
         refine Seq.u 112 (.bool false) ?_
         refine Seq.u 113 (.bool false) ?_
         refine Seq.n 114 ?_
         refine Seq.n 115 ?_
         refine Seq.n 116 ?_
         refine Seq.u 117 (.bool false) ?_
         refine Seq.u 118 (.bool false) ?_
         refine Seq.n 119 ?_
         refine Seq.n 120 ?_
         refine Seq.n 121 ?_
         refine Seq.n 122 ?_
         refine Seq.n 123 ?_
         refine Seq.u 124 (.bool false) ?_
         refine Seq.u 0 (.bool false) ?_
         refine Seq.done ?_
         refine At.L [(0, (.bool false))] fun J => ?_
         exact At.rt [.tmp 0] [(.bool false)] func14 ⟨_, rfl, rfl⟩ h
       | false =>
        replace h := h.2 (of_decide_eq_false hb)
        refine Seq.n 85 ?_
        refine Seq.n 86 ?_
        refine Seq.n 87 ?_
        refine Seq.u 88 (.bool false) ?_
        refine Seq.u 89 (.bool false) ?_
        refine Seq.n 90 ?_
        refine Seq.n 91 ?_
        refine Seq.n 92 ?_
        refine Seq.u 93 (.bool false) ?_
        refine Seq.u 94 (.bool false) ?_
        refine Seq.n 95 ?_
        refine Seq.n 96 ?_
        refine Seq.u 97 (.bool false) ?_
        refine Seq.u 98 (.bool false) ?_
        refine Seq.n 99 ?_
        refine Seq.n 100 ?_
        refine Seq.u 101 (.bool false) ?_
        refine Seq.u 102 (.bool false) ?_
        refine Seq.n 103 ?_
        refine Seq.n 104 ?_
        refine Seq.n 105 ?_
        refine Seq.n 106 ?_
        refine Seq.u 107 (.bool false) ?_
        refine Seq.u 108 (.bool false) ?_
        refine Seq.n 109 ?_
        refine Seq.n 110 ?_
        refine Seq.n 111 ?_
        refine Seq.u 112 (.bool false) ?_
        refine Seq.u 113 (.bool false) ?_
        refine Seq.n 114 ?_
        refine Seq.n 115 ?_
        refine Seq.n 116 ?_
        refine Seq.u 117 (.bool false) ?_
        refine Seq.u 118 (.bool false) ?_
        refine Seq.n 119 ?_
        refine Seq.n 120 ?_
        refine Seq.n 121 ?_
        refine Seq.n 122 ?_
        refine Seq.n 123 ?_
        refine Seq.u 124 (.bool false) ?_
        refine Seq.u 0 (.bool false) ?_
        refine Seq.done ?_
        refine At.L [(0, (.bool false))] fun J => ?_
        exact At.rt [.tmp 0] [(.bool false)] func14 ⟨_, rfl, rfl⟩ h
      | false =>
       replace h := h.2 (of_decide_eq_false hb)
       refine Seq.n 81 ?_
       refine Seq.n 82 ?_
       refine Seq.u 83 (.bool false) ?_
       refine Seq.u 84 (.bool false) ?_
       refine Seq.n 85 ?_
       refine Seq.n 86 ?_
       refine Seq.n 87 ?_
       refine Seq.u 88 (.bool false) ?_
       refine Seq.u 89 (.bool false) ?_
       refine Seq.n 90 ?_
       refine Seq.n 91 ?_
       refine Seq.n 92 ?_
       refine Seq.u 93 (.bool false) ?_
       refine Seq.u 94 (.bool false) ?_
       refine Seq.n 95 ?_
       refine Seq.n 96 ?_
       refine Seq.u 97 (.bool false) ?_
       refine Seq.u 98 (.bool false) ?_
       refine Seq.n 99 ?_
       refine Seq.n 100 ?_
       refine Seq.u 101 (.bool false) ?_
       refine Seq.u 102 (.bool false) ?_
       refine Seq.n 103 ?_
       refine Seq.n 104 ?_
       refine Seq.n 105 ?_
       refine Seq.n 106 ?_
       refine Seq.u 107 (.bool false) ?_
       refine Seq.u 108 (.bool false) ?_
       refine Seq.n 109 ?_
       refine Seq.n 110 ?_
       refine Seq.n 111 ?_
       refine Seq.u 112 (.bool false) ?_
       refine Seq.u 113 (.bool false) ?_
       refine Seq.n 114 ?_
       refine Seq.n 115 ?_
       refine Seq.n 116 ?_
       refine Seq.u 117 (.bool false) ?_
       refine Seq.u 118 (.bool false) ?_
       refine Seq.n 119 ?_
       refine Seq.n 120 ?_
       refine Seq.n 121 ?_
       refine Seq.n 122 ?_
       refine Seq.n 123 ?_
       refine Seq.u 124 (.bool false) ?_
       refine Seq.u 0 (.bool false) ?_
       refine Seq.done ?_
       refine At.L [(0, (.bool false))] fun J => ?_
       exact At.rt [.tmp 0] [(.bool false)] func14 ⟨_, rfl, rfl⟩ h
     | false =>
      replace h := h.2 (of_decide_eq_false hb)
      refine Seq.n 77 ?_
      refine Seq.n 78 ?_
      refine Seq.u 79 (.bool false) ?_
      refine Seq.u 80 (.bool false) ?_
      refine Seq.n 81 ?_
      refine Seq.n 82 ?_
      refine Seq.u 83 (.bool false) ?_
      refine Seq.u 84 (.bool false) ?_
      refine Seq.n 85 ?_
      refine Seq.n 86 ?_
      refine Seq.n 87 ?_
      refine Seq.u 88 (.bool false) ?_
      refine Seq.u 89 (.bool false) ?_
      refine Seq.n 90 ?_
      refine Seq.n 91 ?_
      refine Seq.n 92 ?_
      refine Seq.u 93 (.bool false) ?_
      refine Seq.u 94 (.bool false) ?_
      refine Seq.n 95 ?_
      refine Seq.n 96 ?_
      refine Seq.u 97 (.bool false) ?_
      refine Seq.u 98 (.bool false) ?_
      refine Seq.n 99 ?_
      refine Seq.n 100 ?_
      refine Seq.u 101 (.bool false) ?_
      refine Seq.u 102 (.bool false) ?_
      refine Seq.n 103 ?_
      refine Seq.n 104 ?_
      refine Seq.n 105 ?_
      refine Seq.n 106 ?_
      refine Seq.u 107 (.bool false) ?_
      refine Seq.u 108 (.bool false) ?_
      refine Seq.n 109 ?_
      refine Seq.n 110 ?_
      refine Seq.n 111 ?_
      refine Seq.u 112 (.bool false) ?_
      refine Seq.u 113 (.bool false) ?_
      refine Seq.n 114 ?_
      refine Seq.n 115 ?_
      refine Seq.n 116 ?_
      refine Seq.u 117 (.bool false) ?_
      refine Seq.u 118 (.bool false) ?_
      refine Seq.n 119 ?_
      refine Seq.n 120 ?_
      refine Seq.n 121 ?_
      refine Seq.n 122 ?_
      refine Seq.n 123 ?_
      refine Seq.u 124 (.bool false) ?_
      refine Seq.u 0 (.bool false) ?_
      refine Seq.done ?_
      refine At.L [(0, (.bool false))] fun J => ?_
      exact At.rt [.tmp 0] [(.bool false)] func14 ⟨_, rfl, rfl⟩ h
    | false =>
     replace h := h.2 hb
     refine Seq.n 73 ?_
     refine Seq.n 74 ?_
     refine Seq.u 75 (.bool false) ?_
     refine Seq.u 76 (.bool false) ?_
     refine Seq.n 77 ?_
     refine Seq.n 78 ?_
     refine Seq.u 79 (.bool false) ?_
     refine Seq.u 80 (.bool false) ?_
     refine Seq.n 81 ?_
     refine Seq.n 82 ?_
     refine Seq.u 83 (.bool false) ?_
     refine Seq.u 84 (.bool false) ?_
     refine Seq.n 85 ?_
     refine Seq.n 86 ?_
     refine Seq.n 87 ?_
     refine Seq.u 88 (.bool false) ?_
     refine Seq.u 89 (.bool false) ?_
     refine Seq.n 90 ?_
     refine Seq.n 91 ?_
     refine Seq.n 92 ?_
     refine Seq.u 93 (.bool false) ?_
     refine Seq.u 94 (.bool false) ?_
     refine Seq.n 95 ?_
     refine Seq.n 96 ?_
     refine Seq.u 97 (.bool false) ?_
     refine Seq.u 98 (.bool false) ?_
     refine Seq.n 99 ?_
     refine Seq.n 100 ?_
     refine Seq.u 101 (.bool false) ?_
     refine Seq.u 102 (.bool false) ?_
     refine Seq.n 103 ?_
     refine Seq.n 104 ?_
     refine Seq.n 105 ?_
     refine Seq.n 106 ?_
     refine Seq.u 107 (.bool false) ?_
     refine Seq.u 108 (.bool false) ?_
     refine Seq.n 109 ?_
     refine Seq.n 110 ?_
     refine Seq.n 111 ?_
     refine Seq.u 112 (.bool false) ?_
     refine Seq.u 113 (.bool false) ?_
     refine Seq.n 114 ?_
     refine Seq.n 115 ?_
     refine Seq.n 116 ?_
     refine Seq.u 117 (.bool false) ?_
     refine Seq.u 118 (.bool false) ?_
     refine Seq.n 119 ?_
     refine Seq.n 120 ?_
     refine Seq.n 121 ?_
     refine Seq.n 122 ?_
     refine Seq.n 123 ?_
     refine Seq.u 124 (.bool false) ?_
     refine Seq.u 0 (.bool false) ?_
     refine Seq.done ?_
     refine At.L [(0, (.bool false))] fun J => ?_
     exact At.rt [.tmp 0] [(.bool false)] func14 ⟨_, rfl, rfl⟩ h
   | false =>
    replace h := h.2 (of_decide_eq_false hb)
    refine Seq.n 68 ?_
    refine Seq.n 69 ?_
    refine Seq.n 70 ?_
    refine Seq.u 71 (.bool false) ?_
    refine Seq.u 72 (.bool false) ?_
    refine Seq.n 73 ?_
    refine Seq.n 74 ?_
    refine Seq.u 75 (.bool false) ?_
    refine Seq.u 76 (.bool false) ?_
    refine Seq.n 77 ?_
    refine Seq.n 78 ?_
    refine Seq.u 79 (.bool false) ?_
    refine Seq.u 80 (.bool false) ?_
    refine Seq.n 81 ?_
    refine Seq.n 82 ?_
    refine Seq.u 83 (.bool false) ?_
    refine Seq.u 84 (.bool false) ?_
    refine Seq.n 85 ?_
    refine Seq.n 86 ?_
    refine Seq.n 87 ?_
    refine Seq.u 88 (.bool false) ?_
    refine Seq.u 89 (.bool false) ?_
    refine Seq.n 90 ?_
    refine Seq.n 91 ?_
    refine Seq.n 92 ?_
    refine Seq.u 93 (.bool false) ?_
    refine Seq.u 94 (.bool false) ?_
    refine Seq.n 95 ?_
    refine Seq.n 96 ?_
    refine Seq.u 97 (.bool false) ?_
    refine Seq.u 98 (.bool false) ?_
    refine Seq.n 99 ?_
    refine Seq.n 100 ?_
    refine Seq.u 101 (.bool false) ?_
    refine Seq.u 102 (.bool false) ?_
    refine Seq.n 103 ?_
    refine Seq.n 104 ?_
    refine Seq.n 105 ?_
    refine Seq.n 106 ?_
    refine Seq.u 107 (.bool false) ?_
    refine Seq.u 108 (.bool false) ?_
    refine Seq.n 109 ?_
    refine Seq.n 110 ?_
    refine Seq.n 111 ?_
    refine Seq.u 112 (.bool false) ?_
    refine Seq.u 113 (.bool false) ?_
    refine Seq.n 114 ?_
    refine Seq.n 115 ?_
    refine Seq.n 116 ?_
    refine Seq.u 117 (.bool false) ?_
    refine Seq.u 118 (.bool false) ?_
    refine Seq.n 119 ?_
    refine Seq.n 120 ?_
    refine Seq.n 121 ?_
    refine Seq.n 122 ?_
    refine Seq.n 123 ?_
    refine Seq.u 124 (.bool false) ?_
    refine Seq.u 0 (.bool false) ?_
    refine Seq.done ?_
    refine At.L [(0, (.bool false))] fun J => ?_
    exact At.rt [.tmp 0] [(.bool false)] func14 ⟨_, rfl, rfl⟩ h
  | false =>
   replace h := h.2 (of_decide_eq_false hb)
   refine Seq.n 64 ?_
   refine Seq.n 65 ?_
   refine Seq.u 66 (.bool false) ?_
   refine Seq.u 67 (.bool false) ?_
   refine Seq.n 68 ?_
   refine Seq.n 69 ?_
   refine Seq.n 70 ?_
   refine Seq.u 71 (.bool false) ?_
   refine Seq.u 72 (.bool false) ?_
   refine Seq.n 73 ?_
   refine Seq.n 74 ?_
   refine Seq.u 75 (.bool false) ?_
   refine Seq.u 76 (.bool false) ?_
   refine Seq.n 77 ?_
   refine Seq.n 78 ?_
   refine Seq.u 79 (.bool false) ?_
   refine Seq.u 80 (.bool false) ?_
   refine Seq.n 81 ?_
   refine Seq.n 82 ?_
   refine Seq.u 83 (.bool false) ?_
   refine Seq.u 84 (.bool false) ?_
   refine Seq.n 85 ?_
   refine Seq.n 86 ?_
   refine Seq.n 87 ?_
   refine Seq.u 88 (.bool false) ?_
   refine Seq.u 89 (.bool false) ?_
   refine Seq.n 90 ?_
   refine Seq.n 91 ?_
   refine Seq.n 92 ?_
   refine Seq.u 93 (.bool false) ?_
   refine Seq.u 94 (.bool false) ?_
   refine Seq.n 95 ?_
   refine Seq.n 96 ?_
   refine Seq.u 97 (.bool false) ?_
   refine Seq.u 98 (.bool false) ?_
   refine Seq.n 99 ?_
   refine Seq.n 100 ?_
   refine Seq.u 101 (.bool false) ?_
   refine Seq.u 102 (.bool false) ?_
   refine Seq.n 103 ?_
   refine Seq.n 104 ?_
   refine Seq.n 105 ?_
   refine Seq.n 106 ?_
   refine Seq.u 107 (.bool false) ?_
   refine Seq.u 108 (.bool false) ?_
   refine Seq.n 109 ?_
   refine Seq.n 110 ?_
   refine Seq.n 111 ?_
   refine Seq.u 112 (.bool false) ?_
   refine Seq.u 113 (.bool false) ?_
   refine Seq.n 114 ?_
   refine Seq.n 115 ?_
   refine Seq.n 116 ?_
   refine Seq.u 117 (.bool false) ?_
   refine Seq.u 118 (.bool false) ?_
   refine Seq.n 119 ?_
   refine Seq.n 120 ?_
   refine Seq.n 121 ?_
   refine Seq.n 122 ?_
   refine Seq.n 123 ?_
   refine Seq.u 124 (.bool false) ?_
   refine Seq.u 0 (.bool false) ?_
   refine Seq.done ?_
   refine At.L [(0, (.bool false))] fun J => ?_
   exact At.rt [.tmp 0] [(.bool false)] func14 ⟨_, rfl, rfl⟩ h
 | false =>
  replace h := h.2 (of_decide_eq_false hb)
  refine Seq.n 60 ?_
  refine Seq.n 61 ?_
  refine Seq.u 62 (.bool false) ?_
  refine Seq.u 63 (.bool false) ?_
  refine Seq.n 64 ?_
  refine Seq.n 65 ?_
  refine Seq.u 66 (.bool false) ?_
  refine Seq.u 67 (.bool false) ?_
  refine Seq.n 68 ?_
  refine Seq.n 69 ?_
  refine Seq.n 70 ?_
  refine Seq.u 71 (.bool false) ?_
  refine Seq.u 72 (.bool false) ?_
  refine Seq.n 73 ?_
  refine Seq.n 74 ?_
  refine Seq.u 75 (.bool false) ?_
  refine Seq.u 76 (.bool false) ?_
  refine Seq.n 77 ?_
  refine Seq.n 78 ?_
  refine Seq.u 79 (.bool false) ?_
  refine Seq.u 80 (.bool false) ?_
  refine Seq.n 81 ?_
  refine Seq.n 82 ?_
  refine Seq.u 83 (.bool false) ?_
  refine Seq.u 84 (.bool false) ?_
  refine Seq.n 85 ?_
  refine Seq.n 86 ?_
  refine Seq.n 87 ?_
  refine Seq.u 88 (.bool false) ?_
  refine Seq.u 89 (.bool false) ?_
  refine Seq.n 90 ?_
  refine Seq.n 91 ?_
  refine Seq.n 92 ?_
  refine Seq.u 93 (.bool false) ?_
  refine Seq.u 94 (.bool false) ?_
  refine Seq.n 95 ?_
  refine Seq.n 96 ?_
  refine Seq.u 97 (.bool false) ?_
  refine Seq.u 98 (.bool false) ?_
  refine Seq.n 99 ?_
  refine Seq.n 100 ?_
  refine Seq.u 101 (.bool false) ?_
  refine Seq.u 102 (.bool false) ?_
  refine Seq.n 103 ?_
  refine Seq.n 104 ?_
  refine Seq.n 105 ?_
  refine Seq.n 106 ?_
  refine Seq.u 107 (.bool false) ?_
  refine Seq.u 108 (.bool false) ?_
  refine Seq.n 109 ?_
  refine Seq.n 110 ?_
  refine Seq.n 111 ?_
  refine Seq.u 112 (.bool false) ?_
  refine Seq.u 113 (.bool false) ?_
  refine Seq.n 114 ?_
  refine Seq.n 115 ?_
  refine Seq.n 116 ?_
  refine Seq.u 117 (.bool false) ?_
  refine Seq.u 118 (.bool false) ?_
  refine Seq.n 119 ?_
  refine Seq.n 120 ?_
  refine Seq.n 121 ?_
  refine Seq.n 122 ?_
  refine Seq.n 123 ?_
  refine Seq.u 124 (.bool false) ?_
  refine Seq.u 0 (.bool false) ?_
  refine Seq.done ?_
  refine At.L [(0, (.bool false))] fun J => ?_
  exact At.rt [.tmp 0] [(.bool false)] func14 ⟨_, rfl, rfl⟩ h
end law13_awake
namespace ring_circle_1
abbrev fid : Nat := 55
noncomputable def K0 : Code := f55.body.getD .skip
noncomputable def K1 := Tw.cl K0
noncomputable def K2 := Tw.cr K0
noncomputable def K3 := Tw.cl K2
noncomputable def K4 := Tw.cr K2
noncomputable abbrev gl (R : Ending → Hp → Prop) : Gl := Gl.fn prog 55 17 R
theorem start {R : Ending → Hp → Prop} {x0a : Int} {x0b : Int} {x1a : Int} {x1b : Int} {σ : Hp} (h : Spec prog 57 #[(.int .u32 x0a), (.int .u32 x1a)] σ (Cont R (fun v σ1 => ∃ x9 : Int, v = (.int .i64 x9) ∧ Spec prog 58 #[(.int .i64 x0b), (.int .i64 x1b)] σ1 (Cont R (fun v_2 σ1_2 => ∃ x14 : Int, v_2 = (.int .i64 x14) ∧ ∀ b15 : Nat, σ1_2 b15 = none → Spec prog 56 #[(.slice (some ⟨b15, 0, none⟩) 2 2)] (Hp.set σ1_2 b15 (.cells #[(.int .i64 x9), (.int .i64 x14)] 3 (0, 0))) (Cont R (fun v_3 σ1_3 => ∃ x16 : Int, v_3 = (.int .i64 x16) ∧ R (.returned (.int .i64 x16)) σ1_3))))))) : Spec prog 55 #[(.agg #[(.int .u32 x0a), (.int .i64 x0b)]), (.agg #[(.int .u32 x1a), (.int .i64 x1b)])] σ R := by
 refine Spec.of_at (fn := f55) (c := K0) func55 (by kernel_rfl) (Nat.le_of_ble_eq_true (by kernel_rfl)) (fun e he => ?_)
 refine At.ofL (l := [(0, (.agg #[(.int .u32 x0a), (.int .i64 x0b)])), (1, (.agg #[(.int .u32 x1a), (.int .i64 x1b)]))]) ⟨he 0, he 1, trivial⟩ (fun J => ?_)
 show At (gl R) _ _ _ _
 refine At.s K1 K2 ?_
 refine At.rg 0 [0, 1, 2] ?_
 refine Seq.o ?_
 refine OpTo.box (T := 81) (d := (some 2)) (ty := 0) (x := (.tmp 0)) (gd := none) (cs := #[(.int .u32 x0a), (.int .i64 x0b)]) (by kernel_rfl) rfl rfl rfl (fun b2 => ?_)
 refine Seq.o ?_
 refine OpTo.box (T := 81) (d := (some 3)) (ty := 0) (x := (.tmp 1)) (gd := none) (cs := #[(.int .u32 x1a), (.int .i64 x1b)]) (by kernel_rfl) rfl rfl rfl (fun b3 => ?_)
 refine Seq.u 4 (.int .i64 0) ?_
 refine Seq.done ?_
 refine At.L [(2, (.pointer (some ⟨b2, 0, none⟩))), (3, (.pointer (some ⟨b3, 0, none⟩)))] fun J => ?_
 refine At.s K3 K4 ?_
 refine At.draw (id := 1) (ops := cO K3) (n := 13) (q := (some [])) (plan := [(0, true), (1, true), (2, true), (3, true), (5, true), (6, true), (7, true), (8, true), (4, false), (9, false), (10, false), (11, false), (12, true)]) (tl := []) mixed (by kernel_rfl) (by kernel_rfl) ?_
 refine Head.z 5 (.fieldAddr 81 (.tmp 2) 0) 0 (.pointer (some ⟨b2, 0, none⟩)) (Y.fieldAddr (fd := (fieldOf prog 81 0)) underlying81 (by kernel_rfl) sizeOf26 rfl rfl) ?_
 refine Head.z 6 (.load 26 (.tmp 5)) 26 (.int .u32 x0a) (Y.ldb isAgg26 rfl (.tail _ (List.mem_cons_self ..)) rfl) ?_
 refine Head.z 7 (.fieldAddr 81 (.tmp 3) 0) 0 (.pointer (some ⟨b3, 0, none⟩)) (Y.fieldAddr (fd := (fieldOf prog 81 0)) underlying81 (by kernel_rfl) sizeOf26 rfl rfl) ?_
 refine Head.z 8 (.load 26 (.tmp 7)) 26 (.int .u32 x1a) (Y.ldb isAgg26 rfl (List.mem_cons_self ..) rfl) ?_
 refine Head.z 10 (.fieldAddr 81 (.tmp 2) 1) 0 (.pointer (some ⟨b2, 1, none⟩)) (Y.fieldAddr (fd := (fieldOf prog 81 1)) underlying81 (by kernel_rfl) sizeOf3 rfl rfl) ?_
 refine Head.z 11 (.load 3 (.tmp 10)) 3 (.int .i64 x0b) (Y.ldb isAgg3 rfl (.tail _ (List.mem_cons_self ..)) rfl) ?_
 refine Head.z 12 (.fieldAddr 81 (.tmp 3) 1) 0 (.pointer (some ⟨b3, 1, none⟩)) (Y.fieldAddr (fd := (fieldOf prog 81 1)) underlying81 (by kernel_rfl) sizeOf3 rfl rfl) ?_
 refine Head.z 13 (.load 3 (.tmp 12)) 3 (.int .i64 x1b) (Y.ldb isAgg3 rfl (List.mem_cons_self ..) rfl) ?_
 refine Head.o (q' := (some [])) rfl ?_
 refine OpTo.cl (some 9) call57 (h.cont fun v σ1 h2 => ?_); replace h := h2; clear h2
 obtain ⟨x9, rfl, h⟩ := h
 refine ⟨⟨fun _ h => h, kp_q (L := []) Kp.nil⟩, ?_⟩
 refine Head.o (q' := (some [])) rfl ?_
 refine OpTo.cl (some 14) call58 (h.cont fun v_2 σ1_2 h2 => ?_); replace h := h2; clear h2
 obtain ⟨x14, rfl, h⟩ := h
 refine ⟨⟨fun _ h => h, kp_q (L := []) Kp.nil⟩, ?_⟩
 refine Head.o (q' := (some [])) rfl ?_
 refine OpTo.bslice (T := 27) (E := 3) (m := 2) (ps := #[(0, (.tmp 9)), (1, (.tmp 14))]) (d := (some 15)) (ty := 27) (gd := none) (vs := [(0, (.int .i64 x9)), (1, (.int .i64 x14))]) (cs := #[(.int .i64 x9), (.int .i64 x14)]) underlying27 (by kernel_rfl) rfl rfl rfl (by kernel_rfl) (fun b15 hn => ?_)
 refine ⟨⟨fun _ h => h, kp_q (Kp.of_ext (Ext.set hn))⟩, ?_⟩
 replace h := h b15 hn
 refine Head.o (q' := (some [])) rfl ?_
 refine OpTo.cl (some 16) call56 (h.cont fun v_3 σ1_3 h2 => ?_); replace h := h2; clear h2
 obtain ⟨x16, rfl, h⟩ := h
 refine ⟨⟨fun _ h => h, kp_q (L := []) Kp.nil⟩, ?_⟩
 refine Head.u 4 (.int .i64 x16) ?_
 refine Head.done ?_
 refine Seq.done ?_
 refine At.L [(4, (.int .i64 x16))] fun J => ?_
 exact At.rt [.tmp 4] [(.int .i64 x16)] func55 ⟨_, rfl, rfl⟩ h
end ring_circle_1
namespace cmp_Or_int
abbrev fid : Nat := 56
noncomputable def K0 : Code := f56.body.getD .skip
noncomputable def K1 := Tw.cl K0
noncomputable def K2 := Tw.cr K0
noncomputable def K3 := Tw.cl K2
noncomputable def K4 := Tw.cr K2
noncomputable def K5 := Tw.cl K4
noncomputable def K6 := Tw.cl K5
noncomputable def K7 := Tw.cr K5
noncomputable def K8 := Tw.cl K7
noncomputable def K9 := Tw.cl K8
noncomputable def K10 := Tw.cl K9
noncomputable def K11 := Tw.cr K9
noncomputable def K12 := Tw.cl K11
noncomputable def K13 := Tw.cl K12
noncomputable def K14 := Tw.cr K12
noncomputable def K15 := Tw.cr K11
noncomputable def K16 := Tw.cl K15
noncomputable def K17 := Tw.cl K16
noncomputable def K18 := Tw.cl K17
noncomputable def K19 := Tw.cr K17
noncomputable def K20 := Tw.cl K19
noncomputable def K21 := Tw.cr K19
noncomputable def K22 := Tw.cl K21
noncomputable def K23 := Tw.cl K22
noncomputable def K24 := Tw.cr K22
noncomputable def K25 := Tw.cr K21
noncomputable def K26 := Tw.cr K15
noncomputable def K27 := Tw.cr K4
noncomputable def K28 := Tw.cl K27
noncomputable def K29 := Tw.cr K27
noncomputable abbrev gl (R : Ending → Hp → Prop) : Gl := Gl.fn prog 56 18 R
def pt10 (R : Ending → Hp → Prop) (x3 : Int) (p6 : Option Addr) (n6 : Nat) (c6 : Nat) (x7 : Int) (x8 : Int) (σ : Hp) : Prop := ∀ (J : Env), At (gl R) [.code K10, .code K11, .inLoop K9, .inBlock 0, .code K27] (upds J [(3, (.int .i64 x3)), (6, (.slice p6 n6 c6)), (7, (.int .i64 x7)), (8, (.int .i64 x8))]) [] σ
theorem start {R : Ending → Hp → Prop} {p0 : Option Addr} {n0 : Nat} {c0 : Nat} {σ : Hp} (h : pt10 R 0 p0 n0 c0 ((n0 : Int)) 0 σ) : Spec prog 56 #[(.slice p0 n0 c0)] σ R := by
 refine Spec.of_at (fn := f56) (c := K0) func56 (by kernel_rfl) (Nat.le_of_ble_eq_true (by kernel_rfl)) (fun e he => ?_)
 refine At.ofL (l := [(0, (.slice p0 n0 c0))]) ⟨he 0, trivial⟩ (fun J => ?_)
 show At (gl R) _ _ _ _
 refine At.s K1 K2 ?_
 refine At.rg 0 [0] ?_
 refine Seq.u 2 (.int .i64 0) ?_
 refine Seq.done ?_
 refine At.L [(0, (.slice p0 n0 c0))] fun J => ?_
 refine At.s K3 K4 ?_
 refine At.rg 1 [0] ?_
 refine Seq.u 3 (.int .i64 0) ?_
 refine Seq.done ?_
 refine At.L [(0, (.slice p0 n0 c0)), (3, (.int .i64 0))] fun J => ?_
 refine At.s K5 K27 ?_
 refine At.s K6 K7 ?_
 refine At.rg 2 [0, 1, 2] ?_
 refine Seq.u 6 (.slice p0 n0 c0) ?_
 refine Seq.z 7 (.call { callee := .builtin .len, args := #[(.tmp 6)], argTypes := #[27] }) 3 (.int .i64 (n0 : Int)) (Y.lenS underlying27 rfl rfl) ?_
 refine Seq.u 8 (.int .i64 0) ?_
 refine Seq.done ?_
 refine At.L [(3, (.int .i64 0)), (6, (.slice p0 n0 c0)), (7, (.int .i64 (n0 : Int))), (8, (.int .i64 0))] fun J => ?_
 refine At.b 0 K8 ?_
 refine At.loop (x := K9) (by kernel_rfl) ?_
 refine At.s K10 K11 ?_
 exact At.v [(3, (.int .i64 0)), (6, (.slice p0 n0 c0)), (7, (.int .i64 (n0 : Int))), (8, (.int .i64 0))] (h _)
theorem pt10_of {R : Ending → Hp → Prop} {x3 : Int} {p6 : Option Addr} {n6 : Nat} {c6 : Nat} {x7 : Int} {x8 : Int} {σ : Hp} (h : ((x8 : Int) < x7 → ∃ (b10 o10 : Nat), p6 = some ⟨b10, o10, none⟩ ∧ ((0 : Int) ≤ x8 ∧ x8 < (n6 : Int)) ∧ ∃ x11 : Int, Hp.ld σ ⟨b10, (o10 + Int.toNat x8 * 1), none⟩ = some (.int .i64 x11) ∧ ((x11 : Int) ≠ x3 → R (.returned (.int .i64 x11)) σ) ∧ (¬ ((x11 : Int) ≠ x3) → I64 (x8 + 1) ∧ pt10 R x3 ((some ⟨b10, o10, none⟩)) n6 c6 x7 ((x8 + 1)) σ)) ∧ (¬ ((x8 : Int) < x7) → R (.returned (.int .i64 x3)) σ)) : pt10 R x3 p6 n6 c6 x7 x8 σ := by
 intro J
 show At (gl R) _ _ _ _
 refine At.rg 3 [0] ?_
 refine Seq.u 9 (.bool (decide ((x8 : Int) < x7))) ?_
 refine Seq.done ?_
 refine At.L [(3, (.int .i64 x3)), (6, (.slice p6 n6 c6)), (7, (.int .i64 x7)), (8, (.int .i64 x8)), (9, (.bool (decide ((x8 : Int) < x7))))] fun J => ?_
 refine At.s K12 K15 ?_
 cases hb : (decide ((x8 : Int) < x7)) with
 | true =>
  replace h := h.1 (of_decide_eq_true hb)
  refine At.cT 9 K13 K14 ?_
  refine At.skip ?_
  refine At.s K16 K26 ?_
  refine At.b 1 K17 ?_
  refine At.s K18 K19 ?_
  refine At.rg 4 [0, 1, 2] ?_
  obtain ⟨b10, o10, hq, h⟩ := h
  subst hq
  obtain ⟨hi, h⟩ := h
  refine Seq.z 10 (.indexAddr 27 (.tmp 6) (.tmp 8)) 0 (.pointer (some ⟨b10, (o10 + Int.toNat x8 * 1), none⟩)) (Y.idx underlying27 sizeOf3 rfl rfl hi rfl) ?_
  obtain ⟨x11, hl, h⟩ := h
  refine Seq.z 11 (.load 3 (.tmp 10)) 3 (.int .i64 x11) (Y.ld isAgg3 rfl hl) ?_
  refine Seq.u 5 (.int .i64 x11) ?_
  refine Seq.done ?_
  refine At.L [(3, (.int .i64 x3)), (5, (.int .i64 x11)), (6, (.slice (some ⟨b10, o10, none⟩) n6 c6)), (7, (.int .i64 x7)), (8, (.int .i64 x8))] fun J => ?_
  refine At.s K20 K21 ?_
  refine At.rg 5 [0, 1, 2] ?_
  refine Seq.u 12 (.int .i64 x11) ?_
  refine Seq.u 13 (.int .i64 x3) ?_
  refine Seq.u 14 (.bool (decide ((x11 : Int) ≠ x3))) ?_
  refine Seq.done ?_
  refine At.L [(3, (.int .i64 x3)), (5, (.int .i64 x11)), (6, (.slice (some ⟨b10, o10, none⟩) n6 c6)), (7, (.int .i64 x7)), (8, (.int .i64 x8)), (14, (.bool (decide ((x11 : Int) ≠ x3))))] fun J => ?_
  cases hb : (decide ((x11 : Int) ≠ x3)) with
  | true =>
   replace h := h.1 (of_decide_eq_true hb)
   refine At.cT 14 K22 K25 ?_
   refine At.s K23 K24 ?_
   refine At.rg 6 [0, 1] ?_
   refine Seq.u 15 (.int .i64 x11) ?_
   refine Seq.u 2 (.int .i64 x11) ?_
   refine Seq.done ?_
   refine At.L [(2, (.int .i64 x11))] fun J => ?_
   exact At.rt [.tmp 2] [(.int .i64 x11)] func56 ⟨_, rfl, rfl⟩ h
  | false =>
   replace h := h.2 (of_decide_eq_false hb)
   refine At.cF 14 K22 K25 ?_
   refine At.skip ?_
   refine At.inBlock ?_
   refine At.rg 7 [0, 1] ?_
   obtain ⟨hi, h⟩ := h
   refine Seq.z 16 (.binOp .add 3 (.tmp 8) (.const (.int .i64 1)) 3) 3 (.int .i64 (x8 + 1)) (Y.addI hi rfl rfl) ?_
   refine Seq.u 8 (.int .i64 (x8 + 1)) ?_
   refine Seq.done ?_
   refine At.L [(3, (.int .i64 x3)), (6, (.slice (some ⟨b10, o10, none⟩) n6 c6)), (7, (.int .i64 x7)), (8, (.int .i64 (x8 + 1)))] fun J => ?_
   refine At.inLoop ?_
   refine At.s K10 K11 ?_
   exact At.v [(3, (.int .i64 x3)), (6, (.slice (some ⟨b10, o10, none⟩) n6 c6)), (7, (.int .i64 x7)), (8, (.int .i64 (x8 + 1)))] (h _)
 | false =>
  replace h := h.2 (of_decide_eq_false hb)
  refine At.cF 9 K13 K14 ?_
  refine At.x 0 [.code K27] ?_
  refine At.s K28 K29 ?_
  refine At.rg 8 [0, 1] ?_
  refine Seq.u 17 (.int .i64 x3) ?_
  refine Seq.u 2 (.int .i64 x3) ?_
  refine Seq.done ?_
  refine At.L [(2, (.int .i64 x3))] fun J => ?_
  exact At.rt [.tmp 2] [(.int .i64 x3)] func56 ⟨_, rfl, rfl⟩ h
end cmp_Or_int
end TwR
end
section
/- written by gen.py: program points and what leads to them -/
set_option linter.unusedVariables false
set_option maxRecDepth 100000
namespace TwR
open Go Tw Go.Proofs.Try
namespace cmp_Compare_uint32
abbrev fid : Nat := 57
noncomputable def K0 : Code := f57.body.getD .skip
noncomputable def K1 := Tw.cl K0
noncomputable def K2 := Tw.cr K0
noncomputable def K3 := Tw.cl K2
noncomputable def K4 := Tw.cr K2
noncomputable def K5 := Tw.cl K4
noncomputable def K6 := Tw.cr K4
noncomputable def K7 := Tw.cl K6
noncomputable def K8 := Tw.cl K7
noncomputable def K9 := Tw.cr K7
noncomputable def K10 := Tw.cl K9
noncomputable def K11 := Tw.cl K10
noncomputable def K12 := Tw.cl K11
noncomputable def K13 := Tw.cr K11
noncomputable def K14 := Tw.cl K13
noncomputable def K15 := Tw.cl K14
noncomputable def K16 := Tw.cr K14
noncomputable def K17 := Tw.cr K13
noncomputable def K18 := Tw.cr K10
noncomputable def K19 := Tw.cl K18
noncomputable def K20 := Tw.cr K18
noncomputable def K21 := Tw.cr K9
noncomputable def K22 := Tw.cr K6
noncomputable def K23 := Tw.cl K22
noncomputable def K24 := Tw.cl K23
noncomputable def K25 := Tw.cr K23
noncomputable def K26 := Tw.cl K25
noncomputable def K27 := Tw.cl K26
noncomputable def K28 := Tw.cr K26
noncomputable def K29 := Tw.cr K25
noncomputable def K30 := Tw.cr K22
noncomputable def K31 := Tw.cl K30
noncomputable def K32 := Tw.cl K31
noncomputable def K33 := Tw.cr K31
noncomputable def K34 := Tw.cl K33
noncomputable def K35 := Tw.cl K34
noncomputable def K36 := Tw.cr K34
noncomputable def K37 := Tw.cr K33
noncomputable def K38 := Tw.cr K30
noncomputable def K39 := Tw.cl K38
noncomputable def K40 := Tw.cl K39
noncomputable def K41 := Tw.cr K39
noncomputable def K42 := Tw.cl K41
noncomputable def K43 := Tw.cl K42
noncomputable def K44 := Tw.cr K42
noncomputable def K45 := Tw.cr K41
noncomputable def K46 := Tw.cr K38
noncomputable def K47 := Tw.cl K46
noncomputable def K48 := Tw.cr K46
noncomputable abbrev gl (R : Ending → Hp → Prop) : Gl := Gl.fn prog 57 20 R
theorem start {R : Ending → Hp → Prop} {x0 : Int} {x1 : Int} {σ : Hp} (h : Spec prog 73 #[(.int .u32 x0)] σ (Cont R (fun v σ1 => ∃ t8 : Bool, v = (.bool t8) ∧ Spec prog 73 #[(.int .u32 x1)] σ1 (Cont R (fun v_2 σ1_2 => ∃ t10 : Bool, v_2 = (.bool t10) ∧ (t8 = true → (t10 = true → R (.returned (.int .i64 0)) σ1_2) ∧ (t10 = false → R (.returned (.int .i64 (-1))) σ1_2)) ∧ (t8 = false → (t10 = true → R (.returned (.int .i64 1)) σ1_2) ∧ (t10 = false → ((x0 : Int) < x1 → R (.returned (.int .i64 (-1))) σ1_2) ∧ (¬ ((x0 : Int) < x1) → ((x1 : Int) < x0 → R (.returned (.int .i64 1)) σ1_2) ∧ (¬ ((x1 : Int) < x0) → R (.returned (.int .i64 0)) σ1_2))))))))) : Spec prog 57 #[(.int .u32 x0), (.int .u32 x1)] σ R := by
 refine Spec.of_at (fn := f57) (c := K0) func57 (by kernel_rfl) (Nat.le_of_ble_eq_true (by kernel_rfl)) (fun e he => ?_)
 refine At.ofL (l := [(0, (.int .u32 x0)), (1, (.int .u32 x1))]) ⟨he 0, he 1, trivial⟩ (fun J => ?_)
 show At (gl R) _ _ _ _
 refine At.s K1 K2 ?_
 refine At.rg 0 [0] ?_
 refine Seq.u 4 (.int .i64 0) ?_
 refine Seq.done ?_
 refine At.L [(0, (.int .u32 x0)), (1, (.int .u32 x1))] fun J => ?_
 refine At.s K3 K4 ?_
 refine At.rg 1 [0, 1, 2] ?_
 refine Seq.u 7 (.int .u32 x0) ?_
 refine Seq.o ?_
 refine OpTo.cl (some 8) call73 (h.cont fun v σ1 h2 => ?_); replace h := h2; clear h2
 obtain ⟨t8, rfl, h⟩ := h
 refine Seq.u 5 (.bool t8) ?_
 refine Seq.done ?_
 refine At.L [(0, (.int .u32 x0)), (1, (.int .u32 x1)), (5, (.bool t8))] fun J => ?_
 refine At.s K5 K6 ?_
 refine At.rg 2 [0, 1, 2] ?_
 refine Seq.u 9 (.int .u32 x1) ?_
 refine Seq.o ?_
 refine OpTo.cl (some 10) call73 (h.cont fun v_2 σ1_2 h2 => ?_); replace h := h2; clear h2
 obtain ⟨t10, rfl, h⟩ := h
 refine Seq.u 6 (.bool t10) ?_
 refine Seq.done ?_
 refine At.L [(0, (.int .u32 x0)), (1, (.int .u32 x1)), (5, (.bool t8)), (6, (.bool t10))] fun J => ?_
 refine At.s K7 K22 ?_
 refine At.s K8 K9 ?_
 refine At.rg 3 [0] ?_
 refine Seq.u 11 (.bool t8) ?_
 refine Seq.done ?_
 refine At.L [(0, (.int .u32 x0)), (1, (.int .u32 x1)), (6, (.bool t10)), (11, (.bool t8))] fun J => ?_
 cases hb : t8 with
 | true =>
  replace h := h.1 hb
  refine At.cT 11 K10 K21 ?_
  refine At.s K11 K18 ?_
  refine At.s K12 K13 ?_
  refine At.rg 4 [0] ?_
  refine Seq.u 12 (.bool t10) ?_
  refine Seq.done ?_
  refine At.L [(12, (.bool t10))] fun J => ?_
  cases hb : t10 with
  | true =>
   replace h := h.1 hb
   refine At.cT 12 K14 K17 ?_
   refine At.s K15 K16 ?_
   refine At.rg 5 [0] ?_
   refine Seq.u 4 (.int .i64 0) ?_
   refine Seq.done ?_
   refine At.L [(4, (.int .i64 0))] fun J => ?_
   exact At.rt [.tmp 4] [(.int .i64 0)] func57 ⟨_, rfl, rfl⟩ h
  | false =>
   replace h := h.2 hb
   refine At.cF 12 K14 K17 ?_
   refine At.skip ?_
   refine At.s K19 K20 ?_
   refine At.rg 6 [0] ?_
   refine Seq.u 4 (.int .i64 (-1)) ?_
   refine Seq.done ?_
   refine At.L [(4, (.int .i64 (-1)))] fun J => ?_
   exact At.rt [.tmp 4] [(.int .i64 (-1))] func57 ⟨_, rfl, rfl⟩ h
 | false =>
  replace h := h.2 hb
  refine At.cF 11 K10 K21 ?_
  refine At.skip ?_
  refine At.s K23 K30 ?_
  refine At.s K24 K25 ?_
  refine At.rg 7 [0] ?_
  refine Seq.u 13 (.bool t10) ?_
  refine Seq.done ?_
  refine At.L [(0, (.int .u32 x0)), (1, (.int .u32 x1)), (13, (.bool t10))] fun J => ?_
  cases hb : t10 with
  | true =>
   replace h := h.1 hb
   refine At.cT 13 K26 K29 ?_
   refine At.s K27 K28 ?_
   refine At.rg 8 [0] ?_
   refine Seq.u 4 (.int .i64 1) ?_
   refine Seq.done ?_
   refine At.L [(4, (.int .i64 1))] fun J => ?_
   exact At.rt [.tmp 4] [(.int .i64 1)] func57 ⟨_, rfl, rfl⟩ h
  | false =>
   replace h := h.2 hb
   refine At.cF 13 K26 K29 ?_
   refine At.skip ?_
   refine At.s K31 K38 ?_
   refine At.s K32 K33 ?_
   refine At.rg 9 [0, 1, 2] ?_
   refine Seq.u 14 (.int .u32 x0) ?_
   refine Seq.u 15 (.int .u32 x1) ?_
   refine Seq.u 16 (.bool (decide ((x0 : Int) < x1))) ?_
   refine Seq.done ?_
   refine At.L [(0, (.int .u32 x0)), (1, (.int .u32 x1)), (16, (.bool (decide ((x0 : Int) < x1))))] fun J => ?_
   cases hb : (decide ((x0 : Int) < x1)) with
   | true =>
    replace h := h.1 (of_decide_eq_true hb)
    refine At.cT 16 K34 K37 ?_
    refine At.s K35 K36 ?_
    refine At.rg 10 [0] ?_
    refine Seq.u 4 (.int .i64 (-1)) ?_
    refine Seq.done ?_
    refine At.L [(4, (.int .i64 (-1)))] fun J => ?_
    exact At.rt [.tmp 4] [(.int .i64 (-1))] func57 ⟨_, rfl, rfl⟩ h
   | false =>
    replace h := h.2 (of_decide_eq_false hb)
    refine At.cF 16 K34 K37 ?_
    refine At.skip ?_
    refine At.s K39 K46 ?_
    refine At.s K40 K41 ?_
    refine At.rg 11 [0, 1, 2] ?_
    refine Seq.u 17 (.int .u32 x0) ?_
    refine Seq.u 18 (.int .u32 x1) ?_
    refine Seq.u 19 (.bool (decide ((x1 : Int) < x0))) ?_
    refine Seq.done ?_
    refine At.L [(19, (.bool (decide ((x1 : Int) < x0))))] fun J => ?_
    cases hb : (decide ((x1 : Int) < x0)) with
    | true =>
     replace h := h.1 (of_decide_eq_true hb)
     refine At.cT 19 K42 K45 ?_
     refine At.s K43 K44 ?_
     refine At.rg 12 [0] ?_
     refine Seq.u 4 (.int .i64 1) ?_
     refine Seq.done ?_
     refine At.L [(4, (.int .i64 1))] fun J => ?_
     exact At.rt [.tmp 4] [(.int .i64 1)] func57 ⟨_, rfl, rfl⟩ h
    | false =>
     replace h := h.2 (of_decide_eq_false hb)
     refine At.cF 19 K42 K45 ?_
     refine At.skip ?_
     refine At.s K47 K48 ?_
     refine At.rg 13 [0] ?_
     refine Seq.u 4 (.int .i64 0) ?_
     refine Seq.done ?_
     refine At.L [(4, (.int .i64 0))] fun J => ?_
     exact At.rt [.tmp 4] [(.int .i64 0)] func57 ⟨_, rfl, rfl⟩ h
end cmp_Compare_uint32
namespace cmp_Compare_int
abbrev fid : Nat := 58
noncomputable def K0 : Code := f58.body.getD .skip
noncomputable def K1 := Tw.cl K0
noncomputable def K2 := Tw.cr K0
noncomputable def K3 := Tw.cl K2
noncomputable def K4 := Tw.cr K2
noncomputable def K5 := Tw.cl K4
noncomputable def K6 := Tw.cr K4
noncomputable def K7 := Tw.cl K6
noncomputable def K8 := Tw.cl K7
noncomputable def K9 := Tw.cr K7
noncomputable def K10 := Tw.cl K9
noncomputable def K11 := Tw.cl K10
noncomputable def K12 := Tw.cl K11
noncomputable def K13 := Tw.cr K11
noncomputable def K14 := Tw.cl K13
noncomputable def K15 := Tw.cl K14
noncomputable def K16 := Tw.cr K14
noncomputable def K17 := Tw.cr K13
noncomputable def K18 := Tw.cr K10
noncomputable def K19 := Tw.cl K18
noncomputable def K20 := Tw.cr K18
noncomputable def K21 := Tw.cr K9
noncomputable def K22 := Tw.cr K6
noncomputable def K23 := Tw.cl K22
noncomputable def K24 := Tw.cl K23
noncomputable def K25 := Tw.cr K23
noncomputable def K26 := Tw.cl K25
noncomputable def K27 := Tw.cl K26
noncomputable def K28 := Tw.cr K26
noncomputable def K29 := Tw.cr K25
noncomputable def K30 := Tw.cr K22
noncomputable def K31 := Tw.cl K30
noncomputable def K32 := Tw.cl K31
noncomputable def K33 := Tw.cr K31
noncomputable def K34 := Tw.cl K33
noncomputable def K35 := Tw.cl K34
noncomputable def K36 := Tw.cr K34
noncomputable def K37 := Tw.cr K33
noncomputable def K38 := Tw.cr K30
noncomputable def K39 := Tw.cl K38
noncomputable def K40 := Tw.cl K39
noncomputable def K41 := Tw.cr K39
noncomputable def K42 := Tw.cl K41
noncomputable def K43 := Tw.cl K42
noncomputable def K44 := Tw.cr K42
noncomputable def K45 := Tw.cr K41
noncomputable def K46 := Tw.cr K38
noncomputable def K47 := Tw.cl K46
noncomputable def K48 := Tw.cr K46
noncomputable abbrev gl (R : Ending → Hp → Prop) : Gl := Gl.fn prog 58 20 R
theorem start {R : Ending → Hp → Prop} {x0 : Int} {x1 : Int} {σ : Hp} (h : Spec prog 74 #[(.int .i64 x0)] σ (Cont R (fun v σ1 => ∃ t8 : Bool, v = (.bool t8) ∧ Spec prog 74 #[(.int .i64 x1)] σ1 (Cont R (fun v_2 σ1_2 => ∃ t10 : Bool, v_2 = (.bool t10) ∧ (t8 = true → (t10 = true → R (.returned (.int .i64 0)) σ1_2) ∧ (t10 = false → R (.returned (.int .i64 (-1))) σ1_2)) ∧ (t8 = false → (t10 = true → R (.returned (.int .i64 1)) σ1_2) ∧ (t10 = false → ((x0 : Int) < x1 → R (.returned (.int .i64 (-1))) σ1_2) ∧ (¬ ((x0 : Int) < x1) → ((x1 : Int) < x0 → R (.returned (.int .i64 1)) σ1_2) ∧ (¬ ((x1 : Int) < x0) → R (.returned (.int .i64 0)) σ1_2))))))))) : Spec prog 58 #[(.int .i64 x0), (.int .i64 x1)] σ R := by
 refine Spec.of_at (fn := f58) (c := K0) func58 (by kernel_rfl) (Nat.le_of_ble_eq_true (by kernel_rfl)) (fun e he => ?_)
 refine At.ofL (l := [(0, (.int .i64 x0)), (1, (.int .i64 x1))]) ⟨he 0, he 1, trivial⟩ (fun J => ?_)
 show At (gl R) _ _ _ _
 refine At.s K1 K2 ?_
 refine At.rg 0 [0] ?_
 refine Seq.u 4 (.int .i64 0) ?_
 refine Seq.done ?_
 refine At.L [(0, (.int .i64 x0)), (1, (.int .i64 x1))] fun J => ?_
 refine At.s K3 K4 ?_
 refine At.rg 1 [0, 1, 2] ?_
 refine Seq.u 7 (.int .i64 x0) ?_
 refine Seq.o ?_
 refine OpTo.cl (some 8) call74 (h.cont fun v σ1 h2 => ?_); replace h := h2; clear h2
 obtain ⟨t8, rfl, h⟩ := h
 refine Seq.u 5 (.bool t8) ?_
 refine Seq.done ?_
 refine At.L [(0, (.int .i64 x0)), (1, (.int .i64 x1)), (5, (.bool t8))] fun J => ?_
 refine At.s K5 K6 ?_
 refine At.rg 2 [0, 1, 2] ?_
 refine Seq.u 9 (.int .i64 x1) ?_
 refine Seq.o ?_
 refine OpTo.cl (some 10) call74 (h.cont fun v_2 σ1_2 h2 => ?_); replace h := h2; clear h2
 obtain ⟨t10, rfl, h⟩ := h
 refine Seq.u 6 (.bool t10) ?_
 refine Seq.done ?_
 refine At.L [(0, (.int .i64 x0)), (1, (.int .i64 x1)), (5, (.bool t8)), (6, (.bool t10))] fun J => ?_
 refine At.s K7 K22 ?_
 refine At.s K8 K9 ?_
 refine At.rg 3 [0] ?_
 refine Seq.u 11 (.bool t8) ?_
 refine Seq.done ?_
 refine At.L [(0, (.int .i64 x0)), (1, (.int .i64 x1)), (6, (.bool t10)), (11, (.bool t8))] fun J => ?_
 cases hb : t8 with
 | true =>
  replace h := h.1 hb
  refine At.cT 11 K10 K21 ?_
  refine At.s K11 K18 ?_
  refine At.s K12 K13 ?_
  refine At.rg 4 [0] ?_
  refine Seq.u 12 (.bool t10) ?_
  refine Seq.done ?_
  refine At.L [(12, (.bool t10))] fun J => ?_
  cases hb : t10 with
  | true =>
   replace h := h.1 hb
   refine At.cT 12 K14 K17 ?_
   refine At.s K15 K16 ?_
   refine At.rg 5 [0] ?_
   refine Seq.u 4 (.int .i64 0) ?_
   refine Seq.done ?_
   refine At.L [(4, (.int .i64 0))] fun J => ?_
   exact At.rt [.tmp 4] [(.int .i64 0)] func58 ⟨_, rfl, rfl⟩ h
  | false =>
   replace h := h.2 hb
   refine At.cF 12 K14 K17 ?_
   refine At.skip ?_
   refine At.s K19 K20 ?_
   refine At.rg 6 [0] ?_
   refine Seq.u 4 (.int .i64 (-1)) ?_
   refine Seq.done ?_
   refine At.L [(4, (.int .i64 (-1)))] fun J => ?_
   exact At.rt [.tmp 4] [(.int .i64 (-1))] func58 ⟨_, rfl, rfl⟩ h
 | false =>
  replace h := h.2 hb
  refine At.cF 11 K10 K21 ?_
  refine At.skip ?_
  refine At.s K23 K30 ?_
  refine At.s K24 K25 ?_
  refine At.rg 7 [0] ?_
  refine Seq.u 13 (.bool t10) ?_
  refine Seq.done ?_
  refine At.L [(0, (.int .i64 x0)), (1, (.int .i64 x1)), (13, (.bool t10))] fun J => ?_
  cases hb : t10 with
  | true =>
   replace h := h.1 hb
   refine At.cT 13 K26 K29 ?_
   refine At.s K27 K28 ?_
   refine At.rg 8 [0] ?_
   refine Seq.u 4 (.int .i64 1) ?_
   refine Seq.done ?_
   refine At.L [(4, (.int .i64 1))] fun J => ?_
   exact At.rt [.tmp 4] [(.int .i64 1)] func58 ⟨_, rfl, rfl⟩ h
  | false =>
   replace h := h.2 hb
   refine At.cF 13 K26 K29 ?_
   refine At.skip ?_
   refine At.s K31 K38 ?_
   refine At.s K32 K33 ?_
   refine At.rg 9 [0, 1, 2] ?_
   refine Seq.u 14 (.int .i64 x0) ?_
   refine Seq.u 15 (.int .i64 x1) ?_
   refine Seq.u 16 (.bool (decide ((x0 : Int) < x1))) ?_
   refine Seq.done ?_
   refine At.L [(0, (.int .i64 x0)), (1, (.int .i64 x1)), (16, (.bool (decide ((x0 : Int) < x1))))] fun J => ?_
   cases hb : (decide ((x0 : Int) < x1)) with
   | true =>
    replace h := h.1 (of_decide_eq_true hb)
    refine At.cT 16 K34 K37 ?_
    refine At.s K35 K36 ?_
    refine At.rg 10 [0] ?_
    refine Seq.u 4 (.int .i64 (-1)) ?_
    refine Seq.done ?_
    refine At.L [(4, (.int .i64 (-1)))] fun J => ?_
    exact At.rt [.tmp 4] [(.int .i64 (-1))] func58 ⟨_, rfl, rfl⟩ h
   | false =>
    replace h := h.2 (of_decide_eq_false hb)
    refine At.cF 16 K34 K37 ?_
    refine At.skip ?_
    refine At.s K39 K46 ?_
    refine At.s K40 K41 ?_
    refine At.rg 11 [0, 1, 2] ?_
    refine Seq.u 17 (.int .i64 x0) ?_
    refine Seq.u 18 (.int .i64 x1) ?_
    refine Seq.u 19 (.bool (decide ((x1 : Int) < x0))) ?_
    refine Seq.done ?_
    refine At.L [(19, (.bool (decide ((x1 : Int) < x0))))] fun J => ?_
    cases hb : (decide ((x1 : Int) < x0)) with
    | true =>
     replace h := h.1 (of_decide_eq_true hb)
     refine At.cT 19 K42 K45 ?_
     refine At.s K43 K44 ?_
     refine At.rg 12 [0] ?_
     refine Seq.u 4 (.int .i64 1) ?_
     refine Seq.done ?_
     refine At.L [(4, (.int .i64 1))] fun J => ?_
     exact At.rt [.tmp 4] [(.int .i64 1)] func58 ⟨_, rfl, rfl⟩ h
    | false =>
     replace h := h.2 (of_decide_eq_false hb)
     refine At.cF 19 K42 K45 ?_
     refine At.skip ?_
     refine At.s K47 K48 ?_
     refine At.rg 13 [0] ?_
     refine Seq.u 4 (.int .i64 0) ?_
     refine Seq.done ?_
     refine At.L [(4, (.int .i64 0))] fun J => ?_
     exact At.rt [.tmp 4] [(.int .i64 0)] func58 ⟨_, rfl, rfl⟩ h
end cmp_Compare_int
namespace slices_Sort_uint32
abbrev fid : Nat := 62
noncomputable def K0 : Code := f62.body.getD .skip
noncomputable def K1 := Tw.cl K0
noncomputable def K2 := Tw.cr K0
noncomputable abbrev gl (R : Ending → Hp → Prop) : Gl := Gl.fn prog 62 11 R
theorem start {R : Ending → Hp → Prop} {p0 : Option Addr} {n0 : Nat} {c0 : Nat} {σ : Hp} (h : ∀ x8 : Int, x8 = IntKind.u64.wrap (n0 : Int) → Spec prog 72 #[(.int .u64 x8)] σ (Cont R (fun v σ1 => ∃ x9 : Int, v = (.int .i64 x9) ∧ Spec prog 75 #[(.slice p0 n0 c0), (.int .i64 0), (.int .i64 (n0 : Int)), (.int .i64 x9)] σ1 (Cont R (fun v_2 σ1_2 => v_2 = (.tuple #[]) ∧ R (.returned (.tuple #[])) σ1_2))))) : Spec prog 62 #[(.slice p0 n0 c0)] σ R := by
 refine Spec.of_at (fn := f62) (c := K0) func62 (by kernel_rfl) (Nat.le_of_ble_eq_true (by kernel_rfl)) (fun e he => ?_)
 refine At.ofL (l := [(0, (.slice p0 n0 c0))]) ⟨he 0, trivial⟩ (fun J => ?_)
 show At (gl R) _ _ _ _
 refine At.s K1 K2 ?_
 refine At.rg 0 [0, 1, 2] ?_
 refine Seq.u 3 (.slice p0 n0 c0) ?_
 refine Seq.z 4 (.call { callee := .builtin .len, args := #[(.tmp 3)], argTypes := #[53] }) 3 (.int .i64 (n0 : Int)) (Y.lenS underlying53 rfl rfl) ?_
 refine Seq.u 2 (.int .i64 (n0 : Int)) ?_
 refine Seq.done ?_
 refine At.L [(0, (.slice p0 n0 c0)), (2, (.int .i64 (n0 : Int)))] fun J => ?_
 refine At.rg 1 [0, 1, 2, 3, 4, 5] ?_
 refine Seq.u 5 (.slice p0 n0 c0) ?_
 refine Seq.u 6 (.int .i64 (n0 : Int)) ?_
 refine Seq.u 7 (.int .i64 (n0 : Int)) ?_
 obtain ⟨x8, hwx8⟩ : ∃ y, y = IntKind.u64.wrap (n0 : Int) := ⟨_, rfl⟩
 replace h := h x8 hwx8
 refine Seq.y (d := (some 8)) (op := (.convert 3 90 (.tmp 7))) (ty := 90) (v := (.int .u64 x8)) (by kernel_rfl) rfl (hwx8 ▸ Y.conv (by kernel_rfl) underlying90 rfl) ?_
 refine Seq.o ?_
 refine OpTo.cl (some 9) call72 (h.cont fun v σ1 h2 => ?_); replace h := h2; clear h2
 obtain ⟨x9, rfl, h⟩ := h
 refine Seq.o ?_
 refine OpTo.cl (some 10) call75 (h.cont fun v_2 σ1_2 h2 => ?_); replace h := h2; clear h2
 obtain ⟨rfl, h⟩ := h
 refine Seq.done ?_
 refine At.L [] fun J => ?_
 exact At.doneV (rs := []) (vs := []) func62 (by kernel_rfl) rfl h
end slices_Sort_uint32
namespace slices_SortFunc_spot
abbrev fid : Nat := 54
noncomputable def K0 : Code := f54.body.getD .skip
noncomputable def K1 := Tw.cl K0
noncomputable def K2 := Tw.cr K0
noncomputable abbrev gl (R : Ending → Hp → Prop) : Gl := Gl.fn prog 54 14 R
theorem start {R : Ending → Hp → Prop} {p0 : Option Addr} {n0 : Nat} {c0 : Nat} {v1 : Value} {σ : Hp} (h : ∀ x10 : Int, x10 = IntKind.u64.wrap (n0 : Int) → Spec prog 72 #[(.int .u64 x10)] σ (Cont R (fun v σ1 => ∃ x11 : Int, v = (.int .i64 x11) ∧ Spec prog 71 #[(.slice p0 n0 c0), (.int .i64 0), (.int .i64 (n0 : Int)), (.int .i64 x11), v1] σ1 (Cont R (fun v_2 σ1_2 => v_2 = (.tuple #[]) ∧ R (.returned (.tuple #[])) σ1_2))))) : Spec prog 54 #[(.slice p0 n0 c0), v1] σ R := by
 refine Spec.of_at (fn := f54) (c := K0) func54 (by kernel_rfl) (Nat.le_of_ble_eq_true (by kernel_rfl)) (fun e he => ?_)
 refine At.ofL (l := [(0, (.slice p0 n0 c0)), (1, v1)]) ⟨he 0, he 1, trivial⟩ (fun J => ?_)
 show At (gl R) _ _ _ _
 refine At.s K1 K2 ?_
 refine At.rg 0 [0, 1, 2] ?_
 refine Seq.u 5 (.slice p0 n0 c0) ?_
 refine Seq.z 6 (.call { callee := .builtin .len, args := #[(.tmp 5)], argTypes := #[79] }) 3 (.int .i64 (n0 : Int)) (Y.lenS underlying79 rfl rfl) ?_
 refine Seq.u 4 (.int .i64 (n0 : Int)) ?_
 refine Seq.done ?_
 refine At.L [(0, (.slice p0 n0 c0)), (1, v1), (4, (.int .i64 (n0 : Int)))] fun J => ?_
 refine At.rg 1 [0, 1, 2, 3, 4, 5, 6] ?_
 refine Seq.u 7 (.slice p0 n0 c0) ?_
 refine Seq.u 8 (.int .i64 (n0 : Int)) ?_
 refine Seq.u 9 (.int .i64 (n0 : Int)) ?_
 obtain ⟨x10, hwx10⟩ : ∃ y, y = IntKind.u64.wrap (n0 : Int) := ⟨_, rfl⟩
 replace h := h x10 hwx10
 refine Seq.y (d := (some 10)) (op := (.convert 3 90 (.tmp 9))) (ty := 90) (v := (.int .u64 x10)) (by kernel_rfl) rfl (hwx10 ▸ Y.conv (by kernel_rfl) underlying90 rfl) ?_
 refine Seq.o ?_
 refine OpTo.cl (some 11) call72 (h.cont fun v σ1 h2 => ?_); replace h := h2; clear h2
 obtain ⟨x11, rfl, h⟩ := h
 refine Seq.u 12 v1 ?_
 refine Seq.o ?_
 refine OpTo.cl (some 13) call71 (h.cont fun v_2 σ1_2 h2 => ?_); replace h := h2; clear h2
 obtain ⟨rfl, h⟩ := h
 refine Seq.done ?_
 refine At.L [] fun J => ?_
 exact At.doneV (rs := []) (vs := []) func54 (by kernel_rfl) rfl h
end slices_SortFunc_spot
namespace slices_Insert_Member
abbrev fid : Nat := 68
noncomputable def K0 : Code := f68.body.getD .skip
noncomputable def K1 := Tw.cl K0
noncomputable def K2 := Tw.cr K0
noncomputable def K3 := Tw.cl K2
noncomputable def K4 := Tw.cr K2
noncomputable def K5 := Tw.cl K4
noncomputable def K6 := Tw.cr K4
noncomputable def K7 := Tw.cl K6
noncomputable def K8 := Tw.cl K7
noncomputable def K9 := Tw.cr K7
noncomputable def K10 := Tw.cl K9
noncomputable def K11 := Tw.cl K10
noncomputable def K12 := Tw.cr K10
noncomputable def K13 := Tw.cr K9
noncomputable def K14 := Tw.cr K6
noncomputable def K15 := Tw.cl K14
noncomputable def K16 := Tw.cr K14
noncomputable def K17 := Tw.cl K16
noncomputable def K18 := Tw.cl K17
noncomputable def K19 := Tw.cr K17
noncomputable def K20 := Tw.cl K19
noncomputable def K21 := Tw.cl K20
noncomputable def K22 := Tw.cr K20
noncomputable def K23 := Tw.cr K19
noncomputable def K24 := Tw.cr K16
noncomputable def K25 := Tw.cl K24
noncomputable def K26 := Tw.cl K25
noncomputable def K27 := Tw.cr K25
noncomputable def K28 := Tw.cl K27
noncomputable def K29 := Tw.cl K28
noncomputable def K30 := Tw.cr K28
noncomputable def K31 := Tw.cl K30
noncomputable def K32 := Tw.cr K30
noncomputable def K33 := Tw.cl K32
noncomputable def K34 := Tw.cr K32
noncomputable def K35 := Tw.cl K34
noncomputable def K36 := Tw.cr K34
noncomputable def K37 := Tw.cr K27
noncomputable def K38 := Tw.cr K24
noncomputable def K39 := Tw.cl K38
noncomputable def K40 := Tw.cr K38
noncomputable def K41 := Tw.cl K40
noncomputable def K42 := Tw.cl K41
noncomputable def K43 := Tw.cr K41
noncomputable def K44 := Tw.cl K43
noncomputable def K45 := Tw.cl K44
noncomputable def K46 := Tw.cr K44
noncomputable def K47 := Tw.cl K46
noncomputable def K48 := Tw.cr K46
noncomputable def K49 := Tw.cl K48
noncomputable def K50 := Tw.cr K48
noncomputable def K51 := Tw.cr K43
noncomputable def K52 := Tw.cr K40
noncomputable def K53 := Tw.cl K52
noncomputable def K54 := Tw.cr K52
noncomputable def K55 := Tw.cl K54
noncomputable def K56 := Tw.cr K54
noncomputable def K57 := Tw.cl K56
noncomputable def K58 := Tw.cr K56
noncomputable abbrev gl (R : Ending → Hp → Prop) : Gl := Gl.fn prog 68 95 R
theorem start {R : Ending → Hp → Prop} {p0 : Option Addr} {n0 : Nat} {c0 : Nat} {x1 : Int} {p2 : Option Addr} {n2 : Nat} {c2 : Nat} {σ : Hp} (h : ((0 : Int) ≤ x1 ∧ x1 ≤ (n0 : Int)) ∧ (((n2 : Int) : Int) = 0 → R (.returned (.slice p0 n0 c0)) σ) ∧ (¬ (((n2 : Int) : Int) = 0) → ((x1 : Int) = (n0 : Int) → Eff prog (Builtin.append_ #[23, 23] 23 #[(.slice p0 n0 c0), (.slice p2 n2 c2)]) σ (fun v σ1 => ∃ p25 : Option Addr, ∃ n25 : Nat, ∃ c25 : Nat, v = (.slice p25 n25 c25) ∧ R (.returned (.slice p25 n25 c25)) σ1)) ∧ (¬ ((x1 : Int) = (n0 : Int)) → I64 ((n0 : Int) + (n2 : Int)) ∧ (((c0 : Int) : Int) < ((n0 : Int) + (n2 : Int)) → ((0 : Int) ≤ x1 ∧ x1 ≤ (c0 : Int)) ∧ I64 ((n0 : Int) + (n2 : Int)) ∧ I64 (((n0 : Int) + (n2 : Int)) - x1) ∧ Eff prog (Builtin.append_ #[23, 3] 23 #[(.slice p0 (Int.toNat x1) c0), (.int .i64 (((n0 : Int) + (n2 : Int)) - x1))]) σ (fun v σ1 => ∃ p40 : Option Addr, ∃ n40 : Nat, ∃ c40 : Nat, v = (.slice p40 n40 c40) ∧ ((0 : Int) ≤ x1 ∧ x1 ≤ (n40 : Int)) ∧ Eff prog (Builtin.copy_ #[23, 23] 3 #[(.slice (slP p40 (Int.toNat x1) c40 3) (n40 - Int.toNat x1) (c40 - Int.toNat x1)), (.slice p2 n2 c2)]) σ1 (fun v_2 σ1_2 => ∃ x45 : Int, v_2 = (.int .i64 x45) ∧ I64 (x1 + (n2 : Int)) ∧ ((0 : Int) ≤ (x1 + (n2 : Int)) ∧ (x1 + (n2 : Int)) ≤ (n40 : Int)) ∧ ((0 : Int) ≤ x1 ∧ x1 ≤ (n0 : Int)) ∧ Eff prog (Builtin.copy_ #[23, 23] 3 #[(.slice (slP p40 (Int.toNat (x1 + (n2 : Int))) c40 3) (n40 - Int.toNat (x1 + (n2 : Int))) (c40 - Int.toNat (x1 + (n2 : Int)))), (.slice (slP p0 (Int.toNat x1) c0 3) (n0 - Int.toNat x1) (c0 - Int.toNat x1))]) σ1_2 (fun v_3 σ1_3 => ∃ x54 : Int, v_3 = (.int .i64 x54) ∧ R (.returned (.slice p40 n40 c40)) σ1_3)))) ∧ (¬ (((c0 : Int) : Int) < ((n0 : Int) + (n2 : Int))) → I64 ((n0 : Int) + (n2 : Int)) ∧ ((0 : Int) ≤ ((n0 : Int) + (n2 : Int)) ∧ ((n0 : Int) + (n2 : Int)) ≤ (c0 : Int)) ∧ I64 (x1 + (n2 : Int)) ∧ ((0 : Int) ≤ (x1 + (n2 : Int)) ∧ (x1 + (n2 : Int)) ≤ (((Int.toNat ((n0 : Int) + (n2 : Int))) : Nat) : Int)) ∧ ∃ t67 : Bool, YN prog 76 #[(.slice p2 n2 c2), (.slice (slP p0 (Int.toNat (x1 + (n2 : Int))) c0 3) ((Int.toNat ((n0 : Int) + (n2 : Int))) - Int.toNat (x1 + (n2 : Int))) (c0 - Int.toNat (x1 + (n2 : Int))))] σ (.bool t67) ∧ (t67 = false → I64 (x1 + (n2 : Int)) ∧ ((0 : Int) ≤ (x1 + (n2 : Int)) ∧ (x1 + (n2 : Int)) ≤ (((Int.toNat ((n0 : Int) + (n2 : Int))) : Nat) : Int)) ∧ ((0 : Int) ≤ x1 ∧ x1 ≤ (((Int.toNat ((n0 : Int) + (n2 : Int))) : Nat) : Int)) ∧ Eff prog (Builtin.copy_ #[23, 23] 3 #[(.slice (slP p0 (Int.toNat (x1 + (n2 : Int))) c0 3) ((Int.toNat ((n0 : Int) + (n2 : Int))) - Int.toNat (x1 + (n2 : Int))) (c0 - Int.toNat (x1 + (n2 : Int)))), (.slice (slP p0 (Int.toNat x1) c0 3) ((Int.toNat ((n0 : Int) + (n2 : Int))) - Int.toNat x1) (c0 - Int.toNat x1))]) σ (fun v_2 σ1_2 => ∃ x77 : Int, v_2 = (.int .i64 x77) ∧ ((0 : Int) ≤ x1 ∧ x1 ≤ (((Int.toNat ((n0 : Int) + (n2 : Int))) : Nat) : Int)) ∧ Eff prog (Builtin.copy_ #[23, 23] 3 #[(.slice (slP p0 (Int.toNat x1) c0 3) ((Int.toNat ((n0 : Int) + (n2 : Int))) - Int.toNat x1) (c0 - Int.toNat x1)), (.slice p2 n2 c2)]) σ1_2 (fun v_3 σ1_3 => ∃ x82 : Int, v_3 = (.int .i64 x82) ∧ R (.returned (.slice p0 (Int.toNat ((n0 : Int) + (n2 : Int))) c0)) σ1_3))) ∧ (t67 = true → ((0 : Int) ≤ (n0 : Int) ∧ (n0 : Int) ≤ (((Int.toNat ((n0 : Int) + (n2 : Int))) : Nat) : Int)) ∧ Eff prog (Builtin.copy_ #[23, 23] 3 #[(.slice (slP p0 (Int.toNat (n0 : Int)) c0 3) ((Int.toNat ((n0 : Int) + (n2 : Int))) - Int.toNat (n0 : Int)) (c0 - Int.toNat (n0 : Int))), (.slice p2 n2 c2)]) σ (fun v_2 σ1_2 => ∃ x88 : Int, v_2 = (.int .i64 x88) ∧ ((0 : Int) ≤ x1 ∧ x1 ≤ (((Int.toNat ((n0 : Int) + (n2 : Int))) : Nat) : Int)) ∧ Spec prog 77 #[(.slice (slP p0 (Int.toNat x1) c0 3) ((Int.toNat ((n0 : Int) + (n2 : Int))) - Int.toNat x1) (c0 - Int.toNat x1)), (.int .i64 (n2 : Int))] σ1_2 (Cont R (fun v_3 σ1_3 => v_3 = (.tuple #[]) ∧ R (.returned (.slice p0 (Int.toNat ((n0 : Int) + (n2 : Int))) c0)) σ1_3)))))))) : Spec prog 68 #[(.slice p0 n0 c0), (.int .i64 x1), (.slice p2 n2 c2)] σ R := by
 refine Spec.of_at (fn := f68) (c := K0) func68 (by kernel_rfl) (Nat.le_of_ble_eq_true (by kernel_rfl)) (fun e he => ?_)
 refine At.ofL (l := [(0, (.slice p0 n0 c0)), (1, (.int .i64 x1)), (2, (.slice p2 n2 c2))]) ⟨he 0, he 1, he 2, trivial⟩ (fun J => ?_)
 show At (gl R) _ _ _ _
 refine At.s K1 K2 ?_
 refine At.rg 0 [0] ?_
 refine Seq.u 6 (.slice none 0 0) ?_
 refine Seq.done ?_
 refine At.L [(0, (.slice p0 n0 c0)), (1, (.int .i64 x1)), (2, (.slice p2 n2 c2))] fun J => ?_
 refine At.s K3 K4 ?_
 refine At.rg 1 [0, 1, 2] ?_
 refine Seq.u 10 (.slice p0 n0 c0) ?_
 refine Seq.u 11 (.int .i64 x1) ?_
 obtain ⟨hs, h⟩ := h
 refine Seq.z 12 (.slice 23 (.tmp 10) (some (.tmp 11)) none none) 23 (.slice (slP p0 (Int.toNat x1) c0 3) (n0 - Int.toNat x1) (c0 - Int.toNat x1)) (Y.sll underlying23 sizeOf55 rfl rfl hs) ?_
 refine Seq.done ?_
 refine At.L [(0, (.slice p0 n0 c0)), (1, (.int .i64 x1)), (2, (.slice p2 n2 c2))] fun J => ?_
 refine At.s K5 K6 ?_
 refine At.rg 2 [0, 1, 2] ?_
 refine Seq.u 13 (.slice p2 n2 c2) ?_
 refine Seq.z 14 (.call { callee := .builtin .len, args := #[(.tmp 13)], argTypes := #[23] }) 3 (.int .i64 (n2 : Int)) (Y.lenS underlying23 rfl rfl) ?_
 refine Seq.u 7 (.int .i64 (n2 : Int)) ?_
 refine Seq.done ?_
 refine At.L [(0, (.slice p0 n0 c0)), (1, (.int .i64 x1)), (2, (.slice p2 n2 c2)), (7, (.int .i64 (n2 : Int)))] fun J => ?_
 refine At.s K7 K14 ?_
 refine At.s K8 K9 ?_
 refine At.rg 3 [0, 1] ?_
 refine Seq.u 15 (.int .i64 (n2 : Int)) ?_
 refine Seq.u 16 (.bool (decide (((n2 : Int) : Int) = 0))) ?_
 refine Seq.done ?_
 refine At.L [(0, (.slice p0 n0 c0)), (1, (.int .i64 x1)), (2, (.slice p2 n2 c2)), (7, (.int .i64 (n2 : Int))), (16, (.bool (decide (((n2 : Int) : Int) = 0))))] fun J => ?_
 cases hb : (decide (((n2 : Int) : Int) = 0)) with
 | true =>
  replace h := h.1 (of_decide_eq_true hb)
  refine At.cT 16 K10 K13 ?_
  refine At.s K11 K12 ?_
  refine At.rg 4 [0, 1] ?_
  refine Seq.u 17 (.slice p0 n0 c0) ?_
  refine Seq.u 6 (.slice p0 n0 c0) ?_
  refine Seq.done ?_
  refine At.L [(6, (.slice p0 n0 c0))] fun J => ?_
  exact At.rt [.tmp 6] [(.slice p0 n0 c0)] func68 ⟨_, rfl, rfl⟩ h
 | false =>
  replace h := h.2 (of_decide_eq_false hb)
  refine At.cF 16 K10 K13 ?_
  refine At.skip ?_
  refine At.s K15 K16 ?_
  refine At.rg 5 [0, 1, 2] ?_
  refine Seq.u 18 (.slice p0 n0 c0) ?_
  refine Seq.z 19 (.call { callee := .builtin .len, args := #[(.tmp 18)], argTypes := #[23] }) 3 (.int .i64 (n0 : Int)) (Y.lenS underlying23 rfl rfl) ?_
  refine Seq.u 8 (.int .i64 (n0 : Int)) ?_
  refine Seq.done ?_
  refine At.L [(0, (.slice p0 n0 c0)), (1, (.int .i64 x1)), (2, (.slice p2 n2 c2)), (7, (.int .i64 (n2 : Int))), (8, (.int .i64 (n0 : Int)))] fun J => ?_
  refine At.s K17 K24 ?_
  refine At.s K18 K19 ?_
  refine At.rg 6 [0, 1, 2] ?_
  refine Seq.u 20 (.int .i64 x1) ?_
  refine Seq.u 21 (.int .i64 (n0 : Int)) ?_
  refine Seq.u 22 (.bool (decide ((x1 : Int) = (n0 : Int)))) ?_
  refine Seq.done ?_
  refine At.L [(0, (.slice p0 n0 c0)), (1, (.int .i64 x1)), (2, (.slice p2 n2 c2)), (7, (.int .i64 (n2 : Int))), (8, (.int .i64 (n0 : Int))), (22, (.bool (decide ((x1 : Int) = (n0 : Int)))))] fun J => ?_
  cases hb : (decide ((x1 : Int) = (n0 : Int))) with
  | true =>
   replace h := h.1 (of_decide_eq_true hb)
   refine At.cT 22 K20 K23 ?_
   refine At.s K21 K22 ?_
   refine At.rg 7 [0, 1, 2, 3] ?_
   refine Seq.u 23 (.slice p0 n0 c0) ?_
   refine Seq.u 24 (.slice p2 n2 c2) ?_
   refine Seq.o ?_
   refine OpTo.eff (d := (some 25)) (op := (.call { callee := .builtin .append, args := #[(.tmp 23), (.tmp 24)], argTypes := #[23, 23] })) (ty := 23) (gd := none) (by kernel_rfl) rfl rfl (Builtin.append_ #[23, 23] 23 #[(.slice p0 n0 c0), (.slice p2 n2 c2)]) (fun o ho ht => exec_b_append rfl rfl o ho ht) (h.mono (fun v σ1 h2 => ?_)); replace h := h2; clear h2
   obtain ⟨p25, n25, c25, rfl, h⟩ := h
   refine Seq.u 6 (.slice p25 n25 c25) ?_
   refine Seq.done ?_
   refine At.L [(6, (.slice p25 n25 c25))] fun J => ?_
   exact At.rt [.tmp 6] [(.slice p25 n25 c25)] func68 ⟨_, rfl, rfl⟩ h
  | false =>
   replace h := h.2 (of_decide_eq_false hb)
   refine At.cF 22 K20 K23 ?_
   refine At.skip ?_
   refine At.s K25 K38 ?_
   refine At.s K26 K27 ?_
   refine At.rg 8 [0, 1, 2, 3, 4, 5] ?_
   refine Seq.u 26 (.int .i64 (n0 : Int)) ?_
   refine Seq.u 27 (.int .i64 (n2 : Int)) ?_
   obtain ⟨hi, h⟩ := h
   refine Seq.z 28 (.binOp .add 3 (.tmp 26) (.tmp 27) 3) 3 (.int .i64 ((n0 : Int) + (n2 : Int))) (Y.addI hi rfl rfl) ?_
   refine Seq.u 29 (.slice p0 n0 c0) ?_
   refine Seq.z 30 (.call { callee := .builtin .cap, args := #[(.tmp 29)], argTypes := #[23] }) 3 (.int .i64 (c0 : Int)) (Y.capS underlying23 rfl rfl) ?_
   refine Seq.u 31 (.bool (decide (((c0 : Int) : Int) < ((n0 : Int) + (n2 : Int))))) ?_
   refine Seq.done ?_
   refine At.L [(0, (.slice p0 n0 c0)), (1, (.int .i64 x1)), (2, (.slice p2 n2 c2)), (7, (.int .i64 (n2 : Int))), (8, (.int .i64 (n0 : Int))), (31, (.bool (decide (((c0 : Int) : Int) < ((n0 : Int) + (n2 : Int))))))] fun J => ?_
   cases hb : (decide (((c0 : Int) : Int) < ((n0 : Int) + (n2 : Int)))) with
   | true =>
    replace h := h.1 (of_decide_eq_true hb)
    refine At.cT 31 K28 K37 ?_
    refine At.s K29 K30 ?_
    refine At.rg 9 [0, 1, 2, 3, 4, 5, 6, 7, 8, 9] ?_
    refine Seq.u 32 (.slice p0 n0 c0) ?_
    refine Seq.u 33 (.int .i64 x1) ?_
    obtain ⟨hs, h⟩ := h
    refine Seq.z 34 (.slice 23 (.tmp 32) none (some (.tmp 33)) none) 23 (.slice p0 (Int.toNat x1) c0) (Y.slh underlying23 sizeOf55 rfl rfl hs) ?_
    refine Seq.u 35 (.int .i64 (n0 : Int)) ?_
    refine Seq.u 36 (.int .i64 (n2 : Int)) ?_
    obtain ⟨hi, h⟩ := h
    refine Seq.z 37 (.binOp .add 3 (.tmp 35) (.tmp 36) 3) 3 (.int .i64 ((n0 : Int) + (n2 : Int))) (Y.addI hi rfl rfl) ?_
    refine Seq.u 38 (.int .i64 x1) ?_
    obtain ⟨hi, h⟩ := h
    refine Seq.z 39 (.binOp .sub 3 (.tmp 37) (.tmp 38) 3) 3 (.int .i64 (((n0 : Int) + (n2 : Int)) - x1)) (Y.subI hi rfl rfl) ?_
    refine Seq.o ?_
    refine OpTo.eff (d := (some 40)) (op := (.call { callee := .builtin .append, args := #[(.tmp 34), (.tmp 39)], argTypes := #[23, 3] })) (ty := 23) (gd := none) (by kernel_rfl) rfl rfl (Builtin.append_ #[23, 3] 23 #[(.slice p0 (Int.toNat x1) c0), (.int .i64 (((n0 : Int) + (n2 : Int)) - x1))]) (fun o ho ht => exec_b_append rfl rfl o ho ht) (h.mono (fun v σ1 h2 => ?_)); replace h := h2; clear h2
    obtain ⟨p40, n40, c40, rfl, h⟩ := h
    refine Seq.u 9 (.slice p40 n40 c40) ?_
    refine Seq.done ?_
    refine At.L [(0, (.slice p0 n0 c0)), (1, (.int .i64 x1)), (2, (.slice p2 n2 c2)), (7, (.int .i64 (n2 : Int))), (9, (.slice p40 n40 c40))] fun J => ?_
    refine At.s K31 K32 ?_
    refine At.rg 10 [0, 1, 2, 3, 4] ?_
    refine Seq.u 41 (.slice p40 n40 c40) ?_
    refine Seq.u 42 (.int .i64 x1) ?_
    obtain ⟨hs, h⟩ := h
    refine Seq.z 43 (.slice 23 (.tmp 41) (some (.tmp 42)) none none) 23 (.slice (slP p40 (Int.toNat x1) c40 3) (n40 - Int.toNat x1) (c40 - Int.toNat x1)) (Y.sll underlying23 sizeOf55 rfl rfl hs) ?_
    refine Seq.u 44 (.slice p2 n2 c2) ?_
    refine Seq.o ?_
    refine OpTo.eff (d := (some 45)) (op := (.call { callee := .builtin .copy, args := #[(.tmp 43), (.tmp 44)], argTypes := #[23, 23] })) (ty := 3) (gd := none) (by kernel_rfl) rfl rfl (Builtin.copy_ #[23, 23] 3 #[(.slice (slP p40 (Int.toNat x1) c40 3) (n40 - Int.toNat x1) (c40 - Int.toNat x1)), (.slice p2 n2 c2)]) (fun o ho ht => exec_b_copy rfl rfl o ho ht) (h.mono (fun v_2 σ1_2 h2 => ?_)); replace h := h2; clear h2
    obtain ⟨x45, rfl, h⟩ := h
    refine Seq.done ?_
    refine At.L [(0, (.slice p0 n0 c0)), (1, (.int .i64 x1)), (7, (.int .i64 (n2 : Int))), (9, (.slice p40 n40 c40))] fun J => ?_
    refine At.s K33 K34 ?_
    refine At.draw (id := 11) (ops := cO K33) (n := 8) (q := none) (plan := [(0, true), (1, true), (2, true), (3, true), (4, true), (5, true), (6, true), (7, true)]) (tl := [8]) mixed (by kernel_rfl) (by kernel_rfl) ?_
    refine Head.u 46 (.slice p40 n40 c40) ?_
    refine Head.u 47 (.int .i64 x1) ?_
    refine Head.u 48 (.int .i64 (n2 : Int)) ?_
    obtain ⟨hi, h⟩ := h
    refine Head.z 49 (.binOp .add 3 (.tmp 47) (.tmp 48) 3) 3 (.int .i64 (x1 + (n2 : Int))) (Y.addI hi rfl rfl) ?_
    obtain ⟨hs, h⟩ := h
    refine Head.z 50 (.slice 23 (.tmp 46) (some (.tmp 49)) none none) 23 (.slice (slP p40 (Int.toNat (x1 + (n2 : Int))) c40 3) (n40 - Int.toNat (x1 + (n2 : Int))) (c40 - Int.toNat (x1 + (n2 : Int)))) (Y.sll underlying23 sizeOf55 rfl rfl hs) ?_
    refine Head.u 51 (.slice p0 n0 c0) ?_
    refine Head.u 52 (.int .i64 x1) ?_
    obtain ⟨hs, h⟩ := h
    refine Head.z 53 (.slice 23 (.tmp 51) (some (.tmp 52)) none none) 23 (.slice (slP p0 (Int.toNat x1) c0 3) (n0 - Int.toNat x1) (c0 - Int.toNat x1)) (Y.sll underlying23 sizeOf55 rfl rfl hs) ?_
    refine Head.done ?_
    refine Seq.o ?_
    refine OpTo.eff (d := (some 54)) (op := (.call { callee := .builtin .copy, args := #[(.tmp 50), (.tmp 53)], argTypes := #[23, 23] })) (ty := 3) (gd := none) (by kernel_rfl) rfl rfl (Builtin.copy_ #[23, 23] 3 #[(.slice (slP p40 (Int.toNat (x1 + (n2 : Int))) c40 3) (n40 - Int.toNat (x1 + (n2 : Int))) (c40 - Int.toNat (x1 + (n2 : Int)))), (.slice (slP p0 (Int.toNat x1) c0 3) (n0 - Int.toNat x1) (c0 - Int.toNat x1))]) (fun o ho ht => exec_b_copy rfl rfl o ho ht) (h.mono (fun v_3 σ1_3 h2 => ?_)); replace h := h2; clear h2
    obtain ⟨x54, rfl, h⟩ := h
    refine Seq.done ?_
    refine At.L [(9, (.slice p40 n40 c40))] fun J => ?_
    refine At.s K35 K36 ?_
    refine At.rg 12 [0, 1] ?_
    refine Seq.u 55 (.slice p40 n40 c40) ?_
    refine Seq.u 6 (.slice p40 n40 c40) ?_
    refine Seq.done ?_
    refine At.L [(6, (.slice p40 n40 c40))] fun J => ?_
    exact At.rt [.tmp 6] [(.slice p40 n40 c40)] func68 ⟨_, rfl, rfl⟩ h
   | false =>
    replace h := h.2 (of_decide_eq_false hb)
    refine At.cF 31 K28 K37 ?_
    refine At.skip ?_
    refine At.s K39 K40 ?_
    refine At.rg 13 [0, 1, 2, 3, 4, 5] ?_
    refine Seq.u 56 (.slice p0 n0 c0) ?_
    refine Seq.u 57 (.int .i64 (n0 : Int)) ?_
    refine Seq.u 58 (.int .i64 (n2 : Int)) ?_
    obtain ⟨hi, h⟩ := h
    refine Seq.z 59 (.binOp .add 3 (.tmp 57) (.tmp 58) 3) 3 (.int .i64 ((n0 : Int) + (n2 : Int))) (Y.addI hi rfl rfl) ?_
    obtain ⟨hs, h⟩ := h
    refine Seq.z 60 (.slice 23 (.tmp 56) none (some (.tmp 59)) none) 23 (.slice p0 (Int.toNat ((n0 : Int) + (n2 : Int))) c0) (Y.slh underlying23 sizeOf55 rfl rfl hs) ?_
    refine Seq.u 0 (.slice p0 (Int.toNat ((n0 : Int) + (n2 : Int))) c0) ?_
    refine Seq.done ?_
    refine At.L [(0, (.slice p0 (Int.toNat ((n0 : Int) + (n2 : Int))) c0)), (1, (.int .i64 x1)), (2, (.slice p2 n2 c2)), (7, (.int .i64 (n2 : Int))), (8, (.int .i64 (n0 : Int)))] fun J => ?_
    refine At.s K41 K52 ?_
    refine At.s K42 K43 ?_
    refine At.rg 14 [0, 1, 2, 3, 4, 5, 6, 7] ?_
    refine Seq.u 61 (.slice p2 n2 c2) ?_
    refine Seq.u 62 (.slice p0 (Int.toNat ((n0 : Int) + (n2 : Int))) c0) ?_
    refine Seq.u 63 (.int .i64 x1) ?_
    refine Seq.u 64 (.int .i64 (n2 : Int)) ?_
    obtain ⟨hi, h⟩ := h
    refine Seq.z 65 (.binOp .add 3 (.tmp 63) (.tmp 64) 3) 3 (.int .i64 (x1 + (n2 : Int))) (Y.addI hi rfl rfl) ?_
    obtain ⟨hs, h⟩ := h
    refine Seq.z 66 (.slice 23 (.tmp 62) (some (.tmp 65)) none none) 23 (.slice (slP p0 (Int.toNat (x1 + (n2 : Int))) c0 3) ((Int.toNat ((n0 : Int) + (n2 : Int))) - Int.toNat (x1 + (n2 : Int))) (c0 - Int.toNat (x1 + (n2 : Int)))) (Y.sll underlying23 sizeOf55 rfl rfl hs) ?_
    obtain ⟨t67, hy, h⟩ := h
    refine Seq.y (d := (some 67)) (op := (.call { callee := .value (.func 76), args := #[(.tmp 61), (.tmp 66)], argTypes := #[23, 23] })) (ty := 4) (v := (.bool t67)) (by kernel_rfl) rfl (Yd.ext (f := 76) (args := #[(.slice p2 n2 c2), (.slice (slP p0 (Int.toNat (x1 + (n2 : Int))) c0 3) ((Int.toNat ((n0 : Int) + (n2 : Int))) - Int.toNat (x1 + (n2 : Int))) (c0 - Int.toNat (x1 + (n2 : Int))))]) rfl rfl hy) ?_
    refine Seq.u 68 (.bool (!t67)) ?_
    refine Seq.done ?_
    refine At.L [(0, (.slice p0 (Int.toNat ((n0 : Int) + (n2 : Int))) c0)), (1, (.int .i64 x1)), (2, (.slice p2 n2 c2)), (7, (.int .i64 (n2 : Int))), (8, (.int .i64 (n0 : Int))), (68, (.bool (!t67)))] fun J => ?_
    cases hb : (!t67) with
    | true =>
     replace h := h.1 (Tw.nt hb)
     refine At.cT 68 K44 K51 ?_
     refine At.s K45 K46 ?_
     refine At.draw (id := 15) (ops := cO K45) (n := 8) (q := none) (plan := [(0, true), (1, true), (2, true), (3, true), (4, true), (5, true), (6, true), (7, true)]) (tl := [8]) mixed (by kernel_rfl) (by kernel_rfl) ?_
     refine Head.u 69 (.slice p0 (Int.toNat ((n0 : Int) + (n2 : Int))) c0) ?_
     refine Head.u 70 (.int .i64 x1) ?_
     refine Head.u 71 (.int .i64 (n2 : Int)) ?_
     obtain ⟨hi, h⟩ := h
     refine Head.z 72 (.binOp .add 3 (.tmp 70) (.tmp 71) 3) 3 (.int .i64 (x1 + (n2 : Int))) (Y.addI hi rfl rfl) ?_
     obtain ⟨hs, h⟩ := h
     refine Head.z 73 (.slice 23 (.tmp 69) (some (.tmp 72)) none none) 23 (.slice (slP p0 (Int.toNat (x1 + (n2 : Int))) c0 3) ((Int.toNat ((n0 : Int) + (n2 : Int))) - Int.toNat (x1 + (n2 : Int))) (c0 - Int.toNat (x1 + (n2 : Int)))) (Y.sll underlying23 sizeOf55 rfl rfl hs) ?_
     refine Head.u 74 (.slice p0 (Int.toNat ((n0 : Int) + (n2 : Int))) c0) ?_
     refine Head.u 75 (.int .i64 x1) ?_
     obtain ⟨hs, h⟩ := h
     refine Head.z 76 (.slice 23 (.tmp 74) (some (.tmp 75)) none none) 23 (.slice (slP p0 (Int.toNat x1) c0 3) ((Int.toNat ((n0 : Int) + (n2 : Int))) - Int.toNat x1) (c0 - Int.toNat x1)) (Y.sll underlying23 sizeOf55 rfl rfl hs) ?_
     refine Head.done ?_
     refine Seq.o ?_
     refine OpTo.eff (d := (some 77)) (op := (.call { callee := .builtin .copy, args := #[(.tmp 73), (.tmp 76)], argTypes := #[23, 23] })) (ty := 3) (gd := none) (by kernel_rfl) rfl rfl (Builtin.copy_ #[23, 23] 3 #[(.slice (slP p0 (Int.toNat (x1 + (n2 : Int))) c0 3) ((Int.toNat ((n0 : Int) + (n2 : Int))) - Int.toNat (x1 + (n2 : Int))) (c0 - Int.toNat (x1 + (n2 : Int)))), (.slice (slP p0 (Int.toNat x1) c0 3) ((Int.toNat ((n0 : Int) + (n2 : Int))) - Int.toNat x1) (c0 - Int.toNat x1))]) (fun o ho ht => exec_b_copy rfl rfl o ho ht) (h.mono (fun v_2 σ1_2 h2 => ?_)); replace h := h2; clear h2
     obtain ⟨x77, rfl, h⟩ := h
     refine Seq.done ?_
     refine At.L [(0, (.slice p0 (Int.toNat ((n0 : Int) + (n2 : Int))) c0)), (1, (.int .i64 x1)), (2, (.slice p2 n2 c2))] fun J => ?_
     refine At.s K47 K48 ?_
     refine At.rg 16 [0, 1, 2, 3, 4] ?_
     refine Seq.u 78 (.slice p0 (Int.toNat ((n0 : Int) + (n2 : Int))) c0) ?_
     refine Seq.u 79 (.int .i64 x1) ?_
     obtain ⟨hs, h⟩ := h
     refine Seq.z 80 (.slice 23 (.tmp 78) (some (.tmp 79)) none none) 23 (.slice (slP p0 (Int.toNat x1) c0 3) ((Int.toNat ((n0 : Int) + (n2 : Int))) - Int.toNat x1) (c0 - Int.toNat x1)) (Y.sll underlying23 sizeOf55 rfl rfl hs) ?_
     refine Seq.u 81 (.slice p2 n2 c2) ?_
     refine Seq.o ?_
     refine OpTo.eff (d := (some 82)) (op := (.call { callee := .builtin .copy, args := #[(.tmp 80), (.tmp 81)], argTypes := #[23, 23] })) (ty := 3) (gd := none) (by kernel_rfl) rfl rfl (Builtin.copy_ #[23, 23] 3 #[(.slice (slP p0 (Int.toNat x1) c0 3) ((Int.toNat ((n0 : Int) + (n2 : Int))) - Int.toNat x1) (c0 - Int.toNat x1)), (.slice p2 n2 c2)]) (fun o ho ht => exec_b_copy rfl rfl o ho ht) (h.mono (fun v_3 σ1_3 h2 => ?_)); replace h := h2; clear h2
     obtain ⟨x82, rfl, h⟩ := h
     refine Seq.done ?_
     refine At.L [(0, (.slice p0 (Int.toNat ((n0 : Int) + (n2 : Int))) c0))] fun J => ?_
     refine At.s K49 K50 ?_
     refine At.rg 17 [0, 1] ?_
     refine Seq.u 83 (.slice p0 (Int.toNat ((n0 : Int) + (n2 : Int))) c0) ?_
     refine Seq.u 6 (.slice p0 (Int.toNat ((n0 : Int) + (n2 : Int))) c0) ?_
     refine Seq.done ?_
     refine At.L [(6, (.slice p0 (Int.toNat ((n0 : Int) + (n2 : Int))) c0))] fun J => ?_
     exact At.rt [.tmp 6] [(.slice p0 (Int.toNat ((n0 : Int) + (n2 : Int))) c0)] func68 ⟨_, rfl, rfl⟩ h
    | false =>
     replace h := h.2 (Tw.nf hb)
     refine At.cF 68 K44 K51 ?_
     refine At.skip ?_
     refine At.s K53 K54 ?_
     refine At.rg 18 [0, 1, 2, 3, 4] ?_
     refine Seq.u 84 (.slice p0 (Int.toNat ((n0 : Int) + (n2 : Int))) c0) ?_
     refine Seq.u 85 (.int .i64 (n0 : Int)) ?_
     obtain ⟨hs, h⟩ := h
     refine Seq.z 86 (.slice 23 (.tmp 84) (some (.tmp 85)) none none) 23 (.slice (slP p0 (Int.toNat (n0 : Int)) c0 3) ((Int.toNat ((n0 : Int) + (n2 : Int))) - Int.toNat (n0 : Int)) (c0 - Int.toNat (n0 : Int))) (Y.sll underlying23 sizeOf55 rfl rfl hs) ?_
     refine Seq.u 87 (.slice p2 n2 c2) ?_
     refine Seq.o ?_
     refine OpTo.eff (d := (some 88)) (op := (.call { callee := .builtin .copy, args := #[(.tmp 86), (.tmp 87)], argTypes := #[23, 23] })) (ty := 3) (gd := none) (by kernel_rfl) rfl rfl (Builtin.copy_ #[23, 23] 3 #[(.slice (slP p0 (Int.toNat (n0 : Int)) c0 3) ((Int.toNat ((n0 : Int) + (n2 : Int))) - Int.toNat (n0 : Int)) (c0 - Int.toNat (n0 : Int))), (.slice p2 n2 c2)]) (fun o ho ht => exec_b_copy rfl rfl o ho ht) (h.mono (fun v_2 σ1_2 h2 => ?_)); replace h := h2; clear h2
     obtain ⟨x88, rfl, h⟩ := h
     refine Seq.done ?_
     refine At.L [(0, (.slice p0 (Int.toNat ((n0 : Int) + (n2 : Int))) c0)), (1, (.int .i64 x1)), (7, (.int .i64 (n2 : Int)))] fun J => ?_
     refine At.s K55 K56 ?_
     refine At.rg 19 [0, 1, 2, 3, 4] ?_
     refine Seq.u 89 (.slice p0 (Int.toNat ((n0 : Int) + (n2 : Int))) c0) ?_
     refine Seq.u 90 (.int .i64 x1) ?_
     obtain ⟨hs, h⟩ := h
     refine Seq.z 91 (.slice 23 (.tmp 89) (some (.tmp 90)) none none) 23 (.slice (slP p0 (Int.toNat x1) c0 3) ((Int.toNat ((n0 : Int) + (n2 : Int))) - Int.toNat x1) (c0 - Int.toNat x1)) (Y.sll underlying23 sizeOf55 rfl rfl hs) ?_
     refine Seq.u 92 (.int .i64 (n2 : Int)) ?_
     refine Seq.o ?_
     refine OpTo.cl (some 93) call77 (h.cont fun v_3 σ1_3 h2 => ?_); replace h := h2; clear h2
     obtain ⟨rfl, h⟩ := h
     refine Seq.done ?_
     refine At.L [(0, (.slice p0 (Int.toNat ((n0 : Int) + (n2 : Int))) c0))] fun J => ?_
     refine At.s K57 K58 ?_
     refine At.rg 20 [0, 1] ?_
     refine Seq.u 94 (.slice p0 (Int.toNat ((n0 : Int) + (n2 : Int))) c0) ?_
     refine Seq.u 6 (.slice p0 (Int.toNat ((n0 : Int) + (n2 : Int))) c0) ?_
     refine Seq.done ?_
     refine At.L [(6, (.slice p0 (Int.toNat ((n0 : Int) + (n2 : Int))) c0))] fun J => ?_
     exact At.rt [.tmp 6] [(.slice p0 (Int.toNat ((n0 : Int) + (n2 : Int))) c0)] func68 ⟨_, rfl, rfl⟩ h
end slices_Insert_Member
namespace slices_Delete_Member
abbrev fid : Nat := 70
noncomputable def K0 : Code := f70.body.getD .skip
noncomputable def K1 := Tw.cl K0
noncomputable def K2 := Tw.cr K0
noncomputable def K3 := Tw.cl K2
noncomputable def K4 := Tw.cr K2
noncomputable def K5 := Tw.cl K4
noncomputable def K6 := Tw.cl K5
noncomputable def K7 := Tw.cr K5
noncomputable def K8 := Tw.cl K7
noncomputable def K9 := Tw.cl K8
noncomputable def K10 := Tw.cr K8
noncomputable def K11 := Tw.cr K7
noncomputable def K12 := Tw.cr K4
noncomputable def K13 := Tw.cl K12
noncomputable def K14 := Tw.cr K12
noncomputable def K15 := Tw.cl K14
noncomputable def K16 := Tw.cr K14
noncomputable def K17 := Tw.cl K16
noncomputable def K18 := Tw.cr K16
noncomputable def K19 := Tw.cl K18
noncomputable def K20 := Tw.cr K18
noncomputable abbrev gl (R : Ending → Hp → Prop) : Gl := Gl.fn prog 70 33 R
theorem start {R : Ending → Hp → Prop} {p0 : Option Addr} {n0 : Nat} {c0 : Nat} {x1 : Int} {x2 : Int} {σ : Hp} (h : ∃ p13 : Option Addr, ∃ n13 : Nat, ∃ c13 : Nat, YF prog (Instr.sliceAt 23 (.slice p0 n0 c0) (some (.int .i64 x1)) (some (.int .i64 x2)) (some (.int .i64 (n0 : Int)))) σ (.slice p13 n13 c13) ∧ ((x1 : Int) = x2 → R (.returned (.slice p0 n0 c0)) σ) ∧ (¬ ((x1 : Int) = x2) → ((0 : Int) ≤ x1 ∧ x1 ≤ (c0 : Int)) ∧ ((0 : Int) ≤ x2 ∧ x2 ≤ (n0 : Int)) ∧ Eff prog (Builtin.append_ #[23, 23] 23 #[(.slice p0 (Int.toNat x1) c0), (.slice (slP p0 (Int.toNat x2) c0 3) (n0 - Int.toNat x2) (c0 - Int.toNat x2))]) σ (fun v σ1 => ∃ p26 : Option Addr, ∃ n26 : Nat, ∃ c26 : Nat, v = (.slice p26 n26 c26) ∧ ((0 : Int) ≤ (n26 : Int) ∧ (n26 : Int) ≤ (n0 : Int) ∧ (n0 : Int) ≤ (c26 : Int)) ∧ Eff prog (Builtin.clear_ #[23] 0 #[(.slice (slP p26 (Int.toNat (n26 : Int)) c26 3) (Int.toNat (n0 : Int) - Int.toNat (n26 : Int)) (c26 - Int.toNat (n26 : Int)))]) σ1 (fun v_2 σ1_2 => R (.returned (.slice p26 n26 c26)) σ1_2)))) : Spec prog 70 #[(.slice p0 n0 c0), (.int .i64 x1), (.int .i64 x2)] σ R := by
 refine Spec.of_at (fn := f70) (c := K0) func70 (by kernel_rfl) (Nat.le_of_ble_eq_true (by kernel_rfl)) (fun e he => ?_)
 refine At.ofL (l := [(0, (.slice p0 n0 c0)), (1, (.int .i64 x1)), (2, (.int .i64 x2))]) ⟨he 0, he 1, he 2, trivial⟩ (fun J => ?_)
 show At (gl R) _ _ _ _
 refine At.s K1 K2 ?_
 refine At.rg 0 [0] ?_
 refine Seq.u 6 (.slice none 0 0) ?_
 refine Seq.done ?_
 refine At.L [(0, (.slice p0 n0 c0)), (1, (.int .i64 x1)), (2, (.int .i64 x2))] fun J => ?_
 refine At.s K3 K4 ?_
 refine At.rg 1 [0, 1, 2, 3, 4, 5] ?_
 refine Seq.u 8 (.slice p0 n0 c0) ?_
 refine Seq.u 9 (.int .i64 x1) ?_
 refine Seq.u 10 (.int .i64 x2) ?_
 refine Seq.u 11 (.slice p0 n0 c0) ?_
 refine Seq.z 12 (.call { callee := .builtin .len, args := #[(.tmp 11)], argTypes := #[23] }) 3 (.int .i64 (n0 : Int)) (Y.lenS underlying23 rfl rfl) ?_
 obtain ⟨p13, n13, c13, hy, h⟩ := h
 refine Seq.y (d := (some 13)) (op := (.slice 23 (.tmp 8) (some (.tmp 9)) (some (.tmp 10)) (some (.tmp 12)))) (ty := 23) (v := (.slice p13 n13 c13)) (by kernel_rfl) rfl (Yd.any (m := Instr.sliceAt 23 (.slice p0 n0 c0) (some (.int .i64 x1)) (some (.int .i64 x2)) (some (.int .i64 (n0 : Int)))) (fun o ho ht => by simp only [execOp, ho, ht]; rfl) hy) ?_
 refine Seq.done ?_
 refine At.L [(0, (.slice p0 n0 c0)), (1, (.int .i64 x1)), (2, (.int .i64 x2))] fun J => ?_
 refine At.s K5 K12 ?_
 refine At.s K6 K7 ?_
 refine At.rg 2 [0, 1, 2] ?_
 refine Seq.u 14 (.int .i64 x1) ?_
 refine Seq.u 15 (.int .i64 x2) ?_
 refine Seq.u 16 (.bool (decide ((x1 : Int) = x2))) ?_
 refine Seq.done ?_
 refine At.L [(0, (.slice p0 n0 c0)), (1, (.int .i64 x1)), (2, (.int .i64 x2)), (16, (.bool (decide ((x1 : Int) = x2))))] fun J => ?_
 cases hb : (decide ((x1 : Int) = x2)) with
 | true =>
  replace h := h.1 (of_decide_eq_true hb)
  refine At.cT 16 K8 K11 ?_
  refine At.s K9 K10 ?_
  refine At.rg 3 [0, 1] ?_
  refine Seq.u 17 (.slice p0 n0 c0) ?_
  refine Seq.u 6 (.slice p0 n0 c0) ?_
  refine Seq.done ?_
  refine At.L [(6, (.slice p0 n0 c0))] fun J => ?_
  exact At.rt [.tmp 6] [(.slice p0 n0 c0)] func70 ⟨_, rfl, rfl⟩ h
 | false =>
  replace h := h.2 (of_decide_eq_false hb)
  refine At.cF 16 K8 K11 ?_
  refine At.skip ?_
  refine At.s K13 K14 ?_
  refine At.rg 4 [0, 1, 2] ?_
  refine Seq.u 18 (.slice p0 n0 c0) ?_
  refine Seq.z 19 (.call { callee := .builtin .len, args := #[(.tmp 18)], argTypes := #[23] }) 3 (.int .i64 (n0 : Int)) (Y.lenS underlying23 rfl rfl) ?_
  refine Seq.u 7 (.int .i64 (n0 : Int)) ?_
  refine Seq.done ?_
  refine At.L [(0, (.slice p0 n0 c0)), (1, (.int .i64 x1)), (2, (.int .i64 x2)), (7, (.int .i64 (n0 : Int)))] fun J => ?_
  refine At.s K15 K16 ?_
  refine At.draw (id := 5) (ops := cO K15) (n := 8) (q := (some [])) (plan := [(0, true), (1, true), (2, true), (3, true), (4, true), (5, true), (6, false), (7, true)]) (tl := []) mixed (by kernel_rfl) (by kernel_rfl) ?_
  refine Head.u 20 (.slice p0 n0 c0) ?_
  refine Head.u 21 (.int .i64 x1) ?_
  obtain ⟨hs, h⟩ := h
  refine Head.z 22 (.slice 23 (.tmp 20) none (some (.tmp 21)) none) 23 (.slice p0 (Int.toNat x1) c0) (Y.slh underlying23 sizeOf55 rfl rfl hs) ?_
  refine Head.u 23 (.slice p0 n0 c0) ?_
  refine Head.u 24 (.int .i64 x2) ?_
  obtain ⟨hs, h⟩ := h
  refine Head.z 25 (.slice 23 (.tmp 23) (some (.tmp 24)) none none) 23 (.slice (slP p0 (Int.toNat x2) c0 3) (n0 - Int.toNat x2) (c0 - Int.toNat x2)) (Y.sll underlying23 sizeOf55 rfl rfl hs) ?_
  refine Head.o (q' := (some [])) rfl ?_
  refine OpTo.eff (d := (some 26)) (op := (.call { callee := .builtin .append, args := #[(.tmp 22), (.tmp 25)], argTypes := #[23, 23] })) (ty := 23) (gd := none) (by kernel_rfl) rfl rfl (Builtin.append_ #[23, 23] 23 #[(.slice p0 (Int.toNat x1) c0), (.slice (slP p0 (Int.toNat x2) c0 3) (n0 - Int.toNat x2) (c0 - Int.toNat x2))]) (fun o ho ht => exec_b_append rfl rfl o ho ht) (h.mono (fun v σ1 h2 => ?_)); replace h := h2; clear h2
  obtain ⟨p26, n26, c26, rfl, h⟩ := h
  refine ⟨⟨fun _ h => h, kp_q (L := []) Kp.nil⟩, ?_⟩
  refine Head.u 0 (.slice p26 n26 c26) ?_
  refine Head.done ?_
  refine Seq.done ?_
  refine At.L [(0, (.slice p26 n26 c26)), (7, (.int .i64 (n0 : Int)))] fun J => ?_
  refine At.s K17 K18 ?_
  refine At.rg 6 [0, 1, 2, 3, 4, 5] ?_
  refine Seq.u 27 (.slice p26 n26 c26) ?_
  refine Seq.u 28 (.slice p26 n26 c26) ?_
  refine Seq.z 29 (.call { callee := .builtin .len, args := #[(.tmp 28)], argTypes := #[23] }) 3 (.int .i64 (n26 : Int)) (Y.lenS underlying23 rfl rfl) ?_
  refine Seq.u 30 (.int .i64 (n0 : Int)) ?_
  obtain ⟨hs, h⟩ := h
  refine Seq.z 31 (.slice 23 (.tmp 27) (some (.tmp 29)) (some (.tmp 30)) none) 23 (.slice (slP p26 (Int.toNat (n26 : Int)) c26 3) (Int.toNat (n0 : Int) - Int.toNat (n26 : Int)) (c26 - Int.toNat (n26 : Int))) (Y.sllh underlying23 sizeOf55 rfl rfl rfl hs) ?_
  refine Seq.o ?_
  refine OpTo.eff (d := none) (op := (.call { callee := .builtin .clear, args := #[(.tmp 31)], argTypes := #[23] })) (ty := 0) (gd := none) (by kernel_rfl) rfl rfl (Builtin.clear_ #[23] 0 #[(.slice (slP p26 (Int.toNat (n26 : Int)) c26 3) (Int.toNat (n0 : Int) - Int.toNat (n26 : Int)) (c26 - Int.toNat (n26 : Int)))]) (fun o ho ht => exec_b_clear rfl o ho ht) (h.mono (fun v_2 σ1_2 h2 => ?_)); replace h := h2; clear h2
  refine Seq.done ?_
  refine At.L [(0, (.slice p26 n26 c26))] fun J => ?_
  refine At.s K19 K20 ?_
  refine At.rg 7 [0, 1] ?_
  refine Seq.u 32 (.slice p26 n26 c26) ?_
  refine Seq.u 6 (.slice p26 n26 c26) ?_
  refine Seq.done ?_
  refine At.L [(6, (.slice p26 n26 c26))] fun J => ?_
  exact At.rt [.tmp 6] [(.slice p26 n26 c26)] func70 ⟨_, rfl, rfl⟩ h
end slices_Delete_Member
namespace ring_member_1
abbrev fid : Nat := 66
noncomputable def K0 : Code := f66.body.getD .skip
noncomputable def K1 := Tw.cl K0
noncomputable def K2 := Tw.cr K0
noncomputable def K3 := Tw.cl K2
noncomputable def K4 := Tw.cr K2
noncomputable abbrev gl (R : Ending → Hp → Prop) : Gl := Gl.fn prog 66 8 R
theorem start {R : Ending → Hp → Prop} {x0a : Int} {x0b : Int} {p0c : Option Addr} {n0c : Nat} {c0c : Nat} {b1 : Nat} {σ : Hp} (h : ∃ x6 : Int, Hp.ld σ ⟨b1, 0, none⟩ = some (.int .i64 x6) ∧ R (.returned (.bool (decide ((x0a : Int) = x6)))) σ) : Spec prog 66 #[(.agg #[(.int .i64 x0a), (.int .i64 x0b), (.slice p0c n0c c0c)]), (.pointer (some ⟨b1, 0, none⟩))] σ R := by
 refine Spec.of_at (fn := f66) (c := K0) func66 (by kernel_rfl) (Nat.le_of_ble_eq_true (by kernel_rfl)) (fun e he => ?_)
 refine At.ofL (l := [(0, (.agg #[(.int .i64 x0a), (.int .i64 x0b), (.slice p0c n0c c0c)])), (1, (.pointer (some ⟨b1, 0, none⟩)))]) ⟨he 0, he 1, trivial⟩ (fun J => ?_)
 show At (gl R) _ _ _ _
 refine At.s K1 K2 ?_
 refine At.rg 0 [0, 1] ?_
 refine Seq.o ?_
 refine OpTo.box (T := 55) (d := (some 2)) (ty := 0) (x := (.tmp 0)) (gd := none) (cs := #[(.int .i64 x0a), (.int .i64 x0b), (.slice p0c n0c c0c)]) (by kernel_rfl) rfl rfl rfl (fun b2 => ?_)
 refine Seq.u 3 (.bool false) ?_
 refine Seq.done ?_
 refine At.L [(1, (.pointer (some ⟨b1, 0, none⟩))), (2, (.pointer (some ⟨b2, 0, none⟩)))] fun J => ?_
 refine At.s K3 K4 ?_
 refine At.rg 1 [0, 1, 2, 3, 4] ?_
 refine Seq.z 4 (.fieldAddr 55 (.tmp 2) 0) 0 (.pointer (some ⟨b2, 0, none⟩)) (Y.fieldAddr (fd := (fieldOf prog 55 0)) underlying55 (by kernel_rfl) sizeOf3 rfl rfl) ?_
 refine Seq.z 5 (.load 3 (.tmp 4)) 3 (.int .i64 x0a) (Y.ldb isAgg3 rfl (List.mem_cons_self ..) rfl) ?_
 obtain ⟨x6, hl, h⟩ := h
 refine Seq.z 6 (.load 3 (.tmp 1)) 3 (.int .i64 x6) (Y.ld isAgg3 rfl hl) ?_
 refine Seq.u 7 (.bool (decide ((x0a : Int) = x6))) ?_
 refine Seq.u 3 (.bool (decide ((x0a : Int) = x6))) ?_
 refine Seq.done ?_
 refine At.L [(3, (.bool (decide ((x0a : Int) = x6))))] fun J => ?_
 exact At.rt [.tmp 3] [(.bool (decide ((x0a : Int) = x6)))] func66 ⟨_, rfl, rfl⟩ h
end ring_member_1
end TwR
end
section
/- written by gen.py: program points and what leads to them -/
set_option linter.unusedVariables false
set_option maxRecDepth 100000
namespace TwR
open Go Tw Go.Proofs.Try
namespace law13_RingFew
abbrev fid : Nat := 5
noncomputable def K0 : Code := f5.body.getD .skip
noncomputable def K1 := Tw.cl K0
noncomputable def K2 := Tw.cr K0
noncomputable def K3 := Tw.cl K2
noncomputable def K4 := Tw.cr K2
noncomputable def K5 := Tw.cl K4
noncomputable def K6 := Tw.cl K5
noncomputable def K7 := Tw.cr K5
noncomputable def K8 := Tw.cl K7
noncomputable def K9 := Tw.cl K8
noncomputable def K10 := Tw.cl K9
noncomputable def K11 := Tw.cl K10
noncomputable def K12 := Tw.cr K10
noncomputable def K13 := Tw.cl K12
noncomputable def K14 := Tw.cr K12
noncomputable def K15 := Tw.cr K9
noncomputable def K16 := Tw.cl K15
noncomputable def K17 := Tw.cl K16
noncomputable def K18 := Tw.cl K17
noncomputable def K19 := Tw.cr K17
noncomputable def K20 := Tw.cl K19
noncomputable def K21 := Tw.cl K20
noncomputable def K22 := Tw.cr K20
noncomputable def K23 := Tw.cl K22
noncomputable def K24 := Tw.cl K23
noncomputable def K25 := Tw.cr K23
noncomputable def K26 := Tw.cr K22
noncomputable def K27 := Tw.cr K19
noncomputable def K28 := Tw.cl K27
noncomputable def K29 := Tw.cl K28
noncomputable def K30 := Tw.cr K28
noncomputable def K31 := Tw.cl K30
noncomputable def K32 := Tw.cl K31
noncomputable def K33 := Tw.cr K31
noncomputable def K34 := Tw.cr K30
noncomputable def K35 := Tw.cr K27
noncomputable def K36 := Tw.cr K15
noncomputable def K37 := Tw.cr K4
noncomputable def K38 := Tw.cl K37
noncomputable def K39 := Tw.cr K37
noncomputable abbrev gl (R : Ending → Hp → Prop) : Gl := Gl.fn prog 5 75 R
def pt11 (R : Ending → Hp → Prop) (x1 : Int) (x2a : Int) (p2b : Option Addr) (n2b : Nat) (c2b : Nat) (p5 : Option Addr) (n5 : Nat) (c5 : Nat) (x6 : Int) (σ : Hp) : Prop := ∀ (J : Env) (b2 : Nat), At (gl R) [.code K11, .code K12, .code K15, .inLoop K9, .inBlock 0, .code K37] (upds J [(1, (.int .u32 x1)), (2, (.pointer (some ⟨b2, 0, none⟩))), (5, (.slice p5 n5 c5)), (6, (.int .i64 x6))]) [(b2, .cells #[(.int .u64 x2a), (.slice p2b n2b c2b)] 25 (0, 0))] σ
theorem start {R : Ending → Hp → Prop} {x0a : Int} {p0b : Option Addr} {n0b : Nat} {c0b : Nat} {x1 : Int} {σ : Hp} (h : pt11 R x1 x0a p0b n0b c0b none 0 0 1 σ) : Spec prog 5 #[(.agg #[(.int .u64 x0a), (.slice p0b n0b c0b)]), (.int .u32 x1)] σ R := by
 refine Spec.of_at (fn := f5) (c := K0) func5 (by kernel_rfl) (Nat.le_of_ble_eq_true (by kernel_rfl)) (fun e he => ?_)
 refine At.ofL (l := [(0, (.agg #[(.int .u64 x0a), (.slice p0b n0b c0b)])), (1, (.int .u32 x1))]) ⟨he 0, he 1, trivial⟩ (fun J => ?_)
 show At (gl R) _ _ _ _
 refine At.s K1 K2 ?_
 refine At.rg 0 [0, 1] ?_
 refine Seq.o ?_
 refine OpTo.box (T := 25) (d := (some 2)) (ty := 0) (x := (.tmp 0)) (gd := none) (cs := #[(.int .u64 x0a), (.slice p0b n0b c0b)]) (by kernel_rfl) rfl rfl rfl (fun b2 => ?_)
 refine Seq.u 4 (.bool false) ?_
 refine Seq.done ?_
 refine At.L [(1, (.int .u32 x1)), (2, (.pointer (some ⟨b2, 0, none⟩)))] fun J => ?_
 refine At.s K3 K4 ?_
 refine At.rg 1 [0] ?_
 refine Seq.u 5 (.slice none 0 0) ?_
 refine Seq.done ?_
 refine At.L [(1, (.int .u32 x1)), (2, (.pointer (some ⟨b2, 0, none⟩))), (5, (.slice none 0 0))] fun J => ?_
 refine At.s K5 K37 ?_
 refine At.s K6 K7 ?_
 refine At.rg 2 [0] ?_
 refine Seq.u 6 (.int .i64 1) ?_
 refine Seq.done ?_
 refine At.L [(1, (.int .u32 x1)), (2, (.pointer (some ⟨b2, 0, none⟩))), (5, (.slice none 0 0)), (6, (.int .i64 1))] fun J => ?_
 refine At.b 0 K8 ?_
 refine At.loop (x := K9) (by kernel_rfl) ?_
 refine At.s K10 K15 ?_
 refine At.s K11 K12 ?_
 exact At.v [(1, (.int .u32 x1)), (2, (.pointer (some ⟨b2, 0, none⟩))), (5, (.slice none 0 0)), (6, (.int .i64 1))] (h _ b2)
theorem pt11_of {R : Ending → Hp → Prop} {x1 : Int} {x2a : Int} {p2b : Option Addr} {n2b : Nat} {c2b : Nat} {p5 : Option Addr} {n5 : Nat} {c5 : Nat} {x6 : Int} {σ : Hp} (h : ((x6 : Int) ≤ 5 → Spec prog 9 #[(.agg #[(.int .u64 x2a), (.slice p2b n2b c2b)])] σ (Cont R (fun v σ1 => ∃ x15a : Int, ∃ p15b : Option Addr, ∃ n15b : Nat, ∃ c15b : Nat, v = (.agg #[(.int .u64 x15a), (.slice p15b n15b c15b)]) ∧ Spec prog 10 #[(.agg #[(.int .u64 x15a), (.slice p15b n15b c15b)]), (.int .u32 x1), (.int .i64 x6)] σ1 (Cont R (fun v_2 σ1_2 => ∃ p18a : Option Addr, ∃ n18a : Nat, ∃ c18a : Nat, ∃ x18b : Int, v_2 = (.tuple #[(.slice p18a n18a c18a), (.int .i64 x18b)]) ∧ ((x18b : Int) ≠ 0 → (((n18a : Int) : Int) = 0 → ((x18b : Int) = 130 → Spec prog 14 #[] σ1_2 (Cont R (fun v_3 σ1_3 => ∃ t35 : Bool, v_3 = (.bool t35) ∧ R (.returned (.bool t35)) σ1_3))) ∧ (¬ ((x18b : Int) = 130) → ((x18b : Int) = 133 → Spec prog 14 #[] σ1_2 (Cont R (fun v_3 σ1_3 => ∃ t35 : Bool, v_3 = (.bool t35) ∧ R (.returned (.bool t35)) σ1_3))) ∧ (¬ ((x18b : Int) = 133) → R (.returned (.bool false)) σ1_2))) ∧ (¬ (((n18a : Int) : Int) = 0) → R (.returned (.bool false)) σ1_2)) ∧ (¬ ((x18b : Int) ≠ 0) → (((n18a : Int) : Int) ≠ x6 → R (.returned (.bool false)) σ1_2) ∧ (¬ (((n18a : Int) : Int) ≠ x6) → I64 (x6 - 1) ∧ ((0 : Int) ≤ (x6 - 1) ∧ (x6 - 1) ≤ (c18a : Int)) ∧ Spec prog 12 #[(.slice p18a (Int.toNat (x6 - 1)) c18a), (.slice p5 n5 c5)] σ1_2 (Cont R (fun v_3 σ1_3 => ∃ t47 : Bool, v_3 = (.bool t47) ∧ (t47 = false → R (.returned (.bool false)) σ1_3) ∧ (t47 = true → I64 (x6 - 1) ∧ ((0 : Int) ≤ (x6 - 1) ∧ (x6 - 1) ≤ (c18a : Int)) ∧ I64 (x6 - 1) ∧ ∃ (b58 o58 : Nat), p18a = some ⟨b58, o58, none⟩ ∧ ((0 : Int) ≤ (x6 - 1) ∧ (x6 - 1) < (n18a : Int)) ∧ ∃ x59 : Int, Hp.ld σ1_3 ⟨b58, (o58 + Int.toNat (x6 - 1) * 1), none⟩ = some (.int .i64 x59) ∧ Spec prog 22 #[(.slice (some ⟨b58, o58, none⟩) (Int.toNat (x6 - 1)) c18a), (.int .i64 x59)] σ1_3 (Cont R (fun v_4 σ1_4 => ∃ t60 : Bool, v_4 = (.bool t60) ∧ (t60 = true → R (.returned (.bool false)) σ1_4) ∧ (t60 = false → I64 (x6 - 1) ∧ ((0 : Int) ≤ (x6 - 1) ∧ (x6 - 1) < (n18a : Int)) ∧ ∃ x69 : Int, Hp.ld σ1_4 ⟨b58, (o58 + Int.toNat (x6 - 1) * 1), none⟩ = some (.int .i64 x69) ∧ Spec prog 9 #[(.agg #[(.int .u64 x2a), (.slice p2b n2b c2b)])] σ1_4 (Cont R (fun v_5 σ1_5 => ∃ x64a : Int, ∃ p64b : Option Addr, ∃ n64b : Nat, ∃ c64b : Nat, v_5 = (.agg #[(.int .u64 x64a), (.slice p64b n64b c64b)]) ∧ Kp [b58] σ1_4 σ1_5 ∧ Spec prog 23 #[(.agg #[(.int .u64 x64a), (.slice p64b n64b c64b)]), (.int .i64 x69)] σ1_5 (Cont R (fun v_6 σ1_6 => ∃ x70 : Int, v_6 = (.int .i64 x70) ∧ ((x70 : Int) ≠ 2 → R (.returned (.bool false)) σ1_6) ∧ (¬ ((x70 : Int) ≠ 2) → I64 (x6 + 1) ∧ pt11 R x1 x2a p2b n2b c2b ((some ⟨b58, o58, none⟩)) n18a c18a ((x6 + 1)) σ1_6)))))))))))))))))) ∧ (¬ ((x6 : Int) ≤ 5) → Spec prog 14 #[] σ (Cont R (fun v σ1 => ∃ t74 : Bool, v = (.bool t74) ∧ R (.returned (.bool t74)) σ1)))) : pt11 R x1 x2a p2b n2b c2b p5 n5 c5 x6 σ := by
 intro J b2
 show At (gl R) _ _ _ _
 refine At.rg 3 [0, 1] ?_
 refine Seq.u 9 (.int .i64 x6) ?_
 refine Seq.u 10 (.bool (decide ((x6 : Int) ≤ 5))) ?_
 refine Seq.done ?_
 refine At.L [(1, (.int .u32 x1)), (2, (.pointer (some ⟨b2, 0, none⟩))), (5, (.slice p5 n5 c5)), (6, (.int .i64 x6)), (10, (.bool (decide ((x6 : Int) ≤ 5))))] fun J => ?_
 cases hb : (decide ((x6 : Int) ≤ 5)) with
 | true =>
  replace h := h.1 (of_decide_eq_true hb)
  refine At.cT 10 K13 K14 ?_
  refine At.skip ?_
  refine At.s K16 K36 ?_
  refine At.b 1 K17 ?_
  refine At.s K18 K19 ?_
  refine At.rg 5 [0, 1, 2, 3, 4, 5, 6, 7, 8, 9] ?_
  refine Seq.z 14 (.load 25 (.tmp 2)) 25 (.agg #[(.int .u64 x2a), (.slice p2b n2b c2b)]) (Y.ldab (vs := [(.int .u64 x2a), (.slice p2b n2b c2b)]) isAgg25 sizeOf25 rfl rfl (List.mem_cons_self ..) rfl) ?_
  refine Seq.o ?_
  refine OpTo.cl (some 15) call9 (h.cont fun v σ1 h2 => ?_); replace h := h2; clear h2
  obtain ⟨x15a, p15b, n15b, c15b, rfl, h⟩ := h
  refine Seq.u 16 (.int .u32 x1) ?_
  refine Seq.u 17 (.int .i64 x6) ?_
  refine Seq.o ?_
  refine OpTo.cl (some 18) call10 (h.cont fun v_2 σ1_2 h2 => ?_); replace h := h2; clear h2
  obtain ⟨p18a, n18a, c18a, x18b, rfl, h⟩ := h
  refine Seq.u 13 (.tuple #[(.slice p18a n18a c18a), (.int .i64 x18b)]) ?_
  refine Seq.u 19 (.slice p18a n18a c18a) ?_
  refine Seq.u 20 (.int .i64 x18b) ?_
  refine Seq.u 7 (.slice p18a n18a c18a) ?_
  refine Seq.u 8 (.int .i64 x18b) ?_
  refine Seq.done ?_
  refine At.L [(1, (.int .u32 x1)), (2, (.pointer (some ⟨b2, 0, none⟩))), (5, (.slice p5 n5 c5)), (6, (.int .i64 x6)), (7, (.slice p18a n18a c18a)), (8, (.int .i64 x18b))] fun J => ?_
  refine At.s K20 K27 ?_
  refine At.s K21 K22 ?_
  refine At.rg 6 [0, 1] ?_
  refine Seq.u 21 (.int .i64 x18b) ?_
  refine Seq.u 22 (.bool (decide ((x18b : Int) ≠ 0))) ?_
  refine Seq.done ?_
  refine At.L [(1, (.int .u32 x1)), (2, (.pointer (some ⟨b2, 0, none⟩))), (5, (.slice p5 n5 c5)), (6, (.int .i64 x6)), (7, (.slice p18a n18a c18a)), (8, (.int .i64 x18b)), (22, (.bool (decide ((x18b : Int) ≠ 0))))] fun J => ?_
  cases hb : (decide ((x18b : Int) ≠ 0)) with
  | true =>
   replace h := h.1 (of_decide_eq_true hb)
   refine At.cT 22 K23 K26 ?_
   refine At.s K24 K25 ?_
   refine At.rg 7 [0, 1, 2, 3, 4, 5, 6, 7, 8, 9, 10, 11, 12, 13, 14] ?_
   refine Seq.u 23 (.slice p18a n18a c18a) ?_
   refine Seq.z 24 (.call { callee := .builtin .len, args := #[(.tmp 23)], argTypes := #[27] }) 3 (.int .i64 (n18a : Int)) (Y.lenS underlying27 rfl rfl) ?_
   refine Seq.u 25 (.bool (decide (((n18a : Int) : Int) = 0))) ?_
   refine Seq.u 26 (.bool (decide (((n18a : Int) : Int) = 0))) ?_
   cases hb : (decide (((n18a : Int) : Int) = 0)) with
   | true =>
    replace h := h.1 (of_decide_eq_true hb)
    refine Seq.u 27 (.int .i64 x18b) ?_
    refine Seq.u 28 (.bool (decide ((x18b : Int) = 130))) ?_
    refine Seq.u 29 (.bool (decide ((x18b : Int) = 130))) ?_
    cases hb : (decide ((x18b : Int) = 130)) with
    | true =>
     replace h := h.1 (of_decide_eq_true hb)
     refine Seq.n 30 ?_
     refine Seq.n 31 ?_
     refine Seq.u 32 (.bool true) ?_
     refine Seq.u 33 (.bool true) ?_
     refine Seq.u 34 (.bool true) ?_
     refine Seq.o ?_
     refine OpTo.cl (some 35) call14 (h.cont fun v_3 σ1_3 h2 => ?_); replace h := h2; clear h2
     obtain ⟨t35, rfl, h⟩ := h
     refine Seq.u 36 (.bool t35) ?_
     refine Seq.u 4 (.bool t35) ?_
     refine Seq.done ?_
     refine At.L [(4, (.bool t35))] fun J => ?_
     exact At.rt [.tmp 4] [(.bool t35)] func5 ⟨_, rfl, rfl⟩ h
    | false =>
     replace h := h.2 (of_decide_eq_false hb)
     refine Seq.u 30 (.int .i64 x18b) ?_
     refine Seq.u 31 (.bool (decide ((x18b : Int) = 133))) ?_
     refine Seq.u 32 (.bool (decide ((x18b : Int) = 133))) ?_
     refine Seq.u 33 (.bool (decide ((x18b : Int) = 133))) ?_
     refine Seq.u 34 (.bool (decide ((x18b : Int) = 133))) ?_
     cases hb : (decide ((x18b : Int) = 133)) with
     | true =>
      replace h := h.1 (of_decide_eq_true hb)
      refine Seq.o ?_
      refine OpTo.cl (some 35) call14 (h.cont fun v_3 σ1_3 h2 => ?_); replace h := h2; clear h2
      obtain ⟨t35, rfl, h⟩ := h
      refine Seq.u 36 (.bool t35) ?_
      refine Seq.u 4 (.bool t35) ?_
      refine Seq.done ?_
      refine At.L [(4, (.bool t35))] fun J => ?_
      exact At.rt [.tmp 4] [(.bool t35)] func5 ⟨_, rfl, rfl⟩ h
     | false =>
      replace h := h.2 (of_decide_eq_false hb)
      refine Seq.n 35 ?_
      refine Seq.u 36 (.bool false) ?_
      refine Seq.u 4 (.bool false) ?_
      refine Seq.done ?_
      refine At.L [(4, (.bool false))] fun J => ?_
      exact At.rt [.tmp 4] [(.bool false)] func5 ⟨_, rfl, rfl⟩ h
   | false =>
    replace h := h.2 (of_decide_eq_false hb)
    refine Seq.n 27 ?_
    refine Seq.n 28 ?_
    refine Seq.n 29 ?_
    refine Seq.n 30 ?_
    refine Seq.n 31 ?_
    refine Seq.n 32 ?_
    refine Seq.u 33 (.bool false) ?_
    refine Seq.u 34 (.bool false) ?_
    refine Seq.n 35 ?_
    refine Seq.u 36 (.bool false) ?_
    refine Seq.u 4 (.bool false) ?_
    refine Seq.done ?_
    refine At.L [(4, (.bool false))] fun J => ?_
    exact At.rt [.tmp 4] [(.bool false)] func5 ⟨_, rfl, rfl⟩ h
  | false =>
   replace h := h.2 (of_decide_eq_false hb)
   refine At.cF 22 K23 K26 ?_
   refine At.skip ?_
   refine At.s K28 K35 ?_
   refine At.s K29 K30 ?_
   refine At.draw (id := 8) (ops := cO K29) (n := 36) (q := (some [])) (plan := [(0, true), (1, true), (2, true), (3, true), (4, true), (5, true), (6, true), (7, true), (8, true), (9, true), (10, false), (11, true), (12, true), (13, true), (14, true), (15, true), (16, true), (17, true), (18, true), (19, true), (20, true), (21, true), (22, true), (23, false), (24, true), (25, true), (26, true), (28, true), (29, true), (30, true), (31, true), (32, true), (27, false), (33, false), (34, true), (35, true)]) (tl := []) mixed (by kernel_rfl) (by kernel_rfl) ?_
   refine Head.u 37 (.slice p18a n18a c18a) ?_
   refine Head.z 38 (.call { callee := .builtin .len, args := #[(.tmp 37)], argTypes := #[27] }) 3 (.int .i64 (n18a : Int)) (Y.lenS underlying27 rfl rfl) ?_
   refine Head.u 39 (.int .i64 x6) ?_
   refine Head.u 40 (.bool (decide (((n18a : Int) : Int) ≠ x6))) ?_
   refine Head.u 41 (.bool (decide (((n18a : Int) : Int) ≠ x6))) ?_
   cases hb : (decide (((n18a : Int) : Int) ≠ x6)) with
   | true =>
    replace h := h.1 (of_decide_eq_true hb)
    refine Head.n 42 ?_
    refine Head.n 43 ?_
    refine Head.n 44 ?_
    refine Head.n 45 ?_
    refine Head.n 46 ?_
    refine Head.o rfl ?_
    refine OpTo.no (d := (some 47)) (op := (.call { callee := .value (.func 12), args := #[(.tmp 45), (.tmp 46)], argTypes := #[27, 27] })) (ty := 4) (gd := some (4, false)) (by kernel_rfl) rfl rfl ?_
    refine ⟨KeepQ.refl _ _ _, ?_⟩
    refine Head.n 48 ?_
    refine Head.u 49 (.bool true) ?_
    refine Head.u 50 (.bool true) ?_
    refine Head.n 51 ?_
    refine Head.n 52 ?_
    refine Head.n 53 ?_
    refine Head.n 54 ?_
    refine Head.n 55 ?_
    refine Head.n 56 ?_
    refine Head.n 57 ?_
    refine Head.n 58 ?_
    refine Head.n 59 ?_
    refine Head.o rfl ?_
    refine OpTo.no (d := (some 60)) (op := (.call { callee := .value (.func 22), args := #[(.tmp 54), (.tmp 59)], argTypes := #[27, 3] })) (ty := 4) (gd := some (13, false)) (by kernel_rfl) rfl rfl ?_
    refine ⟨KeepQ.refl _ _ _, ?_⟩
    refine Head.u 61 (.bool true) ?_
    refine Head.u 62 (.bool true) ?_
    refine Head.n 63 ?_
    refine Head.n 65 ?_
    refine Head.n 66 ?_
    refine Head.n 67 ?_
    refine Head.n 68 ?_
    refine Head.n 69 ?_
    refine Head.o rfl ?_
    refine OpTo.no (d := (some 64)) (op := (.call { callee := .value (.func 9), args := #[(.tmp 63)], argTypes := #[25] })) (ty := 25) (gd := some (25, false)) (by kernel_rfl) rfl rfl ?_
    refine ⟨KeepQ.refl _ _ _, ?_⟩
    refine Head.o rfl ?_
    refine OpTo.no (d := (some 70)) (op := (.call { callee := .value (.func 23), args := #[(.tmp 64), (.tmp 69)], argTypes := #[25, 3] })) (ty := 3) (gd := some (25, false)) (by kernel_rfl) rfl rfl ?_
    refine ⟨KeepQ.refl _ _ _, ?_⟩
    refine Head.n 71 ?_
    refine Head.u 72 (.bool true) ?_
    refine Head.done ?_
    refine Seq.done ?_
    refine At.L [(1, (.int .u32 x1)), (2, (.pointer (some ⟨b2, 0, none⟩))), (6, (.int .i64 x6)), (7, (.slice p18a n18a c18a)), (72, (.bool true))] fun J => ?_
    refine At.cT 72 K31 K34 ?_
    refine At.s K32 K33 ?_
    refine At.rg 9 [0] ?_
    refine Seq.u 4 (.bool false) ?_
    refine Seq.done ?_
    refine At.L [(4, (.bool false))] fun J => ?_
    exact At.rt [.tmp 4] [(.bool false)] func5 ⟨_, rfl, rfl⟩ h
   | false =>
    replace h := h.2 (of_decide_eq_false hb)
    refine Head.u 42 (.slice p18a n18a c18a) ?_
    refine Head.u 43 (.int .i64 x6) ?_
    obtain ⟨hi, h⟩ := h
    refine Head.zg 44 (.binOp .sub 3 (.tmp 43) (.const (.int .i64 1)) 3) 3 (4, false) (.int .i64 (x6 - 1)) (Y.subI hi rfl rfl) ?_
    obtain ⟨hs, h⟩ := h
    refine Head.zg 45 (.slice 27 (.tmp 42) none (some (.tmp 44)) none) 27 (4, false) (.slice p18a (Int.toNat (x6 - 1)) c18a) (Y.slh underlying27 sizeOf3 rfl rfl hs) ?_
    refine Head.u 46 (.slice p5 n5 c5) ?_
    refine Head.o (q' := (some [])) rfl ?_
    refine OpTo.cl (some 47) call12 (h.cont fun v_3 σ1_3 h2 => ?_); replace h := h2; clear h2
    obtain ⟨t47, rfl, h⟩ := h
    refine ⟨⟨fun _ h => h, kp_q (L := []) Kp.nil⟩, ?_⟩
    refine Head.u 48 (.bool (!t47)) ?_
    refine Head.u 49 (.bool (!t47)) ?_
    refine Head.u 50 (.bool (!t47)) ?_
    cases hb : (!t47) with
    | true =>
     replace h := h.1 (Tw.nt hb)
     refine Head.n 51 ?_
     refine Head.n 52 ?_
     refine Head.n 53 ?_
     refine Head.n 54 ?_
     refine Head.n 55 ?_
     refine Head.n 56 ?_
     refine Head.n 57 ?_
     refine Head.n 58 ?_
     refine Head.n 59 ?_
     refine Head.o rfl ?_
     refine OpTo.no (d := (some 60)) (op := (.call { callee := .value (.func 22), args := #[(.tmp 54), (.tmp 59)], argTypes := #[27, 3] })) (ty := 4) (gd := some (13, false)) (by kernel_rfl) rfl rfl ?_
     refine ⟨KeepQ.refl _ _ _, ?_⟩
     refine Head.u 61 (.bool true) ?_
     refine Head.u 62 (.bool true) ?_
     refine Head.n 63 ?_
     refine Head.n 65 ?_
     refine Head.n 66 ?_
     refine Head.n 67 ?_
     refine Head.n 68 ?_
     refine Head.n 69 ?_
     refine Head.o rfl ?_
     refine OpTo.no (d := (some 64)) (op := (.call { callee := .value (.func 9), args := #[(.tmp 63)], argTypes := #[25] })) (ty := 25) (gd := some (25, false)) (by kernel_rfl) rfl rfl ?_
     refine ⟨KeepQ.refl _ _ _, ?_⟩
     refine Head.o rfl ?_
     refine OpTo.no (d := (some 70)) (op := (.call { callee := .value (.func 23), args := #[(.tmp 64), (.tmp 69)], argTypes := #[25, 3] })) (ty := 3) (gd := some (25, false)) (by kernel_rfl) rfl rfl ?_
     refine ⟨KeepQ.refl _ _ _, ?_⟩
     refine Head.n 71 ?_
     refine Head.u 72 (.bool true) ?_
     refine Head.done ?_
     refine Seq.done ?_
     refine At.L [(1, (.int .u32 x1)), (2, (.pointer (some ⟨b2, 0, none⟩))), (6, (.int .i64 x6)), (7, (.slice p18a n18a c18a)), (72, (.bool true))] fun J => ?_
     refine At.cT 72 K31 K34 ?_
     refine At.s K32 K33 ?_
     refine At.rg 9 [0] ?_
     refine Seq.u 4 (.bool false) ?_
     refine Seq.done ?_
     refine At.L [(4, (.bool false))] fun J => ?_
     exact At.rt [.tmp 4] [(.bool false)] func5 ⟨_, rfl, rfl⟩ h
    | false =>
     replace h := h.2 (Tw.nf hb)
     refine Head.u 51 (.slice p18a n18a c18a) ?_
     refine Head.u 52 (.int .i64 x6) ?_
     obtain ⟨hi, h⟩ := h
     refine Head.zg 53 (.binOp .sub 3 (.tmp 52) (.const (.int .i64 1)) 3) 3 (13, false) (.int .i64 (x6 - 1)) (Y.subI hi rfl rfl) ?_
     obtain ⟨hs, h⟩ := h
     refine Head.zg 54 (.slice 27 (.tmp 51) none (some (.tmp 53)) none) 27 (13, false) (.slice p18a (Int.toNat (x6 - 1)) c18a) (Y.slh underlying27 sizeOf3 rfl rfl hs) ?_
     refine Head.u 55 (.slice p18a n18a c18a) ?_
     refine Head.u 56 (.int .i64 x6) ?_
     obtain ⟨hi, h⟩ := h
     refine Head.zg 57 (.binOp .sub 3 (.tmp 56) (.const (.int .i64 1)) 3) 3 (13, false) (.int .i64 (x6 - 1)) (Y.subI hi rfl rfl) ?_
     obtain ⟨b58, o58, hq, h⟩ := h
     subst hq
     obtain ⟨hi, h⟩ := h
     refine Head.zg 58 (.indexAddr 27 (.tmp 55) (.tmp 57)) 0 (13, false) (.pointer (some ⟨b58, (o58 + Int.toNat (x6 - 1) * 1), none⟩)) (Y.idx underlying27 sizeOf3 rfl rfl hi rfl) ?_
     obtain ⟨x59, hl, h⟩ := h
     refine Head.ygl b58 [[23], [27, 25, 23], [33, 25, 23]] rfl (by kernel_rfl) (d := (some 59)) (op := (.load 3 (.tmp 58))) (ty := 3) (gd := (some (13, false))) (v := (.int .i64 x59)) (by kernel_rfl) rfl rfl (Y.ld isAgg3 rfl (lim_ld hl)) ?_
     refine Head.o (q' := (some [])) rfl ?_
     refine OpTo.cl (some 60) call22 (h.cont fun v_4 σ1_4 h2 => ?_); replace h := h2; clear h2
     obtain ⟨t60, rfl, h⟩ := h
     refine ⟨⟨fun _ h => h, kp_q (L := []) Kp.nil⟩, ?_⟩
     refine Head.u 61 (.bool t60) ?_
     refine Head.u 62 (.bool t60) ?_
     cases hb : t60 with
     | true =>
      replace h := h.1 hb
      refine Head.n 63 ?_
      refine Head.n 65 ?_
      refine Head.n 66 ?_
      refine Head.n 67 ?_
      refine Head.n 68 ?_
      refine Head.n 69 ?_
      refine Head.o rfl ?_
      refine OpTo.no (d := (some 64)) (op := (.call { callee := .value (.func 9), args := #[(.tmp 63)], argTypes := #[25] })) (ty := 25) (gd := some (25, false)) (by kernel_rfl) rfl rfl ?_
      refine ⟨KeepQ.refl _ _ _, ?_⟩
      refine Head.o rfl ?_
      refine OpTo.no (d := (some 70)) (op := (.call { callee := .value (.func 23), args := #[(.tmp 64), (.tmp 69)], argTypes := #[25, 3] })) (ty := 3) (gd := some (25, false)) (by kernel_rfl) rfl rfl ?_
      refine ⟨KeepQ.refl _ _ _, ?_⟩
      refine Head.n 71 ?_
      refine Head.u 72 (.bool true) ?_
      refine Head.done ?_
      refine Seq.done ?_
      refine At.L [(1, (.int .u32 x1)), (2, (.pointer (some ⟨b2, 0, none⟩))), (6, (.int .i64 x6)), (7, (.slice (some ⟨b58, o58, none⟩) n18a c18a)), (72, (.bool true))] fun J => ?_
      refine At.cT 72 K31 K34 ?_
      refine At.s K32 K33 ?_
      refine At.rg 9 [0] ?_
      refine Seq.u 4 (.bool false) ?_
      refine Seq.done ?_
      refine At.L [(4, (.bool false))] fun J => ?_
      exact At.rt [.tmp 4] [(.bool false)] func5 ⟨_, rfl, rfl⟩ h
     | false =>
      replace h := h.2 hb
      refine Head.zg 63 (.load 25 (.tmp 2)) 25 (25, false) (.agg #[(.int .u64 x2a), (.slice p2b n2b c2b)]) (Y.ldab (vs := [(.int .u64 x2a), (.slice p2b n2b c2b)]) isAgg25 sizeOf25 rfl rfl (List.mem_cons_self ..) rfl) ?_
      refine Head.u 65 (.slice (some ⟨b58, o58, none⟩) n18a c18a) ?_
      refine Head.u 66 (.int .i64 x6) ?_
      obtain ⟨hi, h⟩ := h
      refine Head.zg 67 (.binOp .sub 3 (.tmp 66) (.const (.int .i64 1)) 3) 3 (25, false) (.int .i64 (x6 - 1)) (Y.subI hi rfl rfl) ?_
      obtain ⟨hi, h⟩ := h
      refine Head.zg 68 (.indexAddr 27 (.tmp 65) (.tmp 67)) 0 (25, false) (.pointer (some ⟨b58, (o58 + Int.toNat (x6 - 1) * 1), none⟩)) (Y.idx underlying27 sizeOf3 rfl rfl hi rfl) ?_
      obtain ⟨x69, hl, h⟩ := h
      refine Head.ygl b58 [[33]] rfl (by kernel_rfl) (d := (some 69)) (op := (.load 3 (.tmp 68))) (ty := 3) (gd := (some (25, false))) (v := (.int .i64 x69)) (by kernel_rfl) rfl rfl (Y.ld isAgg3 rfl (lim_ld hl)) ?_
      refine Head.o (q' := (some [(b58, [33])])) rfl ?_
      refine OpTo.cl (some 64) call9 (h.cont fun v_5 σ1_5 h2 => ?_); replace h := h2; clear h2
      obtain ⟨x64a, p64b, n64b, c64b, rfl, hk, h⟩ := h
      refine ⟨⟨fun _ h => h, kp_q (L := [(b58, [33])]) hk⟩, ?_⟩
      refine Head.o (q' := (some [])) rfl ?_
      refine OpTo.cl (some 70) call23 (h.cont fun v_6 σ1_6 h2 => ?_); replace h := h2; clear h2
      obtain ⟨x70, rfl, h⟩ := h
      refine ⟨⟨fun _ h => h, kp_q (L := []) Kp.nil⟩, ?_⟩
      refine Head.u 71 (.bool (decide ((x70 : Int) ≠ 2))) ?_
      refine Head.u 72 (.bool (decide ((x70 : Int) ≠ 2))) ?_
      refine Head.done ?_
      refine Seq.done ?_
      refine At.L [(1, (.int .u32 x1)), (2, (.pointer (some ⟨b2, 0, none⟩))), (6, (.int .i64 x6)), (7, (.slice (some ⟨b58, o58, none⟩) n18a c18a)), (72, (.bool (decide ((x70 : Int) ≠ 2))))] fun J => ?_
      cases hb : (decide ((x70 : Int) ≠ 2)) with
      | true =>
       replace h := h.1 (of_decide_eq_true hb)
       refine At.cT 72 K31 K34 ?_
       refine At.s K32 K33 ?_
       refine At.rg 9 [0] ?_
       refine Seq.u 4 (.bool false) ?_
       refine Seq.done ?_
       refine At.L [(4, (.bool false))] fun J => ?_
       exact At.rt [.tmp 4] [(.bool false)] func5 ⟨_, rfl, rfl⟩ h
      | false =>
       replace h := h.2 (of_decide_eq_false hb)
       refine At.cF 72 K31 K34 ?_
       refine At.skip ?_
       refine At.rg 10 [0, 1] ?_
       refine Seq.u 73 (.slice (some ⟨b58, o58, none⟩) n18a c18a) ?_
       refine Seq.u 5 (.slice (some ⟨b58, o58, none⟩) n18a c18a) ?_
       refine Seq.done ?_
       refine At.L [(1, (.int .u32 x1)), (2, (.pointer (some ⟨b2, 0, none⟩))), (5, (.slice (some ⟨b58, o58, none⟩) n18a c18a)), (6, (.int .i64 x6))] fun J => ?_
       refine At.inBlock ?_
       refine At.rg 4 [0, 1, 2] ?_
       refine Seq.u 11 (.int .i64 x6) ?_
       obtain ⟨hi, h⟩ := h
       refine Seq.z 12 (.binOp .add 3 (.tmp 11) (.const (.int .i64 1)) 3) 3 (.int .i64 (x6 + 1)) (Y.addI hi rfl rfl) ?_
       refine Seq.u 6 (.int .i64 (x6 + 1)) ?_
       refine Seq.done ?_
       refine At.L [(1, (.int .u32 x1)), (2, (.pointer (some ⟨b2, 0, none⟩))), (5, (.slice (some ⟨b58, o58, none⟩) n18a c18a)), (6, (.int .i64 (x6 + 1)))] fun J => ?_
       refine At.inLoop ?_
       refine At.s K10 K15 ?_
       refine At.s K11 K12 ?_
       exact At.v [(1, (.int .u32 x1)), (2, (.pointer (some ⟨b2, 0, none⟩))), (5, (.slice (some ⟨b58, o58, none⟩) n18a c18a)), (6, (.int .i64 (x6 + 1)))] (h _ b2)
 | false =>
  replace h := h.2 (of_decide_eq_false hb)
  refine At.cF 10 K13 K14 ?_
  refine At.x 0 [.code K37] ?_
  refine At.s K38 K39 ?_
  refine At.rg 11 [0, 1] ?_
  refine Seq.o ?_
  refine OpTo.cl (some 74) call14 (h.cont fun v σ1 h2 => ?_); replace h := h2; clear h2
  obtain ⟨t74, rfl, h⟩ := h
  refine Seq.u 4 (.bool t74) ?_
  refine Seq.done ?_
  refine At.L [(4, (.bool t74))] fun J => ?_
  exact At.rt [.tmp 4] [(.bool t74)] func5 ⟨_, rfl, rfl⟩ h
end law13_RingFew
end TwR
end
section
/- written by gen.py: program points and what leads to them -/
set_option linter.unusedVariables false
set_option maxRecDepth 100000
namespace TwR
open Go Tw Go.Proofs.Try
namespace law13_RingTurns
abbrev fid : Nat := 6
noncomputable def K0 : Code := f6.body.getD .skip
noncomputable def K1 := Tw.cl K0
noncomputable def K2 := Tw.cr K0
noncomputable def K3 := Tw.cl K2
noncomputable def K4 := Tw.cr K2
noncomputable def K5 := Tw.cl K4
noncomputable def K6 := Tw.cr K4
noncomputable def K7 := Tw.cl K6
noncomputable def K8 := Tw.cr K6
noncomputable def K9 := Tw.cl K8
noncomputable def K10 := Tw.cl K9
noncomputable def K11 := Tw.cr K9
noncomputable def K12 := Tw.cl K11
noncomputable def K13 := Tw.cl K12
noncomputable def K14 := Tw.cr K12
noncomputable def K15 := Tw.cr K11
noncomputable def K16 := Tw.cr K8
noncomputable def K17 := Tw.cl K16
noncomputable def K18 := Tw.cr K16
noncomputable def K19 := Tw.cl K18
noncomputable def K20 := Tw.cr K18
noncomputable def K21 := Tw.cl K20
noncomputable def K22 := Tw.cr K20
noncomputable def K23 := Tw.cl K22
noncomputable def K24 := Tw.cr K22
noncomputable def K25 := Tw.cl K24
noncomputable def K26 := Tw.cr K24
noncomputable def K27 := Tw.cl K26
noncomputable def K28 := Tw.cl K27
noncomputable def K29 := Tw.cr K27
noncomputable def K30 := Tw.cl K29
noncomputable def K31 := Tw.cl K30
noncomputable def K32 := Tw.cr K30
noncomputable def K33 := Tw.cr K29
noncomputable def K34 := Tw.cr K26
noncomputable def K35 := Tw.cl K34
noncomputable def K36 := Tw.cr K34
noncomputable def K37 := Tw.cl K36
noncomputable def K38 := Tw.cl K37
noncomputable def K39 := Tw.cr K37
noncomputable def K40 := Tw.cl K39
noncomputable def K41 := Tw.cl K40
noncomputable def K42 := Tw.cl K41
noncomputable def K43 := Tw.cl K42
noncomputable def K44 := Tw.cr K42
noncomputable def K45 := Tw.cl K44
noncomputable def K46 := Tw.cr K44
noncomputable def K47 := Tw.cr K41
noncomputable def K48 := Tw.cl K47
noncomputable def K49 := Tw.cl K48
noncomputable def K50 := Tw.cl K49
noncomputable def K51 := Tw.cr K49
noncomputable def K52 := Tw.cl K51
noncomputable def K53 := Tw.cr K51
noncomputable def K54 := Tw.cr K47
noncomputable def K55 := Tw.cr K36
noncomputable def K56 := Tw.cl K55
noncomputable def K57 := Tw.cr K55
noncomputable abbrev gl (R : Ending → Hp → Prop) : Gl := Gl.fn prog 6 150 R
def pt43 (R : Ending → Hp → Prop) (x1 : Int) (x9 : Int) (p10 : Option Addr) (n10 : Nat) (c10 : Nat) (p20 : Option Addr) (n20 : Nat) (c20 : Nat) (p24 : Option Addr) (n24 : Nat) (c24 : Nat) (x25 : Int) (σ : Hp) : Prop := ∀ (J : Env), At (gl R) [.code K43, .code K44, .code K47, .inLoop K41, .inBlock 0, .code K55] (upds J [(1, (.int .i64 x1)), (9, (.int .i64 x9)), (10, (.slice p10 n10 c10)), (20, (.slice p20 n20 c20)), (24, (.slice p24 n24 c24)), (25, (.int .i64 x25))]) [] σ
def pt54 (R : Ending → Hp → Prop) (x1 : Int) (x9 : Int) (p10 : Option Addr) (n10 : Nat) (c10 : Nat) (p20 : Option Addr) (n20 : Nat) (c20 : Nat) (p24 : Option Addr) (n24 : Nat) (c24 : Nat) (x25 : Int) (σ : Hp) : Prop := ∀ (J : Env), At (gl R) [.code K54, .inLoop K41, .inBlock 0, .code K55] (upds J [(1, (.int .i64 x1)), (9, (.int .i64 x9)), (10, (.slice p10 n10 c10)), (20, (.slice p20 n20 c20)), (24, (.slice p24 n24 c24)), (25, (.int .i64 x25))]) [] σ
theorem start {R : Ending → Hp → Prop} {x0a : Int} {p0b : Option Addr} {n0b : Nat} {c0b : Nat} {x1 : Int} {x2 : Int} {x3 : Int} {σ : Hp} (h : Spec prog 24 #[(.int .i64 x3)] σ (Cont R (fun v σ1 => ∃ x27 : Int, v = (.int .i64 x27) ∧ 5 ≠ (0 : Int) ∧ ∀ x28 : Int, x28 = Int.tmod x27 5 → I64 (1 + x28) ∧ Spec prog 9 #[(.agg #[(.int .u64 x0a), (.slice p0b n0b c0b)])] σ1 (Cont R (fun v_2 σ1_2 => ∃ x32a : Int, ∃ p32b : Option Addr, ∃ n32b : Nat, ∃ c32b : Nat, v_2 = (.agg #[(.int .u64 x32a), (.slice p32b n32b c32b)]) ∧ Spec prog 10 #[(.agg #[(.int .u64 x32a), (.slice p32b n32b c32b)]), (.int .u32 x2), (.int .i64 (1 + x28))] σ1_2 (Cont R (fun v_3 σ1_3 => ∃ p35a : Option Addr, ∃ n35a : Nat, ∃ c35a : Nat, ∃ x35b : Int, v_3 = (.tuple #[(.slice p35a n35a c35a), (.int .i64 x35b)]) ∧ Spec prog 9 #[(.agg #[(.int .u64 x0a), (.slice p0b n0b c0b)])] σ1_3 (Cont R (fun v_4 σ1_4 => ∃ x40a : Int, ∃ p40b : Option Addr, ∃ n40b : Nat, ∃ c40b : Nat, v_4 = (.agg #[(.int .u64 x40a), (.slice p40b n40b c40b)]) ∧ Spec prog 25 #[(.agg #[(.int .u64 x40a), (.slice p40b n40b c40b)]), (.int .i64 x1)] σ1_4 (Cont R (fun v_5 σ1_5 => ∃ x42aa : Int, ∃ p42ab : Option Addr, ∃ n42ab : Nat, ∃ c42ab : Nat, ∃ x42b : Int, v_5 = (.tuple #[(.agg #[(.int .u64 x42aa), (.slice p42ab n42ab c42ab)]), (.int .i64 x42b)]) ∧ ((x35b : Int) ≠ 0 → Spec prog 14 #[] σ1_5 (Cont R (fun v_6 σ1_6 => ∃ t56 : Bool, v_6 = (.bool t56) ∧ R (.returned (.bool t56)) σ1_6))) ∧ (¬ ((x35b : Int) ≠ 0) → ((x42b : Int) ≠ 0 → Spec prog 14 #[] σ1_5 (Cont R (fun v_6 σ1_6 => ∃ t56 : Bool, v_6 = (.bool t56) ∧ R (.returned (.bool t56)) σ1_6))) ∧ (¬ ((x42b : Int) ≠ 0) → ((4611686018427387904 : Int) < x0a → Spec prog 14 #[] σ1_5 (Cont R (fun v_6 σ1_6 => ∃ t56 : Bool, v_6 = (.bool t56) ∧ R (.returned (.bool t56)) σ1_6))) ∧ (¬ ((4611686018427387904 : Int) < x0a) → Spec prog 9 #[(.agg #[(.int .u64 x42aa), (.slice p42ab n42ab c42ab)])] σ1_5 (Cont R (fun v_6 σ1_6 => ∃ x59a : Int, ∃ p59b : Option Addr, ∃ n59b : Nat, ∃ c59b : Nat, v_6 = (.agg #[(.int .u64 x59a), (.slice p59b n59b c59b)]) ∧ Spec prog 26 #[(.agg #[(.int .u64 x59a), (.slice p59b n59b c59b)]), (.int .i64 x1)] σ1_6 (Cont R (fun v_7 σ1_7 => ∃ x61aa : Int, ∃ p61ab : Option Addr, ∃ n61ab : Nat, ∃ c61ab : Nat, ∃ x61b : Int, v_7 = (.tuple #[(.agg #[(.int .u64 x61aa), (.slice p61ab n61ab c61ab)]), (.int .i64 x61b)]) ∧ Spec prog 9 #[(.agg #[(.int .u64 x61aa), (.slice p61ab n61ab c61ab)])] σ1_7 (Cont R (fun v_8 σ1_8 => ∃ x66a : Int, ∃ p66b : Option Addr, ∃ n66b : Nat, ∃ c66b : Nat, v_8 = (.agg #[(.int .u64 x66a), (.slice p66b n66b c66b)]) ∧ Spec prog 27 #[(.agg #[(.int .u64 x66a), (.slice p66b n66b c66b)]), (.int .i64 x1)] σ1_8 (Cont R (fun v_9 σ1_9 => ∃ x68aa : Int, ∃ p68ab : Option Addr, ∃ n68ab : Nat, ∃ c68ab : Nat, ∃ x68b : Int, v_9 = (.tuple #[(.agg #[(.int .u64 x68aa), (.slice p68ab n68ab c68ab)]), (.int .i64 x68b)]) ∧ Spec prog 10 #[(.agg #[(.int .u64 x42aa), (.slice p42ab n42ab c42ab)]), (.int .u32 x2), (.int .i64 (1 + x28))] σ1_9 (Cont R (fun v_10 σ1_10 => ∃ p75a : Option Addr, ∃ n75a : Nat, ∃ c75a : Nat, ∃ x75b : Int, v_10 = (.tuple #[(.slice p75a n75a c75a), (.int .i64 x75b)]) ∧ Spec prog 10 #[(.agg #[(.int .u64 x61aa), (.slice p61ab n61ab c61ab)]), (.int .u32 x2), (.int .i64 (1 + x28))] σ1_10 (Cont R (fun v_11 σ1_11 => ∃ p82a : Option Addr, ∃ n82a : Nat, ∃ c82a : Nat, ∃ x82b : Int, v_11 = (.tuple #[(.slice p82a n82a c82a), (.int .i64 x82b)]) ∧ Spec prog 10 #[(.agg #[(.int .u64 x68aa), (.slice p68ab n68ab c68ab)]), (.int .u32 x2), (.int .i64 (1 + x28))] σ1_11 (Cont R (fun v_12 σ1_12 => ∃ p89a : Option Addr, ∃ n89a : Nat, ∃ c89a : Nat, ∃ x89b : Int, v_12 = (.tuple #[(.slice p89a n89a c89a), (.int .i64 x89b)]) ∧ ((x61b : Int) ≠ 0 → R (.returned (.bool false)) σ1_12) ∧ (¬ ((x61b : Int) ≠ 0) → ((x68b : Int) ≠ 0 → R (.returned (.bool false)) σ1_12) ∧ (¬ ((x68b : Int) ≠ 0) → Spec prog 12 #[(.slice p75a n75a c75a), (.slice p35a n35a c35a)] σ1_12 (Cont R (fun v_13 σ1_13 => ∃ t101 : Bool, v_13 = (.bool t101) ∧ (t101 = false → R (.returned (.bool false)) σ1_13) ∧ (t101 = true → Spec prog 12 #[(.slice p89a n89a c89a), (.slice p35a n35a c35a)] σ1_13 (Cont R (fun v_14 σ1_14 => ∃ t107 : Bool, v_14 = (.bool t107) ∧ (t107 = false → R (.returned (.bool false)) σ1_14) ∧ (t107 = true → (((n82a : Int) : Int) ≠ (1 + x28) → R (.returned (.bool false)) σ1_14) ∧ (¬ (((n82a : Int) : Int) ≠ (1 + x28)) → pt43 R x1 ((1 + x28)) p35a n35a c35a p82a n82a c82a none 0 0 0 σ1_14))))))))))))))))))))))))))))))))))))) : Spec prog 6 #[(.agg #[(.int .u64 x0a), (.slice p0b n0b c0b)]), (.int .i64 x1), (.int .u32 x2), (.int .i64 x3)] σ R := by
 refine Spec.of_at (fn := f6) (c := K0) func6 (by kernel_rfl) (Nat.le_of_ble_eq_true (by kernel_rfl)) (fun e he => ?_)
 refine At.ofL (l := [(0, (.agg #[(.int .u64 x0a), (.slice p0b n0b c0b)])), (1, (.int .i64 x1)), (2, (.int .u32 x2)), (3, (.int .i64 x3))]) ⟨he 0, he 1, he 2, he 3, trivial⟩ (fun J => ?_)
 show At (gl R) _ _ _ _
 refine At.s K1 K2 ?_
 refine At.rg 0 [0, 1] ?_
 refine Seq.o ?_
 refine OpTo.box (T := 25) (d := (some 4)) (ty := 0) (x := (.tmp 0)) (gd := none) (cs := #[(.int .u64 x0a), (.slice p0b n0b c0b)]) (by kernel_rfl) rfl rfl rfl (fun b4 => ?_)
 refine Seq.u 8 (.bool false) ?_
 refine Seq.done ?_
 refine At.L [(1, (.int .i64 x1)), (2, (.int .u32 x2)), (3, (.int .i64 x3)), (4, (.pointer (some ⟨b4, 0, none⟩)))] fun J => ?_
 refine At.s K3 K4 ?_
 refine At.rg 1 [0, 1, 2, 3, 4] ?_
 refine Seq.u 26 (.int .i64 x3) ?_
 refine Seq.o ?_
 refine OpTo.cl (some 27) call24 (h.cont fun v σ1 h2 => ?_); replace h := h2; clear h2
 obtain ⟨x27, rfl, h⟩ := h
 obtain ⟨hc, h⟩ := h
 obtain ⟨x28, hwx28⟩ : ∃ y, y = Int.tmod x27 5 := ⟨_, rfl⟩
 replace h := h x28 hwx28
 refine Seq.y (d := (some 28)) (op := (.binOp .rem 3 (.tmp 27) (.const (.int .i64 5)) 3)) (ty := 3) (v := (.int .i64 x28)) (by kernel_rfl) rfl (hwx28 ▸ Y.rem hc rfl rfl) ?_
 obtain ⟨hi, h⟩ := h
 refine Seq.z 29 (.binOp .add 3 (.const (.int .i64 1)) (.tmp 28) 3) 3 (.int .i64 (1 + x28)) (Y.addI hi rfl rfl) ?_
 refine Seq.u 9 (.int .i64 (1 + x28)) ?_
 refine Seq.done ?_
 refine At.L [(1, (.int .i64 x1)), (2, (.int .u32 x2)), (4, (.pointer (some ⟨b4, 0, none⟩))), (9, (.int .i64 (1 + x28)))] fun J => ?_
 refine At.s K5 K6 ?_
 refine At.rg 2 [0, 1, 2, 3, 4, 5, 6, 7, 8, 9] ?_
 refine Seq.z 31 (.load 25 (.tmp 4)) 25 (.agg #[(.int .u64 x0a), (.slice p0b n0b c0b)]) (Y.ldab (vs := [(.int .u64 x0a), (.slice p0b n0b c0b)]) isAgg25 sizeOf25 rfl rfl (List.mem_cons_self ..) rfl) ?_
 refine Seq.o ?_
 refine OpTo.cl (some 32) call9 (h.cont fun v_2 σ1_2 h2 => ?_); replace h := h2; clear h2
 obtain ⟨x32a, p32b, n32b, c32b, rfl, h⟩ := h
 refine Seq.u 33 (.int .u32 x2) ?_
 refine Seq.u 34 (.int .i64 (1 + x28)) ?_
 refine Seq.o ?_
 refine OpTo.cl (some 35) call10 (h.cont fun v_3 σ1_3 h2 => ?_); replace h := h2; clear h2
 obtain ⟨p35a, n35a, c35a, x35b, rfl, h⟩ := h
 refine Seq.u 30 (.tuple #[(.slice p35a n35a c35a), (.int .i64 x35b)]) ?_
 refine Seq.u 36 (.slice p35a n35a c35a) ?_
 refine Seq.u 37 (.int .i64 x35b) ?_
 refine Seq.u 10 (.slice p35a n35a c35a) ?_
 refine Seq.u 11 (.int .i64 x35b) ?_
 refine Seq.done ?_
 refine At.L [(1, (.int .i64 x1)), (2, (.int .u32 x2)), (4, (.pointer (some ⟨b4, 0, none⟩))), (9, (.int .i64 (1 + x28))), (10, (.slice p35a n35a c35a)), (11, (.int .i64 x35b))] fun J => ?_
 refine At.s K7 K8 ?_
 refine At.rg 3 [0, 1, 2, 3, 4, 5, 6, 7, 8, 9] ?_
 refine Seq.z 39 (.load 25 (.tmp 4)) 25 (.agg #[(.int .u64 x0a), (.slice p0b n0b c0b)]) (Y.ldab (vs := [(.int .u64 x0a), (.slice p0b n0b c0b)]) isAgg25 sizeOf25 rfl rfl (List.mem_cons_self ..) rfl) ?_
 refine Seq.o ?_
 refine OpTo.cl (some 40) call9 (h.cont fun v_4 σ1_4 h2 => ?_); replace h := h2; clear h2
 obtain ⟨x40a, p40b, n40b, c40b, rfl, h⟩ := h
 refine Seq.u 41 (.int .i64 x1) ?_
 refine Seq.o ?_
 refine OpTo.cl (some 42) call25 (h.cont fun v_5 σ1_5 h2 => ?_); replace h := h2; clear h2
 obtain ⟨x42aa, p42ab, n42ab, c42ab, x42b, rfl, h⟩ := h
 refine Seq.u 38 (.tuple #[(.agg #[(.int .u64 x42aa), (.slice p42ab n42ab c42ab)]), (.int .i64 x42b)]) ?_
 refine Seq.u 43 (.agg #[(.int .u64 x42aa), (.slice p42ab n42ab c42ab)]) ?_
 refine Seq.u 44 (.int .i64 x42b) ?_
 refine Seq.o ?_
 refine OpTo.alloc (T := 25) (d := (some 12)) (ty := 0)  (gd := none) (cs := #[(.int .u64 0), (.slice none 0 0)]) (by kernel_rfl) rfl rfl zeroValue25 rfl (fun b12 => ?_)
 refine Seq.o ?_
 refine OpTo.storeb (T := 25) (ty := 0) (x := (.tmp 12)) (y := (.tmp 43)) (t := 25) (j := 0) (b := b12) (o := 0) (c' := #[(.int .u64 x42aa), (.slice p42ab n42ab c42ab)]) (v := (.agg #[(.int .u64 x42aa), (.slice p42ab n42ab c42ab)])) (gd := none) (by kernel_rfl) rfl sizeOf25 rfl rfl rfl rfl rfl rfl rfl ?_
 simp only [List.set]
 refine Seq.u 13 (.int .i64 x42b) ?_
 refine Seq.done ?_
 refine At.L [(1, (.int .i64 x1)), (2, (.int .u32 x2)), (4, (.pointer (some ⟨b4, 0, none⟩))), (9, (.int .i64 (1 + x28))), (10, (.slice p35a n35a c35a)), (11, (.int .i64 x35b)), (12, (.pointer (some ⟨b12, 0, none⟩))), (13, (.int .i64 x42b))] fun J => ?_
 refine At.s K9 K16 ?_
 refine At.s K10 K11 ?_
 refine At.rg 4 [0, 1, 2, 3, 4, 5, 6, 7, 8, 9, 10] ?_
 refine Seq.u 45 (.int .i64 x35b) ?_
 refine Seq.u 46 (.bool (decide ((x35b : Int) ≠ 0))) ?_
 refine Seq.u 47 (.bool (decide ((x35b : Int) ≠ 0))) ?_
 cases hb : (decide ((x35b : Int) ≠ 0)) with
 | true =>
  replace h := h.1 (of_decide_eq_true hb)
  refine Seq.n 48 ?_
  refine Seq.n 49 ?_
  refine Seq.u 50 (.bool true) ?_
  refine Seq.u 51 (.bool true) ?_
  refine Seq.n 52 ?_
  refine Seq.n 53 ?_
  refine Seq.n 54 ?_
  refine Seq.u 55 (.bool true) ?_
  refine Seq.done ?_
  refine At.L [(1, (.int .i64 x1)), (2, (.int .u32 x2)), (9, (.int .i64 (1 + x28))), (10, (.slice p35a n35a c35a)), (12, (.pointer (some ⟨b12, 0, none⟩))), (55, (.bool true))] fun J => ?_
  refine At.cT 55 K12 K15 ?_
  refine At.s K13 K14 ?_
  refine At.rg 5 [0, 1] ?_
  refine Seq.o ?_
  refine OpTo.cl (some 56) call14 (h.cont fun v_6 σ1_6 h2 => ?_); replace h := h2; clear h2
  obtain ⟨t56, rfl, h⟩ := h
  refine Seq.u 8 (.bool t56) ?_
  refine Seq.done ?_
  refine At.L [(8, (.bool t56))] fun J => ?_
  exact At.rt [.tmp 8] [(.bool t56)] func6 ⟨_, rfl, rfl⟩ h
 | false =>
  replace h := h.2 (of_decide_eq_false hb)
  refine Seq.u 48 (.int .i64 x42b) ?_
  refine Seq.u 49 (.bool (decide ((x42b : Int) ≠ 0))) ?_
  refine Seq.u 50 (.bool (decide ((x42b : Int) ≠ 0))) ?_
  refine Seq.u 51 (.bool (decide ((x42b : Int) ≠ 0))) ?_
  cases hb : (decide ((x42b : Int) ≠ 0)) with
  | true =>
   replace h := h.1 (of_decide_eq_true hb)
   refine Seq.n 52 ?_
   refine Seq.n 53 ?_
   refine Seq.n 54 ?_
   refine Seq.u 55 (.bool true) ?_
   refine Seq.done ?_
   refine At.L [(1, (.int .i64 x1)), (2, (.int .u32 x2)), (9, (.int .i64 (1 + x28))), (10, (.slice p35a n35a c35a)), (12, (.pointer (some ⟨b12, 0, none⟩))), (55, (.bool true))] fun J => ?_
   refine At.cT 55 K12 K15 ?_
   refine At.s K13 K14 ?_
   refine At.rg 5 [0, 1] ?_
   refine Seq.o ?_
   refine OpTo.cl (some 56) call14 (h.cont fun v_6 σ1_6 h2 => ?_); replace h := h2; clear h2
   obtain ⟨t56, rfl, h⟩ := h
   refine Seq.u 8 (.bool t56) ?_
   refine Seq.done ?_
   refine At.L [(8, (.bool t56))] fun J => ?_
   exact At.rt [.tmp 8] [(.bool t56)] func6 ⟨_, rfl, rfl⟩ h
  | false =>
   replace h := h.2 (of_decide_eq_false hb)
   refine Seq.zg 52 (.fieldAddr 25 (.tmp 4) 0) 0 (6, false) (.pointer (some ⟨b4, 0, none⟩)) (Y.fieldAddr (fd := (fieldOf prog 25 0)) underlying25 (by kernel_rfl) sizeOf22 rfl rfl) ?_
   refine Seq.zg 53 (.load 22 (.tmp 52)) 22 (6, false) (.int .u64 x0a) (Y.ldb isAgg22 rfl (.tail _ (List.mem_cons_self ..)) rfl) ?_
   refine Seq.u 54 (.bool (decide ((4611686018427387904 : Int) < x0a))) ?_
   refine Seq.u 55 (.bool (decide ((4611686018427387904 : Int) < x0a))) ?_
   refine Seq.done ?_
   refine At.L [(1, (.int .i64 x1)), (2, (.int .u32 x2)), (9, (.int .i64 (1 + x28))), (10, (.slice p35a n35a c35a)), (12, (.pointer (some ⟨b12, 0, none⟩))), (55, (.bool (decide ((4611686018427387904 : Int) < x0a))))] fun J => ?_
   cases hb : (decide ((4611686018427387904 : Int) < x0a)) with
   | true =>
    replace h := h.1 (of_decide_eq_true hb)
    refine At.cT 55 K12 K15 ?_
    refine At.s K13 K14 ?_
    refine At.rg 5 [0, 1] ?_
    refine Seq.o ?_
    refine OpTo.cl (some 56) call14 (h.cont fun v_6 σ1_6 h2 => ?_); replace h := h2; clear h2
    obtain ⟨t56, rfl, h⟩ := h
    refine Seq.u 8 (.bool t56) ?_
    refine Seq.done ?_
    refine At.L [(8, (.bool t56))] fun J => ?_
    exact At.rt [.tmp 8] [(.bool t56)] func6 ⟨_, rfl, rfl⟩ h
   | false =>
    replace h := h.2 (of_decide_eq_false hb)
    refine At.cF 55 K12 K15 ?_
    refine At.skip ?_
    refine At.s K17 K18 ?_
    refine At.rg 6 [0, 1, 2, 3, 4, 5, 6, 7, 8, 9] ?_
    refine Seq.z 58 (.load 25 (.tmp 12)) 25 (.agg #[(.int .u64 x42aa), (.slice p42ab n42ab c42ab)]) (Y.ldab (vs := [(.int .u64 x42aa), (.slice p42ab n42ab c42ab)]) isAgg25 sizeOf25 rfl rfl (List.mem_cons_self ..) rfl) ?_
    refine Seq.o ?_
    refine OpTo.cl (some 59) call9 (h.cont fun v_6 σ1_6 h2 => ?_); replace h := h2; clear h2
    obtain ⟨x59a, p59b, n59b, c59b, rfl, h⟩ := h
    refine Seq.u 60 (.int .i64 x1) ?_
    refine Seq.o ?_
    refine OpTo.cl (some 61) call26 (h.cont fun v_7 σ1_7 h2 => ?_); replace h := h2; clear h2
    obtain ⟨x61aa, p61ab, n61ab, c61ab, x61b, rfl, h⟩ := h
    refine Seq.u 57 (.tuple #[(.agg #[(.int .u64 x61aa), (.slice p61ab n61ab c61ab)]), (.int .i64 x61b)]) ?_
    refine Seq.u 62 (.agg #[(.int .u64 x61aa), (.slice p61ab n61ab c61ab)]) ?_
    refine Seq.u 63 (.int .i64 x61b) ?_
    refine Seq.o ?_
    refine OpTo.alloc (T := 25) (d := (some 14)) (ty := 0)  (gd := none) (cs := #[(.int .u64 0), (.slice none 0 0)]) (by kernel_rfl) rfl rfl zeroValue25 rfl (fun b14 => ?_)
    refine Seq.o ?_
    refine OpTo.storeb (T := 25) (ty := 0) (x := (.tmp 14)) (y := (.tmp 62)) (t := 25) (j := 0) (b := b14) (o := 0) (c' := #[(.int .u64 x61aa), (.slice p61ab n61ab c61ab)]) (v := (.agg #[(.int .u64 x61aa), (.slice p61ab n61ab c61ab)])) (gd := none) (by kernel_rfl) rfl sizeOf25 rfl rfl rfl rfl rfl rfl rfl ?_
    simp only [List.set]
    refine Seq.u 15 (.int .i64 x61b) ?_
    refine Seq.done ?_
    refine At.L [(1, (.int .i64 x1)), (2, (.int .u32 x2)), (9, (.int .i64 (1 + x28))), (10, (.slice p35a n35a c35a)), (12, (.pointer (some ⟨b12, 0, none⟩))), (14, (.pointer (some ⟨b14, 0, none⟩))), (15, (.int .i64 x61b))] fun J => ?_
    refine At.s K19 K20 ?_
    refine At.rg 7 [0, 1, 2, 3, 4, 5, 6, 7, 8, 9] ?_
    refine Seq.z 65 (.load 25 (.tmp 14)) 25 (.agg #[(.int .u64 x61aa), (.slice p61ab n61ab c61ab)]) (Y.ldab (vs := [(.int .u64 x61aa), (.slice p61ab n61ab c61ab)]) isAgg25 sizeOf25 rfl rfl (List.mem_cons_self ..) rfl) ?_
    refine Seq.o ?_
    refine OpTo.cl (some 66) call9 (h.cont fun v_8 σ1_8 h2 => ?_); replace h := h2; clear h2
    obtain ⟨x66a, p66b, n66b, c66b, rfl, h⟩ := h
    refine Seq.u 67 (.int .i64 x1) ?_
    refine Seq.o ?_
    refine OpTo.cl (some 68) call27 (h.cont fun v_9 σ1_9 h2 => ?_); replace h := h2; clear h2
    obtain ⟨x68aa, p68ab, n68ab, c68ab, x68b, rfl, h⟩ := h
    refine Seq.u 64 (.tuple #[(.agg #[(.int .u64 x68aa), (.slice p68ab n68ab c68ab)]), (.int .i64 x68b)]) ?_
    refine Seq.u 69 (.agg #[(.int .u64 x68aa), (.slice p68ab n68ab c68ab)]) ?_
    refine Seq.u 70 (.int .i64 x68b) ?_
    refine Seq.o ?_
    refine OpTo.alloc (T := 25) (d := (some 16)) (ty := 0)  (gd := none) (cs := #[(.int .u64 0), (.slice none 0 0)]) (by kernel_rfl) rfl rfl zeroValue25 rfl (fun b16 => ?_)
    refine Seq.o ?_
    refine OpTo.storeb (T := 25) (ty := 0) (x := (.tmp 16)) (y := (.tmp 69)) (t := 25) (j := 0) (b := b16) (o := 0) (c' := #[(.int .u64 x68aa), (.slice p68ab n68ab c68ab)]) (v := (.agg #[(.int .u64 x68aa), (.slice p68ab n68ab c68ab)])) (gd := none) (by kernel_rfl) rfl sizeOf25 rfl rfl rfl rfl rfl rfl rfl ?_
    simp only [List.set]
    refine Seq.u 17 (.int .i64 x68b) ?_
    refine Seq.done ?_
    refine At.L [(1, (.int .i64 x1)), (2, (.int .u32 x2)), (9, (.int .i64 (1 + x28))), (10, (.slice p35a n35a c35a)), (12, (.pointer (some ⟨b12, 0, none⟩))), (14, (.pointer (some ⟨b14, 0, none⟩))), (15, (.int .i64 x61b)), (16, (.pointer (some ⟨b16, 0, none⟩))), (17, (.int .i64 x68b))] fun J => ?_
    refine At.s K21 K22 ?_
    refine At.rg 8 [0, 1, 2, 3, 4, 5, 6, 7, 8] ?_
    refine Seq.z 72 (.load 25 (.tmp 12)) 25 (.agg #[(.int .u64 x42aa), (.slice p42ab n42ab c42ab)]) (Y.ldab (vs := [(.int .u64 x42aa), (.slice p42ab n42ab c42ab)]) isAgg25 sizeOf25 rfl rfl (.tail _ (.tail _ (List.mem_cons_self ..))) rfl) ?_
    refine Seq.u 73 (.int .u32 x2) ?_
    refine Seq.u 74 (.int .i64 (1 + x28)) ?_
    refine Seq.o ?_
    refine OpTo.cl (some 75) call10 (h.cont fun v_10 σ1_10 h2 => ?_); replace h := h2; clear h2
    obtain ⟨p75a, n75a, c75a, x75b, rfl, h⟩ := h
    refine Seq.u 71 (.tuple #[(.slice p75a n75a c75a), (.int .i64 x75b)]) ?_
    refine Seq.u 76 (.slice p75a n75a c75a) ?_
    refine Seq.u 77 (.int .i64 x75b) ?_
    refine Seq.u 18 (.slice p75a n75a c75a) ?_
    refine Seq.u 19 (.int .i64 x75b) ?_
    refine Seq.done ?_
    refine At.L [(1, (.int .i64 x1)), (2, (.int .u32 x2)), (9, (.int .i64 (1 + x28))), (10, (.slice p35a n35a c35a)), (14, (.pointer (some ⟨b14, 0, none⟩))), (15, (.int .i64 x61b)), (16, (.pointer (some ⟨b16, 0, none⟩))), (17, (.int .i64 x68b)), (18, (.slice p75a n75a c75a))] fun J => ?_
    refine At.s K23 K24 ?_
    refine At.rg 9 [0, 1, 2, 3, 4, 5, 6, 7, 8] ?_
    refine Seq.z 79 (.load 25 (.tmp 14)) 25 (.agg #[(.int .u64 x61aa), (.slice p61ab n61ab c61ab)]) (Y.ldab (vs := [(.int .u64 x61aa), (.slice p61ab n61ab c61ab)]) isAgg25 sizeOf25 rfl rfl (.tail _ (List.mem_cons_self ..)) rfl) ?_
    refine Seq.u 80 (.int .u32 x2) ?_
    refine Seq.u 81 (.int .i64 (1 + x28)) ?_
    refine Seq.o ?_
    refine OpTo.cl (some 82) call10 (h.cont fun v_11 σ1_11 h2 => ?_); replace h := h2; clear h2
    obtain ⟨p82a, n82a, c82a, x82b, rfl, h⟩ := h
    refine Seq.u 78 (.tuple #[(.slice p82a n82a c82a), (.int .i64 x82b)]) ?_
    refine Seq.u 83 (.slice p82a n82a c82a) ?_
    refine Seq.u 84 (.int .i64 x82b) ?_
    refine Seq.u 20 (.slice p82a n82a c82a) ?_
    refine Seq.u 21 (.int .i64 x82b) ?_
    refine Seq.done ?_
    refine At.L [(1, (.int .i64 x1)), (2, (.int .u32 x2)), (9, (.int .i64 (1 + x28))), (10, (.slice p35a n35a c35a)), (15, (.int .i64 x61b)), (16, (.pointer (some ⟨b16, 0, none⟩))), (17, (.int .i64 x68b)), (18, (.slice p75a n75a c75a)), (20, (.slice p82a n82a c82a))] fun J => ?_
    refine At.s K25 K26 ?_
    refine At.rg 10 [0, 1, 2, 3, 4, 5, 6, 7, 8] ?_
    refine Seq.z 86 (.load 25 (.tmp 16)) 25 (.agg #[(.int .u64 x68aa), (.slice p68ab n68ab c68ab)]) (Y.ldab (vs := [(.int .u64 x68aa), (.slice p68ab n68ab c68ab)]) isAgg25 sizeOf25 rfl rfl (List.mem_cons_self ..) rfl) ?_
    refine Seq.u 87 (.int .u32 x2) ?_
    refine Seq.u 88 (.int .i64 (1 + x28)) ?_
    refine Seq.o ?_
    refine OpTo.cl (some 89) call10 (h.cont fun v_12 σ1_12 h2 => ?_); replace h := h2; clear h2
    obtain ⟨p89a, n89a, c89a, x89b, rfl, h⟩ := h
    refine Seq.u 85 (.tuple #[(.slice p89a n89a c89a), (.int .i64 x89b)]) ?_
    refine Seq.u 90 (.slice p89a n89a c89a) ?_
    refine Seq.u 91 (.int .i64 x89b) ?_
    refine Seq.u 22 (.slice p89a n89a c89a) ?_
    refine Seq.u 23 (.int .i64 x89b) ?_
    refine Seq.done ?_
    refine At.L [(1, (.int .i64 x1)), (9, (.int .i64 (1 + x28))), (10, (.slice p35a n35a c35a)), (15, (.int .i64 x61b)), (17, (.int .i64 x68b)), (18, (.slice p75a n75a c75a)), (20, (.slice p82a n82a c82a)), (22, (.slice p89a n89a c89a))] fun J => ?_
    refine At.s K27 K34 ?_
    refine At.s K28 K29 ?_
    refine At.rg 11 [0, 1, 2, 3, 4, 5, 6, 7, 8, 9, 10, 11, 12, 13, 14, 15, 16, 17, 18, 19, 20, 21, 22, 23] ?_
    refine Seq.u 92 (.int .i64 x61b) ?_
    refine Seq.u 93 (.bool (decide ((x61b : Int) ≠ 0))) ?_
    refine Seq.u 94 (.bool (decide ((x61b : Int) ≠ 0))) ?_
    cases hb : (decide ((x61b : Int) ≠ 0)) with
    | true =>
     replace h := h.1 (of_decide_eq_true hb)
     refine Seq.n 95 ?_
     refine Seq.n 96 ?_
     refine Seq.u 97 (.bool true) ?_
     refine Seq.u 98 (.bool true) ?_
     refine Seq.n 99 ?_
     refine Seq.n 100 ?_
     refine Seq.n 101 ?_
     refine Seq.n 102 ?_
     refine Seq.u 103 (.bool true) ?_
     refine Seq.u 104 (.bool true) ?_
     refine Seq.n 105 ?_
     refine Seq.n 106 ?_
     refine Seq.n 107 ?_
     refine Seq.n 108 ?_
     refine Seq.u 109 (.bool true) ?_
     refine Seq.u 110 (.bool true) ?_
     refine Seq.n 111 ?_
     refine Seq.n 112 ?_
     refine Seq.n 113 ?_
     refine Seq.n 114 ?_
     refine Seq.u 115 (.bool true) ?_
     refine Seq.done ?_
     refine At.L [(1, (.int .i64 x1)), (9, (.int .i64 (1 + x28))), (10, (.slice p35a n35a c35a)), (20, (.slice p82a n82a c82a)), (115, (.bool true))] fun J => ?_
     refine At.cT 115 K30 K33 ?_
     refine At.s K31 K32 ?_
     refine At.rg 12 [0] ?_
     refine Seq.u 8 (.bool false) ?_
     refine Seq.done ?_
     refine At.L [(8, (.bool false))] fun J => ?_
     exact At.rt [.tmp 8] [(.bool false)] func6 ⟨_, rfl, rfl⟩ h
    | false =>
     replace h := h.2 (of_decide_eq_false hb)
     refine Seq.u 95 (.int .i64 x68b) ?_
     refine Seq.u 96 (.bool (decide ((x68b : Int) ≠ 0))) ?_
     refine Seq.u 97 (.bool (decide ((x68b : Int) ≠ 0))) ?_
     refine Seq.u 98 (.bool (decide ((x68b : Int) ≠ 0))) ?_
     cases hb : (decide ((x68b : Int) ≠ 0)) with
     | true =>
      replace h := h.1 (of_decide_eq_true hb)
      refine Seq.n 99 ?_
      refine Seq.n 100 ?_
      refine Seq.n 101 ?_
      refine Seq.n 102 ?_
      refine Seq.u 103 (.bool true) ?_
      refine Seq.u 104 (.bool true) ?_
      refine Seq.n 105 ?_
      refine Seq.n 106 ?_
      refine Seq.n 107 ?_
      refine Seq.n 108 ?_
      refine Seq.u 109 (.bool true) ?_
      refine Seq.u 110 (.bool true) ?_
      refine Seq.n 111 ?_
      refine Seq.n 112 ?_
      refine Seq.n 113 ?_
      refine Seq.n 114 ?_
      refine Seq.u 115 (.bool true) ?_
      refine Seq.done ?_
      refine At.L [(1, (.int .i64 x1)), (9, (.int .i64 (1 + x28))), (10, (.slice p35a n35a c35a)), (20, (.slice p82a n82a c82a)), (115, (.bool true))] fun J => ?_
      refine At.cT 115 K30 K33 ?_
      refine At.s K31 K32 ?_
      refine At.rg 12 [0] ?_
      refine Seq.u 8 (.bool false) ?_
      refine Seq.done ?_
      refine At.L [(8, (.bool false))] fun J => ?_
      exact At.rt [.tmp 8] [(.bool false)] func6 ⟨_, rfl, rfl⟩ h
     | false =>
      replace h := h.2 (of_decide_eq_false hb)
      refine Seq.u 99 (.slice p75a n75a c75a) ?_
      refine Seq.u 100 (.slice p35a n35a c35a) ?_
      refine Seq.o ?_
      refine OpTo.cl (some 101) call12 (h.cont fun v_13 σ1_13 h2 => ?_); replace h := h2; clear h2
      obtain ⟨t101, rfl, h⟩ := h
      refine Seq.u 102 (.bool (!t101)) ?_
      refine Seq.u 103 (.bool (!t101)) ?_
      refine Seq.u 104 (.bool (!t101)) ?_
      cases hb : (!t101) with
      | true =>
       replace h := h.1 (Tw.nt hb)
       refine Seq.n 105 ?_
       refine Seq.n 106 ?_
       refine Seq.n 107 ?_
       refine Seq.n 108 ?_
       refine Seq.u 109 (.bool true) ?_
       refine Seq.u 110 (.bool true) ?_
       refine Seq.n 111 ?_
       refine Seq.n 112 ?_
       refine Seq.n 113 ?_
       refine Seq.n 114 ?_
       refine Seq.u 115 (.bool true) ?_
       refine Seq.done ?_
       refine At.L [(1, (.int .i64 x1)), (9, (.int .i64 (1 + x28))), (10, (.slice p35a n35a c35a)), (20, (.slice p82a n82a c82a)), (115, (.bool true))] fun J => ?_
       refine At.cT 115 K30 K33 ?_
       refine At.s K31 K32 ?_
       refine At.rg 12 [0] ?_
       refine Seq.u 8 (.bool false) ?_
       refine Seq.done ?_
       refine At.L [(8, (.bool false))] fun J => ?_
       exact At.rt [.tmp 8] [(.bool false)] func6 ⟨_, rfl, rfl⟩ h
      | false =>
       replace h := h.2 (Tw.nf hb)
       refine Seq.u 105 (.slice p89a n89a c89a) ?_
       refine Seq.u 106 (.slice p35a n35a c35a) ?_
       refine Seq.o ?_
       refine OpTo.cl (some 107) call12 (h.cont fun v_14 σ1_14 h2 => ?_); replace h := h2; clear h2
       obtain ⟨t107, rfl, h⟩ := h
       refine Seq.u 108 (.bool (!t107)) ?_
       refine Seq.u 109 (.bool (!t107)) ?_
       refine Seq.u 110 (.bool (!t107)) ?_
       cases hb : (!t107) with
       | true =>
        replace h := h.1 (Tw.nt hb)
        refine Seq.n 111 ?_
        refine Seq.n 112 ?_
        refine Seq.n 113 ?_
        refine Seq.n 114 ?_
        refine Seq.u 115 (.bool true) ?_
        refine Seq.done ?_
        refine At.L [(1, (.int .i64 x1)), (9, (.int .i64 (1 + x28))), (10, (.slice p35a n35a c35a)), (20, (.slice p82a n82a c82a)), (115, (.bool true))] fun J => ?_
        refine At.cT 115 K30 K33 ?_
        refine At.s K31 K32 ?_
        refine At.rg 12 [0] ?_
        refine Seq.u 8 (.bool false) ?_
        refine Seq.done ?_
        refine At.L [(8, (.bool false))] fun J => ?_
        exact At.rt [.tmp 8] [(.bool false)] func6 ⟨_, rfl, rfl⟩ h
       | false =>
        replace h := h.2 (Tw.nf hb)
        refine Seq.u 111 (.slice p82a n82a c82a) ?_
        refine Seq.zg 112 (.call { callee := .builtin .len, args := #[(.tmp 111)], argTypes := #[27] }) 3 (18, false) (.int .i64 (n82a : Int)) (Y.lenS underlying27 rfl rfl) ?_
        refine Seq.u 113 (.int .i64 (1 + x28)) ?_
        refine Seq.u 114 (.bool (decide (((n82a : Int) : Int) ≠ (1 + x28)))) ?_
        refine Seq.u 115 (.bool (decide (((n82a : Int) : Int) ≠ (1 + x28)))) ?_
        refine Seq.done ?_
        refine At.L [(1, (.int .i64 x1)), (9, (.int .i64 (1 + x28))), (10, (.slice p35a n35a c35a)), (20, (.slice p82a n82a c82a)), (115, (.bool (decide (((n82a : Int) : Int) ≠ (1 + x28)))))] fun J => ?_
        cases hb : (decide (((n82a : Int) : Int) ≠ (1 + x28))) with
        | true =>
         replace h := h.1 (of_decide_eq_true hb)
         refine At.cT 115 K30 K33 ?_
         refine At.s K31 K32 ?_
         refine At.rg 12 [0] ?_
         refine Seq.u 8 (.bool false) ?_
         refine Seq.done ?_
         refine At.L [(8, (.bool false))] fun J => ?_
         exact At.rt [.tmp 8] [(.bool false)] func6 ⟨_, rfl, rfl⟩ h
        | false =>
         replace h := h.2 (of_decide_eq_false hb)
         refine At.cF 115 K30 K33 ?_
         refine At.skip ?_
         refine At.s K35 K36 ?_
         refine At.rg 13 [0] ?_
         refine Seq.u 24 (.slice none 0 0) ?_
         refine Seq.done ?_
         refine At.L [(1, (.int .i64 x1)), (9, (.int .i64 (1 + x28))), (10, (.slice p35a n35a c35a)), (20, (.slice p82a n82a c82a)), (24, (.slice none 0 0))] fun J => ?_
         refine At.s K37 K55 ?_
         refine At.s K38 K39 ?_
         refine At.rg 14 [0] ?_
         refine Seq.u 25 (.int .i64 0) ?_
         refine Seq.done ?_
         refine At.L [(1, (.int .i64 x1)), (9, (.int .i64 (1 + x28))), (10, (.slice p35a n35a c35a)), (20, (.slice p82a n82a c82a)), (24, (.slice none 0 0)), (25, (.int .i64 0))] fun J => ?_
         refine At.b 0 K40 ?_
         refine At.loop (x := K41) (by kernel_rfl) ?_
         refine At.s K42 K47 ?_
         refine At.s K43 K44 ?_
         refine At.sub (bx' := []) (.cons _ (.cons _ (.cons _ (.cons _ .slnil)))) ?_
         exact At.v [(1, (.int .i64 x1)), (9, (.int .i64 (1 + x28))), (10, (.slice p35a n35a c35a)), (20, (.slice p82a n82a c82a)), (24, (.slice none 0 0)), (25, (.int .i64 0))] (h _)
theorem pt43_of {R : Ending → Hp → Prop} {x1 : Int} {x9 : Int} {p10 : Option Addr} {n10 : Nat} {c10 : Nat} {p20 : Option Addr} {n20 : Nat} {c20 : Nat} {p24 : Option Addr} {n24 : Nat} {c24 : Nat} {x25 : Int} {σ : Hp} (h : ((x25 : Int) < x9 → ∃ (b123 o123 : Nat), p20 = some ⟨b123, o123, none⟩ ∧ ((0 : Int) ≤ x25 ∧ x25 < (n20 : Int)) ∧ ∃ x124 : Int, Hp.ld σ ⟨b123, (o123 + Int.toNat x25 * 1), none⟩ = some (.int .i64 x124) ∧ ((x124 : Int) ≠ x1 → ((0 : Int) ≤ x25 ∧ x25 < (n20 : Int)) ∧ ∃ x131 : Int, Hp.ld σ ⟨b123, (o123 + Int.toNat x25 * 1), none⟩ = some (.int .i64 x131) ∧ ∀ b132 : Nat, σ b132 = none → Eff prog (Builtin.append_ #[27, 27] 27 #[(.slice p24 n24 c24), (.slice (some ⟨b132, 0, none⟩) 1 1)]) (Hp.set σ b132 (.cells #[(.int .i64 x131)] 3 (0, 0))) (fun v σ1 => ∃ p133 : Option Addr, ∃ n133 : Nat, ∃ c133 : Nat, v = (.slice p133 n133 c133) ∧ pt54 R x1 x9 p10 n10 c10 ((some ⟨b123, o123, none⟩)) n20 c20 p133 n133 c133 x25 σ1)) ∧ (¬ ((x124 : Int) ≠ x1) → pt54 R x1 x9 p10 n10 c10 ((some ⟨b123, o123, none⟩)) n20 c20 p24 n24 c24 x25 σ)) ∧ (¬ ((x25 : Int) < x9) → ((0 : Int) ≤ (n24 : Int) ∧ (n24 : Int) ≤ (c10 : Int)) ∧ Spec prog 12 #[(.slice p24 n24 c24), (.slice p10 (Int.toNat (n24 : Int)) c10)] σ (Cont R (fun v σ1 => ∃ t139 : Bool, v = (.bool t139) ∧ (t139 = true → I64 (x9 - 1) ∧ (((x9 - 1) : Int) ≤ (n24 : Int) → Spec prog 14 #[] σ1 (Cont R (fun v_2 σ1_2 => ∃ t148 : Bool, v_2 = (.bool t148) ∧ R (.returned (.bool t148)) σ1_2))) ∧ (¬ (((x9 - 1) : Int) ≤ (n24 : Int)) → R (.returned (.bool false)) σ1)) ∧ (t139 = false → R (.returned (.bool false)) σ1))))) : pt43 R x1 x9 p10 n10 c10 p20 n20 c20 p24 n24 c24 x25 σ := by
 intro J
 show At (gl R) _ _ _ _
 refine At.rg 15 [0, 1, 2] ?_
 refine Seq.u 116 (.int .i64 x25) ?_
 refine Seq.u 117 (.int .i64 x9) ?_
 refine Seq.u 118 (.bool (decide ((x25 : Int) < x9))) ?_
 refine Seq.done ?_
 refine At.L [(1, (.int .i64 x1)), (9, (.int .i64 x9)), (10, (.slice p10 n10 c10)), (20, (.slice p20 n20 c20)), (24, (.slice p24 n24 c24)), (25, (.int .i64 x25)), (118, (.bool (decide ((x25 : Int) < x9))))] fun J => ?_
 cases hb : (decide ((x25 : Int) < x9)) with
 | true =>
  replace h := h.1 (of_decide_eq_true hb)
  refine At.cT 118 K45 K46 ?_
  refine At.skip ?_
  refine At.s K48 K54 ?_
  refine At.b 1 K49 ?_
  refine At.s K50 K51 ?_
  refine At.rg 17 [0, 1, 2, 3, 4, 5] ?_
  refine Seq.u 121 (.slice p20 n20 c20) ?_
  refine Seq.u 122 (.int .i64 x25) ?_
  obtain ⟨b123, o123, hq, h⟩ := h
  subst hq
  obtain ⟨hi, h⟩ := h
  refine Seq.z 123 (.indexAddr 27 (.tmp 121) (.tmp 122)) 0 (.pointer (some ⟨b123, (o123 + Int.toNat x25 * 1), none⟩)) (Y.idx underlying27 sizeOf3 rfl rfl hi rfl) ?_
  obtain ⟨x124, hl, h⟩ := h
  refine Seq.z 124 (.load 3 (.tmp 123)) 3 (.int .i64 x124) (Y.ld isAgg3 rfl hl) ?_
  refine Seq.u 125 (.int .i64 x1) ?_
  refine Seq.u 126 (.bool (decide ((x124 : Int) ≠ x1))) ?_
  refine Seq.done ?_
  refine At.L [(1, (.int .i64 x1)), (9, (.int .i64 x9)), (10, (.slice p10 n10 c10)), (20, (.slice (some ⟨b123, o123, none⟩) n20 c20)), (24, (.slice p24 n24 c24)), (25, (.int .i64 x25)), (126, (.bool (decide ((x124 : Int) ≠ x1))))] fun J => ?_
  cases hb : (decide ((x124 : Int) ≠ x1)) with
  | true =>
   replace h := h.1 (of_decide_eq_true hb)
   refine At.cT 126 K52 K53 ?_
   refine At.rg 18 [0, 1, 2, 3, 4, 5, 6, 7] ?_
   refine Seq.u 127 (.slice p24 n24 c24) ?_
   refine Seq.u 128 (.slice (some ⟨b123, o123, none⟩) n20 c20) ?_
   refine Seq.u 129 (.int .i64 x25) ?_
   obtain ⟨hi, h⟩ := h
   refine Seq.z 130 (.indexAddr 27 (.tmp 128) (.tmp 129)) 0 (.pointer (some ⟨b123, (o123 + Int.toNat x25 * 1), none⟩)) (Y.idx underlying27 sizeOf3 rfl rfl hi rfl) ?_
   obtain ⟨x131, hl, h⟩ := h
   refine Seq.z 131 (.load 3 (.tmp 130)) 3 (.int .i64 x131) (Y.ld isAgg3 rfl hl) ?_
   refine Seq.o ?_
   refine OpTo.bslice (T := 27) (E := 3) (m := 1) (ps := #[(0, (.tmp 131))]) (d := (some 132)) (ty := 27) (gd := none) (vs := [(0, (.int .i64 x131))]) (cs := #[(.int .i64 x131)]) underlying27 (by kernel_rfl) rfl rfl rfl (by kernel_rfl) (fun b132 hn => ?_)
   replace h := h b132 hn
   refine Seq.o ?_
   refine OpTo.eff (d := (some 133)) (op := (.call { callee := .builtin .append, args := #[(.tmp 127), (.tmp 132)], argTypes := #[27, 27] })) (ty := 27) (gd := none) (by kernel_rfl) rfl rfl (Builtin.append_ #[27, 27] 27 #[(.slice p24 n24 c24), (.slice (some ⟨b132, 0, none⟩) 1 1)]) (fun o ho ht => exec_b_append rfl rfl o ho ht) (h.mono (fun v σ1 h2 => ?_)); replace h := h2; clear h2
   obtain ⟨p133, n133, c133, rfl, h⟩ := h
   refine Seq.u 24 (.slice p133 n133 c133) ?_
   refine Seq.done ?_
   refine At.L [(1, (.int .i64 x1)), (9, (.int .i64 x9)), (10, (.slice p10 n10 c10)), (20, (.slice (some ⟨b123, o123, none⟩) n20 c20)), (24, (.slice p133 n133 c133)), (25, (.int .i64 x25))] fun J => ?_
   refine At.inBlock ?_
   exact At.v [(1, (.int .i64 x1)), (9, (.int .i64 x9)), (10, (.slice p10 n10 c10)), (20, (.slice (some ⟨b123, o123, none⟩) n20 c20)), (24, (.slice p133 n133 c133)), (25, (.int .i64 x25))] (h _)
  | false =>
   replace h := h.2 (of_decide_eq_false hb)
   refine At.cF 126 K52 K53 ?_
   refine At.skip ?_
   refine At.inBlock ?_
   exact At.v [(1, (.int .i64 x1)), (9, (.int .i64 x9)), (10, (.slice p10 n10 c10)), (20, (.slice (some ⟨b123, o123, none⟩) n20 c20)), (24, (.slice p24 n24 c24)), (25, (.int .i64 x25))] (h _)
 | false =>
  replace h := h.2 (of_decide_eq_false hb)
  refine At.cF 118 K45 K46 ?_
  refine At.x 0 [.code K55] ?_
  refine At.s K56 K57 ?_
  refine At.rg 19 [0, 1, 2, 3, 4, 5, 6, 7, 8, 9, 10, 11, 12, 13, 14, 15, 16] ?_
  refine Seq.u 134 (.slice p24 n24 c24) ?_
  refine Seq.u 135 (.slice p10 n10 c10) ?_
  refine Seq.u 136 (.slice p24 n24 c24) ?_
  refine Seq.z 137 (.call { callee := .builtin .len, args := #[(.tmp 136)], argTypes := #[27] }) 3 (.int .i64 (n24 : Int)) (Y.lenS underlying27 rfl rfl) ?_
  obtain ⟨hs, h⟩ := h
  refine Seq.z 138 (.slice 27 (.tmp 135) none (some (.tmp 137)) none) 27 (.slice p10 (Int.toNat (n24 : Int)) c10) (Y.slh underlying27 sizeOf3 rfl rfl hs) ?_
  refine Seq.o ?_
  refine OpTo.cl (some 139) call12 (h.cont fun v σ1 h2 => ?_); replace h := h2; clear h2
  obtain ⟨t139, rfl, h⟩ := h
  refine Seq.u 140 (.bool t139) ?_
  cases hb : t139 with
  | true =>
   replace h := h.1 hb
   refine Seq.u 141 (.slice p24 n24 c24) ?_
   refine Seq.zg 142 (.call { callee := .builtin .len, args := #[(.tmp 141)], argTypes := #[27] }) 3 (6, true) (.int .i64 (n24 : Int)) (Y.lenS underlying27 rfl rfl) ?_
   refine Seq.u 143 (.int .i64 x9) ?_
   obtain ⟨hi, h⟩ := h
   refine Seq.zg 144 (.binOp .sub 3 (.tmp 143) (.const (.int .i64 1)) 3) 3 (6, true) (.int .i64 (x9 - 1)) (Y.subI hi rfl rfl) ?_
   refine Seq.u 145 (.bool (decide (((x9 - 1) : Int) ≤ (n24 : Int)))) ?_
   refine Seq.u 146 (.bool (decide (((x9 - 1) : Int) ≤ (n24 : Int)))) ?_
   refine Seq.u 147 (.bool (decide (((x9 - 1) : Int) ≤ (n24 : Int)))) ?_
   cases hb : (decide (((x9 - 1) : Int) ≤ (n24 : Int))) with
   | true =>
    replace h := h.1 (of_decide_eq_true hb)
    refine Seq.o ?_
    refine OpTo.cl (some 148) call14 (h.cont fun v_2 σ1_2 h2 => ?_); replace h := h2; clear h2
    obtain ⟨t148, rfl, h⟩ := h
    refine Seq.u 149 (.bool t148) ?_
    refine Seq.u 8 (.bool t148) ?_
    refine Seq.done ?_
    refine At.L [(8, (.bool t148))] fun J => ?_
    exact At.rt [.tmp 8] [(.bool t148)] func6 ⟨_, rfl, rfl⟩ h
   | false =>
    replace h := h.2 (of_decide_eq_false hb)
    refine Seq.n 148 ?_
    refine Seq.u 149 (.bool false) ?_
    refine Seq.u 8 (.bool false) ?_
    refine Seq.done ?_
    refine At.L [(8, (.bool false))] fun J => ?_
    exact At.rt [.tmp 8] [(.bool false)] func6 ⟨_, rfl, rfl⟩ h
  | false =>
   replace h := h.2 hb
   refine Seq.n 141 ?_
   refine Seq.n 142 ?_
   refine Seq.n 143 ?_
   refine Seq.n 144 ?_
   refine Seq.n 145 ?_
   refine Seq.u 146 (.bool false) ?_
   refine Seq.u 147 (.bool false) ?_
   refine Seq.n 148 ?_
   refine Seq.u 149 (.bool false) ?_
   refine Seq.u 8 (.bool false) ?_
   refine Seq.done ?_
   refine At.L [(8, (.bool false))] fun J => ?_
   exact At.rt [.tmp 8] [(.bool false)] func6 ⟨_, rfl, rfl⟩ h
theorem pt54_of {R : Ending → Hp → Prop} {x1 : Int} {x9 : Int} {p10 : Option Addr} {n10 : Nat} {c10 : Nat} {p20 : Option Addr} {n20 : Nat} {c20 : Nat} {p24 : Option Addr} {n24 : Nat} {c24 : Nat} {x25 : Int} {σ : Hp} (h : I64 (x25 + 1) ∧ pt43 R x1 x9 p10 n10 c10 p20 n20 c20 p24 n24 c24 ((x25 + 1)) σ) : pt54 R x1 x9 p10 n10 c10 p20 n20 c20 p24 n24 c24 x25 σ := by
 intro J
 show At (gl R) _ _ _ _
 refine At.rg 16 [0, 1, 2] ?_
 refine Seq.u 119 (.int .i64 x25) ?_
 obtain ⟨hi, h⟩ := h
 refine Seq.z 120 (.binOp .add 3 (.tmp 119) (.const (.int .i64 1)) 3) 3 (.int .i64 (x25 + 1)) (Y.addI hi rfl rfl) ?_
 refine Seq.u 25 (.int .i64 (x25 + 1)) ?_
 refine Seq.done ?_
 refine At.L [(1, (.int .i64 x1)), (9, (.int .i64 x9)), (10, (.slice p10 n10 c10)), (20, (.slice p20 n20 c20)), (24, (.slice p24 n24 c24)), (25, (.int .i64 (x25 + 1)))] fun J => ?_
 refine At.inLoop ?_
 refine At.s K42 K47 ?_
 refine At.s K43 K44 ?_
 exact At.v [(1, (.int .i64 x1)), (9, (.int .i64 x9)), (10, (.slice p10 n10 c10)), (20, (.slice p20 n20 c20)), (24, (.slice p24 n24 c24)), (25, (.int .i64 (x25 + 1)))] (h _)
end law13_RingTurns
end TwR
end
