/-
  Part 6 of the proof that the law RingRoundsSaid of the given program answers true for every input of the given statement; the input reads behind the call as it did. (The texts: RX RY SH SI SC TwN SJ.)
-/
import Derived.Test.YtggadohfepgdeaaA5
import Derived.ProofKit
import Derived.SizedLaws
import Derived.Deep.Slices
import Derived.Test.YtggadohfepgdeaaRows
import Derived.Lib.SmallJoins
set_option linter.all false
section
set_option linter.unusedVariables false
namespace TwR
open Go Tw

/-- The document's reader. -/
abbrev rd1 (b : Nat) (p : Option Addr) (n c : Nat) (i : Nat) (bad : Bool) : List (Nat × Obj) := [(b, .cells #[.slice p n c, .int .i64 i, .bool bad] 65 (0, 0))]
theorem n1 {b : Nat} {p : Option Addr} {n c i : Nat} {bad : Bool} : (names (rd1 b p n c i bad)).Nodup := by simp [names]
theorem o1 {τ : Hp} {b : Nat} {p : Option Addr} {n c i : Nat} {bad : Bool} (h : τ b = none) : Off (rd1 b p n c i bad) τ := fun k hk => by simp [names] at hk; subst hk; exact h

theorem rUint_spec {R : Ending → Hp → Prop} {τ : Hp} {b n c i : Nat} {p : Option Addr} {bad : Bool} {bs : List Int} (ho : τ b = none) (hr : RdI .u8 τ p n bs) (h8 : By8 bs) (hi : i ≤ n)
    (h : ∀ (x j : Nat) (bad' : Bool), j ≤ n → x < 18446744073709551616 → (bad' = false → bad = false ∧ i < j) → (∀ w rest, bs.drop i = uv w ++ rest → w < 18446744073709551616 → bad = false → x = w ∧ bad' = false ∧ bs.drop j = rest) → R (.returned (.int .u64 x)) (sets τ (rd1 b p n c j bad'))) :
    Spec prog ref9_Reader_Uint.fid #[.pointer (some ⟨b, 0, none⟩)] (sets τ (rd1 b p n c i bad)) R := by
  have hx : Ext τ (sets τ (rd1 b p n c i bad)) := Off.ext n1 (o1 ho)
  have hst : ∀ (x to : Nat) (code : Int), Eff prog (Instr.storeAt 4 (.pointer (some ⟨b, (0 + 2), none⟩)) (.bool (decide (code ≠ 0)))) (sets τ (rd1 b p n c i bad)) (fun _ σ1_2 => Eff prog (Instr.storeAt 3 (.pointer (some ⟨b, (0 + 1), none⟩)) (.int .i64 to)) σ1_2 (fun _ σ1_3 => R (.returned (.int .u64 x)) σ1_3)) ↔ Eff prog (Instr.storeAt 4 (.pointer (some ⟨b, (0 + 2), none⟩)) (.bool (decide (code ≠ 0)))) (sets τ (rd1 b p n c i bad)) (fun _ σ1_2 => Eff prog (Instr.storeAt 3 (.pointer (some ⟨b, (0 + 1), none⟩)) (.int .i64 to)) σ1_2 (fun _ σ1_3 => R (.returned (.int .u64 x)) σ1_3)) := fun _ _ _ => Iff.rfl
  have put : ∀ (x to : Nat) (code : Int), R (.returned (.int .u64 x)) (sets τ (rd1 b p n c to (decide (code ≠ 0)))) → Eff prog (Instr.storeAt 4 (.pointer (some ⟨b, (0 + 2), none⟩)) (.bool (decide (code ≠ 0)))) (sets τ (rd1 b p n c i bad)) (fun _ σ1_2 => Eff prog (Instr.storeAt 3 (.pointer (some ⟨b, (0 + 1), none⟩)) (.int .i64 to)) σ1_2 (fun _ σ1_3 => R (.returned (.int .u64 x)) σ1_3)) := fun x to code hR => by
    refine Eff.storeL (i := 0) (c := #[.slice p n c, .int .i64 i, .bool bad]) (c' := #[.slice p n c, .int .i64 i, .bool (decide (code ≠ 0))]) size4 n1 rfl rfl rfl rfl rfl ?_
    refine Eff.storeL (L := rd1 b p n c i (decide (code ≠ 0))) (i := 0) (c := #[.slice p n c, .int .i64 i, .bool (decide (code ≠ 0))]) (c' := #[.slice p n c, .int .i64 to, .bool (decide (code ≠ 0))]) sizeI n1 rfl rfl rfl rfl rfl ?_
    exact hR
  refine ref9_Reader_Uint.start ⟨b, 0, rfl, bad, ldL (L := rd1 b p n c i bad) (i := 0) n1 rfl rfl, fun hb => ?_, fun hb => ⟨p, n, c, ldL (L := rd1 b p n c i bad) (i := 0) n1 rfl rfl, i, ldL (L := rd1 b p n c i bad) (i := 0) n1 rfl rfl, ?_⟩⟩
  · exact h 0 i bad hi (by omega) (fun h0 => by rw [hb] at h0; cases h0) (fun w rest _ _ h0 => by rw [hb] at h0; cases h0)
  · refine refUint_spec (hr.mono hx) h8 hi ⟨fun hno code hc => ⟨0, 0, code, rfl, put 0 0 code (h 0 0 _ (Nat.zero_le n) (by omega) (fun h0 => by simp [hc] at h0) fun w rest h1 h2 _ => (hno w ⟨h2, rest, h1⟩).elim)⟩, fun v to hlt hle hv hu => ⟨v, to, 0, rfl, put v to 0 (h v to _ hle hv (fun _ => ⟨hb, hlt⟩) fun w rest h1 h2 h3 => ?_)⟩⟩
    obtain ⟨rfl, rfl⟩ := hu w ⟨h2, rest, h1⟩
    exact ⟨rfl, rfl, (uvat h2 h1).2⟩

theorem refDecode_spec {R : Ending → Hp → Prop} {σ : Hp} {p : Option Addr} {n c : Nat} {bs : List Int} (hr : RdI .u8 σ p n bs) (h8 : By8 bs) (hn : n ≤ 1048576)
    (h : DecR bs σ fun e p' n' c' code σ' => R (.returned (.tuple #[vRing e p' n' c', .int .i64 code])) σ') : Spec prog ref13_Decode.fid #[.slice p n c] σ R := by
  refine Spec.drop (ref13_Decode.start fun b hb => ?_)
  have hofx : ∀ {τ : Hp} (j : Nat) (bad : Bool), τ b = none → Ext τ (sets τ (rd1 b p n c j bad)) := fun j bad ho => Off.ext n1 (o1 ho)
  have hbl : bs.length = n := hr.1
  show Spec prog ref9_Reader_Uint.fid _ (sets σ (rd1 b p n c 0 false)) _
  refine rUint_spec hb hr h8 (Nat.zero_le n) fun e1 j1 bad1 hj1 he1 hp1 ht1 => ⟨_, rfl, ?_⟩
  refine rUint_spec hb hr h8 hj1 fun cnt j2 bad2 hj2 hc64 hp2 ht2 => ⟨_, rfl, ?_⟩
  have fin : ∀ (τ : Hp) (pm : Option Addr) (nm cm j : Nat) (bad : Bool) (ms : List Mem), τ b = none → Ext σ τ → OwnM (σ.new τ) pm nm cm ms → (∀ m ∈ ms, ∀ t ∈ m.toks, W32 t) →
      (∀ e0 ms0, Tr bs e0 ms0 → bad = false ∧ e1 = e0 ∧ ms = ms0) →
      Spec prog ref13_Encode.fid #[vRing e1 pm nm cm] (sets τ (rd1 b p n c j bad)) (Cont (Drop R) (fun v σ1 => ∃ p85a : Option Addr, ∃ n85a : Nat, ∃ c85a : Nat, ∃ x85b : Int, v = (.tuple #[(.slice p85a n85a c85a), (.int .i64 x85b)]) ∧ ∃ t91 : Bool, Hp.ld σ1 ⟨b, (0 + 2), none⟩ = some (.bool t91) ∧ (t91 = true → Drop R (.returned (.tuple #[(.agg #[(.int .u64 0), (.slice none 0 0)]), (.int .i64 130)])) σ1) ∧ (t91 = false → ((x85b : Int) ≠ 0 → Drop R (.returned (.tuple #[(.agg #[(.int .u64 0), (.slice none 0 0)]), (.int .i64 130)])) σ1) ∧ (¬ ((x85b : Int) ≠ 0) → Eff prog (convert 37 9 (.slice p85a n85a c85a)) σ1 (fun v_2 σ1_2 => ∃ s98 : ByteArray, v_2 = (.string s98) ∧ Eff prog (convert 37 9 (.slice p n c)) σ1_2 (fun v_3 σ1_3 => ∃ s100 : ByteArray, v_3 = (.string s100) ∧ ((ByteArray.toList s98 == ByteArray.toList s100) = false → Drop R (.returned (.tuple #[(.agg #[(.int .u64 0), (.slice none 0 0)]), (.int .i64 130)])) σ1_3) ∧ ((ByteArray.toList s98 == ByteArray.toList s100) = true → Drop R (.returned (.tuple #[(.agg #[(.int .u64 e1), (.slice pm nm cm)]), (.int .i64 0)])) σ1_3))))))) := by
    intro τ pm nm cm j bad ms ho hx hown htok hT
    have hrn : RdM (σ.new τ) pm nm ms := OwnL.rd EMem.mono hown
    have hrm : RdM τ pm nm ms := hrn.mono' (Ext.of_new σ τ)
    have no : ¬ OkR ms → ∀ e0 ms0, ¬ Tr bs e0 ms0 := fun hno e0 ms0 ht => hno ((hT e0 ms0 ht).2.2 ▸ ht.2.1)
    refine Spec.frameL (L := rd1 b p n c j bad) n1 (o1 ho) (refEncode_spec hrm he1 ⟨fun hno hoff => ⟨_, _, _, _, rfl, bad, ldL (L := rd1 b p n c j bad) (i := 0) n1 rfl rfl, fun hb => ?_, fun hb => ⟨fun _ => ?_, fun h0 => absurd (by decide) h0⟩⟩, fun hok p3 n3 c3 τ' ho3 hx3 hoff => ⟨_, _, _, _, rfl, bad, ldL (L := rd1 b p n c j bad) (i := 0) n1 rfl rfl, fun hb => ?_, fun hb => ⟨fun h0 => absurd rfl h0, fun _ => ?_⟩⟩⟩)
    · exact .mk (hx.trans (hofx j bad ho)) (h.bad (no hno))
    · exact .mk (hx.trans (hofx j bad ho)) (h.bad (no hno))
    · exact .mk ((hx.trans hx3).trans (hofx j bad (hoff b (by simp [names])))) (h.bad fun e0 ms0 ht => by have := (hT e0 ms0 ht).1; rw [hb] at this; cases this)
    · have hoff := hoff b (by simp [names])
      refine conv_eff (ho3.rd.mono ((Ext.of_new _ _).trans (hofx j bad hoff))) ⟨_, rfl, conv_eff (hr.mono ((hx.trans hx3).trans (hofx j bad hoff))) ⟨_, rfl, ?_⟩⟩
      rw [str_eq (enc_by8 he1) h8]
      refine ⟨fun hf => ?_, fun ht => ?_⟩
      · refine .mk ((hx.trans hx3).trans (hofx j bad hoff)) (h.bad fun e0 ms0 ht => ?_)
        obtain ⟨_, rfl, rfl⟩ := hT e0 ms0 ht
        simp [← ht.1] at hf
      · have hbs : enc e1 ms = bs := by simpa using ht
        refine .mk (hofx j bad hoff) (h.ok e1 ms pm nm cm τ' ⟨hbs.symm, hok, htok, he1⟩ (fun e0 ms0 ht => (hT e0 ms0 ht).2) (hrn.mono' (Ext.new_mono hx3)) (hx.trans hx3))
  -- a loop that ends
  have stop : ∀ (τ : Hp) (pm : Option Addr) (nm cm cnt j : Nat) (bad : Bool) (ms : List Mem), (cnt = 0 ∨ bad = true) → τ b = none → Ext σ τ → OwnM (σ.new τ) pm nm cm ms → (∀ m ∈ ms, ∀ t ∈ m.toks, W32 t) →
      (∀ e0 ms0, Tr bs e0 ms0 → bad = false ∧ e1 = e0 ∧ ms = ms0) →
      ref13_Decode.pt13 (Drop R) p n c 0 none 0 0 (some ⟨b, 0, none⟩) e1 pm nm cm cnt (sets τ (rd1 b p n c j bad)) := by
    intro τ pm nm cm cnt j bad ms hc ho hx hown htok hT
    refine ref13_Decode.pt13_of ⟨fun hlt => ⟨b, 0, rfl, bad, ldL (L := rd1 b p n c j bad) (i := 0) n1 rfl rfl, fun hb => ?_, fun _ => fin τ pm nm cm j bad ms ho hx hown htok hT⟩, fun _ => (fin τ pm nm cm j bad ms ho hx hown htok hT).cont fun v σ' ⟨p, n, c, x, hv, hh⟩ => ⟨p, n, c, x, hv, b, 0, rfl, hh⟩⟩
    rcases hc with rfl | hc
    · omega
    · rw [hc] at hb; cases hb
  suffices H : ∀ g : Nat, ∀ (τ : Hp) (pm : Option Addr) (nm cm cnt j : Nat) (bad : Bool) (ms : List Mem), n - j = g → cnt < 18446744073709551616 → nm ≤ n + 1 → (bad = false → nm ≤ j) → τ b = none → Ext σ τ → OwnM (σ.new τ) pm nm cm ms → (∀ m ∈ ms, ∀ t ∈ m.toks, W32 t) → j ≤ n →
      (∀ e0 ms0, Tr bs e0 ms0 → bad = false ∧ e1 = e0 ∧ ms = ms0.take nm ∧ nm + cnt = ms0.length ∧ bs.drop j = (ms0.drop nm).flatMap encM) →
      ref13_Decode.pt13 (Drop R) p n c 0 none 0 0 (some ⟨b, 0, none⟩) e1 pm nm cm cnt (sets τ (rd1 b p n c j bad)) from by
    refine H _ σ none 0 0 cnt j2 bad2 [] rfl hc64 (by omega) (fun _ => Nat.zero_le _) hb (.refl σ) OwnL.nil (by simp) hj2 fun e0 ms0 ht => ?_
    have hd : bs.drop 0 = uv e0 ++ (uv (un ms0.length) ++ ms0.flatMap encM) := by rw [ht.1]; simp [enc]
    obtain ⟨rfl, hb1, hd1⟩ := ht1 e0 _ hd ht.2.2.2 rfl
    have hlen := ht.2.1.len
    have hun : un (ms0.length : Nat) = ms0.length := un_nat (by omega)
    obtain ⟨hc2, hb2, hd2⟩ := ht2 (un ms0.length) _ hd1 (un_cast _).2 hb1
    exact ⟨hb2, rfl, by simp, by omega, by simpa using hd2⟩
  intro g
  induction g using Nat.strongRecOn with
  | ind g ih =>
    intro τ pm nm cm cnt j bad ms hg hc hnm hnj ho hx hown htok hj hT
    by_cases hend : cnt = 0 ∨ bad = true
    · refine stop τ pm nm cm cnt j bad ms hend ho hx hown htok fun e0 ms0 ht => ?_
      obtain ⟨f1, f2, f3, f4, _⟩ := hT e0 ms0 ht
      refine ⟨f1, f2, ?_⟩
      rcases hend with h0 | h0
      · rw [f3, List.take_of_length_le (by omega)]
      · rw [h0] at f1; cases f1
    have hcnt : 0 < cnt := by omega
    have hbad : bad = false := by cases bad with | false => rfl | true => exact absurd (.inr rfl) hend
    refine ref13_Decode.pt13_of ⟨fun hlt => ⟨b, 0, rfl, bad, ldL (L := rd1 b p n c j bad) (i := 0) n1 rfl rfl, fun _ => ?_, fun hb => by rw [hbad] at hb; cases hb⟩, fun hge => by omega⟩
    have hrx := hr.mono hx
    refine rUint_spec ho hrx h8 hj fun x34 j3 bad3 hj3 hx34 hp3 ht3 => ⟨_, rfl, ?_⟩
    refine rUint_spec ho hrx h8 hj3 fun x36 j4 bad4 hj4 hx36 hp4 ht4 => ⟨_, rfl, fun x39 hx39 x42 hx42 => ?_⟩
    refine rUint_spec ho hrx h8 hj4 fun x45 j5 bad5 hj5 hx45 hp5 ht5 => ⟨_, rfl, ?_⟩
    have hj05 : bad5 = false → j < j5 := fun h5 => by
      obtain ⟨h4, l5⟩ := hp5 h5
      obtain ⟨h3, l4⟩ := hp4 h4
      obtain ⟨_, l3⟩ := hp3 h3
      omega
    have hT5 : ∀ e0 ms0, Tr bs e0 ms0 → ∃ m, ms0[nm]? = some m ∧ m.id = x39 ∧ m.state = x42 ∧ x45 = m.toks.length ∧ bad5 = false ∧ bs.drop j5 = encT m.toks ++ (ms0.drop (nm + 1)).flatMap encM := fun e0 ms0 ht => by
      obtain ⟨f1, f2, f3, f4, f5⟩ := hT e0 ms0 ht
      obtain ⟨m, hm⟩ : ∃ m, ms0[nm]? = some m := ⟨_, List.getElem?_eq_getElem (by omega)⟩
      have hok := ht.2.1.1 m (List.mem_of_getElem? hm)
      obtain ⟨k1, k2, k3, k4, k5, k6, _⟩ := hok
      rw [drop_flat hm] at f5
      have u1 : un m.id = m.id.toNat := un_small k1 (by omega)
      have u2 : un m.state = m.state.toNat := un_small (by omega) (by omega)
      have u3 : un (m.toks.length : Nat) = m.toks.length := un_nat (by omega)
      obtain ⟨g1, g2, g3⟩ := ht3 (un m.id) (uv (un m.state) ++ (uv (un m.toks.length) ++ (encT m.toks ++ (ms0.drop (nm + 1)).flatMap encM))) (by rw [f5]; simp [encM]) (un_cast _).2 f1
      obtain ⟨g4, g5, g6⟩ := ht4 (un m.state) _ g3 (un_cast _).2 g2
      obtain ⟨g7, g8, g9⟩ := ht5 (un m.toks.length) _ g6 (un_cast _).2 g5
      have e39 : x39 = (x34 : Int) := by
        rw [if_neg (by omega)] at hx39
        exact w64 (by omega) hx39
      have e42 : x42 = (x36 : Int) := by
        rw [if_neg (by omega)] at hx42
        exact w64 (by omega) hx42
      exact ⟨m, hm, by omega, by omega, by omega, g8, g9⟩
    have done : ∀ (τ' : Hp) (pt : Option Addr) (k ct j' : Nat) (bad : Bool) (ts : List Int), (bad = false → j < j') → τ' b = none → Ext τ τ' → OwnI .u32 (τ.new τ') pt k ct ts → (∀ t ∈ ts, W32 t) → j' ≤ n →
        (∀ e0 ms0, Tr bs e0 ms0 → ∃ m, ms0[nm]? = some m ∧ m.id = x39 ∧ m.state = x42 ∧ bad = false ∧ ts = m.toks ∧ bs.drop j' = (ms0.drop (nm + 1)).flatMap encM) →
        ∀ b80 : Nat, (sets τ' (rd1 b p n c j' bad)) b80 = none → Eff prog (Builtin.append_ #[23, 23] 23 #[(.slice pm nm cm), (.slice (some ⟨b80, 0, none⟩) 1 1)]) (Hp.set (sets τ' (rd1 b p n c j' bad)) b80 (.cells #[(.int .i64 x39), (.int .i64 x42), (.slice pt k ct)] 55 (0, 0))) (fun v σ1 => ∃ p81 : Option Addr, ∃ n81 : Nat, ∃ c81 : Nat, v = (.slice p81 n81 c81) ∧ ∀ x32 : Int, x32 = IntKind.u64.wrap ((cnt : Int) - 1) → ref13_Decode.pt13 (Drop R) p n c 0 none 0 0 (some ⟨b, 0, none⟩) e1 p81 n81 c81 x32 σ1) := by
      intro τ' pt k ct j' bad ts hjj ho' hx' hot htw hj' hT' b80 hb80
      obtain ⟨hnot, hB⟩ := sets_none hb80
      rw [sets_fresh hnot]
      have hown' : OwnM (σ.new τ') pm nm cm ms := hown.mono EMem.mono (Ext.new_mono hx')
      have hpb : ∀ a, pm = some a → τ a.block ≠ none := fun a ha => by
        have := hown.block a ha
        cases hh : (σ.new τ) a.block with
        | none => exact absurd hh this
        | some oo => rw [(new_some.1 hh).2]; simp
      have hin : Ext (τ.new τ') ((σ.new τ').del pm) := Ext.new_into hx hpb
      have hot' : RdI .u32 (τ.new τ') pt k ts := OwnI.rd hot
      have hnmj := hnj hbad
      refine Eff.frameL (L := rd1 b p n c j' bad) n1 (Off.set (L := rd1 b p n c j' bad) (o1 ho') hnot) (OwnL.app1 EMem.mono (vs := [.int .i64 x39, .int .i64 x42, .slice pt k ct]) (x := ⟨x39, x42, ts⟩) (hx.trans hx') hown' rfl oneC_mem (EMem.mk (hot'.mono hin)) (by omega) (fun p' c2 τ2 ho2 hx2 hoff2 => ⟨p', nm + 1, c2, rfl, fun x32 hx32 => ?_⟩) hB)
      have e32 := wpred hcnt hc hx32
      subst e32
      have htok' : ∀ m ∈ ms ++ [⟨x39, x42, ts⟩], ∀ t ∈ m.toks, W32 t := fun m hm => by
        rcases List.mem_append.1 hm with hm | hm
        · exact htok m hm
        · simp at hm; subst hm; exact htw
      have hoffb : τ2 b = none := hoff2 b (by simp [names])
      have hT2 : ∀ e0 ms0, Tr bs e0 ms0 → bad = false ∧ e1 = e0 ∧ ms ++ [⟨x39, x42, ts⟩] = ms0.take (nm + 1) ∧ nm + 1 + (cnt - 1) = ms0.length ∧ bs.drop j' = (ms0.drop (nm + 1)).flatMap encM := fun e0 ms0 ht => by
        obtain ⟨m, q1, q2, q3, q4, q5, q6⟩ := hT' e0 ms0 ht
        obtain ⟨f1, f2, f3, f4, f5⟩ := hT e0 ms0 ht
        refine ⟨q4, f2, ?_, by omega, q6⟩
        rw [List.take_add_one, q1, f3]
        simp [mem_eq (a := ⟨x39, x42, ts⟩) (b := m) q2.symm q3.symm q5]
      cases hb2 : bad with
      | true =>
        refine stop τ2 p' (nm + 1) c2 (cnt - 1) j' true _ (.inr rfl) hoffb hx2 ho2 htok' fun e0 ms0 ht => ?_
        have := (hT2 e0 ms0 ht).1
        rw [hb2] at this; cases this
      | false =>
        have hlt := hjj hb2
        have hb2' := hb2
        subst hb2'
        exact ih (n - j') (by omega) τ2 p' (nm + 1) c2 (cnt - 1) j' false _ rfl (by omega) (by omega) (fun _ => by omega) hoffb hx2 ho2 htok' hj' hT2
    suffices H2 : ∀ g2 : Nat, ∀ (τ' : Hp) (pt : Option Addr) (k ct left j' : Nat) (bad : Bool) (ts : List Int), n - j' = g2 → left < 18446744073709551616 → k ≤ n + 1 → (bad = false → j < j' ∧ k ≤ j') → τ' b = none → Ext τ τ' → OwnI .u32 (τ.new τ') pt k ct ts → (∀ t ∈ ts, W32 t) → j' ≤ n →
        (∀ e0 ms0, Tr bs e0 ms0 → ∃ m, ms0[nm]? = some m ∧ m.id = x39 ∧ m.state = x42 ∧ bad = false ∧ ts = m.toks.take k ∧ k + left = m.toks.length ∧ bs.drop j' = encT (m.toks.drop k) ++ (ms0.drop (nm + 1)).flatMap encM) →
        ref13_Decode.pt30 (Drop R) p n c 0 none 0 0 (some ⟨b, 0, none⟩) e1 pm nm cm cnt x39 x42 pt k ct left (sets τ' (rd1 b p n c j' bad)) from by
      refine H2 _ τ none 0 0 x45 j5 bad5 [] rfl hx45 (by omega) (fun h5 => ⟨hj05 h5, Nat.zero_le _⟩) ho (.refl τ) OwnI.nil (by simp) hj5 fun e0 ms0 ht => ?_
      obtain ⟨m, q1, q2, q3, q4, q5, q6⟩ := hT5 e0 ms0 ht
      exact ⟨m, q1, q2, q3, q5, by simp, by omega, by simpa using q6⟩
    intro g2
    induction g2 using Nat.strongRecOn with
    | ind g2 ih2 =>
      intro τ' pt k ct left j' bad' ts hg2 hl64 hk hjk ho' hx' hot htw hj' hT'
      have stop2 : (left = 0 ∨ bad' = true) → ∀ e0 ms0, Tr bs e0 ms0 → ∃ m, ms0[nm]? = some m ∧ m.id = x39 ∧ m.state = x42 ∧ bad' = false ∧ ts = m.toks ∧ bs.drop j' = (ms0.drop (nm + 1)).flatMap encM := fun hend e0 ms0 ht => by
        obtain ⟨m, q1, q2, q3, q4, q5, q6, q7⟩ := hT' e0 ms0 ht
        rcases hend with h0 | h0
        · refine ⟨m, q1, q2, q3, q4, by rw [q5, List.take_of_length_le (by omega)], ?_⟩
          rw [q7, List.drop_eq_nil_of_le (by omega)]; simp [encT]
        · rw [h0] at q4; cases q4
      by_cases h0 : left = 0
      · exact ref13_Decode.pt30_of ⟨fun hlt => by omega, fun _ => done τ' pt k ct j' bad' ts (fun hb => (hjk hb).1) ho' hx' hot htw hj' (stop2 (.inl h0))⟩
      refine ref13_Decode.pt30_of ⟨fun hlt => ⟨b, 0, rfl, bad', ldL (L := rd1 b p n c j' bad') (i := 0) n1 rfl rfl, fun hb => ?_, fun hb => done τ' pt k ct j' bad' ts (fun hb => (hjk hb).1) ho' hx' hot htw hj' (stop2 (.inr hb))⟩, fun hge => by omega⟩
      obtain ⟨hjj, hkj⟩ := hjk hb
      refine rUint_spec ho' (hrx.mono hx') h8 hj' fun x58 j6 bad6 hj6 hx58 hp6 ht6 => ⟨_, rfl, bad6, ldL (L := rd1 b p n c j6 bad6) (i := 0) n1 rfl rfl, fun hb6 => ?_, fun hb6 => ?_⟩
      all_goals
        -- the flag that comes of it
        have go : ∀ bad7 : Bool, (bad7 = false → bad6 = false ∧ x58 < 4294967296) → (bad6 = false → x58 < 4294967296 → bad7 = false) → ∀ x73 : Int, x73 = IntKind.u32.wrap (x58 : Int) → ∀ b74 : Nat, (sets τ' (rd1 b p n c j6 bad7)) b74 = none → Eff prog (Builtin.append_ #[53, 53] 53 #[(.slice pt k ct), (.slice (some ⟨b74, 0, none⟩) 1 1)]) (Hp.set (sets τ' (rd1 b p n c j6 bad7)) b74 (.cells #[(.int .u32 x73)] 26 (0, 0))) (fun v_2 σ1_3 => ∃ p75 : Option Addr, ∃ n75 : Nat, ∃ c75 : Nat, v_2 = (.slice p75 n75 c75) ∧ ∀ x56 : Int, x56 = IntKind.u64.wrap ((left : Int) - 1) → ref13_Decode.pt30 (Drop R) p n c 0 none 0 0 (some ⟨b, 0, none⟩) e1 pm nm cm cnt x39 x42 p75 n75 c75 x56 σ1_3) := by
          intro bad7 hb7 hb7' x73 hx73 b74 hb74
          obtain ⟨hw73, he73⟩ := w32 x58 hx73
          obtain ⟨hnot, hB⟩ := sets_none hb74
          rw [sets_fresh hnot]
          refine Eff.frameL (L := rd1 b p n c j6 bad7) n1 (Off.set (L := rd1 b p n c j6 bad7) (o1 ho') hnot) (OwnI.app1 hx' hot (by omega) (fun p' c' τ2 ho2 hx2 _ hoff2 => ⟨p', k + 1, c', rfl, fun x56 hx56 => ?_⟩) hB)
          have e56 := wpred (by omega) hl64 hx56
          subst e56
          have hoffb : τ2 b = none := hoff2 b (by simp [names])
          have htw2 : ∀ t ∈ ts ++ [x73], W32 t := fun t ht => by
            rcases List.mem_append.1 ht with ht | ht
            · exact htw t ht
            · simp at ht; subst ht; exact hw73
          have hT2 : ∀ e0 ms0, Tr bs e0 ms0 → ∃ m, ms0[nm]? = some m ∧ m.id = x39 ∧ m.state = x42 ∧ bad7 = false ∧ ts ++ [x73] = m.toks.take (k + 1) ∧ k + 1 + (left - 1) = m.toks.length ∧ bs.drop j6 = encT (m.toks.drop (k + 1)) ++ (ms0.drop (nm + 1)).flatMap encM := fun e0 ms0 ht => by
            obtain ⟨m, q1, q2, q3, q4, q5, q6, q7⟩ := hT' e0 ms0 ht
            obtain ⟨t, htk⟩ : ∃ t, m.toks[k]? = some t := ⟨_, List.getElem?_eq_getElem (by omega)⟩
            have hwt := ht.2.2.1 m (List.mem_of_getElem? q1) t (List.mem_of_getElem? htk)
            unfold W32 at hwt
            have ut : un t = t.toNat := un_small hwt.1 (by omega)
            rw [drop_encT htk, List.append_assoc] at q7
            obtain ⟨r1, r2, r3⟩ := ht6 (un t) _ q7 (un_cast _).2 q4
            refine ⟨m, q1, q2, q3, hb7' r2 (by omega), ?_, by omega, r3⟩
            rw [take_succ' htk, q5, he73 (by omega)]
            congr 2; omega
          cases hb8 : bad7 with
          | false =>
            have h6 := (hb7 hb8).1
            obtain ⟨_, hlt6⟩ := hp6 h6
            subst hb8
            exact ih2 (n - j6) (by omega) τ2 p' (k + 1) c' (left - 1) j6 false _ rfl (by omega) (by omega) (fun _ => ⟨by omega, by omega⟩) hoffb hx2 ho2 htw2 hj6 hT2
          | true =>
            subst hb8
            refine ref13_Decode.pt30_of ⟨fun hlt => ⟨b, 0, rfl, true, ldL (L := rd1 b p n c j6 true) (i := 0) n1 rfl rfl, fun hb => (by cases hb), fun _ => done τ2 p' (k + 1) c' j6 true _ (fun hb => by cases hb) hoffb hx2 ho2 htw2 hj6 fun e0 ms0 ht => by obtain ⟨m, _, _, _, q4, _⟩ := hT2 e0 ms0 ht; cases q4⟩, fun _ => done τ2 p' (k + 1) c' j6 true _ (fun hb => by cases hb) hoffb hx2 ho2 htw2 hj6 fun e0 ms0 ht => by obtain ⟨m, _, _, _, q4, _⟩ := hT2 e0 ms0 ht; cases q4⟩
      · refine Eff.storeL (L := rd1 b p n c j6 bad6) (i := 0) (c := #[.slice p n c, .int .i64 j6, .bool bad6]) (c' := #[.slice p n c, .int .i64 j6, .bool true]) size4 n1 rfl rfl rfl rfl rfl ?_
        exact go true (fun h => by cases h) (fun h => by rw [hb6] at h; cases h)
      · refine Eff.storeL (L := rd1 b p n c j6 bad6) (i := 0) (c := #[.slice p n c, .int .i64 j6, .bool bad6]) (c' := #[.slice p n c, .int .i64 j6, .bool (decide ((4294967295 : Int) < (x58 : Int)))]) size4 n1 rfl rfl rfl rfl rfl ?_
        exact go (decide ((4294967295 : Int) < (x58 : Int))) (fun h => ⟨hb6, by simp at h; omega⟩) (fun _ h => by simp; omega)
end TwR
end
section
set_option linter.unusedVariables false
namespace TwR
open Go Tw

/-! What every law asks at its end -/
theorem ok1 {s : Int} {t : List Int} (h1 : 1 ≤ s) (h2 : s ≤ 3) (hr : Rise t) (h3 : 1 ≤ t.length) (h4 : t.length ≤ 4) : OkR [⟨0, s, t⟩] := by
  refine ⟨fun m hm => ?_, by simp [ids, Rise]⟩
  simp at hm; subst hm
  exact ⟨by simp, by simp, h1, h2, h3, by simp; omega, hr⟩
theorem place1 {s : Int} {t : List Int} : place [⟨0, s, t⟩] 0 = 0 := by simp [place]
theorem turn1 {f g s code : Int} {t : List Int} {ms' : List Mem} (h : CTurn f g [⟨0, s, t⟩] 0 code ms') (hs : s = f) : code = 0 ∧ ms' = [⟨0, g, t⟩] := by
  rcases h with ⟨h1, _⟩ | ⟨k, m, hk, hm, h⟩
  · rw [place1] at h1; omega
  · rw [place1] at hk
    obtain rfl : k = 0 := by omega
    simp at hm; subst hm
    rcases h with ⟨h1, _⟩ | ⟨_, h1, h2⟩
    · exact absurd hs h1
    · exact ⟨h1, by rw [h2]; simp⟩

theorem round1 {t : List Int} {hash : Int} (hok : OkR [⟨0, 2, t⟩]) : round [⟨0, 2, t⟩] hash = [0] := by
  have h1 := round_len (hash := hash) hok
  have h2 : actives [⟨0, 2, t⟩] = [0] := by simp [actives]
  rw [h2] at h1
  match hr : round [⟨0, 2, t⟩] hash, h1 with
  | [x], _ =>
    have : x ∈ actives [⟨0, 2, t⟩] := (round_mem (hash := hash) hok).1 (by rw [hr]; simp)
    rw [h2] at this
    simp at this; rw [this]

theorem awake_spec {R : Ending → Hp → Prop} {σ : Hp} (h : ∀ σ', Ext σ σ' → R (.returned (.bool true)) σ') : Spec prog law13_awake.fid #[] σ R := by
  refine law13_awake.start ?_
  have fit0 : Fit [] 0 0 := ⟨⟨by simp, by simp [ids, Rise]⟩, by decide, by decide, by decide⟩
  have hj : ∀ code ms', CJoin [] 0 code ms' → code = 0 ∧ ∃ t, Rise t ∧ 1 ≤ t.length ∧ t.length ≤ 4 ∧ (∀ y ∈ t, 0 ≤ y ∧ y < 4294967296) ∧ ms' = [⟨0, 1, t⟩] := by
    rintro code ms' (⟨h1, _⟩ | ⟨_, h1, i, t, _, _, _, h2, h3, h4, h5, h6⟩)
    · exact absurd (by simp [place]) h1
    · exact ⟨h1, t, h2, h3, h4, h5, by simpa using h6⟩
  refine joinR_spec (ms := []) RdS.nil ⟨by simp, by simp⟩ (by decide) ⟨fun hb => absurd fit0 hb, fun _ code ms' hC hne => absurd (hj code ms' hC).1 hne, fun _ p1 n1 c1 σ1 ms1 hC hr1 hx1 => ⟨_, _, _, _, _, rfl, ?_⟩⟩
  obtain ⟨_, t, ht, ht1, ht4, htw, rfl⟩ := hj _ _ hC
  have k1 := ok1 (s := 1) (by decide) (by decide) ht ht1 ht4
  have k2 := ok1 (s := 2) (by decide) (by decide) ht ht1 ht4
  have k3 := ok1 (s := 3) (by decide) (by decide) ht ht1 ht4
  have fit : ∀ {s e : Int}, OkR [⟨0, s, t⟩] → e ≠ top64 → Fit [⟨0, s, t⟩] e 0 := fun hk he => ⟨hk, he, by decide, by decide⟩
  refine activateR_spec hr1 k1.small (by decide) ⟨fun hb => absurd (fit k1 (by decide)) hb, fun _ code ms' hC hne => absurd (turn1 hC rfl).1 hne, fun _ p2 n2 c2 σ2 ms2 hC hr2 hx2 => ⟨_, _, _, _, _, rfl, ?_⟩⟩
  obtain ⟨_, rfl⟩ := turn1 hC rfl
  have hact : actives [⟨0, 2, t⟩] = [0] := by simp [actives]
  refine replicas_spec hr2 k2.small ⟨fun hb => absurd ⟨k2, by decide, by decide⟩ hb, fun _ _ _ hlt => ?_, fun _ _ _ k hk _ q d σ3 ho3 hx3 => ⟨_, _, _, _, rfl, ?_⟩⟩
  · rw [hact] at hlt; simp at hlt
  obtain rfl : k = 1 := by omega
  rw [round1 k2] at ho3
  have hr3 := hr2.mono' hx3
  refine replicas_spec hr3 k2.small ⟨fun hb => absurd ⟨k2, by decide, by decide⟩ hb, fun _ _ _ _ => ⟨_, _, _, _, rfl, ?_⟩, fun _ _ _ k hk hk2 => ?_⟩
  · refine encode_spec (e := 2) hr3 k2.small (by decide) ⟨fun hb => absurd k2 hb, fun _ p4 n4 c4 σ4 ho4 hx4 => ⟨_, _, _, _, rfl, ?_⟩⟩
    have htr : Tr (enc 2 [⟨0, 2, t⟩]) 2 [⟨0, 2, t⟩] := ⟨rfl, k2, fun m hm y hy => by simp at hm; subst hm; exact htw y hy, by decide⟩
    have hr4 := hr3.mono' hx4
    refine decode_spec (ho4.rd.mono (Ext.of_new _ _)) (enc_by8 (by decide)) ⟨fun hb => absurd htr (hb _ _), fun e5 ms5 p5 n5 c5 σ5 _ hu hr5 hx5 => ⟨_, _, _, _, _, rfl, ?_⟩⟩
    obtain ⟨rfl, rfl⟩ := hu _ _ htr
    have hr5' := hr4.mono' hx5
    refine leaveR_spec hr5' k2.small (by decide) ⟨fun hb => absurd (fit k2 (by decide)) hb, fun _ code ms' hC hne => absurd (turn1 hC rfl).1 hne, fun _ p6 n6 c6 σ6 ms6 hC hr6 hx6 => ⟨_, _, _, _, _, rfl, ?_⟩⟩
    obtain ⟨_, rfl⟩ := turn1 hC rfl
    have hg : ∀ code ms', CGone [⟨0, 3, t⟩] 0 code ms' → code = 0 ∧ ms' = [] := by
      rintro code ms' (⟨h1, _⟩ | ⟨k, m, hk, hm, h⟩)
      · rw [place1] at h1; omega
      · rw [place1] at hk
        obtain rfl : k = 0 := by omega
        simp at hm; subst hm
        rcases h with ⟨h1, _⟩ | ⟨_, h1, h2⟩
        · exact absurd rfl h1
        · exact ⟨h1, by rw [h2]; rfl⟩
    refine goneR_spec hr6 k3.small (by decide) ⟨fun hb => absurd (fit k3 (by decide)) hb, fun _ code ms' hC hne => absurd (hg _ _ hC).1 hne, fun _ p7 n7 c7 σ7 ms7 hC hr7 hx7 => ⟨_, _, _, _, _, rfl, ?_⟩⟩
    obtain ⟨_, rfl⟩ := hg _ _ hC
    have hx37 : Ext σ3 σ7 := ((hx4.trans hx5).trans hx6).trans hx7
    refine ⟨fun _ => ⟨fun _ => ⟨fun _ b69 hb69 => ?_, fun hn => absurd rfl hn⟩, fun hn => absurd rfl hn⟩, fun hn => absurd rfl hn⟩
    have hx8 : Ext σ7 (σ7.set b69 (.cells #[.int .i64 0] 3 (0, 0))) := .set hb69
    have hlit : RdI .i64 (σ7.set b69 (.cells #[.int .i64 0] 3 (0, 0))) (some ⟨b69, 0, none⟩) 1 [0] := .of_rdc ⟨rfl, by decide, .inr ⟨b69, 0, rfl, by simp [Hp.ld, Hp.set_same], trivial⟩⟩
    refine sameInts_spec (((ho3.rd.mono (Ext.of_new _ _)).mono hx37).mono hx8) hlit ⟨_, rfl, fun _ => ?_, fun hf => by simp at hf⟩
    refine ⟨fun _ => ⟨fun _ => ⟨fun _ => ?_, fun hn => absurd rfl hn⟩, fun hn => absurd rfl hn⟩, fun hn => absurd rfl hn⟩
    have hx58 : Ext σ5 (σ7.set b69 (.cells #[.int .i64 0] 3 (0, 0))) := (hx6.trans hx7).trans hx8
    have hrb := (hr5'.mono' hx58)
    refine sameRing_spec (RdM.mono' hx58 (RdM.mono' (Ext.of_new _ _) hr5)) hrb ⟨_, rfl, fun _ => ?_, fun hf => by simp at hf⟩
    refine ⟨fun _ => ⟨fun _ => ⟨fun _ => ⟨fun _ => ?_, fun hn => absurd (by have := hr7.1; simp at this; omega) hn⟩, fun hn => absurd rfl hn⟩, fun hn => absurd rfl hn⟩, fun hn => absurd rfl hn⟩
    refine state_spec hrb k2.small ⟨_, rfl, fun _ => ?_, fun hn => absurd (by simp [stateOf, k2]) hn⟩
    refine tokens_spec (x := 0) (by decide) fun p9 n9 c9 σ9 ys _ _ hx9 _ hn9 _ => ⟨_, _, _, rfl, fun _ b120 hb120 => ?_, fun hn => absurd (by omega) hn⟩
    have hlm : RdM (σ9.set b120 (.cells #[.int .i64 0, .int .i64 0, .slice none 0 0] 55 (0, 0))) (some ⟨b120, 0, none⟩) 1 [⟨0, 0, []⟩] := by
      refine ⟨rfl, [.int .i64 0, .int .i64 0, .slice none 0 0], ⟨rfl, by decide, .inr ⟨b120, 0, rfl, by simp [Hp.ld, Hp.set_same], by simp [Hp.ld, Hp.set_same], by simp [Hp.ld, Hp.set_same], trivial⟩⟩, Ch.one rfl (EMem.mk RdS.nil)⟩
    refine check_spec hlm ⟨by simp, by simp⟩ ⟨_, rfl, ?_⟩
    have hbad : ¬ OkR [⟨0, 0, []⟩] := fun hk => by have := (hk.1 _ (List.mem_singleton.2 rfl)).2.2.1; simp at this
    rw [show decide ((chk [⟨0, 0, []⟩] : Int) = 130) = true by simp [chk, hbad]]
    exact h _ ((((((hx1.trans hx2).trans hx3).trans hx37).trans hx8).trans hx9).trans (.set hb120))
  · rw [hact] at hk2; simp at hk2; omega
end TwR
end
section
set_option linter.unusedVariables false
namespace TwR
open Go Tw

/-! What the laws share -/
theorem Ext.into_del {σ σ' : Hp} {p : Option Addr} (h : Ext σ σ') (hp : ∀ a, p = some a → σ a.block = none) : Ext σ (σ'.del p) := fun b o hb =>
  del_some.2 ⟨fun a ha he => (by rw [he, hp a ha] at hb; cases hb), h b o hb⟩

def repOf (ms : List Mem) (hash rf : Int) : List Int × Int :=
  if OkR ms ∧ 1 ≤ rf ∧ rf ≤ 5 then (if ((actives ms).length : Int) < rf then ([], 133) else ((round ms hash).take rf.toNat, 0)) else ([], 130)

theorem RepR.uni {ms : List Mem} {hash rf : Int} {σ : Hp} {Φ : Option Addr → Nat → Nat → Int → Hp → Prop} (h : ∀ q k d σ', OwnI .i64 (σ.new σ') q k d (repOf ms hash rf).1 → Ext σ σ' → Φ q k d (repOf ms hash rf).2 σ') : RepR ms hash rf σ Φ := by
  constructor
  · intro hb
    have := h none 0 0 σ (by simp only [repOf, if_neg hb]; exact OwnI.nil) (.refl _)
    simpa only [repOf, if_neg hb] using this
  · intro hok h1 h5 hlt
    have e : repOf ms hash rf = ([], 133) := by simp only [repOf, if_pos (show OkR ms ∧ 1 ≤ rf ∧ rf ≤ 5 from ⟨hok, h1, h5⟩), if_pos hlt]
    have := h none 0 0 σ (by rw [e]; exact OwnI.nil) (.refl _)
    rwa [e] at this
  · intro hok h1 h5 k hk hle q d σ' ho hx
    subst hk
    have e : repOf ms hash k = ((round ms hash).take k, 0) := by
      simp only [repOf]
      rw [if_pos ⟨hok, h1, h5⟩, if_neg (by omega), Int.toNat_natCast]
    have := h q k d σ' (by rw [e]; exact ho) hx
    rwa [e] at this

/-! Spoiling -/
section
variable {R : Ending → Hp → Prop} {σ : Hp} {p p0 : Option Addr} {n n0 c c0 : Nat}
theorem size3 (w : World) : (Go.sizeOf 3).run prog w = .ok 1 w := Go.Proofs.Try.sizeOf3 w
theorem size5 (w : World) : (Go.sizeOf 5).run prog w = .ok 1 w := Go.Proofs.Try.sizeOf5 w

theorem fill9 (hn : n ≤ 4611686018427387904) : ∀ (d k : Nat) (τ : Hp) (ys : List Int), n - k = d → k ≤ n → OwnI .i64 τ p n c ys → Ext (σ.del p) (τ.del p) → (∀ σ' ys', OwnI .i64 σ' p n c ys' → Ext (σ.del p) (σ'.del p) → law0_SpoilInts.pt23 R p0 n0 c0 0 σ') →
    law0_SpoilInts.pt9 R p0 n0 c0 p n c k τ
  | 0, k, τ, ys, hd, hk, ho, hx, h => law0_SpoilInts.pt9_of ⟨fun hlt => by omega, fun _ => h τ ys ho hx⟩
  | d + 1, k, τ, ys, hd, hk, ho, hx, h => by
    refine law0_SpoilInts.pt9_of ⟨fun _ => ?_, fun hge => by omega⟩
    obtain ⟨b, o, hp, he⟩ := OwnI.stores (T := 3) (v := -77) (Ψ := fun σ1 => I64 ((k : Int) + 1) ∧ law0_SpoilInts.pt9 R p0 n0 c0 p n c ((k : Int) + 1) σ1) ho (i := k) (by omega) size3 fun σ' ho' hx' =>
      ⟨i64_succ (show k < n by omega) hn, fill9 hn d (k + 1) σ' _ (by omega) (by omega) ho' (hx.trans hx') h⟩
    exact ⟨b, o, hp, by omega, by rw [← hp]; simpa using he⟩

theorem fill23 (hn : n ≤ 4611686018427387904) : ∀ (d k : Nat) (τ : Hp) (ys : List Int), n - k = d → k ≤ n → OwnI .i64 τ p n c ys → Ext (σ.del p) (τ.del p) → (∀ σ', Ext (σ.del p) (σ'.del p) → R (.returned (.tuple #[])) σ') →
    law0_SpoilInts.pt23 R p n c k τ
  | 0, k, τ, ys, hd, hk, ho, hx, h => law0_SpoilInts.pt23_of ⟨fun hlt => by omega, fun _ => h τ hx⟩
  | d + 1, k, τ, ys, hd, hk, ho, hx, h => by
    refine law0_SpoilInts.pt23_of ⟨fun _ => ?_, fun hge => by omega⟩
    obtain ⟨b, o, hp, he⟩ := OwnI.stores (T := 3) (v := -77) (Ψ := fun σ1 => I64 ((k : Int) + 1) ∧ law0_SpoilInts.pt23 R p n c ((k : Int) + 1) σ1) ho (i := k) (by omega) size3 fun σ' ho' hx' =>
      ⟨i64_succ (show k < n by omega) hn, fill23 hn d (k + 1) σ' _ (by omega) (by omega) ho' (hx.trans hx') h⟩
    exact ⟨b, o, hp, by omega, by rw [← hp]; simpa using he⟩

theorem OwnI.of_own {ik : IntKind} {cs : List Value} {xs : List Int} (h : Own 1 σ p n c cs) (he : cs = xs.map (.int ik)) : OwnI ik σ p n c xs := by subst he; exact h

theorem spoilInts_spec {xs : List Int} (ho : OwnI .i64 σ p n c xs) (hb : n ≤ 1000000) (h : ∀ σ', Ext (σ.del p) σ' → R (.returned (.tuple #[])) σ') : Spec prog law0_SpoilInts.fid #[.slice p n c] σ R := by
  refine law0_SpoilInts.start fun b6 hb6 => ?_
  have hx0 : Ext σ (σ.set b6 (.cells #[.int .i64 (-77)] 3 (0, 0))) := .set hb6
  refine app_eff2 (ys := [.int .i64 (-77)]) (Own.mono hx0 ho) ⟨rfl, by decide, .inr ⟨b6, 0, rfl, by simp [Hp.ld, Hp.set_same], trivial⟩⟩ (OneC.map_int (xs := [-77])) (by omega) fun p' c' σ1 ho1 hx1 hcase => ⟨_, _, _, rfl, ?_⟩
  have ho1' : OwnI .i64 σ1 p' (n + 1) c' (xs ++ [-77]) := OwnI.of_own ho1 (by simp)
  refine fill9 (σ := σ1) (by omega) (n + 1) 0 σ1 _ (by omega) (by omega) ho1' (.refl _) fun σ2 ys ho2 hx2 => ?_
  rcases hcase with ⟨rfl, rfl, hle⟩ | ⟨hlt, hx, hnb⟩
  · have ho2' : OwnI .i64 σ2 p' n c' (ys.take n) := OwnI.of_own (Own.take ho2 (Nat.le_succ n)) (by simp [List.map_take])
    exact fill23 (σ := σ2) (by omega) n 0 σ2 _ (by omega) (by omega) ho2' (.refl _) fun σ3 hx3 => h σ3 ((((hx0.del p').trans hx1).trans hx2).trans hx3 |>.trans (Ext.of_del _ _))
  · have hxa : Ext σ (σ1.del p') := Ext.into_del (hx0.trans hx) fun a ha => ext_none hx0 (hnb a ha)
    have hxb : Ext σ σ2 := (hxa.trans hx2).trans (Ext.of_del _ _)
    exact fill23 (σ := σ2) (by omega) n 0 σ2 _ (by omega) (by omega) (Own.mono hxb ho) (.refl _) fun σ3 hx3 => h σ3 (((hxb.del p).trans hx3).trans (Ext.of_del _ _))
end

theorem wrap64_nat {x : Nat} (h : x < 9223372036854775808) : IntKind.i64.wrap (x : Int) = x := by
  simp [IntKind.wrap, IntKind.bits, IntKind.signed]; omega
theorem low_pos (x : Int) : 0 ≤ Go.bits .and .i64 x 9223372036854775807 := by
  unfold Go.bits
  show 0 ≤ IntKind.i64.wrap ((BitVec.ofInt 64 x &&& BitVec.ofInt 64 9223372036854775807).toNat : Int)
  have h : (BitVec.ofInt 64 x &&& BitVec.ofInt 64 9223372036854775807).toNat < 9223372036854775808 := by
    rw [BitVec.toNat_and, show (BitVec.ofInt 64 9223372036854775807).toNat = 2 ^ 63 - 1 by decide, Nat.and_two_pow_sub_one_eq_mod]
    exact Nat.mod_lt _ (by decide)
  rw [wrap64_nat h]; omega

theorem stateOf_active {ms : List Mem} {x : Int} (hok : OkR ms) (h : x ∈ actives ms) : stateOf ms x = 2 := by
  unfold actives at h
  obtain ⟨m, hm, rfl⟩ := List.mem_map.1 h
  obtain ⟨hm, hs⟩ := List.mem_filter.1 hm
  have hs : m.state = 2 := by simpa using hs
  obtain ⟨k, hk⟩ := List.getElem?_of_mem hm
  have : ms.find? (fun u => decide (u.id = m.id)) = some m := by
    refine find_of hk rfl fun u hu he => ?_
    obtain ⟨j, hj⟩ := List.getElem?_of_mem hu
    have hjk : j < k := by have := (List.getElem?_eq_some_iff.1 hj).1; simp at this; omega
    rw [List.getElem?_take, if_pos hjk] at hj
    have := rise_get hok.2 hjk (ids_at hj) (ids_at hk)
    omega
  simp [stateOf, hok, this, hs]
end TwR
end
section
set_option linter.unusedVariables false
namespace TwR
open Go Tw

/-! A ring with one member more -/
def ins (ms : List Mem) (i : Nat) (x : Int) (t : List Int) (s : Int) : List Mem := ms.take i ++ [⟨x, s, t⟩] ++ ms.drop i

structure Ins (ms : List Mem) (i : Nat) (x : Int) (t : List Int) : Prop where
  ok : OkR ms
  x0 : 0 ≤ x
  x16 : x < 16
  le : i ≤ ms.length
  lo : ∀ m ∈ ms.take i, m.id < x
  hi : ∀ m ∈ ms.drop i, x < m.id
  rt : Rise t
  t1 : 1 ≤ t.length
  t4 : t.length ≤ 4

section
variable {ms : List Mem} {i : Nat} {x s : Int} {t : List Int}
theorem ins_of {code : Int} {ms' : List Mem} (hok : OkR ms) (h0 : 0 ≤ x) (h16 : x < 16) (hpl : place ms x = -1) (h : CJoin ms x code ms') : code = 0 ∧ ∃ i t, Ins ms i x t ∧ ms' = ins ms i x t 1 := by
  rcases h with ⟨h1, _⟩ | ⟨_, h1, i, t, hi, hlo, hge, hr, h3, h4, _, h6⟩
  · exact absurd hpl h1
  refine ⟨h1, i, t, ⟨hok, h0, h16, hi, hlo, fun m hm => ?_, hr, h3, h4⟩, h6⟩
  have hne : ∀ u ∈ ms, u.id ≠ x := by
    rcases place_cases ms x with ⟨_, h⟩ | ⟨k, m, hk, _⟩
    · exact h
    · rw [hk] at hpl; omega
  obtain ⟨j, hj⟩ := List.getElem?_of_mem hm
  rw [List.getElem?_drop] at hj
  have hil : i < ms.length := by have := (List.getElem?_eq_some_iff.1 hj).1; omega
  have hi' : ms[i]? = some ms[i] := List.getElem?_eq_getElem hil
  have h1 := hge _ hi'
  have h2 := hne _ (List.getElem_mem hil)
  rcases Nat.eq_zero_or_pos j with rfl | hjp
  · rw [Nat.add_zero, hi'] at hj; cases hj; omega
  · have := rise_get hok.2 (show i < i + j by omega) (ids_at hi') (ids_at hj)
    omega
theorem Ins.ne (h : Ins ms i x t) : ∀ m ∈ ms, m.id ≠ x := fun m hm => by
  rw [← List.take_append_drop i ms] at hm
  rcases List.mem_append.1 hm with hm | hm
  · have := h.lo m hm; omega
  · have := h.hi m hm; omega
theorem Ins.okR (h : Ins ms i x t) (h1 : 1 ≤ s) (h3 : s ≤ 3) : OkR (ins ms i x t s) := by
  refine ⟨fun m hm => ?_, ?_⟩
  · simp only [ins, List.mem_append, List.mem_singleton] at hm
    rcases hm with (hm | rfl) | hm
    · exact h.ok.1 m (List.mem_of_mem_take hm)
    · exact ⟨h.x0, h.x16, h1, h3, h.t1, by have := h.t4; simp; omega, h.rt⟩
    · exact h.ok.1 m (List.mem_of_mem_drop hm)
  · have hs := h.ok.2
    unfold Rise ids at *
    rw [← List.take_append_drop i ms, List.map_append, List.pairwise_append] at hs
    simp only [ins, List.map_append, List.map_cons, List.map_nil]
    rw [List.pairwise_append, List.pairwise_append]
    refine ⟨⟨hs.1, by simp, fun a ha b hb => ?_⟩, hs.2.1, fun a ha b hb => ?_⟩
    · obtain ⟨m, hm, rfl⟩ := List.mem_map.1 ha
      simp at hb; subst hb; exact h.lo m hm
    · obtain ⟨u, hu, rfl⟩ := List.mem_map.1 hb
      rcases List.mem_append.1 ha with ha | ha
      · obtain ⟨m, hm, rfl⟩ := List.mem_map.1 ha
        have := h.lo m hm; have := h.hi u hu; omega
      · simp at ha; subst ha; exact h.hi u hu
theorem Ins.tl (h : Ins ms i x t) : (ms.take i).length = i := by rw [List.length_take]; have := h.le; omega
theorem Ins.get (h : Ins ms i x t) : (ins ms i x t s)[i]? = some ⟨x, s, t⟩ := by
  have := h.tl
  simp [ins, List.getElem?_append, this]
theorem Ins.place (h : Ins ms i x t) : place (ins ms i x t s) x = i := by
  refine place_some h.get rfl fun m hm => ?_
  have := h.tl
  have e : (ins ms i x t s).take i = ms.take i := by simp only [ins, List.append_assoc]; rw [List.take_append_of_le_length (by omega), List.take_of_length_le (by omega)]
  rw [e] at hm
  have := h.lo m hm; omega
theorem Ins.set (h : Ins ms i x t) {g : Int} : (ins ms i x t s).set i ⟨x, g, t⟩ = ins ms i x t g := by
  have := h.tl
  simp [ins, List.set_append, this]
theorem Ins.erase (h : Ins ms i x t) : (ins ms i x t s).eraseIdx i = ms := by
  have := h.tl
  simp only [ins, List.append_assoc]
  rw [List.eraseIdx_append_of_length_le (by omega), this]
  simp
theorem Ins.turn {f g code : Int} {ms' : List Mem} (h : Ins ms i x t) (hC : CTurn f g (ins ms i x t s) x code ms') : (s = f → code = 0 ∧ ms' = ins ms i x t g) ∧ (s ≠ f → code = 132) := by
  rcases hC with ⟨h1, _⟩ | ⟨k, m, hk, hm, hc⟩
  · rw [h.place] at h1; omega
  · rw [h.place] at hk
    obtain rfl : i = k := by omega
    rw [h.get] at hm
    cases hm
    rcases hc with ⟨h1, h2⟩ | ⟨h1, h2, h3⟩
    · exact ⟨fun he => absurd he h1, fun _ => h2⟩
    · exact ⟨fun _ => ⟨h2, by rw [h3]; exact h.set⟩, fun hn => absurd h1 hn⟩
theorem Ins.gone {code : Int} {ms' : List Mem} (h : Ins ms i x t) (hC : CGone (ins ms i x t s) x code ms') : (s = 3 → code = 0 ∧ ms' = ms) ∧ (s ≠ 3 → code = 132) := by
  rcases hC with ⟨h1, _⟩ | ⟨k, m, hk, hm, hc⟩
  · rw [h.place] at h1; omega
  · rw [h.place] at hk
    obtain rfl : i = k := by omega
    rw [h.get] at hm
    cases hm
    rcases hc with ⟨h1, h2⟩ | ⟨h1, h2, h3⟩
    · exact ⟨fun he => absurd he h1, fun _ => h2⟩
    · exact ⟨fun _ => ⟨h2, by rw [h3]; exact h.erase⟩, fun hn => absurd h1 hn⟩
theorem Ins.again {code : Int} {ms' : List Mem} (h : Ins ms i x t) (hC : CJoin (ins ms i x t s) x code ms') : code = 131 := by
  rcases hC with ⟨_, h1⟩ | ⟨h1, _⟩
  · exact h1
  · rw [h.place] at h1; omega
theorem Ins.none {code : Int} {ms' : List Mem} (h : Ins ms i x t) (hC : CGone ms x code ms') : code = 131 := by
  rcases hC with ⟨_, h1⟩ | ⟨k, m, hk, hm, _⟩
  · exact h1
  · rw [place_none h.ne] at hk; omega
theorem Ins.state (h : Ins ms i x t) (h1 : 1 ≤ s) (h3 : s ≤ 3) : stateOf (ins ms i x t s) x = s := by
  have : (ins ms i x t s).find? (fun m => decide (m.id = x)) = some ⟨x, s, t⟩ := by
    refine find_of h.get rfl fun m hm => ?_
    have := h.tl
    have e : (ins ms i x t s).take i = ms.take i := by simp only [ins, List.append_assoc]; rw [List.take_append_of_le_length (by omega), List.take_of_length_le (by omega)]
    rw [e] at hm
    have := h.lo m hm; omega
  simp [stateOf, h.okR h1 h3, this]
theorem Ins.fit (h : Ins ms i x t) (h1 : 1 ≤ s) (h3 : s ≤ 3) {e : Int} (he : e ≠ top64) : Fit (ins ms i x t s) e x := ⟨h.okR h1 h3, he, h.x0, h.x16⟩
theorem Ins.small (h : Ins ms i x t) (h1 : 1 ≤ s) (h3 : s ≤ 3) : Small (ins ms i x t s) := (h.okR h1 h3).small
end

/-! A change of a copy -/
def OpOk (f : Nat) (C : List Mem → Int → Int → List Mem → Prop) : Prop := ∀ (R : Ending → Hp → Prop) (σ : Hp) (e x : Int) (p : Option Addr) (n c : Nat) (ms : List Mem), RdM σ p n ms → Small ms → (0 ≤ e ∧ e ≤ top64) →
  ChR C ms e x σ (fun e' p' n' c' code σ' => R (.returned (.tuple #[vRing e' p' n' c', .int .i64 code])) σ') → Spec prog f #[vRing e p n c, .int .i64 x] σ R
theorem opJoin : OpOk ring_Join.fid CJoin := fun _ _ _ _ _ _ _ _ h1 h2 h3 h4 => joinR_spec h1 h2 h3 h4
theorem opActivate : OpOk ring_Activate.fid (CTurn 1 2) := fun _ _ _ _ _ _ _ _ h1 h2 h3 h4 => activateR_spec h1 h2 h3 h4
theorem opLeave : OpOk ring_Leave.fid (CTurn 2 3) := fun _ _ _ _ _ _ _ _ h1 h2 h3 h4 => leaveR_spec h1 h2 h3 h4
theorem opGone : OpOk ring_Gone.fid CGone := fun _ _ _ _ _ _ _ _ h1 h2 h3 h4 => goneR_spec h1 h2 h3 h4

section
variable {f : Nat} {C : List Mem → Int → Int → List Mem → Prop} {R : Ending → Hp → Prop} {σ : Hp} {e x k : Int} {p : Option Addr} {n c : Nat} {ms ms2 : List Mem} {Φ : Int → Option Addr → Nat → Nat → Int → Hp → Prop}
theorem cp_err (hop : OpOk f C) (hr : RdM σ p n ms) (hs : Small ms) (he : 0 ≤ e ∧ e ≤ top64) (hf : Fit ms e x) (hC : ∀ code ms', C ms x code ms' → code = k) (hk : k ≠ 0) (h : ∀ σ', Ext σ σ' → Φ 0 none 0 0 k σ') :
    Spec prog law0_CopyRing.fid #[vRing e p n c] σ (Cont R (fun v σ1 => ∃ a : Int, ∃ q : Option Addr, ∃ m : Nat, ∃ d : Nat, v = vRing a q m d ∧ Spec prog f #[vRing a q m d, .int .i64 x] σ1 (Cont R (fun v σ2 => ∃ a : Int, ∃ q : Option Addr, ∃ m : Nat, ∃ d : Nat, ∃ y : Int, v = .tuple #[vRing a q m d, .int .i64 y] ∧ Φ a q m d y σ2)))) := by
  refine copyRing_spec hr hs fun p2 c2 σ2 ho2 hx2 => ⟨_, _, _, _, rfl, ?_⟩
  have hr2 : RdM σ2 p2 n ms := (OwnL.rd EMem.mono ho2).mono EMem.mono (Ext.of_new _ _)
  refine hop _ _ _ _ _ _ _ _ hr2 hs he ⟨fun hb => absurd hf hb, fun _ code ms' hc hne => ⟨_, _, _, _, _, rfl, ?_⟩, fun _ p' n' c' σ' ms' hc hr' hx' => absurd (hC _ _ hc).symm hk⟩
  rw [hC _ _ hc]; exact h σ2 hx2
theorem cp_ok (hop : OpOk f C) (hr : RdM σ p n ms) (hs : Small ms) (he : 0 ≤ e ∧ e ≤ top64) (hf : Fit ms e x) (hC : ∀ code ms', C ms x code ms' → code = 0 ∧ ms' = ms2) (h : ∀ p' n' c' σ', RdM σ' p' n' ms2 → Ext σ σ' → Φ (e + 1) p' n' c' 0 σ') :
    Spec prog law0_CopyRing.fid #[vRing e p n c] σ (Cont R (fun v σ1 => ∃ a : Int, ∃ q : Option Addr, ∃ m : Nat, ∃ d : Nat, v = vRing a q m d ∧ Spec prog f #[vRing a q m d, .int .i64 x] σ1 (Cont R (fun v σ2 => ∃ a : Int, ∃ q : Option Addr, ∃ m : Nat, ∃ d : Nat, ∃ y : Int, v = .tuple #[vRing a q m d, .int .i64 y] ∧ Φ a q m d y σ2)))) := by
  refine copyRing_spec hr hs fun p2 c2 σ2 ho2 hx2 => ⟨_, _, _, _, rfl, ?_⟩
  have hr2 : RdM σ2 p2 n ms := (OwnL.rd EMem.mono ho2).mono EMem.mono (Ext.of_new _ _)
  refine hop _ _ _ _ _ _ _ _ hr2 hs he ⟨fun hb => absurd hf hb, fun _ code ms' hc hne => absurd (hC _ _ hc).1 hne, fun _ p' n' c' σ' ms' hc hr' hx' => ⟨_, _, _, _, _, rfl, ?_⟩⟩
  obtain ⟨_, rfl⟩ := hC _ _ hc
  exact h p' n' c' σ' hr' (hx2.trans hx')
theorem cp_join (hr : RdM σ p n ms) (hs : Small ms) (he : 0 ≤ e ∧ e ≤ top64) (herr : ∀ code σ', code ≠ 0 → Ext σ σ' → Φ 0 none 0 0 code σ')
    (h : e ≠ top64 → ∀ i t, Ins ms i x t → ∀ p' n' c' σ', RdM σ' p' n' (ins ms i x t 1) → Ext σ σ' → Φ (e + 1) p' n' c' 0 σ') :
    Spec prog law0_CopyRing.fid #[vRing e p n c] σ (Cont R (fun v σ1 => ∃ a : Int, ∃ q : Option Addr, ∃ m : Nat, ∃ d : Nat, v = vRing a q m d ∧ Spec prog ring_Join.fid #[vRing a q m d, .int .i64 x] σ1 (Cont R (fun v σ2 => ∃ a : Int, ∃ q : Option Addr, ∃ m : Nat, ∃ d : Nat, ∃ y : Int, v = .tuple #[vRing a q m d, .int .i64 y] ∧ Φ a q m d y σ2)))) := by
  refine copyRing_spec hr hs fun p2 c2 σ2 ho2 hx2 => ⟨_, _, _, _, rfl, ?_⟩
  have hr2 : RdM σ2 p2 n ms := (OwnL.rd EMem.mono ho2).mono EMem.mono (Ext.of_new _ _)
  refine joinR_spec hr2 hs he ⟨fun hb => ⟨_, _, _, _, _, rfl, herr _ _ (by decide) hx2⟩, fun _ code ms' hc hne => ⟨_, _, _, _, _, rfl, herr _ _ hne hx2⟩, fun hf p' n' c' σ' ms' hc hr' hx' => ⟨_, _, _, _, _, rfl, ?_⟩⟩
  have hpl : place ms x = -1 := by
    rcases hc with ⟨_, h1⟩ | ⟨h1, _⟩
    · exact absurd h1 (by decide)
    · exact h1
  obtain ⟨_, i, t, hi, rfl⟩ := ins_of hf.1 hf.2.2.1 hf.2.2.2 hpl hc
  exact h hf.2.1 i t hi p' n' c' σ' hr' (hx2.trans hx')
end
end TwR
end
section
set_option linter.unusedVariables false
namespace TwR
open Go Tw

theorem ringRounds_law {R : Ending → Hp → Prop} {σ : Hp} {e x : Int} {p : Option Addr} {n c : Nat} {ms : List Mem} (hr : RdM σ p n ms) (hs : Small ms) (he : 0 ≤ e ∧ e ≤ top64)
    (h : ∀ σ', Ext σ σ' → R (.returned (.bool true)) σ') : Spec prog law13_RingRounds.fid #[vRing e p n c, .int .i64 x] σ R := by
  have fin : ∀ τ, Ext σ τ → Spec prog 14 #[] τ (Cont R (fun v σ1 => ∃ t, v = .bool t ∧ R (.returned (.bool t)) σ1)) := fun τ hx => awake_spec fun σ' hx' => ⟨_, rfl, h σ' (hx.trans hx')⟩
  refine law13_RingRounds.start (cp_join hr hs he (fun code σ1 hne hx1 => ⟨fun _ => fin _ hx1, fun hn => absurd hne hn⟩) fun htop i t hI pa na ca σ1 hra hx1 => ⟨fun hne => absurd rfl hne, fun _ => ⟨fun _ => fin _ hx1, fun hle => ?_⟩⟩)
  have f1 : ∀ {s e' : Int}, 1 ≤ s → s ≤ 3 → e' ≤ e + 3 → Fit (ins ms i x t s) e' x := fun h1 h3 hle' => hI.fit h1 h3 (by unfold top64; omega)
  have b1 : 0 ≤ e + 1 ∧ e + 1 ≤ top64 := by unfold top64; omega
  have b2 : 0 ≤ e + 1 + 1 ∧ e + 1 + 1 ≤ top64 := by unfold top64; omega
  have b3 : 0 ≤ e + 1 + 1 + 1 ∧ e + 1 + 1 + 1 ≤ top64 := by unfold top64; omega
  have b4 : 0 ≤ e + 1 + 1 + 1 + 1 ∧ e + 1 + 1 + 1 + 1 ≤ top64 := by unfold top64; omega
  have s1 := hI.small (s := 1) (by decide) (by decide)
  have s2 := hI.small (s := 2) (by decide) (by decide)
  have s3 := hI.small (s := 3) (by decide) (by decide)
  refine cp_err (k := 131) opJoin hra s1 b1 (f1 (by decide) (by decide) (by omega)) (fun _ _ hC => hI.again hC) (by decide) fun σ2 hx2 => ?_
  have hra2 := hra.mono' hx2
  refine cp_err (k := 132) opLeave hra2 s1 b1 (f1 (by decide) (by decide) (by omega)) (fun _ _ hC => (hI.turn hC).2 (by decide)) (by decide) fun σ3 hx3 => ?_
  have hra3 := hra2.mono' hx3
  refine cp_ok (ms2 := ins ms i x t 2) opActivate hra3 s1 b1 (f1 (by decide) (by decide) (by omega)) (fun _ _ hC => (hI.turn hC).1 rfl) fun pb nb cb σ4 hrb hx4 => ?_
  refine cp_err (k := 132) opActivate hrb s2 b2 (f1 (by decide) (by decide) (by omega)) (fun _ _ hC => (hI.turn hC).2 (by decide)) (by decide) fun σ5 hx5 => ?_
  have hrb5 := hrb.mono' hx5
  refine cp_err (k := 132) opGone hrb5 s2 b2 (f1 (by decide) (by decide) (by omega)) (fun _ _ hC => (hI.gone hC).2 (by decide)) (by decide) fun σ6 hx6 => ?_
  have hrb6 := hrb5.mono' hx6
  refine cp_ok (ms2 := ins ms i x t 3) opLeave hrb6 s2 b2 (f1 (by decide) (by decide) (by omega)) (fun _ _ hC => (hI.turn hC).1 rfl) fun pc nc cc σ7 hrc hx7 => ?_
  refine cp_ok (ms2 := ms) opGone hrc s3 b3 (f1 (by decide) (by decide) (by omega)) (fun _ _ hC => (hI.gone hC).1 rfl) fun pd nd cd σ8 hrd hx8 => ?_
  refine cp_err (k := 131) opGone hrd hs b4 ⟨hI.ok, by unfold top64; omega, hI.x0, hI.x16⟩ (fun _ _ hC => hI.none hC) (by decide) fun σ9 hx9 => ?_
  intro y hy
  have hy' : y = e := by rw [hy, show e + 1 + 1 + 1 + 1 - 4 = e by omega]; simp [IntKind.wrap, IntKind.bits, IntKind.signed]; unfold top64 at he; omega
  subst hy'
  have x49 : Ext σ4 σ9 := (((hx5.trans hx6).trans hx7).trans hx8).trans hx9
  have x19 : Ext σ1 σ9 := ((hx2.trans hx3).trans hx4).trans x49
  have x09 : Ext σ σ9 := hx1.trans x19
  refine ⟨fun _ => ⟨fun _ => ⟨fun _ => ⟨fun _ => ⟨fun _ => ⟨fun _ => ⟨fun _ => ⟨fun _ => ?_, fun hn => absurd rfl hn⟩, fun hn => absurd rfl hn⟩, fun hn => absurd rfl hn⟩, fun hn => absurd rfl hn⟩, fun hn => absurd rfl hn⟩, fun hn => absurd rfl hn⟩, fun hn => absurd rfl hn⟩, fun hn => absurd rfl hn⟩
  refine sameRing_spec (hrd.mono' hx9) (hr.mono' x09) ⟨_, rfl, fun _ => ?_, fun hf => by simp at hf⟩
  refine state_spec (hra.mono' x19) s1 ⟨_, rfl, fun _ => ?_, fun hn => absurd (hI.state (by decide) (by decide)) hn⟩
  refine state_spec (hrb.mono' x49) s2 ⟨_, rfl, fun _ => ?_, fun hn => absurd (hI.state (by decide) (by decide)) hn⟩
  refine state_spec (hrc.mono' (hx8.trans hx9)) s3 ⟨_, rfl, fun _ => ?_, fun hn => absurd (hI.state (by decide) (by decide)) hn⟩
  exact fin _ x09
end TwR
end
section
/-
  Tw, part N: from a contract to a row: what an argument reads as; what a law leaves.
-/
set_option linter.unusedVariables false
namespace Tw
open Go Go.RowKit Go.ChangeShapes Go.WideShapes Go.Deep

/-- All that a memory holds. -/
def full (w : World) : Hp := fun b => w.heap[b]?
theorem full_sat (w : World) : Sat (full w) w := fun _ _ h => h
theorem full_ld {w : World} {a : Addr} {v : Value} (h : w.cell? a = some v) : (full w).ld a = some v := h

theorem below_of {w w' : World} {σ' : Hp} (hx : Ext (full w) σ') (hs : Sat σ' w') (ho : SameOs w w') (hout : w'.output = w.output) (hg : w.heap.size ≤ w'.heap.size) : Below w.heap.size w w' :=
  ⟨ho.1, ho.2.1, hout, hg, fun k hk => by
    have h1 : w.heap[k]? = some w.heap[k] := Array.getElem?_eq_getElem hk
    rw [h1]; exact hs _ _ (hx _ _ h1)⟩

/-- A law: true, and all that was there stays. -/
def Lawful (P : Program) (f : FuncId) (args : Array Value) (w : World) : Prop := Spec P f args (full w) (fun e σ' => e = .returned (.bool true) ∧ Ext (full w) σ')
theorem Lawful.calls {P : Program} {f : FuncId} {args : Array Value} {w : World} (h : Lawful P f args w) : Calls P f args w fun e w' => e = .returned (.bool true) ∧ Below w.heap.size w w' :=
  (h w (fun _ => False) (full_sat w) (fun _ h => h.elim)).mono fun e w' ⟨σ', ⟨he, hx⟩, hf⟩ => ⟨he, below_of hx hf.sat hf.os hf.out hf.grow⟩

section
variable {H : Type} {enc : TypeId × Value → H} {P : Program}

theorem trodAll_below (hl : laidOutB P = true) {W W' : World} (hb : Below W.heap.size W W') : ∀ {ts : List TypeId} {vs : List Value} {ds : List (DataW H)} {ps : List MemPlace}, (ts.all fun t => P.readableRec t && Nat.blt t P.types.size) = true → (∀ x ∈ ps, x.block < W.heap.size) →
    DataW.TrodAll enc P W 0 (fun _ => true) true ts vs ds ps → DataW.TrodAll enc P W' 0 (fun b => decide (b < W.heap.size)) true ts vs ds ps
  | [], [], [], ps, _, _, h => h
  | t :: ts, v :: vs, d :: ds, ps, hr, hlt, ⟨p, q, h1, h2, e⟩ => by
    simp only [List.all_cons, Bool.and_eq_true] at hr
    subst e
    exact ⟨p, q, Below.trod hl hr.1.1 (Nat.le_of_ble_eq_true hr.1.2) h1 hb (fun x hx => hlt x (List.mem_append_left _ hx)), trodAll_below hl hb hr.2 (fun x hx => hlt x (List.mem_append_right _ hx)) h2, rfl⟩
  | [], _ :: _, _, _, _, _, h => h.elim
  | [], [], _ :: _, _, _, _, h => h.elim
  | _ :: _, [], _, _, _, _, h => h.elim
  | _ :: _, _ :: _, [], _, _, _, h => h.elim

/-- What a law leaves. -/
theorem law_post {f : Func} {s : ChangeSpec} {W W' : World} {args : Array Value} {ds gs : List (DataW H)} {before : List MemPlace} {tb : TypeId} (hl : laidOutB P = true) (hr : (f.params.toList.all fun t => P.readableRec t && Nat.blt t P.types.size) = true)
    (hrt : f.resultTypes = #[tb]) (htb : P.underlying tb = some .bool) (hv : s.vars = []) (hfn : (s.fn H (ds ++ gs)).results = [.lit (.bool true)] ∧ (s.fn H (ds ++ gs)).args = ds ∧ (s.fn H (ds ++ gs)).vars = [])
    (hW : DataW.Whole enc P f.params.toList s.vars false W args.toList ds gs before) (hb : Below W.heap.size W W') : s.post enc P f false true false false W args (.bool true) W' := by
  have hlt : ∀ p ∈ before, p.block < W.heap.size := fun p hp => hW.lt p hp
  have hW' := hW
  obtain ⟨p, q, hA, hV, rfl, hfz, _⟩ := hW'
  refine ⟨ds, gs, p ++ q, [], p, [], hW, ?_, ?_, ?_, World.keptBut_mono (fun x hx => ⟨hx, ?_⟩) (hb.frame (· ∈ p ++ q)), fun h => by cases h⟩
  · rw [hfn.1, hrt]
    exact trodAll_mk1 (shut_bool htb true)
  · rw [hfn.2.1]
    exact trodAll_below hl hb hr (fun x hx => hlt x (List.mem_append_left _ hx)) hA
  · rw [hfn.2.2, hv]; rfl
  · rw [hv] at hV
    have : q = [] := by
      cases gs with
      | nil => exact hV
      | cons _ _ => exact hV.elim
    subst this
    exact .inr (.inl (by simpa using hx))

/-! What values read as -/
def Rdt (P : Program) {α : Type} (t : TypeId) (E : Hp → List Value → α → Prop) (I : α → Prop) : Prop :=
  ∀ {H : Type} {enc : TypeId × Value → H} {w : World} {base : Nat} {sp : Nat → Bool} {held : Bool} {fuel : Nat} {cs : List Value} {x : DataW H × List MemPlace},
    DataW.trod enc P w base sp held fuel t cs = some x → (∀ n ∈ x.1.weights P t, n ≤ reachBytes) → ∃ y, E (full w) cs y ∧ I y

theorem Rdt.int {t : TypeId} {k : IntKind} (ht : P.underlying t = some (.int k)) : Rdt P t (EInt k) (fun x => (Lit.int k x).wf = true) := fun h _ => by
  obtain ⟨n, rfl, rfl, hw⟩ := DataW.trod_int ht h
  exact ⟨n, rfl, hw⟩

theorem weights_mem {e : TypeId} : ∀ {l : List (DataW H)} {d : DataW H}, d ∈ l → ∀ n ∈ d.weights P e, n ∈ DataW.weightsAll P e l
  | x :: l, d, hd, n, hn => by
    simp only [DataW.weightsAll, List.mem_append]
    rcases List.mem_cons.1 hd with rfl | hd
    · exact .inl hn
    · exact .inr (weights_mem hd n hn)
theorem weights_each {n : Nat} : ∀ {ts : List TypeId} {l : List (DataW H)} {j : Nat} {t : TypeId} {d : DataW H}, ts[j]? = some t → l[j]? = some d → n ∈ d.weights P t → n ∈ DataW.weightsEach P ts l := fun ht hd hn => DataW.weights_mem_each ht hd n hn

theorem LdL.snoc {σ : Hp} {b : Nat} : ∀ {l m : List Value} {o : Nat}, LdL σ b o l → LdL σ b (o + l.length) m → LdL σ b o (l ++ m)
  | [], m, o, _, h => by simpa using h
  | v :: l, m, o, h, h' => ⟨h.1, LdL.snoc h.2 (by simpa [Nat.add_assoc, Nat.add_comm 1] using h')⟩

theorem RdS.mk' {α : Type} {s : Nat} {E : Hp → List Value → α → Prop} {I : α → Prop} {σ : Hp} {b o : Nat} : ∀ {n : Nat}, n ≤ 4611686018427387904 → (∀ i, i < n → ∃ vs x, vs.length = s ∧ LdL σ b (o + i * s) vs ∧ E σ vs x ∧ I x) →
    ∃ xs, RdS s E σ (some ⟨b, o, none⟩) n xs ∧ ∀ x ∈ xs, I x
  | 0, _, _ => ⟨[], RdS.nil, by simp⟩
  | n + 1, hn, h => by
    obtain ⟨xs, ⟨h1, cs, ⟨hl, _, h2⟩, h3⟩, hI⟩ := RdS.mk' (n := n) (by omega) (fun i hi => h i (by omega))
    obtain ⟨vs, x, hv, hld, hE, hx⟩ := h n (by omega)
    have hcs : LdL σ b o cs := by
      rcases h2 with rfl | ⟨b', o', hp, hl'⟩
      · have : cs = [] := List.eq_nil_of_length_eq_zero (by simpa using hl)
        subst this; trivial
      · cases hp; exact hl'
    refine ⟨xs ++ [x], ⟨by simp [h1], cs ++ vs, ⟨by rw [List.length_append, hl, hv, Nat.add_mul]; omega, hn, .inr ⟨b, o, rfl, hcs.snoc (by rw [hl]; exact hld)⟩⟩, h3.snoc hv hE⟩, fun y hy => ?_⟩
    rcases List.mem_append.1 hy with hy | hy
    · exact hI y hy
    · simp at hy; subst hy; exact hx

def ESl {α : Type} (s : Nat) (E : Hp → List Value → α → Prop) (σ : Hp) (vs : List Value) (xs : List α) : Prop := ∃ p n c, vs = [.slice p n c] ∧ RdS s E σ p n xs

theorem cell_spot {w : World} {a : Addr} {v : Value} (h : w.cell? a = some v) : a.spot = none := by
  unfold World.cell? at h
  split at h
  · split at h
    · cases h
    · rename_i hs; simpa using hs
  · cases h

theorem Rdt.slice {α : Type} {t e : TypeId} {s bs : Nat} {E : Hp → List Value → α → Prop} {I : α → Prop} (ht : P.underlying t = some (.slice e)) (hs : P.cellsOf e = s) (hbs : P.bytesOf e = bs) (hs0 : 0 < s) (hb0 : 0 < bs) (he : Rdt P e E I) :
    Rdt P t (ESl s E) (fun xs => (∀ x ∈ xs, I x) ∧ xs.length * bs ≤ reachBytes) := by
  intro H enc w base sp held fuel cs x h hw
  subst hs hbs
  rcases open_slice ht h with ⟨rfl, rfl⟩ | ⟨a, len, cap, m, n, D, Pl, rfl, hb, hl, hm, hmm, rfl, hi⟩
  · exact ⟨[], ⟨none, 0, 0, rfl, RdS.nil⟩, by simp, by simp⟩
  · have hlm : len ≤ m := by rw [hmm]; split <;> omega
    have hw1 : len * P.bytesOf e ≤ reachBytes := by
      have := hw _ (by simp only [DataW.weights, ht]; exact List.mem_cons_self ..)
      simp only [List.length_map, List.length_range] at this
      exact Nat.le_trans (Nat.mul_le_mul_right _ (by omega)) this
    have hlen : len ≤ reachBytes := Nat.le_trans (Nat.le_mul_of_pos_right _ hb0) hw1
    have hlen62 : len ≤ 4611686018427387904 := Nat.le_trans hlen (by decide)
    have hweight : ∀ i, i < len → ∀ k ∈ (D i).weights P e, k ≤ reachBytes := fun i hi' k hk => hw k (by
      simp only [DataW.weights, ht]
      exact List.mem_cons_of_mem _ (List.mem_append_left _ (weights_mem (List.mem_map.2 ⟨i, List.mem_range.2 hi', rfl⟩) k hk)))
    by_cases h0 : len = 0
    · subst h0
      exact ⟨[], ⟨some a, 0, cap, rfl, RdS.nil⟩, by simp, by simp⟩
    · have hspot : a.spot = none := by
        obtain ⟨cs', hc, _⟩ := hi 0 (by omega)
        obtain ⟨_, hcl, hat⟩ := World.cells?_some hc
        have h1 := hat 0 hs0
        rw [List.getElem?_eq_getElem (by omega)] at h1
        have := cell_spot h1
        simpa [Addr.add] using this
      obtain ⟨b, o, sp'⟩ := a
      simp only at hspot
      subst hspot
      obtain ⟨xs, hr, hI⟩ := RdS.mk' (s := P.cellsOf e) (E := E) (I := I) (σ := full w) (b := b) (o := o) hlen62 (fun i hi' => by
        obtain ⟨cs', hc, ht'⟩ := hi i (by omega)
        obtain ⟨_, hcl, hat⟩ := World.cells?_some hc
        obtain ⟨y, hE, hy⟩ := he ht' (hweight i hi')
        refine ⟨cs', y, hcl, LdL.of fun j v hj => ?_, hE, hy⟩
        have hj' : j < P.cellsOf e := by have := (List.getElem?_eq_some_iff.1 hj).1; omega
        have h1 := hat j hj'
        rw [hj, add_off, add_off] at h1
        exact full_ld h1)
      exact ⟨xs, ⟨some ⟨b, o, none⟩, len, cap, rfl, hr⟩, hI, by rw [hr.1]; exact hw1⟩
end
end Tw
end
section
set_option linter.unusedVariables false
namespace TwR
open Go Tw Go.ChangeShapes Go.WideShapes Go.RowKit

theorem own : ownKnob prog.godebug = none := by kernel_rfl
theorem laidOut : laidOutB prog = true := by kernel_rfl
theorem wf32 {x : Int} (h : (Lit.int .u32 x).wf = true) : W32 x := by
  simp [Lit.wf, IntKind.min, IntKind.max, IntKind.signed, IntKind.bits] at h
  unfold W32; omega
theorem wf64 {x : Int} (h : (Lit.int .u64 x).wf = true) : 0 ≤ x ∧ x ≤ top64 := by
  simp [Lit.wf, IntKind.min, IntKind.max, IntKind.signed, IntKind.bits] at h
  unfold top64; omega
theorem wf8 {x : Int} (h : (Lit.int .u8 x).wf = true) : 0 ≤ x ∧ x < 256 := by
  simp [Lit.wf, IntKind.min, IntKind.max, IntKind.signed, IntKind.bits] at h
  omega

theorem rdt_toks : Rdt prog 53 (ESl 1 (EInt .u32)) (fun xs => (∀ x ∈ xs, (Lit.int .u32 x).wf = true) ∧ xs.length * 4 ≤ reachBytes) :=
  Rdt.slice Go.Proofs.Try.underlying53 (by kernel_rfl) (by kernel_rfl) (by decide) (by decide) (Rdt.int Go.Proofs.Try.underlying26)
theorem rdt_bytes : Rdt prog 37 (ESl 1 (EInt .u8)) (fun xs => (∀ x ∈ xs, (Lit.int .u8 x).wf = true) ∧ xs.length * 1 ≤ reachBytes) :=
  Rdt.slice Go.Proofs.Try.underlying37 (by kernel_rfl) (by kernel_rfl) (by decide) (by decide) (Rdt.int Go.Proofs.Try.underlying5)

theorem weights_struct {H : Type} {P : Program} {t : TypeId} {fs : Array Field} (ht : P.underlying t = some (.struct fs)) {ds : List (DataW H)} {j : Nat} {f : Field} {d : DataW H} (hf : fs[j]? = some f) (hd : ds[j]? = some d) (hw : ∀ n ∈ (DataW.agg ds).weights P t, n ≤ reachBytes) :
    ∀ n ∈ d.weights P f.type, n ≤ reachBytes := fun n hn => hw n (by
  simp only [DataW.weights, ht]
  exact weights_each (by simp [hf]) hd hn)

set_option maxRecDepth 100000 in
theorem rdt_mem : Rdt prog 55 EMem (fun m => (∀ t ∈ m.toks, W32 t) ∧ m.toks.length ≤ 35184372088832) := by
  intro H enc w base sp held fuel cs x h hw
  obtain ⟨xs, n, _, rfl, hlen, hxl, hg⟩ := DataW.trod_struct Go.Proofs.Try.underlying55 h
  rw [show prog.cellsOf 55 = 3 by kernel_rfl] at hlen
  match cs, hlen, xs, hxl with
  | [c0, c1, c2], _, [y0, y1, y2], _ =>
    have h0 := hg 0 _ rfl
    have h1 := hg 1 _ rfl
    have h2 := hg 2 _ rfl
    simp only [show prog.cellsOf 3 = 1 by kernel_rfl, show prog.cellsOf 53 = 1 by kernel_rfl, List.drop, List.take, List.getElem?_cons_zero, List.getElem?_cons_succ] at h0 h1 h2
    obtain ⟨a, e0, _, _⟩ := DataW.trod_int Go.Proofs.Try.underlying3 h0
    obtain ⟨b, e1, _, _⟩ := DataW.trod_int Go.Proofs.Try.underlying3 h1
    obtain ⟨ts, ⟨p, k, c, e2, hr⟩, hI, hL⟩ := rdt_toks h2 (weights_struct Go.Proofs.Try.underlying55 (j := 2) (ds := [y0.1, y1.1, y2.1]) (f := { name := "Tokens", type := 53, offset := 2, embedded := false, tag := "", pkgPath := "", byteOffset := 16 }) rfl rfl (by simpa using hw))
    cases e0; cases e1; cases e2
    refine ⟨⟨a, b, ts⟩, ⟨p, k, c, rfl, hr⟩, fun t ht => wf32 (hI t ht), ?_⟩
    unfold reachBytes at hL
    show ts.length ≤ _
    omega
theorem rdt_mems : Rdt prog 23 (ESl 3 EMem) (fun ms => (∀ m ∈ ms, (∀ t ∈ m.toks, W32 t) ∧ m.toks.length ≤ 35184372088832) ∧ ms.length * 40 ≤ reachBytes) :=
  Rdt.slice Go.Proofs.Try.underlying23 (by kernel_rfl) (by kernel_rfl) (by decide) (by decide) rdt_mem

/-- A ring that comes in. -/
structure RingArg (W : World) (v : Value) (e : Nat) (p : Option Addr) (n c : Nat) (ms : List Mem) : Prop where
  val : v = vRing e p n c
  rd : RdM (full W) p n ms
  small : Small ms
  toks : ∀ m ∈ ms, ∀ t ∈ m.toks, W32 t
  epoch : e < 18446744073709551616
theorem RingArg.ep {W : World} {v : Value} {e : Nat} {p : Option Addr} {n c : Nat} {ms : List Mem} (h : RingArg W v e p n c ms) : (0 : Int) ≤ (e : Int) ∧ (e : Int) ≤ top64 := by
  have := h.epoch
  unfold top64; omega

set_option maxRecDepth 100000 in
theorem open_ring {H : Type} {enc : TypeId × Value → H} {W : World} {base : Nat} {v : Value} {d : DataW H} {ps : List MemPlace} {r : Reach} (hv : Value.okWide prog W r base 25 v) (h : DataW.Trod enc prog W 0 (fun _ => true) true 25 v d ps)
    (hw : ∀ n ∈ d.weights prog 25, n ≤ reachBytes) : ∃ e p n c ms, RingArg W v e p n c ms := by
  obtain ⟨cs, rfl, hsz⟩ := okWide_struct Go.Proofs.Try.underlying25 hv
  obtain ⟨fuel, hf⟩ := h
  obtain ⟨xs, n, _, hx, hlen, hxl, hg⟩ := DataW.trod_struct Go.Proofs.Try.underlying25 hf
  simp only [Prod.mk.injEq] at hx
  obtain ⟨l⟩ := cs
  rw [show prog.cellsOf 25 = 2 by kernel_rfl] at hlen
  match l, hlen, xs, hxl with
  | [c0, c1], _, [y0, y1], _ =>
    have h0 := hg 0 _ rfl
    have h1 := hg 1 _ rfl
    simp only [Value.cells, show prog.cellsOf 22 = 1 by kernel_rfl, show prog.cellsOf 23 = 1 by kernel_rfl, List.drop, List.take, List.getElem?_cons_zero, List.getElem?_cons_succ] at h0 h1
    obtain ⟨a, e0, _, wa⟩ := DataW.trod_int Go.Proofs.Try.underlying22 h0
    obtain ⟨ms, ⟨p, k, c, e2, hr⟩, hI, hL⟩ := rdt_mems h1 (weights_struct Go.Proofs.Try.underlying25 (j := 1) (ds := [y0.1, y1.1]) (f := { name := "Members", type := 23, offset := 1, embedded := false, tag := "", pkgPath := "", byteOffset := 8 }) rfl rfl (by rw [hx.1] at hw; simpa using hw))
    cases e0; cases e2
    have hw64 := wf64 wa
    obtain ⟨e, rfl⟩ : ∃ e : Nat, a = e := ⟨a.toNat, by omega⟩
    refine ⟨e, p, k, c, ms, rfl, hr, ⟨?_, fun m hm => (hI m hm).2⟩, fun m hm => (hI m hm).1, by unfold top64 at hw64; omega⟩
    unfold reachBytes at hL
    omega

theorem law_of {f : FuncId} {fn : Func} {s : ChangeSpec} {H : Type} {enc : TypeId × Value → H} {W : World} {args : Array Value} {ds gs : List (DataW H)} {before : List MemPlace} (hr : (fn.params.toList.all fun t => prog.readableRec t && Nat.blt t prog.types.size) = true)
    (hrt : fn.resultTypes = #[4]) (hv : s.vars = []) (hfn : (s.fn H (ds ++ gs)).results = [.lit (.bool true)] ∧ (s.fn H (ds ++ gs)).args = ds ∧ (s.fn H (ds ++ gs)).vars = [])
    (hW : DataW.Whole enc prog fn.params.toList s.vars false W args.toList ds gs before) (h : Lawful prog f args W) :
    Calls prog f args W fun e W' => ∃ v, e = .returned v ∧ s.post enc prog fn false true false false W args v W' :=
  h.calls.mono fun e W' ⟨he, hb⟩ => ⟨_, he, law_post laidOut hr hrt Go.Proofs.Try.underlying4 hv hfn hW hb⟩

/-- What is asked of the sizes, argument by argument. -/
theorem sized_of {H : Type} {ts : List TypeId} {ds : List (DataW H)} (h : (DataW.weightsEach prog ts ds).all (· ≤ reachBytes) = true) {j : Nat} {t : TypeId} {d : DataW H} (ht : ts[j]? = some t) (hd : ds[j]? = some d) : ∀ n ∈ d.weights prog t, n ≤ reachBytes :=
  fun n hn => by have := List.all_eq_true.1 h n (weights_each ht hd hn); simpa using this
end TwR
end
