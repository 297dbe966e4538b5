/-
  Part 6 of the proof that the law DistributorHearsUptoCardSaid of the given program answers true for every input of the given statement; the input reads behind the call as it did. (The texts: packed from 14 texts. Names are shortened by the packing program, for the bound on size.)
-/
import Derived.Test.YtaaincfenibojaaGreatDoorA5
import Derived.ProofKit
import Derived.SizedLaws
import Derived.Deep.Slices
import Derived.Test.YtaaincfenibojaaGreatDoorCards
import Derived.Test.YtaaincfenibojaaGreatDoorTie
import Derived.WalkKit
import Derived.OpenShut
import Derived.Deep.DeepHandedRow
import Derived.Deep.DeepWitnessRowRef
import Derived.Lib.LaidTab
import Derived.Stop.LaidErr
set_option linter.all false
section
namespace TwW
open Go Tw Go.RowKit Go.Proofs.Tryz
section
variable {τ0 τ σ : Hp} {R : Rr} {db wb sb : Nat} {q p : Option Addr} {n c cc : Nat} {s f : ByteArray}
abbrev Ui (f : ByteArray) (qd : Option Addr) (m d : Nat) (y : Int) : List Value := [.string f, .slice qd m d, .int .u64 y]
theorem nR {f : ByteArray} {qd : Option Addr} {m d : Nat} {y : Int} : CU (Ui f qd m d y) := fun u hu => by
 simp only [Ui, List.mem_cons, List.not_mem_nil, or_false] at hu
 rcases hu with rfl | rfl | rfl <;> rfl
theorem du (h : σ db = some (FR wb q 0 c)) (hR : R (.returned (.tuple #[.int .i64 0, .bool false])) σ) : Spec prog 62 #[.pointer (some ⟨db, 0, none⟩), .string s] σ R :=
 Fp.start (Fp.DF ⟨db, 0, rfl, q, 0, c, AD h rfl, fun Ag => absurd Ag (by decide), fun _ => ⟨q, 0, c, AD h rfl, fun Ag => absurd Ag (by decide), fun _ => hR⟩⟩)
theorem zr {qd : Option Addr} {m d : Nat} {y : Int} (hx : Ext τ0 τ) (UE : τ db = none) (hR : ∀ q' c' τ', Ext τ0 τ' → τ' db = none → Own 3 (τ0.new τ') q' 1 c' (Ui f qd m d y) → R (.returned (.tuple #[])) (τ'.set db (FR wb q' 1 c'))) :
   Spec prog 72 #[.pointer (some ⟨db, 0, none⟩), .agg #[.string f, .slice qd m d, .int .u64 y]] (τ.set db (FR wb q 0 c)) R := by
 refine Jh.start fun _ => du (Hp.AA _ _ _) ⟨_, _, rfl, fun hh => (by cases hh), fun _ Qh mL => ?_⟩
 obtain ⟨n28, Yc⟩ := Hp.AL mL
 have cm : ∀ {ρ : Hp} {b : Nat} {o u : Obj}, b ≠ db → (ρ.set db u).set b o = (ρ.set b o).set db u := fun h => Hp.KA (Ne.symm h)
 refine ⟨db, 0, rfl, q, 0, c, by rw [cm n28]; exact Ac rfl, ⟨by omega, by omega⟩, ?_⟩
 rw [cm n28]
 have RP : Ext τ (τ.set Qh (.cells #[] 154 (0, 0))) := .set Yc
 refine AJ.BW (Hp.BD (Ne.symm n28) UE) (D6 (σ0 := τ0) (cs := []) (ys := []) (hx.trans RP) ?_ Gi.zero (fun u hu => by cases hu) (by omega) fun p35 c35 τ1 Ff BH _ PU => ⟨_, _, _, rfl, ?_⟩)
 · exact Own.CV Own.empty fun a ha => by cases ha; exact A4 hx Yc
 refine ⟨q, 0, c, Ac rfl, ⟨by omega, by omega⟩, ?_⟩
 have fin : ∀ (τ2 : Hp) q' c', Ext τ0 τ2 → τ2 db = none → Own 3 (τ0.new τ2) q' 1 c' (Ui f qd m d y) → AJ prog (Instr.storeAt 148 (.pointer (aD db 1)) (.slice q' 1 c')) (τ2.set db (FR wb q 0 c)) (fun _ Ge => R (.returned (.tuple #[])) Ge) := fun τ2 q' c' An NT B1 => by
   refine AJ.store sq (Hp.AA _ _ _) rfl (by simp) (by simp [Value.cells, Value.oneCell']) ?_
   rw [Hp.set_set]
   have e : (Obj.cells (DX #[.pointer (some ⟨wb, 0, none⟩), .slice q 0 c] 1 (Value.slice q' 1 c').cells.toList) 150 (0, 0)) = FR wb q' 1 c' := by simp [DX, Value.cells, FR]
   rw [e]
   exact hR q' c' τ2 An NT B1
 have tl : ∀ (τ2 : Hp) (Vj : Option Addr) (Wt JA : Nat), Ext τ0 τ2 → τ2 db = none → Own 3 (τ0.new τ2) Vj 0 Wt [] → τ2 JA = some (.cells (Ui f qd m d y).toArray 154 (0, 0)) → _ := fun τ2 Vj Wt JA An NT B1 SX =>
   dr (T := 148) (Et := 154) (db := db) (o := FR wb q 0 c) (p35 := p35) (c35 := c35) (Φ := fun q' n' c' y5 => AJ prog (Instr.storeAt 148 (.pointer (aD db 1)) (.slice q' n' c')) y5 (fun _ Ge => R (.returned (.tuple #[])) Ge)) rfl nR An NT B1 SX fun q' c' τ' h1 h2 h3 => fin τ' q' c' h1 h2 h3
 have C8 : ∀ {ρ : Hp} {b : Nat} {o : Obj}, Ext τ0 ρ → ρ b = none → Ext τ0 (ρ.set b o) := fun h hb => h.trans (.set hb)
 have em : ∀ (τ2 : Hp) (Hn : Nat), Ext τ0 τ2 → τ2 db = none → τ0 Hn = none → Own 3 τ2 (some ⟨Hn, 0, none⟩) 0 0 [] → ∀ {Φ : Value → Hp → Prop}, (∀ p' c' τ', Ext τ0 τ' → Ext (τ2.del (some ⟨Hn, 0, none⟩)) (τ'.del p') → Own 3 (τ0.new τ') p' 0 c' [] → τ' db = none → Φ (.slice p' 0 c') (τ'.set db (FR wb q 0 c))) →
     AJ prog (Builtin.append_ #[148, 148] 148 #[.slice (some ⟨Hn, 0, none⟩) 0 0, .slice q 0 c]) (τ2.set db (FR wb q 0 c)) Φ := fun τ2 Hn An NT hb B1 Φ hΦ => by
   refine AJ.BW NT (Ec (ys := []) B1 Gi.zero (fun u hu => by cases hu) (by omega) fun p' c' τ' EN Cc J1 => hΦ p' c' τ' ?_ Cc ?_ J1)
   · exact CX (fun a ha => by cases ha; exact hb) Cc An
   · exact Own.CV (by simpa using EN) (B2 (fun a ha => by cases ha; exact hb) Cc An)
 refine ⟨fun Hn Rh => ⟨?_, fun JA OC => ?_⟩, fun JA OC Hn Rh => ?_⟩
 · obtain ⟨n37, GN⟩ := Hp.AL Rh
   rw [cm n37]
   refine em _ Hn (C8 BH GN) (Hp.BD (Ne.symm n37) PU) (A4 BH GN) Own.empty fun p' c' τ' h1 _ h3 h4 => ⟨_, _, _, rfl, fun JA OC => ?_⟩
   obtain ⟨n46, GO⟩ := Hp.AL OC
   rw [cm n46]
   exact tl _ _ _ JA (C8 h1 GO) (Hp.BD (Ne.symm n46) h4) (Own.mono (Ext.BV (.set GO)) h3) (Hp.AA _ _ _)
 · obtain ⟨n37, GN⟩ := Hp.AL Rh
   rw [cm n37] at OC ⊢
   obtain ⟨n46, GO⟩ := Hp.AL OC
   rw [cm n46]
   obtain ⟨nN, zj⟩ := Hp.AL GO
   refine em _ Hn (C8 (C8 BH GN) GO) (Hp.BD (Ne.symm n46) (Hp.BD (Ne.symm n37) PU)) (A4 BH GN) (Own.mono (.set GO) Own.empty) fun p' c' τ' h1 h2 h3 h4 => ⟨_, _, _, rfl, ?_⟩
   refine tl _ _ _ JA h1 h4 h3 ?_
   exact (A6.1 (h2 JA _ (A6.2 ⟨fun a ha => (by cases ha; exact nN), Hp.AA _ _ _⟩))).2
 · obtain ⟨n46, GO⟩ := Hp.AL OC
   rw [cm n46] at Rh ⊢
   obtain ⟨n37, GN⟩ := Hp.AL Rh
   rw [cm n37]
   obtain ⟨Ye, bL⟩ := Hp.AL GN
   refine em _ Hn (C8 (C8 BH GO) GN) (Hp.BD (Ne.symm n37) (Hp.BD (Ne.symm n46) PU)) (A4 BH bL) Own.empty fun p' c' τ' h1 h2 h3 h4 => ⟨_, _, _, rfl, ?_⟩
   refine tl _ _ _ JA h1 h4 h3 ?_
   exact (A6.1 (h2 JA _ (A6.2 ⟨fun a ha => (by cases ha; exact Ne.symm Ye), by rw [Hp.AF (Ne.symm Ye), Hp.AA]⟩))).2
theorem Yg {bs : List Int} (h : vm σ sb τ) (hr : CA .u8 τ p n bs) (h8 : E8 bs) (hn : n ≤ 60000) (hR : ∀ (a e : Int) σ', Ext τ σ' → R (.returned (.tuple #[.int .u64 a, .int .i64 e])) σ') :
   Spec prog 31 #[.pointer (some ⟨sb, 0, none⟩), .string D3, .slice p n c, .int .u64 0] σ R := by
 obtain ⟨wb, db, q, cq, num, ρ, rfl, hs, hw, hd, n1, n2, n3, hx⟩ := h
 have hN : ∀ {S W D : Obj}, (names [(sb, S), (wb, W), (db, D)]).Nodup := nd3 n1 n2 n3
 have hO : Hf [(sb, FR wb none 0 0), (wb, Hb db 1 (-1)), (db, Bd q 0 cq num)] ρ := VI.2 ⟨hs, hw, hd⟩
 have Vq := Hf.ext (hN (S := FR wb none 0 0) (W := Hb db 1 (-1)) (D := Bd q 0 cq num)) hO
 have out : ∀ {σ' : Hp} (a e : Int), Ext ρ σ' → R (.returned (.tuple #[.int .u64 a, .int .i64 e])) σ' := fun a e h => hR a e _ (hx.trans h)
 have Ke : ∀ {τ' : Hp} {S W D : Obj}, Ext ρ τ' → Ext ρ (AX τ' [(sb, S), (wb, W), (db, D)]) := fun h => (Hf.ext hN (VI.2 ⟨hs, hw, hd⟩)).trans (E4 h _)
 refine GW.start (Jd.start (TU.start ⟨fun _ => ⟨_, rfl, fun hh => absurd hh (by decide), fun _ => ⟨sb, 0, rfl, _, IJ (i := 0) hN rfl rfl, wb, 0, rfl, _, IJ (i := 1) hN rfl rfl, db, 0, rfl, false, IJ (i := 2) hN rfl rfl, fun hh => (by cases hh), fun _ => ?_⟩⟩, fun hh => absurd (by decide) hh⟩))
 refine du (B7 (i := 0) hN rfl) ⟨_, _, rfl, fun _ => ⟨_, _, _, _, _, rfl, fun hh => absurd rfl hh, fun _ => ⟨fun hh => absurd rfl hh, fun _ b34 ANZ => ?_⟩⟩, fun hh => (by cases hh)⟩
 obtain ⟨aT, nS⟩ := B3 ANZ
 rw [DE aT]
 refine AJ.CH hN (Hf.set hO aT) (D6 (σ0 := ρ) (cs := []) (.set nS) (Own.CV Own.empty fun a ha => by cases ha; exact nS) ((Gi.of_map (hr.mono hx)).mono (.set nS)) CU.Cs (by omega) fun Ut Wu ρ1 Ff BH _ iE => ⟨_, _, _, rfl, fun NO h38 _ => ?_⟩)
 have e38 : NO = ((1 : Nat) : Int) := by rw [h38]; rfl
 subst e38
 rw [Nat.zero_add, List.nil_append] at Ff
 obtain ⟨R6, ZL, Pu⟩ := VI.1 iE
 refine ⟨sb, 0, rfl, _, IJ (i := 0) hN rfl rfl, ?_⟩
 rw [show (0 + n) = n from Nat.zero_add n]
 refine Spec.CH hN iE (Rf (k := D3) (d := bs) (AS.rd (Own.mono (Ext.Af _ _) Ff)) h8 (by decide) (by omega) (by decide) fun yD n45 c45 ρ2 B1 An Sj => ⟨_, _, _, rfl, Kp.CG (E4 An _), ?_⟩)
 obtain ⟨aM, hw2, PN⟩ := VI.1 Sj
 have bG : Ext ρ ρ2 := BH.trans An
 have h36 : CA .u8 ρ2 Ut n bs := (AS.rd (Own.mono (Ext.Af _ _) Ff)).mono An
 have hS : ∀ {ρ' : Hp} {W D : Obj}, ρ' sb = none → (AX ρ' [(wb, W), (db, D)]) sb = none := fun h => by rw [G2 (by simp [names, n2, n3])]; exact h
 have Ad : ∀ {ρ' : Hp} {W D : Obj}, (AX ρ' [(wb, W), (db, D)]) sb = none → ρ' sb = none := fun h => (B3 h).2
 show Spec prog 69 _ ((AX ρ2 [(wb, Hb db 1 (-1)), (db, Bd q 0 cq num)]).set sb (FR wb none 0 0)) _
 refine Spec.BW (hS aM) (AGS (τ0 := ρ) bG PN hw2 n1 (AS.rd (Own.mono (Ext.Af _ _) B1)) (fun e τ' he Cc JT => ⟨_, rfl, fun _ => out _ _ ?_, fun hh => absurd he hh⟩) fun q' c' ρ3 Sk sg qd m d y zn Ee DR iq hw3 Dl JT => ⟨_, rfl, fun hh => absurd rfl hh, fun _ => ⟨_, Ac rfl, ?_⟩⟩)
 · exact Ke Cc
 refine Spec.BW (hS (by exact Ad (by exact JT))) (zp (τ0 := ρ) Ee DR iq hw3 n1 Dl fun e τ4 o Kt Y8 hw4 AGW => ⟨_, rfl, fun _ => out _ _ (Ke Kt), fun _ => ?_⟩)
 have hs4 : τ4 sb = none := Ad AGW
 refine zr (τ0 := AX τ4 [(wb, Hb db 1 zn), (db, o)]) (.refl _) AGW fun q5 c5 τ5 SU hs5 ix => ⟨rfl, _, Ac rfl, ?_⟩
 have AGX : (τ5.set sb (FR wb q5 1 c5)) wb = some (Hb db 1 zn) := by
   rw [Hp.AF (Ne.symm n2)]
   exact SU _ _ (B7 (i := 0) (nQ n1) rfl)
 refine Ho.start ⟨wb, 0, rfl, zn, AD AGX rfl, fun _ => ⟨0, AD AGX rfl, by unfold AO; decide, _, rfl, fun hh => absurd hh (by decide), fun _ => GW.qy (out _ _ ?_)⟩, fun hh => by omega⟩
 have h6 : Ext ρ (AX τ4 [(wb, Hb db 1 zn), (db, o)]) := (Hf.ext (nQ n1) (nP.2 ⟨hw, hd⟩)).trans (E4 Kt _)
 exact (h6.trans SU).trans (.set hs5)
end
end TwW
end
section
namespace TwW
open Go Tw Go.RowKit Go.Proofs.Tryz
section
variable {σ σ' τ : Hp} {R : Rr}
def AGY (rf fo re : Int) (ha : Bool) : Value := .agg #[.int .i64 0, .int .i64 rf, .int .i64 0, .int .i64 0, .int .i64 fo, .int .i64 re, .int .i64 0, .int .i64 100, .int .i64 16, .int .i64 100, .bool ha]
theorem Ri {rf fo re : Int} {ha : Bool} (hR : ∀ bd md, σ md = none → σ bd = none → bd ≠ md → R (.returned (.pointer (some ⟨bd, 0, none⟩))) ((σ.set md (.map #[] 0)).set bd (D1 rf fo re ha md))) : Spec prog 9 #[AGY rf fo re ha] σ R :=
 Jc.start fun _ => Hg fun md hm => ⟨md, rfl, fun bd hb => by
   obtain ⟨Ad, Js⟩ := Hp.AL hb
   exact hR bd md hm Js Ad⟩
def bM (x : Int) : Int := Go.bits .and .i64 x 9223372036854775807
theorem sr {x : Int} : 0 ≤ bM x ∧ bM x ≤ 9223372036854775807 := by
 unfold bM
 have h2 : (BitVec.ofInt 64 9223372036854775807).toNat = 9223372036854775807 := rfl
 have e : Go.bits .and .i64 x 9223372036854775807 = IntKind.i64.wrap (((BitVec.ofInt 64 x) &&& (BitVec.ofInt 64 9223372036854775807)).toNat : Int) := rfl
 rw [e, BitVec.toNat_and, h2]
 have hle : (BitVec.ofInt 64 x).toNat &&& 9223372036854775807 ≤ 9223372036854775807 := Nat.and_le_right
 generalize (BitVec.ofInt 64 x).toNat &&& 9223372036854775807 = y at hle
 simp [IntKind.wrap, IntKind.bits, IntKind.signed]; omega
theorem iG {x : Int} (h : R (.returned (.int .i64 (bM x))) σ) : Spec prog 8 #[.int .i64 x] σ R := XF.start fun x4 h4 => h4 ▸ h
theorem nT {x k : Int} (h : 0 ≤ x) (hk : 0 < k) : 0 ≤ Int.tmod x k ∧ Int.tmod x k < k := ⟨Int.tmod_nonneg _ h, Int.tmod_lt_of_pos _ hk⟩
def iH (x : Int) : Int := if Int.tmod (bM x) 3 = 0 then 1 else if Int.tmod (bM x) 3 = 1 then 3 else 5
theorem O6 {x re fo : Int} (h : R (.returned (AGY (iH x) fo re true)) σ) : Spec prog 7 #[.int .i64 x, .int .i64 re, .int .i64 fo] σ R := by
 refine Spec.drop (Mr.start fun _ b7 hb7 => iG ⟨_, rfl, by decide, fun Di mC => ?_⟩)
 obtain ⟨h0, h3⟩ := nT (x := bM x) (k := 3) sr.1 (by decide)
 have l0 : Hp.ld (σ.set b7 (.cells #[.int .i64 1, .int .i64 3, .int .i64 5] 3 (0, 0))) ⟨b7, 0 + Int.toNat Di * 1, none⟩ = some (.int .i64 (iH x)) := by
   unfold iH
   rw [← mC] at *
   by_cases e0 : Di = 0
   · rw [if_pos e0]; subst e0; exact Ac rfl
   · by_cases e1 : Di = 1
     · rw [if_neg e0, if_pos e1]; rw [e1]; exact Ac rfl
     · have e2 : Di = 2 := by omega
       rw [if_neg e0, if_neg e1]; rw [e2]; exact Ac rfl
 exact ⟨⟨by omega, by omega⟩, iH x, l0, .mk (.set hb7) h⟩
structure HT (ms : List Mem) (n : Nat) : Prop where
 ok : LV ms
 ids : ids ms = (List.range n).map fun (k : Nat) => (k : Int)
 act : ∀ m ∈ ms, m.state = 2
 tok : ∀ m ∈ ms, ∀ t ∈ m.B8, oh t
theorem HT.len {ms : List Mem} {n : Nat} (h : HT ms n) : ms.length = n := by
 have := congrArg List.length h.ids
 simpa [TwW.ids] using this
theorem HT.CE {ms : List Mem} {n : Nat} (h : HT ms n) : CE ms = (List.range n).map fun (k : Nat) => (k : Int) := by
 rw [← h.ids]
 unfold TwW.CE TwW.ids
 rw [List.filter_eq_self.2 fun m hm => by simp [h.act m hm]]
theorem HT.dv {ms : List Mem} {n : Nat} (h : HT ms n) {m : Mem} (hm : m ∈ ms) : m.id < n := by
 have : m.id ∈ TwW.ids ms := List.mem_map.2 ⟨m, hm, rfl⟩
 rw [h.ids] at this
 obtain ⟨k, hk, he⟩ := List.mem_map.1 this
 have := List.mem_range.1 hk
 omega
theorem bN {xs : List Int} {x : Int} (h : EY xs) (hx : ∀ y ∈ xs, y < x) : EY (xs ++ [x]) := by
 unfold EY at *
 rw [List.pairwise_append]
 exact ⟨h, by simp, fun a ha b hb => by simp at hb; subst hb; exact hx a ha⟩
theorem Rj {n : Nat} (hn : n ≤ 16) (h : ∀ p c σ' ms, Pa σ' p n ms → HT ms n → Ext σ σ' → R (.returned (GL (2 * n : Nat) p n c)) σ') : Spec prog 11 #[.int .i64 n] σ R := by
 refine GF.start fun _ _ => ?_
 suffices H : ∀ d k : Nat, ∀ p c σ' ms, n - k = d → k ≤ n → Pa σ' p k ms → HT ms k → Ext σ σ' → GF.CF R n 0 none 0 0 (2 * k : Nat) p k c k σ' from H n 0 none 0 σ [] rfl (Nat.zero_le _) GS.nil ⟨⟨by simp, by simp [ids, EY]⟩, by simp [ids], by simp, by simp⟩ (.refl _)
 intro d
 induction d with
 | zero =>
   intro k p c σ' ms hd hk hr hg hx
   refine GF.BX ⟨fun Ag => by omega, fun _ => ?_⟩
   have : k = n := by omega
   subst this
   exact h p c σ' ms hr hg hx
 | succ d ih =>
   intro k p c σ' ms hd hk hr hg hx
   have Dh : k < n := by omega
   have hlen := hg.len
   have fit : ∀ {EZ : List Mem} {e : Int}, LV EZ → 0 ≤ e → e ≤ 40 → Fit EZ e k := fun h1 h2 h3 => ⟨h1, by unfold Oy; omega, by omega, by omega⟩
   have Be : place ms k = -1 := RL fun m hm => by have := hg.dv hm; omega
   have hj : ∀ code EZ, mV ms k code EZ → code = 0 ∧ ∃ t, EY t ∧ 1 ≤ t.length ∧ t.length ≤ 4 ∧ (∀ y ∈ t, 0 ≤ y ∧ y < 4294967296) ∧ EZ = ms ++ [⟨k, 1, t⟩] := by
     rintro code EZ (⟨h1, _⟩ | ⟨_, h1, i, t, hi, _, h2, h3, h4, h5, h6, h7⟩)
     · exact absurd Be h1
     · have hie : i = ms.length := by
         refine Nat.le_antisymm hi (Nat.le_of_not_lt fun Ag => ?_)
         exact h2 _ (List.getElem?_eq_getElem Ag) (hg.dv (List.getElem_mem Ag))
       subst hie
       exact ⟨h1, t, h3, h4, h5, h6, by simpa using h7⟩
   refine GF.BX ⟨fun _ => aZ hr hg.ok.small (by unfold Oy; omega) ⟨fun hb => absurd (fit hg.ok (by omega) (by omega)) hb, fun _ code EZ hC Ad => absurd (hj code EZ hC).1 Ad, fun _ p1 n1 c1 σ1 ms1 hC aV BH => ⟨_, _, _, _, _, rfl, ?_⟩⟩, fun hh => by omega⟩
   obtain ⟨_, t, ht, zE, ht4, mB, rfl⟩ := hj _ _ hC
   have gp : ∀ s : Int, 1 ≤ s → s ≤ 3 → LV (ms ++ [⟨k, s, t⟩]) := fun s h1 h2 => by
     refine ⟨fun m hm => ?_, ?_⟩
     · rcases List.mem_append.1 hm with hm | hm
       · exact hg.ok.1 m hm
       · simp at hm; subst hm
         exact ⟨by show (0 : Int) ≤ k; omega, by show (k : Int) < 16; omega, h1, h2, zE, by show t.length ≤ 64; omega, ht⟩
     · have e : ids (ms ++ [⟨k, s, t⟩]) = ids ms ++ [(k : Int)] := by simp [ids]
       rw [e]
       exact bN hg.ok.2 fun y hy => by
         obtain ⟨m, hm, rfl⟩ := List.mem_map.1 hy
         exact hg.dv hm
   have vR : place (ms ++ [⟨k, 1, t⟩]) k = ms.length := RM (m := ⟨k, 1, t⟩) (by simp) rfl fun m hm => by
     rw [List.take_append_of_le_length (Nat.le_refl _), List.take_length] at hm
     have := hg.dv hm; omega
   have htn : ∀ code EZ, X7 1 2 (ms ++ [⟨k, 1, t⟩]) k code EZ → code = 0 ∧ EZ = ms ++ [⟨k, 2, t⟩] := by
     rintro code EZ (⟨h1, _⟩ | ⟨j, m, UQ, hm, hh⟩)
     · rw [vR] at h1; omega
     · rw [vR] at UQ
       obtain rfl : j = ms.length := by omega
       simp at hm; subst hm
       rcases hh with ⟨h1, _⟩ | ⟨_, h1, h2⟩
       · exact absurd rfl h1
       · exact ⟨h1, by rw [h2]; simp⟩
   have iu : ((2 * k : Nat) : Int) + 1 = ((2 * k + 1 : Nat) : Int) := by omega
   rw [iu]
   refine RQ aV (gp 1 (by decide) (by decide)).small (by unfold Oy; omega) ⟨fun hb => absurd (fit (gp 1 (by decide) (by decide)) (by omega) (by omega)) hb, fun _ code EZ hC Ad => absurd (htn code EZ hC).1 Ad, fun _ p2 n2 c2 σ2 ms2 zH US An => ⟨_, _, _, _, _, rfl, by unfold AO; omega, ?_⟩⟩
   obtain ⟨_, rfl⟩ := htn _ _ zH
   have NT : n2 = k + 1 := by have := US.1; simp at this; omega
   subst NT
   have e2 : ((2 * k + 1 : Nat) : Int) + 1 = ((2 * (k + 1) : Nat) : Int) := by omega
   rw [e2]
   refine ih (k + 1) p2 c2 σ2 _ (by omega) (by omega) US ⟨gp 2 (by decide) (by decide), ?_, fun m hm => ?_, fun m hm => ?_⟩ ((hx.trans BH).trans An)
   · have e : ids (ms ++ [⟨k, 2, t⟩]) = ids ms ++ [(k : Int)] := by simp [ids]
     rw [e, hg.ids, List.range_succ, List.map_append]; rfl
   · rcases List.mem_append.1 hm with hm | hm
     · exact hg.act m hm
     · simp at hm; subst hm; rfl
   · rcases List.mem_append.1 hm with hm | hm
     · exact hg.tok m hm
     · simp at hm; subst hm
       exact fun y hy => mB y hy
theorem su {e : Nat} {ms : List Mem} (h : LV ms) (he : e < 18446744073709551616) : (enc e ms).length ≤ 60000 := by
 have h1 := UC ms fun m hm => (h.1 m hm).2.2.2.2.2.1
 have h2 := h.len
 have h3 := BF he
 have h4 := NI (ms.length : Nat)
 simp only [enc, List.length_append]
 omega
theorem Yh {k : ByteArray} : Cr [] k = ([], 0) := rfl
theorem O7 {K : List ByteArray} {e n c : Nat} {p : Option Addr} {ms : List Mem} (hK : D3 ∈ K) (hK8 : K.length ≤ 8) (ht : Tb σ) (hr : Pa σ p n ms) (Au : LV ms) (M8 : ∀ m ∈ ms, ∀ t ∈ m.B8, oh t) (he : e < 18446744073709551616)
   (hR : ∀ (dk bb s sb : Nat) σ' D W rows ts τ, IF σ' dk bb s D W rows τ → az D W rows ts → ml K rows → D.armed = false → D.cnt ≤ 2 → ts.length ≤ 9 → Tr (Cr rows D3).1 e ms → (∀ k, Cr rows k = if D3 = k then (enc e ms, 1) else ([], 0)) → Ext σ τ → R (.returned (.tuple #[.pointer (some ⟨s, 0, none⟩), .pointer (some ⟨sb, 0, none⟩)])) σ') :
   Spec prog 10 #[GL e p n c] σ R := by
 refine Mj.start fun _ => SR fun d σ1 S1 Pu BH => ⟨_, rfl, ?_⟩
 have h1 : Ai σ1 d ⟨fun _ => none, true, false, 0⟩ σ := ⟨S1, Pu, BH⟩
 refine YR h1 ht rfl rfl rfl (fun _ => rfl) fun s b σ2 W Fg h2 B1 Jj => ⟨_, _, rfl, fun SO ANa => ?_⟩
 refine Vc (τ := σ2) (q := none) (c := 0) (num := 0) ANa fun sb σ3 vb => ⟨_, _, rfl, ?_⟩
 obtain ⟨wb, db, q, cq, num, ρ, rfl, hs, hw, hd, n1, n2, n3, hx⟩ := vb
 have hN : ∀ {S W D : Obj}, (names [(sb, S), (wb, W), (db, D)]).Nodup := nd3 n1 n2 n3
 have h3 := h2.mono hx
 refine Spec.CH hN (VI.2 ⟨hs, hw, hd⟩) (O5 (hr.RH h3.ext) Au.small he ⟨fun hb => absurd Au hb, fun _ p1 n1' c1 ρ1 Ff ANb iE => ⟨_, _, _, _, rfl, fun hh => (by cases hh), fun _ => ⟨fun hh => absurd rfl hh, fun _ => ?_⟩⟩⟩)
 obtain ⟨τ1, h4, x4, x4n⟩ := h3.grow ANb
 have PR : CA .u8 τ1 p1 n1' (enc e ms) := (AS.rd Ff).mono x4n
 have hel : (enc e ms).length = n1' := PR.1
 have h60 := su Au he
 refine Spec.CH hN iE (YQ (K := K) h4 (ht.mono x4) B1 ⟨fun x hx => (by cases hx), fun x => by rw [Yh]; decide⟩ hK8 Ya hK PR (P0 he) h60 (by decide) (by show 0 + 1 < _; decide) (fun hh => absurd (by rw [Yh]) hh) (fun _ ρ2 D2 W2 XR ts2 h5 ix hs5 hl5 ha5 hc5 _ Sj => ⟨_, _, rfl, ?_⟩) fun hh => (by cases hh))
 have hg5 : ∀ k, Cr XR k = if D3 = k then (enc e ms, 1) else ([], 0) := fun k => by
   unfold Cr
   rw [hl5 k]
   show (if D3 = k then some (enc e ms, 0 + 1) else B9 [] k).getD ([], 0) = _
   by_cases hk : D3 = k
   · rw [if_pos hk, if_pos hk]; rfl
   · rw [if_neg hk, if_neg hk]; rfl
 obtain ⟨g1, g2, g3⟩ := VI.1 Sj
 refine Yg (τ := ρ2) ⟨wb, db, q, cq, num, ρ2, rfl, g1, g2, g3, n1, n2, n3, .refl _⟩ (PR.mono h5.ext) (P0 he) (by omega) fun a e' σ5 SU => ⟨_, _, rfl, ?_⟩
 refine hR d b s sb σ5 D2 W2 XR ts2 τ1 (h5.mono SU) ix hs5 ha5 ?_ ?_ ⟨by rw [hg5, if_pos rfl], Au, M8, he⟩ hg5 x4
 · have := hc5.1
   simpa using this
 · rcases hc5.2 with h | h
   · simp at h; omega
   · exact h
theorem AGZ : Enters prog 103 := fun args w => call103 args w
theorem vn : Enters prog 105 := fun args w => call105 args w
theorem AGa : Enters prog 107 := fun args w => call107 args w
theorem AGb : Enters prog 110 := fun args w => call110 args w
theorem iI {bd BA : Nat} {qk : Option Addr} (hR : ∀ b3 b4 b5 EH σ', NK σ' b3 b4 b5 BA bd qk → σ' EH = some (.cells #[(.func (.func 103) #[] #[(.pointer (some ⟨b4, 0, none⟩)), (.pointer (some ⟨b3, 0, none⟩))]), (.func (.func 105) #[] #[(.pointer (some ⟨b3, 0, none⟩)), (.pointer (some ⟨b4, 0, none⟩))]), (.func (.func 107) #[] #[(.pointer (some ⟨b5, 0, none⟩)), (.pointer (some ⟨b3, 0, none⟩)), (.pointer (some ⟨b4, 0, none⟩))]), (.func (.func 110) #[] #[(.pointer (some ⟨b4, 0, none⟩)), (.pointer (some ⟨b3, 0, none⟩)), (.pointer (some ⟨b5, 0, none⟩))])] 123 (0, 0)) → Ext σ σ' → R (.returned (.slice (some ⟨EH, 0, none⟩) 4 4)) σ') :
   Spec prog 47 #[.pointer (some ⟨bd, 0, none⟩), .pointer (some ⟨BA, 0, none⟩), .pointer qk] σ R := by
 refine DP.start fun b3 h3 b4 h4 b5 h5 EH oe => ?_
 have x3 : Ext σ _ := .set h3 (o := .cells #[.pointer (some ⟨bd, 0, none⟩)] 33 (0, 0))
 have x4 := Ext.set h4 (o := .cells #[.pointer (some ⟨BA, 0, none⟩)] 118 (0, 0))
 have x5 := Ext.set h5 (o := .cells #[.pointer qk] 35 (0, 0))
 exact hR b3 b4 b5 EH _ ⟨Ext.set oe _ _ (x5 _ _ (x4 _ _ (Hp.AA _ _ _))), Ext.set oe _ _ (x5 _ _ (Hp.AA _ _ _)), Ext.set oe _ _ (Hp.AA _ _ _)⟩ (Hp.AA _ _ _) (((x3.trans x4).trans x5).trans (.set oe))
end
end TwW
end
section
namespace TwW
open Go Tw Go.RowKit Go.Proofs.Tryz
section
variable {σ σ' τ : Hp} {R : Rr}
def Sl (x : ByteArray) (xs : List ByteArray) : Bool := xs.any fun y => decide (x = y)
theorem nU {x : ByteArray} {xs : List ByteArray} : Sl x xs = true ↔ x ∈ xs := by simp [Sl]
theorem Rk {p : Option Addr} {n c : Nat} {x : ByteArray} {xs : List ByteArray} (hr : Gi 1 σ p n (xs.map .string)) (h : R (.returned (.bool (Sl x xs))) σ) : Spec prog 271 #[.slice p n c, .string x] σ R := by
 have hn : xs.length = n := by have := hr.1; simpa using this
 have Fy : n ≤ 4611686018427387904 := hr.2.1
 have key : ∀ i : Int, (0 ≤ i ↔ x ∈ xs) → AB R (CI .i64 fun x7 y => R (.returned (.bool (decide (0 ≤ x7)))) y) (.returned (.int .i64 i)) σ := fun i hi => ⟨i, rfl, by
   dsimp only
   rw [show decide (0 ≤ i) = Sl x xs by rw [Bool.eq_iff_iff, nU, decide_eq_true_eq]; exact hi]; exact h⟩
 refine slices_Contains_string.start (slices_Index_string.start ?_)
 suffices H : ∀ d k : Nat, n - k = d → k ≤ n → x ∉ xs.take k → slices_Index_string.Ns (AB R (CI .i64 fun x7 y => R (.returned (.bool (decide (0 ≤ x7)))) y)) p n c x n k σ from H n 0 rfl (Nat.zero_le _) (by simp)
 intro d
 induction d with
 | zero =>
   intro k hd hk Be
   refine slices_Index_string.EJ ⟨fun Ag => by omega, fun _ => key (-1) ?_⟩
   rw [List.take_of_length_le (by omega)] at Be
   exact ⟨fun h => absurd h (by decide), fun h => absurd h Be⟩
 | succ d ih =>
   intro k hd hk Be
   have Dh : k < n := by omega
   obtain ⟨y, hy⟩ : ∃ y, xs[k]? = some y := ⟨_, List.getElem?_eq_getElem (by omega)⟩
   obtain ⟨b, o, rfl, hl⟩ := Gi.at1 hr (k := k) (v := .string y) (by rw [List.getElem?_map, hy]; rfl)
   refine slices_Index_string.EJ ⟨fun _ => ⟨b, o, rfl, by omega, y, by simpa using hl, fun he => key k ⟨fun _ => ?_, fun _ => by omega⟩, fun Ad => ⟨Ah Dh Fy, ih (k + 1) (by omega) (by omega) ?_⟩⟩, fun F8 => by omega⟩
   · rw [Xz, decide_eq_true_eq] at he
     rw [he]; exact List.mem_of_getElem? hy
   · rw [Xz, decide_eq_false_iff_not] at Ad
     rw [Hy hy]
     rintro (h1 | h1)
     · exact Be h1
     · exact Ad h1
theorem Yi {f : Nat} {cap : Array Value} {g : Lb → Bool} {p : Option Addr} {n c : Nat} {ls : List Lb} (J8 : Enters prog f) (hr : SA σ p n ls) (hn : n ≤ 1000000)
   (hf : ∀ (σ' : Hp) (x : Lb) (R' : Rr), Ext σ σ' → R' (.returned (.bool (g x))) σ' → Spec prog f (#[] ++ #[.agg #[.string x.1, .string x.2]] ++ cap) σ' R')
   (h : ∀ p' n' c' σ', A9 2 Ka (σ.new σ') p' n' c' (ls.filter g) → Ext σ σ' → R (.returned (.slice p' n' c')) σ') : Spec prog 269 #[.slice p n c, .func (.func f) #[] cap] σ R := by
 have sI : ls.length = n := hr.1
 refine DH.start ?_
 suffices H : ∀ d k : Nat, ∀ p5 n5 c5 σ5, n - k = d → k ≤ n → A9 2 Ka (σ.new σ5) p5 n5 c5 ((ls.take k).filter g) → Ext σ σ5 → DH.A1 R (.func (.func f) #[] cap) p5 n5 c5 p n c n k σ5 from H n 0 none 0 0 σ rfl (Nat.zero_le _) A9.nil (.refl _)
 intro d
 induction d with
 | zero =>
   intro k p5 n5 c5 σ5 hd hk ho hx
   refine DH.AW ⟨fun Ag => by omega, fun _ => h p5 n5 c5 σ5 ?_ hx⟩
   rw [List.take_of_length_le (by omega)] at ho; exact ho
 | succ d ih =>
   intro k p5 n5 c5 σ5 hd hk ho hx
   have Dh : k < n := by omega
   obtain ⟨x, SS⟩ := hr.ex Dh
   obtain ⟨b, o, rfl, hl⟩ := SA.at hr SS
   have hn5 : n5 ≤ n := by
     have h1 := ho.1
     have h2 := List.length_filter_le g (ls.take k)
     rw [List.length_take] at h2
     omega
   have ht : (ls.take (k + 1)).filter g = (ls.take k).filter g ++ if g x then [x] else [] := by
     rw [AR SS, List.filter_append]
     by_cases hg : g x <;> simp [hg]
   refine DH.AW ⟨fun _ => ⟨b, o, rfl, by omega, x.1, x.2, by simpa using hl.mono hx, fun _ => ⟨f, #[], cap, rfl, J8, hf σ5 x _ hx ⟨_, rfl, fun hg Yy ANc => ?_, fun hg => ?_⟩⟩⟩, fun hh => by omega⟩
   · refine A9.JF Ka.mono (vs := [.string x.1, .string x.2]) (x := x) hx ho rfl (Ka.one σ _ _ rfl) rfl (by omega) (fun p' c' σ' EN Cc => ⟨_, _, _, rfl, DH.F4 ⟨Ah Dh hr.big, ih (k + 1) _ _ _ _ (by omega) (by omega) ?_ Cc⟩⟩) ANc
     rw [ht, if_pos hg]; exact EN
   · refine DH.F4 ⟨Ah Dh hr.big, ih (k + 1) _ _ _ _ (by omega) (by omega) ?_ hx⟩
     rw [ht, if_neg (by simp [hg]), List.append_nil]; exact ho
theorem AGc : Enters prog 270 := fun args w => call270 args w
theorem Vd {p q : Option Addr} {n c m d : Nat} {ls : List Lb} {ns : List ByteArray} (hr : SA σ p n ls) (hn : n ≤ 1000000) (hs : Gi 1 σ q m (ns.map .string))
   (h : ∀ p' n' c' σ', A9 2 Ka (σ.new σ') p' n' c' (ls.filter fun x => !Sl x.1 ns) → Ext σ σ' → R (.returned (.slice p' n' c')) σ') : Spec prog 194 #[.slice p n c, .slice q m d] σ R := by
 refine Lg.start fun b3 U4 => ?_
 have DR : Ext σ (σ.set b3 (.cells #[.slice q m d] 97 (0, 0))) := .set U4
 refine Yi (f := 270) (g := fun x => !Sl x.1 ns) AGc (hr.mono Ka.mono DR) hn (fun σ' x R' hx hR' => ?_) fun p' n' c' σ' ho hx => ⟨_, _, _, rfl, h p' n' c' σ' ?_ (DR.trans hx)⟩
 · refine Je.start fun _ => ⟨q, m, d, AD (hx _ _ (Hp.AA _ _ _)) rfl, Rk (hs.mono (DR.trans hx)) ⟨_, rfl, hR'⟩⟩
 · exact ho.mono Ka.mono (Ext.CW DR)
def Bj : ByteArray := ⟨#[99, 108, 117, 115, 116, 101, 114]⟩
def BU : ByteArray := ⟨#[114, 101, 112, 108, 105, 99, 97]⟩
abbrev As : ByteArray := ⟨#[]⟩
def Eo : List Sm → Option (ByteArray × ByteArray)
 | [] => none
 | s :: l => if A0 s.ls BU ≠ As then some (A0 s.ls Bj, A0 s.ls BU) else Eo l
def Cp (s : Sm) : Bool := decide (A0 s.ls Bj ≠ As) && decide (A0 s.ls BU ≠ As)
def Bt (s : Sm) : Sm := ⟨s.ls.filter fun x => !Sl x.1 [BU], s.t, s.v⟩
theorem Rl {l : List Sm} {s : Sm} : Eo (l ++ [s]) = (Eo l).or (if A0 s.ls BU ≠ As then some (A0 s.ls Bj, A0 s.ls BU) else none) := by
 induction l with
 | nil => simp [Eo]
 | cons a l ih =>
   rw [List.cons_append, Eo, Eo]
   by_cases h : A0 a.ls BU ≠ As
   · rw [if_pos h, if_pos h]; rfl
   · rw [if_neg h, if_neg h, ih]
abbrev L4 (b6 b7 b8 b9 : Nat) (cl re : ByteArray) (sm al : Bool) : List (Nat × Obj) :=
 [(b9, .cells #[.bool al] 4 (0, 0)), (b8, .cells #[.bool sm] 4 (0, 0)), (b7, .cells #[.string re] 9 (0, 0)), (b6, .cells #[.string cl] 9 (0, 0))]
theorem iJ {b6 b7 b8 b9 : Nat} {cl re : ByteArray} {sm al : Bool} {q : Option Addr} {k c : Nat} {s : Sm} (hN : [b9, b8, b7, b6].Nodup) (hO : ∀ b ∈ [b9, b8, b7, b6], τ b = none) (hq : SA τ q k s.ls)
   (hR : R (.returned (.tuple #[])) (AX τ (L4 b6 b7 b8 b9 (if sm = false ∧ A0 s.ls BU ≠ As then A0 s.ls Bj else cl) (if sm = false ∧ A0 s.ls BU ≠ As then A0 s.ls BU else re) (sm || decide (A0 s.ls BU ≠ As)) (al && Cp s)))) :
   Spec prog 193 #[.agg #[.slice q k c, .int .i64 s.t, .int .u64 s.v], .pointer (some ⟨b8, 0, none⟩), .pointer (some ⟨b6, 0, none⟩), .pointer (some ⟨b7, 0, none⟩), .pointer (some ⟨b9, 0, none⟩)] (AX τ (L4 b6 b7 b8 b9 cl re sm al)) R := by
 have hn : ∀ {cl re sm al}, (names (L4 b6 b7 b8 b9 cl re sm al)).Nodup := hN
 have hx : Ext τ (AX τ (L4 b6 b7 b8 b9 cl re sm al)) := Hf.ext hn hO
 have hq' := hq.mono Ka.mono hx
 refine JP.start fun _ => DW (k := Bj) hq' ⟨_, rfl, DW (k := BU) hq' ⟨_, rfl, sm, IJ (i := 1) hn rfl rfl, ?_⟩⟩
 have e1 : ∀ s : ByteArray, (s.toList == (ByteArray.mk #[]).toList) = decide (s = As) := fun _ => Xz
 have fin : ∀ cl' re' sm', R (.returned (.tuple #[])) (AX τ (L4 b6 b7 b8 b9 cl' re' sm' (al && Cp s))) → JP.A1 R b9 (A0 s.ls Bj) (A0 s.ls BU) (AX τ (L4 b6 b7 b8 b9 cl' re' sm' al)) := fun cl' re' sm' h => by
   refine JP.AW ⟨al, IJ (i := 0) hn rfl rfl, fun ha => ?_, fun ha => ?_⟩
   · subst ha
     rw [e1, e1]
     refine ⟨fun h1 => ?_, fun h1 => ?_⟩
     · refine AJ.B4 (i := 0) (c := #[.bool true]) (c' := #[.bool (!decide (A0 s.ls BU = As))]) Jk hn rfl rfl rfl rfl rfl ?_
       rw [decide_eq_false_iff_not] at h1
       have : (true && Cp s) = !decide (A0 s.ls BU = As) := by unfold Cp; simp [h1]
       rw [this] at h; exact h
     · refine AJ.B4 (i := 0) (c := #[.bool true]) (c' := #[.bool false]) Jk hn rfl rfl rfl rfl rfl ?_
       rw [decide_eq_true_eq] at h1
       have : (true && Cp s) = false := by unfold Cp; simp [h1]
       rw [this] at h; exact h
   · subst ha
     refine AJ.B4 (i := 0) (c := #[.bool false]) (c' := #[.bool false]) Jk hn rfl rfl rfl rfl rfl ?_
     simpa using h
 refine ⟨fun hs => ?_, fun hs => ?_⟩
 · subst hs
   rw [e1]
   refine ⟨fun h1 => ?_, fun h1 => ?_⟩
   · rw [decide_eq_false_iff_not] at h1
     refine AJ.B4 (i := 3) (c := #[.string cl]) (c' := #[.string (A0 s.ls Bj)]) sizeOf9 hn rfl rfl rfl rfl rfl ?_
     refine AJ.B4 (L := L4 b6 b7 b8 b9 (A0 s.ls Bj) re false al) (i := 2) (c := #[.string re]) (c' := #[.string (A0 s.ls BU)]) sizeOf9 hn rfl rfl rfl rfl rfl ?_
     refine AJ.B4 (L := L4 b6 b7 b8 b9 (A0 s.ls Bj) (A0 s.ls BU) false al) (i := 1) (c := #[.bool false]) (c' := #[.bool true]) Jk hn rfl rfl rfl rfl rfl ?_
     refine fin _ _ true ?_
     rw [if_pos ⟨rfl, h1⟩, if_pos ⟨rfl, h1⟩, decide_eq_true h1] at hR
     exact hR
   · rw [decide_eq_true_eq] at h1
     refine fin _ _ false ?_
     rw [if_neg (by simp [h1]), if_neg (by simp [h1]), decide_eq_false (by simp [h1])] at hR
     exact hR
 · subst hs
   refine fin _ _ true ?_
   rw [if_neg (by simp), if_neg (by simp), Bool.true_or] at hR
   exact hR
theorem AGd : Enters prog 193 := fun args w => call193 args w
theorem bO {p : Option Addr} {n c : Nat} {ss : List Sm} (hr : IC σ p n ss) (hn : n ≤ 256) (MR : ∀ s ∈ ss, HO s.ls)
   (nV : Eo ss = none → ∀ q m d σ', A9 3 ML (σ.new σ') q m d ss → Ext σ σ' → R (.returned (.tuple #[.string As, .string As, .slice q m d, .int .i64 0])) σ')
   (nW : ∀ cl re, Eo ss = some (cl, re) → (∀ s ∈ ss, A0 s.ls Bj = cl ∧ A0 s.ls BU = re) → ∀ q m d σ', A9 3 ML (σ.new σ') q m d (ss.map Bt) → Ext σ σ' → R (.returned (.tuple #[.string cl, .string re, .slice q m d, .int .i64 0])) σ')
   (nX : ∀ cl re, Eo ss = some (cl, re) → ¬ (ss.all Cp = true ∧ ∀ s ∈ ss, A0 s.ls Bj = cl ∧ A0 s.ls BU = re) → R (.returned (.tuple #[.string As, .string As, .slice none 0 0, .int .i64 160])) σ) :
   Spec prog 106 #[.slice p n c] σ R := by
 have sI : ss.length = n := hr.1
 refine Spec.drop (C5.start fun b6 h6 b7 h7 b8 h8 b9 h9 => ?_)
 obtain ⟨n76, h7'⟩ := Hp.AL h7
 obtain ⟨n87, h8'⟩ := Hp.AL h8
 obtain ⟨n86, ANf⟩ := Hp.AL h8'
 obtain ⟨n98, h9'⟩ := Hp.AL h9
 obtain ⟨n97, ANg⟩ := Hp.AL h9'
 obtain ⟨n96, AGe⟩ := Hp.AL ANg
 have hN : [b9, b8, b7, b6].Nodup := by simp [n98, n97, n96, n87, n86, n76]
 have Y9 : ∀ {cl re sm al}, (names (L4 b6 b7 b8 b9 cl re sm al)).Nodup := hN
 have zt : ∀ b ∈ [b9, b8, b7, b6], σ b = none := fun b hb => by
   simp only [List.mem_cons, List.not_mem_nil, or_false] at hb
   rcases hb with rfl | rfl | rfl | rfl
   · exact AGe
   · exact ANf
   · exact h7'
   · exact h6
 have Vs : ∀ {ρ : Hp} {cl re sm al}, (∀ b ∈ [b9, b8, b7, b6], ρ b = none) → Ext ρ (AX ρ (L4 b6 b7 b8 b9 cl re sm al)) := fun h => Hf.ext Y9 h
 show AJ prog (Instr.storeAt 9 (.pointer (aD b6 0)) (.string As)) (AX σ (L4 b6 b7 b8 b9 As As false false)) _
 refine AJ.B4 (i := 3) (c := #[.string As]) (c' := #[.string As]) sizeOf9 Y9 rfl rfl rfl rfl rfl ?_
 refine AJ.B4 (L := L4 b6 b7 b8 b9 As As false false) (i := 2) (c := #[.string As]) (c' := #[.string As]) sizeOf9 Y9 rfl rfl rfl rfl rfl ?_
 refine AJ.B4 (L := L4 b6 b7 b8 b9 As As false false) (i := 1) (c := #[.bool false]) (c' := #[.bool false]) Jk Y9 rfl rfl rfl rfl rfl ?_
 refine AJ.B4 (L := L4 b6 b7 b8 b9 As As false false) (i := 0) (c := #[.bool false]) (c' := #[.bool true]) Jk Y9 rfl rfl rfl rfl rfl ?_
 show C5.HC (Drop R) p n c b6 b7 b8 b9 _ p n c n 0 (AX σ (L4 b6 b7 b8 b9 As As false true))
 let cl : List Sm → ByteArray := fun l => ((Eo l).map (·.1)).getD As
 let re : List Sm → ByteArray := fun l => ((Eo l).map (·.2)).getD As
 let sm : List Sm → Bool := fun l => (Eo l).isSome
 suffices H1 : ∀ d k : Nat, n - k = d → k ≤ n → C5.HC (Drop R) p n c b6 b7 b8 b9 (.func (.func 193) #[] #[.pointer (some ⟨b8, 0, none⟩), .pointer (some ⟨b6, 0, none⟩), .pointer (some ⟨b7, 0, none⟩), .pointer (some ⟨b9, 0, none⟩)]) p n c n k (AX σ (L4 b6 b7 b8 b9 (cl (ss.take k)) (re (ss.take k)) (sm (ss.take k)) ((ss.take k).all Cp))) from H1 n 0 rfl (Nat.zero_le _)
 intro d
 induction d with
 | succ d ih =>
   intro k hd hk
   have Dh : k < n := by omega
   obtain ⟨s, hs⟩ := hr.ex Dh
   obtain ⟨b, o, q, kq, cq, rfl, hl, hq⟩ := IC.at hr hs
   refine C5.F5 ⟨fun _ => ⟨b, o, rfl, by omega, q, kq, cq, s.t, s.v, by simpa using hl.mono (Vs zt), fun _ => ⟨193, #[], _, rfl, AGd, iJ hN zt hq ⟨rfl, Ah Dh hr.big, ?_⟩⟩⟩, fun hh => by omega⟩
   have := ih (k + 1) (by omega) (by omega)
   have e0 : ss.take (k + 1) = ss.take k ++ [s] := AR hs
   have e1 : cl (ss.take (k + 1)) = (if sm (ss.take k) = false ∧ A0 s.ls BU ≠ As then A0 s.ls Bj else cl (ss.take k)) := by
     simp only [cl, sm, e0, Rl]
     cases Eo (ss.take k) with
     | some x => simp
     | none => by_cases h : A0 s.ls BU = As <;> simp [h]
   have e2 : re (ss.take (k + 1)) = (if sm (ss.take k) = false ∧ A0 s.ls BU ≠ As then A0 s.ls BU else re (ss.take k)) := by
     simp only [re, sm, e0, Rl]
     cases Eo (ss.take k) with
     | some x => simp
     | none => by_cases h : A0 s.ls BU = As <;> simp [h]
   have e3 : sm (ss.take (k + 1)) = (sm (ss.take k) || decide (A0 s.ls BU ≠ As)) := by
     simp only [sm, e0, Rl]
     cases Eo (ss.take k) with
     | some x => simp
     | none => by_cases h : A0 s.ls BU = As <;> simp [h]
   have e4 : (ss.take (k + 1)).all Cp = ((ss.take k).all Cp && Cp s) := by rw [e0]; simp
   rw [e1, e2, e3, e4] at this
   exact this
 | zero =>
   intro k hd hk
   have LF : n = k := by omega
   subst LF
   rw [List.take_of_length_le (by omega)]
   refine C5.F5 ⟨fun Ag => by omega, fun _ => ?_⟩
   let out : Sm → Sm := fun s => if sm ss then Bt s else s
   have jM : ∀ {ρ : Hp} {a1 a2 a3 a4}, Hp.ld (AX ρ (L4 b6 b7 b8 b9 a1 a2 a3 a4)) ⟨b8, 0, none⟩ = some (.bool a3) ∧ Hp.ld (AX ρ (L4 b6 b7 b8 b9 a1 a2 a3 a4)) ⟨b9, 0, none⟩ = some (.bool a4) ∧ Hp.ld (AX ρ (L4 b6 b7 b8 b9 a1 a2 a3 a4)) ⟨b6, 0, none⟩ = some (.string a1) ∧ Hp.ld (AX ρ (L4 b6 b7 b8 b9 a1 a2 a3 a4)) ⟨b7, 0, none⟩ = some (.string a2) :=
     ⟨IJ (i := 1) Y9 rfl rfl, IJ (i := 0) Y9 rfl rfl, IJ (i := 3) Y9 rfl rfl, IJ (i := 2) Y9 rfl rfl⟩
   have bad : ∀ (ρ : Hp), Ext σ ρ → (∀ b ∈ [b9, b8, b7, b6], ρ b = none) → sm ss = true → ¬ (ss.all Cp = true ∧ ∀ s ∈ ss, A0 s.ls Bj = cl ss ∧ A0 s.ls BU = re ss) → Drop R (.returned (.tuple #[.string As, .string As, .slice none 0 0, .int .i64 160])) (AX ρ (L4 b6 b7 b8 b9 (cl ss) (re ss) (sm ss) (ss.all Cp))) := fun ρ hx ho h1 h2 => by
     cases hf : Eo ss with
     | none => simp [sm, hf] at h1
     | some x => exact .mk (hx.trans (Vs ho)) (nX x.1 x.2 hf (by simpa [cl, re, hf] using h2))
   suffices H2 : ∀ d k : Nat, ∀ p3 c3 σ3, n - k = d → k ≤ n → (∀ b ∈ [b9, b8, b7, b6], σ3 b = none) → A9 3 ML (σ.new σ3) p3 k c3 ((ss.take k).map out) → Ext σ σ3 → (sm ss = true → ss.all Cp = true ∨ k = 0) → (sm ss = true → ∀ s ∈ ss.take k, A0 s.ls Bj = cl ss ∧ A0 s.ls BU = re ss) →
       C5.rL (Drop R) b6 b7 b8 b9 p3 k c3 p n c n k (AX σ3 (L4 b6 b7 b8 b9 (cl ss) (re ss) (sm ss) (ss.all Cp))) from H2 n 0 none 0 σ rfl (Nat.zero_le _) zt A9.nil (.refl _) (fun _ => .inr rfl) (fun _ s hs => by simp at hs)
   intro d
   induction d with
   | zero =>
     intro k p3 c3 σ3 hd hk sv ho hx h1 h2
     have LF : k = n := by omega
     subst LF
     rw [List.take_of_length_le (by omega)] at ho h2
     refine C5.dF ⟨fun Ag => by omega, fun _ => ⟨_, jM.2.2.1, _, jM.2.2.2, ?_⟩⟩
     cases hf : Eo ss with
     | none =>
       have e1 : cl ss = As := by simp [cl, hf]
       have e2 : re ss = As := by simp [re, hf]
       have e3 : ss.map out = ss := by
         have : out = id := by funext s; simp [out, sm, hf]
         rw [this, List.map_id]
       rw [e3] at ho
       rw [e1, e2]
       exact .mk (Vs sv) (nV hf p3 k c3 σ3 ho hx)
     | some x =>
       have AGf : sm ss = true := by simp [sm, hf]
       have e1 : cl ss = x.1 := by simp [cl, hf]
       have e2 : re ss = x.2 := by simp [re, hf]
       have e3 : ss.map out = ss.map Bt := by
         have : out = Bt := by funext s; simp [out, AGf]
         rw [this]
       rw [e3] at ho
       have fg := h2 AGf
       rw [e1, e2] at fg ⊢
       exact .mk (Vs sv) (nW x.1 x.2 hf fg p3 k c3 σ3 ho hx)
   | succ d ih =>
     intro k p3 c3 σ3 hd hk sv ho hx h1 h2
     have Dh : k < n := by omega
     obtain ⟨s, hs⟩ := hr.ex Dh
     have sa := MR s (List.mem_of_getElem? hs)
     obtain ⟨b, o, q, kq, cq, rfl, hl, hq⟩ := IC.at hr hs
     have hql : s.ls.length = kq := hq.1
     have fv := sa.1
     have hqL : ∀ {a1 a2 a3 a4}, SA (AX σ3 (L4 b6 b7 b8 b9 a1 a2 a3 a4)) q kq s.ls := (hq.mono Ka.mono hx).mono Ka.mono (Vs sv)
     have hnL : ∀ {a1 a2 a3 a4}, names (L4 b6 b7 b8 b9 a1 a2 a3 a4) = [b9, b8, b7, b6] := rfl
     have put : ∀ (σ5 : Hp) (q5 : Option Addr) (m5 d5 : Nat), Ext σ3 σ5 → (∀ b ∈ [b9, b8, b7, b6], σ5 b = none) → A9 2 Ka (σ3.new σ5) q5 m5 d5 (out s).ls → (sm ss = true → ss.all Cp = true) → (sm ss = true → A0 s.ls Bj = cl ss ∧ A0 s.ls BU = re ss) →
         C5.QZ (Drop R) b6 b7 b8 b9 p3 k c3 q5 m5 d5 s.t s.v (aD b o) n c n k (AX σ5 (L4 b6 b7 b8 b9 (cl ss) (re ss) (sm ss) (ss.all Cp))) := by
       intro σ5 q5 m5 d5 SU hO5 hq5 ha hg
       refine C5.rO fun b65 ANj => ?_
       obtain ⟨aT, AGg⟩ := B3 ANj
       rw [DE aT]
       have AGh : A9 3 ML (σ.new σ5) p3 k c3 ((ss.take k).map out) := ho.mono ML.mono (Ext.BV SU)
       have de : ∀ a, p3 = some a → σ3 a.block ≠ none := fun a hpa => by
         have := ho.block a hpa
         cases hh : (σ.new σ3) a.block with
         | none => exact absurd hh this
         | some oo => rw [(AQ.1 hh).2]; simp
       have C9 : Ext (σ3.new σ5) ((σ.new σ5).del p3) := Ext.IS hx de
       have sY : (out s).t = s.t ∧ (out s).v = s.v := by
         simp only [out]
         split <;> exact ⟨rfl, rfl⟩
       have he : ML ((σ.new σ5).del p3) [.slice q5 m5 d5, .int .i64 s.t, .int .u64 s.v] (out s) := ⟨q5, m5, d5, by rw [sY.1, sY.2], (hq5.rd Ka.mono).mono Ka.mono C9⟩
       refine AJ.CH Y9 (Hf.set (L := L4 b6 b7 b8 b9 (cl ss) (re ss) (sm ss) (ss.all Cp)) hO5 aT) (A9.JF ML.mono (hx.trans SU) AGh rfl (ML.one _ _ _ he) he (by omega) (fun p' c' σ6 ho6 LU ANk => ⟨_, _, _, rfl, Ah Dh hr.big, ih (k + 1) p' c' σ6 (by omega) (by omega) ANk ?_ LU (fun h => .inl (ha h)) fun h s' II => ?_⟩) AGg)
       · rw [AR hs, List.map_append]; exact ho6
       · rw [AR hs] at II
         rcases List.mem_append.1 II with II | II
         · exact h2 h s' II
         · simp at II; subst II; exact hg h
     have go : (sm ss = true → ss.all Cp = true) → (sm ss = true → A0 s.ls Bj = cl ss ∧ A0 s.ls BU = re ss) → Al (AX σ3 (L4 b6 b7 b8 b9 (cl ss) (re ss) (sm ss) (ss.all Cp))) fun lE => AJ prog (Builtin.append_ #[22, 22] 22 #[(.slice (aD lE 0) 0 0), .slice q kq cq]) (Hp.set (AX σ3 (L4 b6 b7 b8 b9 (cl ss) (re ss) (sm ss) (ss.all Cp))) lE (.cells #[] 61 (0, 0))) (CS fun rM oX rN y => LB y b8 0 fun t57 => Bo t57 (Al y fun R5 => Spec prog 194 #[.slice rM oX rN, (.slice (aD R5 0) 1 1)] (Hp.set y R5 (.cells #[(.string (ByteArray.mk #[114, 101, 112, 108, 105, 99, 97]))] 9 (0, 0))) (AB (Drop R) (CS fun xL n61 tc AI => C5.QZ (Drop R) b6 b7 b8 b9 p3 k c3 xL n61 tc s.t s.v (aD b o) n c n k AI))) (C5.QZ (Drop R) b6 b7 b8 b9 p3 k c3 rM oX rN s.t s.v (aD b o) n c n k y)) := by
       intro ha hg lE ANl
       obtain ⟨aT, AGi⟩ := B3 ANl
       rw [DE aT]
       refine AJ.CH Y9 (Hf.set (L := L4 b6 b7 b8 b9 (cl ss) (re ss) (sm ss) (ss.all Cp)) sv aT) (Tq (hq.mono Ka.mono hx) (by omega) (fun q4 c4 σ4 Pv Kt AGj => ⟨_, _, _, rfl, sm ss, jM.1, fun ht => ?_, fun ht => ?_⟩) AGi)
       · intro R5 zk
         obtain ⟨vi, dt⟩ := B3 zk
         show Spec prog 194 _ ((AX σ4 _).set R5 (.cells #[.string BU] 9 (0, 0))) _
         rw [DE vi]
         have zu : Ext σ4 (σ4.set R5 (.cells #[.string BU] 9 (0, 0))) := .set dt
         refine Spec.CH Y9 (Hf.set (L := L4 b6 b7 b8 b9 (cl ss) (re ss) (sm ss) (ss.all Cp)) AGj vi) (Vd (ns := [BU]) (((Pv.rd Ka.mono).mono Ka.mono (Ext.Af _ _)).mono Ka.mono zu) (by omega) ⟨rfl, by omega, .inr ⟨R5, 0, rfl, ⟨AD (Hp.AA _ _ _) rfl, trivial⟩⟩⟩ fun q5 m5 c5 σ5 ix SU ANm => ⟨_, _, _, rfl, ?_⟩)
         refine put σ5 q5 m5 c5 ((Kt.trans zu).trans SU) ANm ?_ ha hg
         have e : (out s).ls = s.ls.filter fun x => !Sl x.1 [BU] := by simp only [out]; rw [if_pos ht]; rfl
         rw [e]
         exact ix.mono Ka.mono (Ext.CW (Kt.trans zu))
       · refine put σ4 q4 kq c4 Kt AGj ?_ ha hg
         have e : (out s).ls = s.ls := by simp only [out]; rw [if_neg (by simp [ht])]
         rw [e]; exact Pv
     have Cl : s ∈ ss := List.mem_of_getElem? hs
     refine C5.dF ⟨fun _ => ⟨b, o, rfl, by omega, q, kq, cq, s.t, s.v, by simpa using hl.mono (hx.trans (Vs sv)), fun _ => ⟨sm ss, jM.1, fun ht => ⟨ss.all Cp, jM.2.1, fun ha => bad σ3 hx sv ht fun hh => (by rw [hh.1] at ha; cases ha), fun ha => ⟨cl ss, jM.2.2.1, ?_⟩⟩, fun ht => go (fun h => by rw [ht] at h; cases h) fun h => by rw [ht] at h; cases h⟩⟩, fun hh => by omega⟩
     refine DW (k := Bj) hqL ⟨_, rfl, Kp.CG (.refl _), fun Ad => ?_, fun heq => ⟨re ss, jM.2.2.2, DW (k := BU) hqL ⟨_, rfl, Kp.CG (.refl _), fun Ad => ?_, fun AGk => ?_⟩⟩⟩
     · rw [Xz, decide_eq_false_iff_not] at Ad
       exact bad σ3 hx sv ht fun hh => Ad (hh.2 s Cl).1
     · rw [Xz, decide_eq_false_iff_not] at Ad
       exact bad σ3 hx sv ht fun hh => Ad (hh.2 s Cl).2
     · rw [Xz, decide_eq_true_eq] at heq AGk
       exact go (fun _ => ha) fun _ => ⟨heq, AGk⟩
end
end TwW
end
section
namespace TwW
open Go Tw Go.RowKit Go.Proofs.Tryz
section
variable {σ σ' τ : Hp} {R : Rr}
variable {b3 b4 b5 BA bd md : Nat} {qk : Option Addr} {rf fo re now : Int} {ha : Bool} {ten : ByteArray} {p : Option Addr} {n c : Nat} {ss : List Sm}
theorem bP (h5 : NK τ b3 b4 b5 BA bd qk) (hd : τ bd = some (D1 rf fo re true md)) (hb : τ BA = none) (hs : IC τ p n ss) (hn : n ≤ 256) (MR : ∀ s ∈ ss, HO s.ls)
   (nV : Eo ss = none → ∀ q m d τ', A9 3 ML (τ.new τ') q m d ss → Ext τ τ' → τ' BA = none → R (.returned (.int .i64 0)) (τ'.set BA (Bf ten As As q m d now none)))
   (nW : ∀ cl rep, Eo ss = some (cl, rep) → (∀ s ∈ ss, A0 s.ls Bj = cl ∧ A0 s.ls BU = rep) → ∀ q m d τ', A9 3 ML (τ.new τ') q m d (ss.map Bt) → Ext τ τ' → τ' BA = none → R (.returned (.int .i64 0)) (τ'.set BA (Bf ten cl rep q m d now none)))
   (nX : ∀ cl rep, Eo ss = some (cl, rep) → ¬ (ss.all Cp = true ∧ ∀ s ∈ ss, A0 s.ls Bj = cl ∧ A0 s.ls BU = rep) → ∀ τ', Ext τ τ' → R (.returned (.int .i64 3)) τ') :
   Spec prog 105 #[.pointer (some ⟨b3, 0, none⟩), .pointer (some ⟨b4, 0, none⟩)] (τ.set BA (Bf ten As As p n c now none)) R := by
 have hx : ∀ {o : Obj}, Ext τ (τ.set BA o) := .set hb
 refine Bi.start ⟨_, AD (hx _ _ h5.e3) rfl, bd, 0, rfl, true, AD (hx _ _ hd) rfl, fun h => (by cases h), fun _ => ⟨_, AD (hx _ _ h5.e4) rfl, _, AD (hx _ _ h5.e4) rfl, _, AD (hx _ _ h5.e4) rfl, _, AD (hx _ _ h5.e4) rfl, BA, 0, rfl, p, n, c, Ac rfl, ?_⟩⟩
 have kp : ∀ {τ' : Hp} {o o' : Obj} {L : List Nat}, Ext τ τ' → (∀ k ∈ L, k = b4) → Kp L (τ.set BA o) (τ'.set BA o') := fun Cc hL k hk u hu => by
   rw [hL k hk] at hu ⊢
   have Ad : b4 ≠ BA := fun e => by have := h5.e4; rw [e, hb] at this; cases this
   rw [Hp.AF Ad] at hu ⊢
   exact Cc _ _ hu
 have kp2 : ∀ {τ' : Hp} {o o' : Obj} {L : List Nat}, Ext τ τ' → τ' BA = none → (∀ k ∈ L, k = b4) → Kp L (τ'.set BA o) (τ'.set BA o') := fun Cc J1 hL k hk u hu => by
   rw [hL k hk] at hu ⊢
   have Ad : b4 ≠ BA := fun e => by have := h5.e4; rw [e, hb] at this; cases this
   rw [Hp.AF Ad] at hu ⊢
   exact hu
 have st : ∀ (τ' : Hp) (cl rep : ByteArray) (q : Option Addr) (m d : Nat) (e : Int), Ext τ τ' → τ' BA = none → (e = 0 → R (.returned (.int .i64 0)) (τ'.set BA (Bf ten cl rep q m d now none))) → (e ≠ 0 → R (.returned (.int .i64 3)) (τ'.set BA (Bf ten cl rep q m d now none))) →
     Kp [b4, b4, b4] (τ.set BA (Bf ten As As p n c now none)) (τ'.set BA (Bf ten As As p n c now none)) ∧ Pq (some ⟨BA, 0, none⟩) fun NN cy => AJ prog (Instr.storeAt 9 (.pointer (aD NN (cy + 1))) (.string cl)) (τ'.set BA (Bf ten As As p n c now none)) (fun _ AI => Kp [b4, b4] (τ'.set BA (Bf ten As As p n c now none)) AI ∧ Pq (some ⟨BA, 0, none⟩) fun TV o26 => AJ prog (Instr.storeAt 9 (.pointer (aD TV (o26 + 2))) (.string rep)) AI (fun _ AV => Kp [b4] AI AV ∧ Pq (some ⟨BA, 0, none⟩) fun Qh dD => AJ prog (Instr.storeAt 46 (.pointer (aD Qh (dD + 3))) (.slice q m d)) AV (fun _ Ay => Br (e ≠ 0) (R (.returned (.int .i64 3)) Ay) (R (.returned (.int .i64 0)) Ay)))) := by
   intro τ' cl rep q m d e Cc J1 h0 h1
   have e1 : (Obj.cells (DX #[.string ten, .string As, .string As, .slice p n c, .int .i64 now, .pointer none] (0 + 1) (Value.string cl).cells.toList) 120 (0, 0)) = Bf ten cl As p n c now none := by simp [DX, Value.cells, Bf]
   have e2 : (Obj.cells (DX #[.string ten, .string cl, .string As, .slice p n c, .int .i64 now, .pointer none] (0 + 2) (Value.string rep).cells.toList) 120 (0, 0)) = Bf ten cl rep p n c now none := by simp [DX, Value.cells, Bf]
   have e3 : (Obj.cells (DX #[.string ten, .string cl, .string rep, .slice p n c, .int .i64 now, .pointer none] (0 + 3) (Value.slice q m d).cells.toList) 120 (0, 0)) = Bf ten cl rep q m d now none := by simp [DX, Value.cells, Bf]
   refine ⟨kp Cc (by simp), BA, 0, rfl, ?_⟩
   refine AJ.store sizeOf9 (Hp.AA _ _ _) rfl (by simp) (by simp [Value.cells, Value.oneCell']) ?_
   rw [Hp.set_set, e1]
   refine ⟨kp2 Cc J1 (by simp), BA, 0, rfl, ?_⟩
   refine AJ.store sizeOf9 (Hp.AA _ _ _) rfl (by simp) (by simp [Value.cells, Value.oneCell']) ?_
   rw [Hp.set_set, e2]
   refine ⟨kp2 Cc J1 (by simp), BA, 0, rfl, ?_⟩
   refine AJ.store sizeOf46 (Hp.AA _ _ _) rfl (by simp) (by simp [Value.cells, Value.oneCell']) ?_
   rw [Hp.set_set, e3]
   exact ⟨h1, fun h => h0 (Decidable.not_not.1 h)⟩
 refine Spec.BW hb (bO hs hn MR (fun hf q m d τ' ho Cc J1 => ⟨_, _, _, _, _, _, rfl, ?_⟩) (fun cl rep hf E5 q m d τ' ho Cc J1 => ⟨_, _, _, _, _, _, rfl, ?_⟩) fun cl rep hf Be J1 => ⟨_, _, _, _, _, _, rfl, ?_⟩)
 · exact st τ' _ _ q m d 0 Cc J1 (fun _ => nV hf q m d τ' ho Cc J1) fun h => absurd rfl h
 · exact st τ' cl rep q m d 0 Cc J1 (fun _ => nW cl rep hf E5 q m d τ' ho Cc J1) fun h => absurd rfl h
 · exact st τ As As none 0 0 160 (.refl _) J1 (fun h => by cases h) fun _ => nX cl rep hf Be _ hx
theorem Rm {dk bb bk : Nat} {D : Dk} {W : Wl} {rows : List CO} {κ : Hp} {e : Nat} {ms : List Mem} {rk : Nat}
   (hd : σ bd = some (D1 rf fo re ha md)) (hk : IF σ dk bb bk D W rows κ) (hu : D.up = true) (ht : Tr (Cr rows D3).1 e ms) (aV : 1 ≤ rf) (zc : rf ≤ 5) (vb : rf = rk) (Va : rk ≤ (CE ms).length) (hs : IC σ p n ss)
   (h0 : I4 ten 16 100 ss ≠ 0 → ∀ σ', Ext σ σ' → R (.returned (.tuple #[.pointer none, .int .i64 (Yb (I4 ten 16 100 ss))])) σ')
   (nX : I4 ten 16 100 ss = 0 → ha = true → ∀ cl rep, Eo ss = some (cl, rep) → ¬ (ss.all Cp = true ∧ ∀ s ∈ ss, A0 s.ls Bj = cl ∧ A0 s.ls BU = rep) → ∀ σ', Ext σ σ' → R (.returned (.tuple #[.pointer none, .int .i64 3])) σ')
   (h1 : I4 ten 16 100 ss = 0 → ∀ cl rep bQ, (rep = As → bQ = ss) → (ha = false ∧ rep = As ∨ ha = true ∧ Eo ss = none ∧ rep = As ∨ ha = true ∧ Eo ss = some (cl, rep) ∧ (∀ s ∈ ss, A0 s.ls Bj = cl ∧ A0 s.ls BU = rep) ∧ bQ = ss.map Bt) →
     ∀ b3 b4 b5 BA q m d pb σ' mv, NK σ' b3 b4 b5 BA bd (some ⟨bk, 0, none⟩) → Ext σ σ' → Cj (σ.new σ') pb e (rf / 2 + 1) (bQ.map (partOf ms rk)) mv (bQ.map fun _ => []) (fun _ => none) → σ' BA = some (Bf ten cl rep q m d now (some ⟨pb, 0, none⟩)) → σ BA = none →
     Spec prog 110 #[.pointer (some ⟨b4, 0, none⟩), .pointer (some ⟨b3, 0, none⟩), .pointer (some ⟨b5, 0, none⟩)] σ' (AB R (CI .i64 fun v PC => (v ≠ 0 → R (.returned (.tuple #[.pointer none, .int .i64 v])) PC) ∧ (v = 0 → LQ PC BA 5 fun q => R (.returned (.tuple #[.pointer q, .int .i64 0])) PC)))) :
   Spec prog 12 #[.pointer (some ⟨bd, 0, none⟩), .string ten, .slice p n c, .int .i64 now, .pointer (some ⟨bk, 0, none⟩)] σ R := by
 have dV : ss.length = n := hs.1
 refine AT.start fun BA ANn => Spec.BW ANn (iI fun b3 b4 b5 EH τ h5 oe hx hn => ⟨_, _, _, rfl, ?_⟩)
 show AT.A1 R _ _ _ _ _ _ (τ.set BA (Bf ten As As p n c now none))
 have XP := hx _ _ hd
 have zv := hs.mono ML.mono hx
 have SY : ∀ {o : Obj}, Ext τ (τ.set BA o) := .set hn
 have l11 : ∀ {σ1 : Hp} {j : Nat} {v : Value}, Ext τ σ1 → (#[(.func (.func 103) #[] #[(.pointer (some ⟨b4, 0, none⟩)), (.pointer (some ⟨b3, 0, none⟩))]), (.func (.func 105) #[] #[(.pointer (some ⟨b3, 0, none⟩)), (.pointer (some ⟨b4, 0, none⟩))]), (.func (.func 107) #[] #[(.pointer (some ⟨b5, 0, none⟩)), (.pointer (some ⟨b3, 0, none⟩)), (.pointer (some ⟨b4, 0, none⟩))]), (.func (.func 110) #[] #[(.pointer (some ⟨b4, 0, none⟩)), (.pointer (some ⟨b3, 0, none⟩)), (.pointer (some ⟨b5, 0, none⟩))])] : Array Value)[j]? = some v → Hp.ld σ1 ⟨EH, j, none⟩ = some v := fun h hv => AD (h _ _ oe) hv
 refine AT.AW ⟨fun _ => ⟨EH, 0, rfl, by omega, _, l11 (j := 0) SY rfl, 103, #[], _, rfl, AGZ, iC h5 XP hn zv ⟨_, rfl, fun Ad => ?_, fun heq => ⟨by unfold AO; omega, ?_⟩⟩⟩, fun hh => absurd (by decide) hh⟩
 · exact h0 (fun h => Ad (by rw [h]; rfl)) _ (hx.trans SY)
 have sI : I4 ten 16 100 ss = 0 := by
   refine Decidable.byContradiction fun h => heq ?_
   unfold Yb
   rw [if_neg h]
   split <;> decide
 have iK := sI
 unfold I4 at iK
 split at iK
 · cases iK
 split at iK
 · cases iK
 rename_i _ SX
 have MR : ∀ s ∈ ss, HO s.ls := fun s hs => aU (Tp iK s hs)
 have rest : ∀ (cl rep : ByteArray) (bQ : List Sm) (τ2 : Hp) q m d, (rep = As → bQ = ss) → (ha = false ∧ rep = As ∨ ha = true ∧ Eo ss = none ∧ rep = As ∨ ha = true ∧ Eo ss = some (cl, rep) ∧ (∀ s ∈ ss, A0 s.ls Bj = cl ∧ A0 s.ls BU = rep) ∧ bQ = ss.map Bt) → IC τ2 q m bQ → (∀ s ∈ bQ, HO s.ls) → bQ.length ≤ 256 → Ext τ τ2 → τ2 BA = none →
     AT.A1 R (aD BA 0) (aD EH 0) 4 4 (4 : Nat) ((0 : Int) + 1 + 1) (τ2.set BA (Bf ten cl rep q m d now none)) := by
   intro cl rep bQ τ2 q m d Vh hca II ANo TK An NT
   have ANp : ∀ {o : Obj}, Ext τ2 (τ2.set BA o) := .set NT
   have nJ := h5.mono An
   refine AT.AW ⟨fun _ => ⟨EH, 0, rfl, by omega, _, l11 (j := 2) (An.trans ANp) rfl, 107, #[], _, rfl, AGa, iD nJ (An _ _ XP) NT (hk.mono (hx.trans An)) hu ht aV zc vb Va II ANo TK fun pb τ' mv q3 m3 d3 DR iw de Ad hP => ⟨_, rfl, fun Ad => absurd rfl Ad, fun _ => ⟨by unfold AO; omega, ?_⟩⟩⟩, fun hh => absurd (by decide) hh⟩
   have hN : (names [(pb, NJ e (rf / 2 + 1) q3 m3 d3), (BA, Bf ten cl rep q m d now (some ⟨pb, 0, none⟩))]).Nodup := by simp [names, Ad]
   have Vs : Ext τ' (AX τ' [(pb, NJ e (rf / 2 + 1) q3 m3 d3), (BA, Bf ten cl rep q m d now (some ⟨pb, 0, none⟩))]) := Hf.ext hN fun k hk => by
     simp [names] at hk
     rcases hk with rfl | rfl
     · exact de
     · exact iw
   have lo := B7 (τ := τ') (i := 1) hN rfl
   have Kt : Ext σ (AX τ' [(pb, NJ e (rf / 2 + 1) q3 m3 d3), (BA, Bf ten cl rep q m d now (some ⟨pb, 0, none⟩))]) := (hx.trans An).trans (DR.trans Vs)
   have Jm : Ext (τ2.new (AX τ' [(pb, NJ e (rf / 2 + 1) q3 m3 d3), (BA, Bf ten cl rep q m d now (some ⟨pb, 0, none⟩))])) (σ.new (AX τ' [(pb, NJ e (rf / 2 + 1) q3 m3 d3), (BA, Bf ten cl rep q m d now (some ⟨pb, 0, none⟩))])) := Ext.CW (hx.trans An)
   refine AT.AW ⟨fun _ => ⟨EH, 0, rfl, by omega, _, l11 (j := 3) (An.trans (DR.trans Vs)) rfl, 110, #[], _, rfl, AGb, ?_⟩, fun hh => absurd (by decide) hh⟩
   refine (h1 sI cl rep bQ Vh hca b3 b4 b5 BA q m d pb _ mv (nJ.mono (DR.trans Vs)) Kt ⟨hP.row.mono (Jm.off _), hP.nodup, hP.len, fun i v f hv hf => (hP.YK i v f hv hf).mono Jm, fun k o hk => by cases hk⟩ lo (A4 hx hn)).mono fun en σ5 hr => ?_
   cases en with
   | panicked ch => exact hr
   | outgrown => exact hr
   | returned v =>
     obtain ⟨x, rfl, zd, ANq⟩ := hr
     refine ⟨x, rfl, zd, fun hz => ⟨by unfold AO; omega, ?_⟩⟩
     obtain ⟨q5, hq5, ANr⟩ := ANq (Decidable.not_not.1 hz)
     exact AT.AW ⟨fun hh => absurd hh (by decide), fun _ => ⟨BA, 0, rfl, q5, hq5, ANr⟩⟩
 cases ha with
 | false =>
   refine AT.AW ⟨fun _ => ⟨EH, 0, rfl, by omega, _, l11 (j := 1) SY rfl, 105, #[], _, rfl, vn, bF h5 XP hn ⟨_, rfl, fun Ad => absurd rfl Ad, fun _ => ⟨by unfold AO; omega, ?_⟩⟩⟩, fun hh => absurd (by decide) hh⟩
   exact rest As As ss τ p n c (fun _ => rfl) (.inl ⟨rfl, rfl⟩) zv MR (by omega) (.refl _) hn
 | true =>
   refine AT.AW ⟨fun _ => ⟨EH, 0, rfl, by omega, _, l11 (j := 1) SY rfl, 105, #[], _, rfl, vn, bP h5 XP hn zv (by omega) MR (fun hf q m d τ' ho Cc J1 => ⟨_, rfl, fun Ad => absurd rfl Ad, fun _ => ⟨by unfold AO; omega, ?_⟩⟩) (fun cl rep hf E5 q m d τ' ho Cc J1 => ⟨_, rfl, fun Ad => absurd rfl Ad, fun _ => ⟨by unfold AO; omega, ?_⟩⟩) fun cl rep hf Be τ' Cc => ⟨_, rfl, fun _ => nX sI rfl cl rep hf Be _ (hx.trans Cc), fun hh => absurd (by decide) hh⟩⟩, fun hh => absurd (by decide) hh⟩
   · exact rest As As ss τ' q m d (fun _ => rfl) (.inr (.inl ⟨rfl, hf, rfl⟩)) ((ho.rd ML.mono).mono ML.mono (Ext.Af _ _)) MR (by omega) Cc J1
   · refine rest cl rep (ss.map Bt) τ' q m d (fun Vh => ?_) (.inr (.inr ⟨rfl, hf, E5, rfl⟩)) ((ho.rd ML.mono).mono ML.mono (Ext.Af _ _)) (fun s hs => ?_) (by rw [List.length_map]; omega) Cc J1
     · exfalso
       have : ∀ l : List Sm, Eo l = some (cl, rep) → rep ≠ As := fun l => by
         induction l with
         | nil => intro h; cases h
         | cons a l ih =>
           intro h
           rw [Eo] at h
           split at h
           · cases h; assumption
           · exact ih h
       exact this ss hf Vh
     · obtain ⟨s0, lL, rfl⟩ := List.mem_map.1 hs
       have h1 := MR s0 lL
       exact ⟨Nat.le_trans (List.length_filter_le _ _) h1.1, fun x hx => h1.2 x (List.mem_filter.1 hx).1⟩
theorem Rn {dk bb bk : Nat} {D : Dk} {W : Wl} {rows : List CO} {κ : Hp} {e : Nat} {ms : List Mem} {rk : Nat}
   (hd : σ bd = some (D1 rf fo re ha md)) (hk : IF σ dk bb bk D W rows κ) (hu : D.up = true) (ht : Tr (Cr rows D3).1 e ms) (aV : 1 ≤ rf) (zc : rf ≤ 5) (vb : rf = rk) (Va : rk ≤ (CE ms).length) (hs : IC σ p n ss) (hha : ha = true → Eo ss = none)
   (h0 : I4 ten 16 100 ss ≠ 0 → ∀ σ', Ext σ σ' → R (.returned (.tuple #[.pointer none, .int .i64 (Yb (I4 ten 16 100 ss))])) σ')
   (h1 : I4 ten 16 100 ss = 0 → ∀ pb σ' mv, Cj σ' pb e (rf / 2 + 1) (ss.map (partOf ms rk)) mv (ss.map fun _ => []) σ → R (.returned (.tuple #[.pointer (some ⟨pb, 0, none⟩), .int .i64 0])) σ') :
   Spec prog 12 #[.pointer (some ⟨bd, 0, none⟩), .string ten, .slice p n c, .int .i64 now, .pointer (some ⟨bk, 0, none⟩)] σ R := by
 refine Rm hd hk hu ht aV zc vb Va hs h0 (fun _ h2 cl rep hf _ => by rw [hha h2] at hf; cases hf) fun hl cl rep bQ Vh hca b3 b4 b5 BA q m d pb σ' mv h5 hx hP lo jA => ?_
 have AGn : rep = As := by
   rcases hca with h | h | h
   · exact h.2
   · exact h.2.2
   · have := hha h.1
     rw [h.2.1] at this; cases this
 obtain rfl := Vh AGn
 subst AGn
 exact Bh.start ⟨_, AD h5.e4 rfl, BA, 0, rfl, As, AD lo rfl, fun _ => ⟨0, rfl, fun Ad => absurd rfl Ad, fun _ => ⟨_, AD lo rfl, h1 hl pb σ' mv (hP.Af hx)⟩⟩, fun h => by simp at h⟩
end
end TwW
end
section
namespace TwW
open Go Tw Go.RowKit Go.Proofs.Tryz
section
variable {σ σ' τ : Hp} {R : Rr}
theorem Ro {p q : Option Addr} {n c m d : Nat} {xs ys : List Bool} (hr : VJ σ p n xs) (hs : VJ σ q m ys) (h : R (.returned (.bool (decide (xs = ys)))) σ) : Spec prog 18 #[.slice p n c, .slice q m d] σ R := by
 have Vq : xs.length = n := by have := hr.1; simpa using this
 have VE : ys.length = m := by have := hs.1; simpa using this
 refine C4.start ⟨fun Ad => ?_, fun he => ?_⟩
 · rw [decide_eq_false fun e => Ad (by rw [← Vq, ← VE, e])] at h; exact h
 obtain rfl : n = m := by omega
 have Fy : n ≤ 4611686018427387904 := hr.2.1
 suffices H : ∀ d' k : Nat, n - k = d' → k ≤ n → xs.take k = ys.take k → C4.Ap R p n c q n d k σ from H n 0 rfl (Nat.zero_le _) (by simp)
 intro d'
 induction d' with
 | zero =>
   intro k hd hk Be
   refine C4.BI ⟨fun Ag => by omega, fun _ => ?_⟩
   rw [List.take_of_length_le (by omega), List.take_of_length_le (by omega)] at Be
   rw [decide_eq_true Be] at h; exact h
 | succ d' ih =>
   intro k hd hk Be
   have Dh : k < n := by omega
   obtain ⟨x, hx⟩ : ∃ x, xs[k]? = some x := ⟨_, List.getElem?_eq_getElem (by omega)⟩
   obtain ⟨y, hy⟩ : ∃ y, ys[k]? = some y := ⟨_, List.getElem?_eq_getElem (by omega)⟩
   obtain ⟨b, o, rfl, hl⟩ := hr.at hx
   obtain ⟨b', o', rfl, TK⟩ := hs.at hy
   have bad : x ≠ y → R (.returned (.bool false)) σ := fun Ad => by
     rw [decide_eq_false fun e => Ad (by rw [e, hy] at hx; cases hx; rfl)] at h; exact h
   have good : x = y → AO ((k : Int) + 1) ∧ C4.Ap R (aD b o) n c (aD b' o') n d ((k : Int) + 1) σ := fun he => ⟨Ah Dh Fy, ih (k + 1) (by omega) (by omega) (by rw [AR hx, AR hy, Be, he])⟩
   refine C4.BI ⟨fun _ => ⟨b, o, rfl, by omega, x, by simpa using hl, b', o', rfl, by omega, y, by simpa using TK, fun h1 => ⟨fun h2 => good (by rw [h1, h2]), fun h2 => bad (by rw [h1, h2]; simp)⟩, fun h1 => ⟨fun h2 => bad (by rw [h1, h2]; simp), fun h2 => good (by rw [h1, h2])⟩⟩, fun hh => by omega⟩
theorem bR {α : Type} {b : Nat} {T : TypeId} {f : α → Value} {x : α} {ρ : Hp} (h : ρ b = some (.cells #[f x] T (0, 0))) : Gi 1 ρ (some ⟨b, 0, none⟩) 1 ([x].map f) := ⟨rfl, by omega, .inr ⟨b, 0, rfl, ⟨AD h rfl, trivial⟩⟩⟩
def kT : ByteArray := ⟨#[116]⟩
def zw : Sm := ⟨[(⟨#[97]⟩, ⟨#[120]⟩)], 5, 1⟩
theorem ANs : I4 kT 16 100 [zw] = 0 := by decide
theorem AGo : I4 kT 16 100 [] = 151 := by decide
theorem ANt : Eo [zw] = none := by decide
theorem AGp : iH 1 = 3 := by decide
theorem UF {nd y : Int} {x : Part} {f : Ea} (h : Eb nd x = true) : O1 nd [x] [f] [y] = [if HP (Jq f nd) then f else RW f nd y] := by simp [O1, HQ, h]
theorem Rp {ms : List Mem} {n k : Nat} {h : Int} (hg : HT ms n) (hk : k ≤ n) : ((round ms h).take k).Nodup ∧ ((round ms h).take k).length = k := by
 have h1 := T4 (hash := h) hg.ok
 rw [hg.CE] at h1
 simp at h1
 exact ⟨(Oz ms h).sublist (List.take_sublist _ _), by rw [List.length_take]; omega⟩
theorem O8 (ht : Tb σ) (hR : ∀ σ', Ext σ σ' → R (.returned (.bool true)) σ') : Spec prog 13 #[] σ R := by
 refine OV.start (O6 ⟨_, _, _, _, _, _, _, _, _, _, _, rfl, Ri fun bd md im hbd Ad => ⟨_, rfl, ?_⟩⟩)
 rw [AGp]
 generalize RG : (σ.set md (.map #[] 0)).set bd (D1 3 30 5 true md) = σ1
 have BH : Ext σ σ1 := by rw [← RG]; exact (Ext.set im).trans (.set (by rw [Hp.AF Ad]; exact hbd))
 have Pu : σ1 bd = some (D1 3 30 5 true md) := by rw [← RG, Hp.AA]
 refine Rj (n := 3) (by decide) fun pr cr σ2 ms US hg An => ⟨_, _, _, _, rfl, ?_⟩
 refine O7 (K := [D3]) (e := 6) (by simp) (by simp) (ht.mono (BH.trans An)) US hg.ok hg.tok (by decide) fun dk bb s sb σ3 D W rows ts τ3 jE Dl hs3 ha3 hc3 _ jD _ Ha => ⟨_, _, rfl, fun hh => (by cases hh), fun _ => ⟨fun hh => (by cases hh), fun _ Kn ANu J5 sR => ?_⟩⟩
 have DR : Ext σ2 σ3 := Ha.trans jE.ext
 show Spec prog 12 #[_, .string kT, .slice (some ⟨J5, 0, none⟩) 1 1, _, _] ((σ3.set Kn (.cells #[(.string (ByteArray.mk #[97])), (.string (ByteArray.mk #[120]))] 61 (0, 0))).set J5 (.cells #[(.slice (aD Kn 0) 1 1), .int .i64 5, .int .u64 1] 25 (0, 0))) _
 generalize zx : (σ3.set Kn (.cells #[(.string (ByteArray.mk #[97])), (.string (ByteArray.mk #[120]))] 61 (0, 0))).set J5 (.cells #[(.slice (aD Kn 0) 1 1), .int .i64 5, .int .u64 1] 25 (0, 0)) = σ4
 have Kt : Ext σ3 σ4 := by rw [← zx]; exact (Ext.set ANu).trans (.set sR)
 have l31 : σ4 J5 = some (.cells #[(.slice (aD Kn 0) 1 1), .int .i64 5, .int .u64 1] 25 (0, 0)) := by rw [← zx, Hp.AA]
 have l29 : σ4 Kn = some (.cells #[(.string (ByteArray.mk #[97])), (.string (ByteArray.mk #[120]))] 61 (0, 0)) := by
   rw [← zx]; exact Ext.set sR _ _ (Hp.AA _ _ _)
 have hrs : IC σ4 (some ⟨J5, 0, none⟩) 1 [zw] := ⟨rfl, [.slice (aD Kn 0) 1 1, .int .i64 5, .int .u64 1], ⟨rfl, by omega, .inr ⟨J5, 0, rfl, ⟨AD l31 rfl, AD l31 rfl, AD l31 rfl, trivial⟩⟩⟩, Ch.one rfl ⟨_, _, _, rfl, rfl, [.string ⟨#[97]⟩, .string ⟨#[120]⟩], ⟨rfl, by omega, .inr ⟨Kn, 0, rfl, ⟨AD l29 rfl, AD l29 rfl, trivial⟩⟩⟩, Ch.one rfl rfl⟩⟩
 have Y8 : σ4 bd = some (D1 3 30 5 true md) := Kt _ _ (DR _ _ (An _ _ Pu))
 have Va : (3 : Nat) ≤ (CE ms).length := by rw [hg.CE]; simp
 refine Rn (rk := 3) Y8 (jE.mono Kt) Dl.up jD (by decide) (by decide) rfl Va hrs (fun _ => ANt) (fun hh => absurd ANs hh) fun _ pb σ5 mv hP => ⟨_, _, rfl, fun hh => absurd rfl hh, fun _ => ⟨fun hh => (by cases hh), fun _ => ?_⟩⟩
 have hq : ((3 : Int) / 2 + 1) = 2 := by decide
 rw [hq] at hP
 generalize hpt : partOf ms 3 zw = pt at hP
 have hrt : pt.rs.Nodup ∧ pt.rs.length = 3 := by rw [← hpt]; exact Rp (h := FO zw.ls) hg (by decide)
 have hPs : [zw].map (partOf ms 3) = [pt] := by rw [← hpt]; rfl
 rw [hPs] at hP
 have hL : ∀ L : List Int, EY L → (∀ x, x ∈ L ↔ ∃ y ∈ [pt], x ∈ y.rs) → L.length = 3 ∧ ∀ x ∈ L, Eb x pt = true := fun L XQ hm => by
   refine ⟨?_, fun x hx => ?_⟩
   · rw [YG (RV XQ) hrt.1 fun x => by rw [hm]; simp, hrt.2]
   · have := (hm x).1 hx
     simpa [Eb] using this
 refine Re hP.at fun Vj n44 Wt σ6 L6 ho6 LU ANw zS => ⟨_, _, _, rfl, fun hh => ?_, fun _ => ?_⟩
 · have h1 := (hL L6 ANw zS).1
   have h2 : L6.length = n44 := ho6.rd.1
   exact absurd (by omega) hh
 refine Re (hP.mono LU).at fun Wq n49 c49 σ7 L7 ho7 Ov AGq hm7 => ⟨_, _, _, rfl, ?_⟩
 obtain ⟨hl7, Z7⟩ := hL L7 AGq hm7
 obtain ⟨τ7, hP7, x7, x7n⟩ := (hP.mono LU).grow Ov
 have Yq : CA .i64 τ7 Wq n49 L7 := ho7.rd.mono x7n
 have ANx : n49 = 3 := by have := Yq.1; omega
 subst ANx
 obtain ⟨u0, hu0⟩ := Yq.ex (k := 0) (by decide)
 obtain ⟨u1, hu1⟩ := Yq.ex (k := 1) (by decide)
 obtain ⟨uG, uH, rfl, l53⟩ := Yq.at hu0
 obtain ⟨_, _, he, ANz⟩ := Yq.at hu1
 cases he
 have AGr : u0 ≠ u1 := fun e => by have := mR AGq (show 0 < 1 by decide) hu0 hu1; omega
 have My := Z7 u0 (List.mem_of_getElem? hu0)
 have ot := Z7 u1 (List.mem_of_getElem? hu1)
 refine ⟨uG, uH, rfl, ⟨by decide, by decide⟩, u0, by simpa using hP7.up.ld l53, RX hP7.at fun rM oX rN σ8 zT Qy => ⟨_, _, _, _, rfl, ⟨by decide, by decide⟩, u0, by simpa using (hP7.up.trans Qy).ld l53, fun b62 AGs => ?_⟩⟩
 have AN0 : oX = 1 := by have := zT.1; simp [My] at this; omega
 obtain ⟨τ9, hP9, x9, x9n⟩ := hP7.grow (Qy.trans (.set AGs (o := .cells #[.int .i64 1] 3 (0, 0))))
 have h62 : CA .i64 τ9 (some ⟨b62, 0, none⟩) 1 [1] := CA.Lz (bR (T := 3) (f := Value.int .i64) (x9n _ _ (AQ.2 ⟨A4 Qy AGs, Hp.AA _ _ _⟩)))
 refine UA hP9 h62 fun AUq AGt => ⟨rfl, ⟨by decide, by decide⟩, u1, by simpa using (x9.trans AGt.up).ld ANz, fun ia AGu => ?_⟩
 obtain ⟨AN1, AGv, Eg, AN2⟩ := AGt.grow (.set AGu (o := .cells #[.int .i64 2] 3 (0, 0)))
 have h68 : CA .i64 AN1 (some ⟨ia, 0, none⟩) 1 [2] := CA.Lz (bR (T := 3) (f := Value.int .i64) (AN2 _ _ (AQ.2 ⟨AGu, Hp.AA _ _ _⟩)))
 have hf1 : O1 u0 [pt] ([zw].map fun _ => []) [1] = [[(u0, 1)]] := by
   show O1 u0 [pt] [[]] [1] = _
   rw [UF My]; simp [HP, Jq, RW]
 have pD : O1 u1 [pt] [[(u0, 1)]] [2] = [[(u0, 1), (u1, 2)]] := by
   rw [UF ot]; simp [HP, Jq, RW, AGr]
 rw [hf1] at AGv
 refine UA AGv h68 fun AUt zy => ⟨rfl, ?_⟩
 rw [pD] at zy
 have DD : [[(u0, (1 : Int)), (u1, 2)]].map (E0 2) = [true] := by simp [E0, YI, HP]
 refine bB zy (fun f hf => by simp at hf; subst hf; simp) fun p72 n72 c72 AGw AGx sj => ⟨_, _, _, _, rfl, ?_⟩
 rw [DD] at AGx ⊢
 have nY : Ext σ4 AGw := ((((x7.trans x9).trans Eg).trans zy.up)).trans sj
 show Spec prog 12 #[_, .string kT, _, _, _] AGw _
 refine Rn (rk := 3) (ss := []) (nY _ _ Y8) ((jE.mono Kt).mono nY) Dl.up jD (by decide) (by decide) rfl Va GS.nil (fun _ => rfl) (fun _ AUu nL => ⟨_, _, rfl, ?_⟩) fun hh => absurd (hh.symm.trans AGo) (by decide)
 refine ⟨fun _ => ⟨fun _ => ⟨fun _ b94 AGy => ?_, fun hh => absurd rfl hh⟩, fun hh => absurd rfl hh⟩, fun hh => absurd (by rw [AN0]; rfl) hh⟩
 refine Ro ((((Own.rd AGx).mono (Ext.Af _ _)).mono nL).mono (.set AGy)) (bR (Hp.AA _ _ _)) ⟨_, rfl, fun _ => ?_, fun hh => by simp at hh⟩
 have h4 : Yb (I4 kT 16 100 []) = 4 := by rw [AGo]; decide
 rw [h4]
 exact hR _ (((((BH.trans An).trans DR).trans Kt).trans nY).trans (nL.trans (.set AGy)))
end
end TwW
end
section
namespace TwW
open Go Tw Go.RowKit Go.Proofs.Tryz
section
variable {σ σ' τ : Hp} {R : Rr}
structure AUv (rs : List Int) (f : Ea) (AGz : List Int) : Prop where
 keys : (f.map Prod.fst).Nodup
 sub : ∀ a ∈ f, a.1 ∈ rs
 nodup : AGz.Nodup
 iff : ∀ x, x ∈ AGz ↔ x ∈ rs ∧ HP (Jq f x) = true
end
end TwW
end
section
namespace Tw
open Go Go.RowKit Go.ChangeShapes Go.WideShapes Go.Deep
def full (w : World) : Hp := fun b => w.heap[b]?
theorem nZ (w : World) : Sat (full w) w := fun _ _ h => h
theorem sw {w : World} {a : Addr} {v : Value} (h : w.cell? a = some v) : (full w).ld a = some v := h
theorem na {w w' : World} {σ' : Hp} (hx : Ext (full w) σ') (hs : Sat σ' w') (ho : Fi w w') (Fc : w'.output = w.output) (hg : w.heap.size ≤ w'.heap.size) : Below w.heap.size w w' :=
 ⟨ho.1, ho.2.1, Fc, hg, fun k hk => by
   have h1 : w.heap[k]? = some w.heap[k] := Array.getElem?_eq_getElem hk
   rw [h1]; exact hs _ _ (hx _ _ h1)⟩
def Lawful (P : Program) (f : FuncId) (args : Array Value) (w : World) : Prop := Spec P f args (full w) (fun e σ' => e = .returned (.bool true) ∧ Ext (full w) σ')
theorem Lawful.calls {P : Program} {f : FuncId} {args : Array Value} {w : World} (h : Lawful P f args w) : Calls P f args w fun e w' => e = .returned (.bool true) ∧ Below w.heap.size w w' :=
 (h w (fun _ => False) (nZ w) (fun _ h => h.elim)).mono fun e w' ⟨σ', ⟨he, hx⟩, hf⟩ => ⟨he, na hx hf.sat hf.os hf.out hf.grow⟩
section
variable {H : Type} {enc : TypeId × Value → H} {P : Program}
theorem Lv (hl : laidOutB P = true) {W W' : World} (hb : Below W.heap.size W W') : ∀ {ts : List TypeId} {vs : List Value} {ds : List (DataW H)} {ps : List MemPlace}, (ts.all fun t => P.readableRec t && Nat.blt t P.types.size) = true → (∀ x ∈ ps, x.block < W.heap.size) →
   DataW.TrodAll enc P W 0 (fun _ => true) true ts vs ds ps → DataW.TrodAll enc P W' 0 (fun b => decide (b < W.heap.size)) true ts vs ds ps
 | [], [], [], ps, _, _, h => h
 | t :: ts, v :: vs, d :: ds, ps, hr, Ag, ⟨p, q, h1, h2, e⟩ => by
   simp only [List.all_cons, Bool.and_eq_true] at hr
   subst e
   exact ⟨p, q, Below.trod hl hr.1.1 (Nat.le_of_ble_eq_true hr.1.2) h1 hb (fun x hx => Ag x (List.mem_append_left _ hx)), Lv hl hb hr.2 (fun x hx => Ag x (List.mem_append_right _ hx)) h2, rfl⟩
 | [], _ :: _, _, _, _, _, h => h.elim
 | [], [], _ :: _, _, _, _, h => h.elim
 | _ :: _, [], _, _, _, _, h => h.elim
 | _ :: _, _ :: _, [], _, _, _, h => h.elim
theorem nb {f : Func} {s : ChangeSpec} {W W' : World} {args : Array Value} {ds gs : List (DataW H)} {before : List MemPlace} {tb : TypeId} (hl : laidOutB P = true) (hr : (f.params.toList.all fun t => P.readableRec t && Nat.blt t P.types.size) = true)
   (hrt : f.resultTypes = #[tb]) (htb : P.underlying tb = some .bool) (hv : s.vars = []) (NL : (s.fn H (ds ++ gs)).results = [.lit (.bool true)] ∧ (s.fn H (ds ++ gs)).args = ds ∧ (s.fn H (ds ++ gs)).vars = [])
   (hW : DataW.Whole enc P f.params.toList s.vars false W args.toList ds gs before) (hb : Below W.heap.size W W') : s.post enc P f false true false false W args (.bool true) W' := by
 have Ag : ∀ p ∈ before, p.block < W.heap.size := fun p hp => hW.lt p hp
 have hW' := hW
 obtain ⟨p, q, hA, hV, rfl, hfz, _⟩ := hW'
 refine ⟨ds, gs, p ++ q, [], p, [], hW, ?_, ?_, ?_, World.keptBut_mono (fun x hx => ⟨hx, ?_⟩) (hb.frame (· ∈ p ++ q)), fun h => by cases h⟩
 · rw [NL.1, hrt]
   exact trodAll_mk1 (shut_bool htb true)
 · rw [NL.2.1]
   exact Lv hl hb hr (fun x hx => Ag x (List.mem_append_left _ hx)) hA
 · rw [NL.2.2, hv]; rfl
 · rw [hv] at hV
   have : q = [] := by
     cases gs with
     | nil => exact hV
     | cons _ _ => exact hV.elim
   subst this
   exact .inr (.inl (by simpa using hx))
theorem EF.snoc {σ : Hp} {b : Nat} : ∀ {l m : List Value} {o : Nat}, EF σ b o l → EF σ b (o + l.length) m → EF σ b o (l ++ m)
 | [], m, o, _, h => by simpa using h
 | v :: l, m, o, h, h' => ⟨h.1, EF.snoc h.2 (by simpa [Nat.add_assoc, Nat.add_comm 1] using h')⟩
theorem iL {w : World} {a : Addr} {v : Value} (h : w.cell? a = some v) : a.spot = none := by
 unfold World.cell? at h
 split at h
 · split at h
   · cases h
   · rename_i hs; simpa using hs
 · cases h
end
end Tw
end
section
namespace TwW
open Go Tw Go.RowKit Go.ChangeShapes Go.WideShapes Go.ChangeAt Go.Deep Go.Proofs.Tryz
namespace Rw
open Go.Proofs.YtaaincfenibojaaGreatDoor
theorem own : ownKnob prog.godebug = none := by kernel_rfl
theorem laidOut : laidOutB prog = true := by kernel_rfl
def cellsOf : DataW Unit → Array Value
 | .agg l => (l.map fun x => match x with | .lit (.int k z) => Value.int k z | _ => .nilFunc).toArray
 | _ => #[]
def strOf : DataW Unit → Value
 | .iface _ (.ptr (.agg [.lit (.string s)])) => .string ⟨s.toArray⟩
 | _ => .nilFunc
noncomputable def OD (os : Os) : World :=
 let N := (World.settled prog os).heap.size
 let w0 := World.holding prog os ⟨#[.cells #[strOf Rows.laid_strconv_ErrSyntax] 405, .cells #[strOf Rows.laid_strconv_ErrRange] 405], #[], []⟩
 let put (h : Array Obj) (g : Nat) (cs : Array Value) : Array Obj := h.modify g fun
   | .cells _ t frozen => .cells cs t frozen
   | o => o
 let h0 := put (put w0.heap 4 #[.iface 403 (.pointer (some ⟨N, 0, none⟩))]) 5 #[.iface 403 (.pointer (some ⟨N + 1, 0, none⟩))]
 { w0 with heap := put (put (put h0 1 (cellsOf Rows.laid_internal_strconv_uint64pow10)) 2 (cellsOf Rows.laid_math_bits_deBruijn32tab)) 3 (cellsOf Rows.laid_math_bits_deBruijn64tab) }
abbrev Laid : List (String × DataW Unit) := [("math/bits.deBruijn32tab", Rows.laid_math_bits_deBruijn32tab), ("math/bits.deBruijn64tab", Rows.laid_math_bits_deBruijn64tab), ("internal/strconv.uint64pow10", Rows.laid_internal_strconv_uint64pow10), ("strconv.ErrRange", Rows.laid_strconv_ErrRange), ("strconv.ErrSyntax", Rows.laid_strconv_ErrSyntax)]
theorem nc (os : Os) (args : Array Value) : laidMet prog Laid ((OD os).forCall (fun _ _ => 0) ⟨#[], args, []⟩).memory :=
 laidMet_of_run' 8 (by kernel_rfl) (by kernel_rfl)
theorem ng {W : World} {cs : Array Value} (h : W.var? prog "internal/strconv.uint64pow10" = some cs) : ∃ T fr, W.heap[1]? = some (.cells cs T fr) := by
 unfold World.var? at h
 rw [show prog.globalNamed "internal/strconv.uint64pow10" = some 1 by kernel_rfl] at h
 simp only [Option.bind_some] at h
 split at h
 · rename_i c T fr hc
   cases h
   exact ⟨T, fr, hc⟩
 · cases h
theorem AG0 {W : World} (h : laidMetH prog Laid W) : Tb (full W) := by
 have h1 : laidMet prog Laid W := h
 have h2 : laidMet prog (("internal/strconv.uint64pow10", Lib.tabData .u64 Lib.pow10Tab) :: [("strconv.ErrRange", Rows.laid_strconv_ErrRange), ("strconv.ErrSyntax", Rows.laid_strconv_ErrSyntax)]) W := laidMet.tail (laidMet.tail h1)
 have h3 := Lib.tabIs_of_head (g := 1) (t := 336) (e := 23) (n := 20) (by kernel_rfl) (by kernel_rfl) (by kernel_rfl) (by kernel_rfl) (by kernel_rfl) (by kernel_rfl) h2
 obtain ⟨T, fr, h4⟩ := ng h3
 exact ⟨1, T, fr, by kernel_rfl, h4⟩
theorem nh {H : Type} (d : DataW H) : 1 ≤ Rows.uptoBulk d := by
 cases d with
 | lit l => cases l <;> simp [Rows.uptoBulk]
 | _ => simp [Rows.uptoBulk]
theorem UG {H : Type} {d : DataW H} : ∀ {l : List (DataW H)}, d ∈ l → Rows.uptoBulk d ≤ Rows.uptoBulkAll l
 | x :: l, h => by
   simp only [Rows.uptoBulkAll]
   rcases List.mem_cons.1 h with rfl | h
   · omega
   · have := UG h; omega
theorem Yj {H : Type} (l r : List (DataW H)) : Rows.uptoBulkAll (l ++ r) = Rows.uptoBulkAll l + Rows.uptoBulkAll r := by
 induction l with
 | nil => simp [Rows.uptoBulkAll]
 | cons x l ih => simp only [List.cons_append, Rows.uptoBulkAll, ih]; omega
theorem ni {H : Type} (l : List (DataW H)) : l.length ≤ Rows.uptoBulkAll l := by
 induction l with
 | nil => simp
 | cons x l ih => have := nh x; simp only [Rows.uptoBulkAll, List.length_cons]; omega
def Rq {α : Type} (t : TypeId) (E : Hp → List Value → α → Prop) (I : α → Prop) (sz : α → Nat) : Prop :=
 ∀ {H : Type} {enc : TypeId × Value → H} {w : World} {base : Nat} {sp : Nat → Bool} {held : Bool} {fuel : Nat} {cs : List Value} {x : DataW H × List MemPlace},
   DataW.trod enc prog w base sp held fuel t cs = some x → Rows.uptoBulk x.1 ≤ 1048576 → ∃ y, E (full w) cs y ∧ I y ∧ sz y ≤ Rows.uptoBulk x.1
theorem Rq.int {t : TypeId} {k : IntKind} (ht : prog.underlying t = some (.int k)) : Rq t (V0 k) (fun x => (Lit.int k x).wf = true) (fun _ => 1) := fun h _ => by
 obtain ⟨n, rfl, rfl, hw⟩ := DataW.trod_int ht h
 exact ⟨n, rfl, hw, by simp [Rows.uptoBulk]⟩
def EBo (_ : Hp) (vs : List Value) (b : Bool) : Prop := vs = [.bool b]
theorem Rq.bool {t : TypeId} (ht : prog.underlying t = some .bool) : Rq t EBo (fun _ => True) (fun _ => 1) := fun h _ => by
 obtain ⟨n, rfl, rfl⟩ := DataW.trod_bool ht h
 exact ⟨n, rfl, trivial, by simp [Rows.uptoBulk]⟩
theorem mkB {α : Type} {s : Nat} {E : Hp → List Value → α → Prop} {I : α → Prop} {sz : α → Nat} {σ : Hp} {b o : Nat} {H : Type} {D : Nat → DataW H} : ∀ {n : Nat}, n ≤ 4611686018427387904 → (∀ i, i < n → ∃ vs x, vs.length = s ∧ EF σ b (o + i * s) vs ∧ E σ vs x ∧ I x ∧ sz x ≤ Rows.uptoBulk (D i)) →
   ∃ xs, GS s E σ (some ⟨b, o, none⟩) n xs ∧ (∀ x ∈ xs, I x) ∧ (xs.map sz).sum ≤ Rows.uptoBulkAll ((List.range n).map D)
 | 0, _, _ => ⟨[], GS.nil, by simp, by simp⟩
 | n + 1, hn, h => by
   obtain ⟨xs, ⟨h1, cs, ⟨hl, _, h2⟩, h3⟩, hI, hs⟩ := mkB (n := n) (D := D) (by omega) (fun i hi => h i (by omega))
   obtain ⟨vs, x, hv, pA, hE, hx, hz⟩ := h n (by omega)
   have IP : EF σ b o cs := by
     rcases h2 with rfl | ⟨b', o', hp, TK⟩
     · have : cs = [] := List.eq_nil_of_length_eq_zero (by simpa using hl)
       subst this; trivial
     · cases hp; exact TK
   refine ⟨xs ++ [x], ⟨by simp [h1], cs ++ vs, ⟨by rw [List.length_append, hl, hv, Nat.add_mul]; omega, hn, .inr ⟨b, o, rfl, IP.snoc (by rw [hl]; exact pA)⟩⟩, h3.snoc hv hE⟩, fun y hy => ?_, ?_⟩
   · rcases List.mem_append.1 hy with hy | hy
     · exact hI y hy
     · simp at hy; subst hy; exact hx
   · rw [List.range_succ, List.map_append, List.map_append, Yj, List.sum_append]
     simp only [List.map_cons, List.map_nil, List.sum_cons, List.sum_nil, Rows.uptoBulkAll]
     omega
def ESc {α : Type} (s : Nat) (E : Hp → List Value → α → Prop) (σ : Hp) (vs : List Value) (xs : List α) : Prop := ∃ p n c, vs = [.slice p n c] ∧ n ≤ c ∧ GS s E σ p n xs
theorem Rq.slice {α : Type} {t e : TypeId} {s : Nat} {E : Hp → List Value → α → Prop} {I : α → Prop} {sz : α → Nat} (ht : prog.underlying t = some (.slice e)) (hs : prog.cellsOf e = s) (lL : 0 < s) (he : Rq e E I sz) :
   Rq t (ESc s E) (fun xs => ∀ x ∈ xs, I x) (fun xs => (xs.map sz).sum + 1) := by
 intro H enc w base sp held fuel cs x h hw
 subst hs
 rcases open_slice ht h with ⟨rfl, rfl⟩ | ⟨a, len, cap, m, n, D, Pl, rfl, hb, hl, hm, gn, rfl, hi⟩
 · exact ⟨[], ⟨none, 0, 0, rfl, Nat.le_refl _, GS.nil⟩, by simp, by simp [Rows.uptoBulk]⟩
 · have hlm : len ≤ m := by rw [gn]; split <;> omega
   have jG : Rows.uptoBulkAll ((List.range len).map D) + 1 ≤ Rows.uptoBulk (DataW.slice ((List.range len).map D) ((List.range (m - len)).map fun j => D (len + j))) := by
     simp only [Rows.uptoBulk]; omega
   have hlen := ni ((List.range len).map D)
   rw [List.length_map, List.length_range] at hlen
   have hwD : ∀ i, i < len → Rows.uptoBulk (D i) ≤ 1048576 := fun i Jl => by
     have := UG (List.mem_map.2 ⟨i, List.mem_range.2 Jl, rfl⟩ : D i ∈ (List.range len).map D)
     simp only at hw
     omega
   by_cases h0 : len = 0
   · subst h0
     exact ⟨[], ⟨some a, 0, cap, rfl, Nat.zero_le _, GS.nil⟩, by simp, by simp only [Rows.uptoBulk, List.map_nil, List.sum_nil]; omega⟩
   · have vo : a.spot = none := by
       obtain ⟨cs', hc, _⟩ := hi 0 (by omega)
       obtain ⟨_, eZ, eK⟩ := World.cells?_some hc
       have h1 := eK 0 lL
       rw [List.getElem?_eq_getElem (by omega)] at h1
       have := iL h1
       simpa [Addr.add] using this
     obtain ⟨b, o, sp'⟩ := a
     simp only at vo
     subst vo
     obtain ⟨xs, hr, hI, hz⟩ := mkB (s := prog.cellsOf e) (E := E) (I := I) (sz := sz) (σ := full w) (b := b) (o := o) (D := D) (n := len) (by simp only at hw; omega) (fun i Jl => by
       obtain ⟨cs', hc, ht'⟩ := hi i (by omega)
       obtain ⟨_, eZ, eK⟩ := World.cells?_some hc
       obtain ⟨y, hE, hy, hyz⟩ := he ht' (hwD i Jl)
       refine ⟨cs', y, eZ, EF.of fun j v hj => ?_, hE, hy, hyz⟩
       have UQ : j < prog.cellsOf e := by have := (List.getElem?_eq_some_iff.1 hj).1; omega
       have h1 := eK j UQ
       rw [hj, DC, DC] at h1
       exact sw h1)
     exact ⟨xs, ⟨some ⟨b, o, none⟩, len, cap, rfl, hl, hr⟩, hI, by simp only at hz jG ⊢; omega⟩
section
variable {H : Type} {enc : TypeId × Value → H} {W : World} {base : Nat} {v : Value} {d : DataW H} {ps : List MemPlace} {r : Reach}
end
theorem zz {f : FuncId} {fn : Func} {s : ChangeSpec} {H : Type} {enc : TypeId × Value → H} {W : World} {args : Array Value} {ds gs : List (DataW H)} {before : List MemPlace} (hr : (fn.params.toList.all fun t => prog.readableRec t && Nat.blt t prog.types.size) = true)
   (hrt : fn.resultTypes = #[4]) (hv : s.vars = []) (NL : (s.fn H (ds ++ gs)).results = [.lit (.bool true)] ∧ (s.fn H (ds ++ gs)).args = ds ∧ (s.fn H (ds ++ gs)).vars = [])
   (hW : DataW.Whole enc prog fn.params.toList s.vars false W args.toList ds gs before) (h : Lawful prog f args W) :
   Calls prog f args W fun e W' => ∃ v, e = .returned v ∧ s.post enc prog fn false true false false W args v W' :=
 h.calls.mono fun e W' ⟨he, hb⟩ => ⟨_, he, nb laidOut hr hrt underlying4 hv NL hW hb⟩
end Rw
end TwW
end
section
namespace TwW.Rw
open Go Tw TwW Go.Proofs.Tryz Go.Proofs.YtaaincfenibojaaGreatDoor
theorem CN {a b : Bool} (h1 : a = true) (h2 : b = true) : (a && b) = true := by rw [h1, h2]; rfl
theorem AG1 : mapsRowed prog = true := by kernel_rfl
theorem heard : prog.stopsHeard = true := by kernel_rfl
theorem enters : prog.mayEnter = true := by kernel_rfl
theorem z7 : (prog.stops == []) = true := by kernel_rfl
theorem z8 : (prog.stopKnobs == []) = true := by kernel_rfl
theorem AG2 : (Rows.distributorQuorumRow.lifted == prog.liftsFinal) = true := by kernel_rfl
theorem keys : (Rows.distributorQuorumRow.plainKeys == prog.plainKeys) = true := by kernel_rfl
theorem makes : (prog.make == some Rows.distributorQuorumRow.make) = true := by kernel_rfl
end TwW.Rw
end
section
namespace TwW
open Go Tw Go.RowKit Go.Proofs.Tryz
structure MT where
 has : Bool
 rep : ByteArray
 st : Int
 Ez : Nat
 at_ : Int
structure Hd where
 rep : ByteArray
 st : Int
 Ez : Nat
def bS (has : Bool) (rep : ByteArray) (st : Int) (nm : ByteArray) (now re fo : Int) : Int :=
 if has = false then 2 else if rep ≠ nm then (if fo ≤ now - st then 2 else 3) else if re ≤ now - st then 1 else 0
def look (S : Hd) (now : Int) : MT := ⟨decide (0 < S.Ez), S.rep, S.st, S.Ez, now⟩
def known (E : Option MT) (S : Hd) (now re : Int) : MT := match E with
 | none => look S now
 | some e => if re ≤ now - e.at_ then look S now else e
def dec (E : Option MT) (S : Hd) (nm : ByteArray) (now re fo : Int) : Int × MT × Hd :=
 let r := known E S now re
 let d := bS r.has r.rep r.st nm now re fo
 if d = 0 then (0, r, S) else if d = 3 then (2, r, S) else if r.Ez = S.Ez then (0, ⟨true, nm, now, S.Ez + 1, now⟩, ⟨nm, now, S.Ez + 1⟩)
 else if 0 < S.Ez ∧ S.rep = nm then (0, look S now, S) else (2, look S now, S)
structure Rs (S : Hd) (now : Int) : Prop where
 st : 0 ≤ S.st ∧ S.st ≤ now
 nil : S.Ez = 0 → S.rep = As ∧ S.st = 0
structure Kg (e : MT) (S : Hd) (now : Int) : Prop where
 at_ : 0 ≤ e.at_ ∧ e.at_ ≤ now
 st : 0 ≤ e.st ∧ e.st ≤ now
 Ez : e.Ez ≤ S.Ez
 has : e.has = decide (0 < e.Ez)
 same : e.Ez = S.Ez → e.rep = S.rep ∧ e.st = S.st
abbrev Vt (E : Option MT) (S : Hd) (now : Int) : Prop := ∀ e, E = some e → Kg e S now
theorem Rs.mono {S : Hd} {now nj : Int} (h : Rs S now) (hn : now ≤ nj) : Rs S nj := ⟨⟨h.st.1, Int.le_trans h.st.2 hn⟩, h.nil⟩
theorem Kg.mono {e : MT} {S : Hd} {now nj : Int} (h : Kg e S now) (hn : now ≤ nj) : Kg e S nj := ⟨⟨h.at_.1, Int.le_trans h.at_.2 hn⟩, ⟨h.st.1, Int.le_trans h.st.2 hn⟩, h.Ez, h.has, h.same⟩
theorem look_ok {S : Hd} {now : Int} (h : Rs S now) : Kg (look S now) S now := ⟨⟨Int.le_trans h.st.1 h.st.2, Int.le_refl _⟩, h.st, Nat.le_refl _, rfl, fun _ => ⟨rfl, rfl⟩⟩
theorem Yk {E : Option MT} {S : Hd} {now re : Int} (h : Rs S now) (hE : Vt E S now) : Kg (known E S now re) S now := by
 unfold known
 cases E with
 | none => exact look_ok h
 | some e =>
   dsimp only
   split
   · exact look_ok h
   · exact hE e rfl
theorem Kg.later {e : MT} {S S' : Hd} {now : Int} (h : Kg e S now) (hv : S.Ez < S'.Ez) : Kg e S' now := ⟨h.at_, h.st, by have := h.Ez; omega, h.has, fun hh => by have := h.Ez; omega⟩
structure Yl (E : Option MT) (S : Hd) (nm : ByteArray) (now re fo : Int) (v : Int) (e' : MT) (S' : Hd) : Prop where
 vd : v = 0 ∨ v = 2
 chg : S'.rep ≠ S.rep → v = 0 ∧ S'.rep = nm ∧ (S.rep ≠ As → fo ≤ now - S.st)
 AN5 : v = 0 → re = 0 → S'.rep = nm
 ok : Rs S' now
 CY : Kg e' S' now
 Ez : S' = S ∨ S.Ez < S'.Ez ∧ S'.Ez = S.Ez + 1
theorem iM {E : Option MT} {S : Hd} {nm : ByteArray} {now re fo : Int} (hS : Rs S now) (hE : Vt E S now) (hn : nm ≠ As) : Yl E S nm now re fo (dec E S nm now re fo).1 (dec E S nm now re fo).2.1 (dec E S nm now re fo).2.2 := by
 have hr := Yk (re := re) hS hE
 have h0 : 0 ≤ now := Int.le_trans hS.st.1 hS.st.2
 have vp : re = 0 → known E S now re = look S now := fun Vh => by
   unfold known
   cases E with
   | none => rfl
   | some e => dsimp only; rw [if_pos (by have := (hE e rfl).at_; omega)]
 unfold dec
 dsimp only
 generalize hk : known E S now re = r at hr vp
 by_cases d0 : bS r.has r.rep r.st nm now re fo = 0
 · rw [if_pos d0]
   refine ⟨.inl rfl, fun h => absurd rfl h, fun _ Vh => ?_, hS, hr, .inl rfl⟩
   have := vp Vh
   subst this
   unfold bS at d0
   show S.rep = nm
   refine Decidable.byContradiction fun Ad => ?_
   split at d0
   · cases d0
   · have AN6 : (look S now).rep ≠ nm := Ad
     rw [if_pos AN6] at d0
     split at d0 <;> cases d0
 rw [if_neg d0]
 by_cases d3 : bS r.has r.rep r.st nm now re fo = 3
 · rw [if_pos d3]
   exact ⟨.inr rfl, fun h => absurd rfl h, fun h => (by cases h), hS, hr, .inl rfl⟩
 rw [if_neg d3]
 by_cases hv : r.Ez = S.Ez
 · rw [if_pos hv]
   refine ⟨.inl rfl, fun h => ⟨rfl, rfl, fun Ad => ?_⟩, fun _ _ => rfl, ⟨⟨h0, Int.le_refl _⟩, fun h => by cases h⟩, ⟨⟨h0, Int.le_refl _⟩, ⟨h0, Int.le_refl _⟩, Nat.le_refl _, by simp, fun _ => ⟨rfl, rfl⟩⟩, .inr ⟨Nat.lt_succ_self _, rfl⟩⟩
   obtain ⟨e1, e2⟩ := hr.same hv
   have ym : S.Ez ≠ 0 := fun h => Ad (hS.nil h).1
   have hh : r.has = true := by rw [hr.has, hv]; simp; omega
   unfold bS at d0 d3
   rw [if_neg (by rw [hh]; decide)] at d0 d3
   rw [e1, e2] at d0 d3
   rw [if_pos (fun e => h e.symm)] at d0 d3
   refine Decidable.byContradiction fun hf => ?_
   rw [if_neg hf] at d3
   exact d3 rfl
 rw [if_neg hv]
 by_cases hs : 0 < S.Ez ∧ S.rep = nm
 · rw [if_pos hs]
   exact ⟨.inl rfl, fun h => absurd rfl h, fun _ _ => hs.2, hS, look_ok hS, .inl rfl⟩
 · rw [if_neg hs]
   exact ⟨.inr rfl, fun h => absurd rfl h, fun h => (by cases h), hS, look_ok hS, .inl rfl⟩
theorem Yl.other {E F : Option MT} {S S' : Hd} {nm : ByteArray} {now re fo v : Int} {e' : MT} (h : Yl E S nm now re fo v e' S') (hF : Vt F S now) : Vt F S' now := fun e he => by
 rcases h.Ez with hv | ⟨hv, _⟩
 · rw [hv]; exact hF e he
 · exact (hF e he).later hv
end TwW
end
section
namespace TwW
open Go Tw Go.RowKit Go.Proofs.Tryz Go.MapKept
section
variable {σ σ' τ : Hp} {R : Rr}
def Ve (rep : ByteArray) (st : Int) : List Int := uv rep.size ++ NU rep ++ uv (2 * st.toNat)
def nk (S : Hd) : List Int := if S.Ez = 0 then [] else Ve S.rep S.st
structure vq (S : Hd) : Prop where
 len : S.rep.size ≤ 256
 st : 0 ≤ S.st ∧ S.st < 4611686018427387904
 nil : S.Ez = 0 → S.rep = As ∧ S.st = 0
theorem AG3 {k : IntKind} {x : Int} (h0 : 0 ≤ x) (h1 : x < 2 ^ (k.bits - 1)) (hk : k = .u64 ∨ k = .i64) : Go.bits .xor k x 0 = x := by
 rcases hk with rfl | rfl
 · have e : Go.bits .xor .u64 x 0 = IntKind.u64.wrap (((BitVec.ofInt 64 x) ^^^ (BitVec.ofInt 64 0)).toNat : Int) := rfl
   rw [e, show BitVec.ofInt 64 0 = 0#64 from rfl, BitVec.xor_zero, BitVec.toNat_ofInt]
   simp [IntKind.bits] at h1
   simp [IntKind.wrap, IntKind.bits, IntKind.signed]; omega
 · have e : Go.bits .xor .i64 x 0 = IntKind.i64.wrap (((BitVec.ofInt 64 x) ^^^ (BitVec.ofInt 64 0)).toNat : Int) := rfl
   rw [e, show BitVec.ofInt 64 0 = 0#64 from rfl, BitVec.xor_zero, BitVec.toNat_ofInt]
   simp [IntKind.bits] at h1
   simp [IntKind.wrap, IntKind.bits, IntKind.signed]; omega
theorem AN7 {x : Nat} (h : 2 * x < 18446744073709551616) : Go.bits .and .u64 ((2 * x : Nat) : Int) 1 = 0 := by
 have e : Go.bits .and .u64 ((2 * x : Nat) : Int) 1 = IntKind.u64.wrap (((BitVec.ofInt 64 ((2 * x : Nat) : Int)) &&& (BitVec.ofInt 64 1)).toNat : Int) := rfl
 rw [e, BitVec.toNat_and, show (BitVec.ofInt 64 1).toNat = 1 from rfl, Nat.and_one_is_mod, BitVec.toNat_ofInt]
 have : ((((2 * x : Nat) : Int) % ((2 ^ 64 : Nat) : Int)).toNat) % 2 = 0 := by omega
 rw [this]; rfl
theorem iN {st : Int} (h0 : 0 ≤ st) (h1 : st < 4611686018427387904) (h : R (.returned (.int .u64 ((2 * st.toNat : Nat) : Int))) σ) : Spec prog 127 #[.int .i64 st] σ R := by
 refine Qk.start fun x4 h4 => ⟨by decide, fun x5 h5 => ⟨by decide, fun x7 h7 x8 h8 x9 h9 => ?_⟩⟩
 have e4 : x4 = st := by rw [h4]; simp [IntKind.wrap, IntKind.bits, IntKind.signed]; omega
 subst e4
 have e5 : x5 = ((2 * x4.toNat : Nat) : Int) := by rw [h5]; simp [IntKind.wrap, IntKind.bits, IntKind.signed]; omega
 have e7 : x7 = 0 := by rw [h7]; exact Int.ediv_eq_zero_of_lt h0 (Int.lt_of_lt_of_le h1 (by decide))
 have e8 : x8 = 0 := by rw [h8, e7]; rfl
 rw [h9, e8, AG3 (by omega) (by simp [IntKind.bits]; omega) (.inl rfl), e5]
 exact h
theorem nn {p : Option Addr} {n c i : Nat} {bs : List Int} {st : Int} (h0 : 0 ≤ st) (h1 : st < 4611686018427387904) (hr : CA .u8 σ p n bs) (h8 : E8 bs) (hi : i ≤ n) (hu : Iu bs i (2 * st.toNat)) (h : R (.returned (.tuple #[.int .i64 st, .int .i64 ((i + (uv (2 * st.toNat)).length : Nat) : Int), .int .i64 0])) σ) :
   Spec prog 116 #[.slice p n c, .int .i64 i] σ R := by
 refine TZ.start (Gy hr h8 hi ⟨fun Be => (Be _ hu).elim, fun v hv => ?_⟩)
 obtain rfl := hv.uniq hu
 refine ⟨_, _, _, rfl, by decide, fun FT h18 MS h19 Hj h21 PI h22 Po h23 J4 h24 => ?_⟩
 have e18 : FT = st := by rw [h18]; simp; omega
 have e19 : MS = st := by rw [h19, e18]; simp [IntKind.wrap, IntKind.bits, IntKind.signed]; omega
 rw [AN7 (by omega)] at h21
 have e22 : PI = 0 := by rw [h22, h21]; rfl
 have e23 : Po = 0 := by rw [h23, e22]; rfl
 rw [e19, e23, AG3 h0 (by simp [IntKind.bits]; omega) (.inr rfl)] at h24
 subst h24
 exact h
theorem nq {rep : ByteArray} {st : Int} (h : rep.size ≤ 256) (h1 : st < 4611686018427387904) : (Ve rep st).length ≤ 300 := by
 have h2 := BF (x := rep.size) (by omega)
 have h3 := BF (x := 2 * st.toNat) (by omega)
 simp only [Ve, List.length_append, Cg]; omega
theorem Ym {rep : ByteArray} {st : Int} (h : rep.size ≤ 256) (h1 : st < 4611686018427387904) : E8 (Ve rep st) := BO (BO (KT 9 _ (by omega)) da) (KT 9 _ (by omega))
theorem UH {p : Option Addr} {n c : Nat} {S : Hd} (hr : CA .u8 σ p n (nk S)) (hc : n ≤ c) (hS : vq S) (h : ∀ code : Int, R (.returned (.tuple #[.agg #[.string S.rep, .int .i64 S.st], .int .i64 code])) σ) : Spec prog 52 #[.slice p n c] σ R := by
 have hl : (nk S).length = n := hr.1
 by_cases h0 : S.Ez = 0
 · have e : nk S = [] := if_pos h0
   rw [e] at hr hl
   rw [(hS.nil h0).1, (hS.nil h0).2] at h
   refine N0.start fun _ => ME.start (Gy (i := 0) hr (fun x hx => by cases hx) (by omega) ⟨fun _ code hc => ⟨_, _, _, rfl, fun _ => ⟨_, _, _, rfl, fun _ => h _, fun hh => absurd hc hh⟩, fun hh => absurd hc hh⟩, fun v hv => ?_⟩)
   obtain ⟨_, rest, h2⟩ := hv
   have := congrArg List.length h2
   have := N8 v
   simp at *
   omega
 · have e : nk S = Ve S.rep S.st := if_neg h0
   rw [e] at hr hl
   have h8 := Ym hS.len hS.st.2
   have hll : n = (uv S.rep.size).length + S.rep.size + (uv (2 * S.st.toNat)).length := by rw [← hl]; simp only [Ve, List.length_append, Cg]
   refine N0.start fun _ => VK (i := 0) (s := S.rep) (rest := uv (2 * S.st.toNat)) hr h8 hc (by have := hS.len; omega) (by omega) (by simp [Ve]) ⟨_, _, _, rfl, fun hh => absurd rfl hh, fun _ => nn hS.st.1 hS.st.2 hr h8 (by omega) ⟨by have := hS.st.2; omega, [], ?_⟩ ⟨_, _, _, rfl, fun hh => absurd rfl hh, fun _ => ⟨fun hh => absurd (by omega) hh, fun _ => h 0⟩⟩⟩
   rw [Ve, List.drop_left' (by rw [List.length_append, Cg]; omega), List.append_nil]
theorem iO {rep : ByteArray} {st : Int} (h1 : rep.size ≤ 256) (h2 : 0 ≤ st) (h3 : st < 4611686018427387904) (h : ∀ p n c σ', AS .u8 (σ.new σ') p n c (Ve rep st) → Ext σ σ' → R (.returned (.slice p n c)) σ') : Spec prog 28 #[.agg #[.string rep, .int .i64 st]] σ R := by
 refine TX.start fun _ => FN (xs := []) GS.nil (by omega) (by omega) fun p5 n5 c5 σ1 Ff BH => ⟨_, _, _, rfl, Mh.start (iN h2 h3 ⟨_, rfl, Ce (AS.rd (Own.mono (Ext.Af _ _) Ff)) ?_ (by omega) fun p8 n8 c8 σ2 B1 An => ⟨_, _, _, rfl, _, _, _, rfl, h p8 n8 c8 σ2 ?_ (BH.trans An)⟩⟩)⟩
 · have NM := Ci Ff
   have h4 := BF (x := rep.size) (by omega)
   rw [List.nil_append] at NM
   simp only [List.length_append, Cg] at NM
   omega
 · exact Own.mono (Ext.CW BH) B1
def sx (e : MT) : Value := .agg #[.bool e.has, .string e.rep, .int .i64 e.st, .int .u64 e.Ez, .int .i64 e.at_]
instance : pF prog 101 9 275 := ⟨underlying101, underlying9⟩
theorem sy : ∀ w, (zeroValue 275).run prog w = .ok (.agg #[.bool false, .string ⟨#[]⟩, .int .i64 0, .int .u64 0, .int .i64 0]) w := fun w => by
 have h : prog.info? 275 = some t275 := by kernel_rfl
 simp [zeroValue, typeInfo, h]
 rfl
def Da (o : Obj) (k : ByteArray) (E : Option MT) : Prop := ∃ (l : List MapEntry) (clock : Nat), o = .map l.toArray clock ∧ Stamped l.toArray clock ∧ (E = none ∧ l = [] ∨ ∃ e born, E = some e ∧ l = [Tw.CY k (sx e) born])
theorem Da.fresh {k : ByteArray} : Da (.map #[] 0) k none := ⟨[], 0, rfl, stamped_empty 0, .inl ⟨rfl, rfl⟩⟩
theorem Da.look {m : Nat} {o : Obj} {k : ByteArray} {E : Option MT} {Φ : Value → Hp → Prop} (h : Da o k E) (hm : σ m = some o) (h0 : E = none → Φ (.tuple #[.agg #[.bool false, .string ⟨#[]⟩, .int .i64 0, .int .u64 0, .int .i64 0], .bool false]) σ) (h1 : ∀ e, E = some e → Φ (.tuple #[sx e, .bool true]) σ) :
   AJ prog (Instr.lookup 101 (.map (some m)) (.string k) true) σ Φ := by
 obtain ⟨l, clock, rfl, JC, hl⟩ := h
 have hk : ∀ x ∈ l, IsKey .string x.key := fun x hx => by
   rcases hl with ⟨_, rfl⟩ | ⟨e, b, _, rfl⟩
   · cases hx
   · rw [List.mem_singleton] at hx; subst hx; trivial
 have AG4 : prog.underlying 101 = some (.map 9 275) := underlying101
 rcases Dq (s := k) hk with ⟨hf, hn⟩ | ⟨l1, e, l2, hle, he, hf⟩
 · refine AJ.pu (fun w hs => ?_) (h0 ?_)
   · have := hs _ _ hm
     simp [Instr.lookup, run_underlying AG4, run_getObj_map this, run_checkKey underlying9 (k := .string k) trivial, run_findKey underlying9 hf, sy, Result.andThen]
   · rcases hl with ⟨h, _⟩ | ⟨e, b, _, rfl⟩
     · exact h
     · exact absurd rfl (hn _ (List.mem_singleton.2 rfl))
 · rcases hl with ⟨_, rfl⟩ | ⟨e', b, hE, rfl⟩
   · cases l1 <;> cases hle
   · have NM : l1 = [] := by
       cases l1 with
       | nil => rfl
       | cons a l1 => cases l1 <;> cases hle
     subst NM
     cases hle
     refine AJ.pu (fun w hs => ?_) (h1 e' hE)
     have := hs _ _ hm
     simp [Instr.lookup, run_underlying AG4, run_getObj_map this, run_checkKey underlying9 (k := .string k) trivial, run_findKey underlying9 hf, Result.andThen]
theorem Da.put {m : Nat} {o : Obj} {k : ByteArray} {E : Option MT} {e : MT} {Φ : Unit → Hp → Prop} (h : Da o k E) (hm : σ m = some o) (hΦ : ∀ o', Da o' k (some e) → Φ () (σ.set m o')) : AJ prog (Instr.mapUpdate 101 (.map (some m)) (.string k) (sx e)) σ Φ := by
 obtain ⟨l, clock, rfl, JC, hl⟩ := h
 have hk : ∀ x ∈ l, IsKey .string x.key := fun x hx => by
   rcases hl with ⟨_, rfl⟩ | ⟨e, b, _, rfl⟩
   · cases hx
   · rw [List.mem_singleton] at hx; subst hx; trivial
 refine DT (T := 101) (K := 9) (V := 275) ⟨hm, JC, hk⟩ (fun Be σ' hσ Kr => ?_) fun l1 e0 l2 hle he σ' hσ Kr => ?_
 · rcases hl with ⟨_, rfl⟩ | ⟨e, b, _, rfl⟩
   · subst hσ
     exact hΦ _ ⟨_, _, rfl, Kr.2.1, .inr ⟨e, clock, rfl, rfl⟩⟩
   · exact absurd rfl (Be _ (List.mem_singleton.2 rfl))
 · rcases hl with ⟨_, rfl⟩ | ⟨e', b, hE, rfl⟩
   · cases l1 <;> cases hle
   · have NM : l1 = [] := by
       cases l1 with
       | nil => rfl
       | cons a l1 => cases l1 <;> cases hle
     subst NM
     cases hle
     subst hσ
     exact hΦ _ ⟨_, _, rfl, Kr.2.1, .inr ⟨e, b, rfl, rfl⟩⟩
end
end TwW
end
section
namespace TwW
open Go Tw Go.RowKit Go.Proofs.Tryz
section
variable {σ σ' τ N : Hp} {R : Rr} {dk bb bk bd m cnt : Nat} {K : List ByteArray} {k nm : ByteArray} {S : Hd} {rg : jB} {E : Option MT} {o : Obj} {rf fo re now : Int} {ha : Bool}
def Gb (N : Hp) (dk bb bk : Nat) (K : List ByteArray) (k : ByteArray) (S : Hd) (cnt : Nat) (rg : jB) (τ : Hp) : Prop := ∃ D W rows ts, IF N dk bb bk D W rows τ ∧ az D W rows ts ∧ ml K rows ∧ D.armed = false ∧ D.cnt ≤ cnt ∧ Cr rows k = (nk S, S.Ez) ∧ Cr rows D3 = rg
theorem Gb.grow (h : Gb N dk bb bk K k S cnt rg τ) (hx : Ext N σ) : ∃ τ', Gb σ dk bb bk K k S cnt rg τ' ∧ Ext τ τ' ∧ Ext (N.new σ) τ' := by
 obtain ⟨D, W, rows, ts, h1, h2⟩ := h
 obtain ⟨τ', h3, x1, x2⟩ := h1.grow hx
 exact ⟨τ', ⟨D, W, rows, ts, h3, h2⟩, x1, x2⟩
theorem Gb.mono (h : Gb N dk bb bk K k S cnt rg τ) (hx : Ext N σ) : Gb σ dk bb bk K k S cnt rg τ := let ⟨D, W, rows, ts, h1, h2⟩ := h; ⟨D, W, rows, ts, h1.mono hx, h2⟩
theorem Gb.EW (h : Gb N dk bb bk K k S cnt rg τ) (hx : Ext σ τ) : Gb N dk bb bk K k S cnt rg σ := let ⟨D, W, rows, ts, h1, h2⟩ := h; ⟨D, W, rows, ts, h1.EW hx, h2⟩
theorem Gb.ext (h : Gb N dk bb bk K k S cnt rg τ) : Ext τ N := let ⟨D, W, rows, ts, h1, h2⟩ := h; h1.ext
theorem Gb.more {cnt' : Nat} (h : Gb N dk bb bk K k S cnt rg τ) (hc : cnt ≤ cnt') : Gb N dk bb bk K k S cnt' rg τ := let ⟨D, W, rows, ts, h1, h2, h3, h4, h5, h6⟩ := h; ⟨D, W, rows, ts, h1, h2, h3, h4, Nat.le_trans h5 hc, h6⟩
theorem MO (hm : N m = none) (hd : N bd = some (D1 rf fo re ha m)) (hk : Gb N dk bb bk K k S cnt rg τ) (RZ : Dg k = true) (hS : vq S) (hE : Da o k E)
   (hR : ∀ N' o', N' m = none → Ext N N' → Da o' k (some (look S now)) → R (.returned (.tuple #[sx (look S now), .bool true])) (N'.set m o')) :
   Spec prog 199 #[.pointer (some ⟨bd, 0, none⟩), .pointer (some ⟨bk, 0, none⟩), .string k, .int .i64 now] (N.set m o) R := by
 obtain ⟨D, W, rows, ts, h1, h2, h3, h4, h5, h6, h7⟩ := hk
 have hxm : Ext N (N.set m o) := .set hm
 refine DO.start fun _ => NG (h1.mono hxm) h2.up (fun hf => by rw [RZ] at hf; cases hf) fun _ p n c σ1 ho hx => ?_
 rw [h6] at ho ⊢
 refine ⟨_, _, _, _, _, rfl, fun hh => absurd rfl hh, fun _ _ => UH (S := S) (AS.rd (Own.mono (Ext.Af _ _) ho)) (Own.cap ho) hS fun code => ⟨_, _, _, rfl, bd, 0, rfl, some m, AD (hx _ _ (hxm _ _ hd)) rfl, ?_⟩⟩
 have hb : decide ((0 : Int) < (S.Ez : Int)) = decide (0 < S.Ez) := by simp
 rw [hb]
 refine hE.put (e := look S now) (hx _ _ (Hp.AA _ _ _)) fun o' EN => ?_
 have e : (σ1.off [m]).set m o' = σ1.set m o' := by
   funext i
   by_cases hi : i = m
   · rw [hi, Hp.AA, Hp.AA]
   · rw [Hp.AF hi, Hp.AF hi, Hp.BN (by simpa using hi)]
 rw [← e]
 exact hR _ _ (Hp.Ef (by simp)) (Ext.UY (hxm.trans hx) fun b hb => by rw [List.mem_singleton.1 hb]; exact hm) EN
theorem bT {has : Bool} {rep : ByteArray} {st : Int} (h0 : AO (now - st)) (h : R (.returned (.int .i64 (bS has rep st nm now re fo))) σ) : Spec prog 200 #[.bool has, .agg #[.string rep, .int .i64 st], .string nm, .int .i64 now, .int .i64 re, .int .i64 fo] σ R := by
 unfold bS at h
 refine Tc.start fun _ => ⟨h0, fun hf => ?_, fun hf => ?_⟩
 · rw [if_pos hf] at h; exact h
 rw [if_neg (by rw [hf]; decide)] at h
 rw [Xz]
 refine ⟨fun hn => ?_, fun hn => ?_⟩
 · rw [decide_eq_false_iff_not] at hn
   rw [if_pos hn] at h
   refine ⟨fun h1 => ?_, fun h1 => ⟨fun _ => ?_, fun hh => absurd (of_decide_eq_true hh) hn⟩⟩
   · rw [if_pos h1] at h; exact h
   · rw [if_neg h1] at h; exact h
 · rw [decide_eq_true_eq] at hn
   rw [if_neg (fun hh => hh hn)] at h
   refine ⟨fun hh => absurd hn (of_decide_eq_false hh), fun _ => ⟨fun h1 => ?_, fun h1 => ?_⟩⟩
   · rw [if_pos h1] at h; exact h
   · rw [if_neg h1] at h; exact h
theorem Vf (hm : N m = none) (hd : τ bd = some (D1 rf fo re ha m)) (hk : Gb N dk bb bk K k S cnt rg τ) (ht : Tb τ) (hK : K.length ≤ 8) (RZ : Dg k = true) (sT : k ∈ K) (hkr : k ≠ D3) (hS : vq S) (dw : Rs S now) (hE : Da o k E) (hEo : Vt E S now) (Jm : nm.size ≤ 256) (Yn : now < 4611686018427387904) (nr : S.Ez + 1 < 18446744073709551616) (GJ : cnt + 1 < 67108864)
   (hR : ∀ N' o', N' m = none → Gb N' dk bb bk K k (dec E S nm now re fo).2.2 (cnt + 2) rg τ → Da o' k (some (dec E S nm now re fo).2.1) → R (.returned (.int .i64 (dec E S nm now re fo).1)) (N'.set m o')) :
   Spec prog 111 #[.pointer (some ⟨bd, 0, none⟩), .pointer (some ⟨bk, 0, none⟩), .string k, .string nm, .int .i64 now] (N.set m o) R := by
 have h0 : 0 ≤ now := Int.le_trans dw.st.1 dw.st.2
 have hr := Yk (re := re) dw hEo
 have ldd : ∀ {N1 : Hp} {o1 : Obj} {j : Nat} {v : Value}, N1 m = none → Ext τ N1 → (#[.int .i64 0, .int .i64 rf, .int .i64 0, .int .i64 0, .int .i64 fo, .int .i64 re, .int .i64 0, .int .i64 100, .int .i64 16, .int .i64 100, .bool ha, .map (some m)] : Array Value)[j]? = some v → Hp.ld (N1.set m o1) ⟨bd, j, none⟩ = some v := fun h1 h2 hv => AD (Ext.set h1 _ _ (h2 _ _ hd)) hv
 have P : ∀ (N1 : Hp) (o1 : Obj) (q0 : Option Addr), q0 = some ⟨bd, 0, none⟩ → N1 m = none → Gb N1 dk bb bk K k S cnt rg τ → Da o1 k (some (known E S now re)) →
     BB.JL R q0 (some ⟨bk, 0, none⟩) k nm now (known E S now re).has (known E S now re).rep (known E S now re).st (known E S now re).Ez (known E S now re).at_ (N1.set m o1) := by
   intro N1 o1 q0 hq ot iu hE1
   subst hq
   unfold dec at hR
   dsimp only at hR
   generalize LF : known E S now re = r at hr hE1 hR
   refine BB.Gm ⟨bd, 0, rfl, re, ldd (j := 5) ot iu.ext rfl, fo, ldd (j := 4) ot iu.ext rfl, bT (by have := hr.st; unfold AO; omega) ⟨_, rfl, fun hd0 => ?_, fun hd0 => ⟨fun iq => ?_, fun iq _ => ?_⟩⟩⟩
   · rw [if_pos hd0] at hR
     exact hR N1 o1 ot (iu.more (by omega)) hE1
   · rw [if_neg hd0, if_pos iq] at hR
     exact hR N1 o1 ot (iu.more (by omega)) hE1
   rw [if_neg hd0, if_neg iq] at hR
   refine iO Jm h0 Yn fun p n c σ1 ho hx => ⟨_, _, _, rfl, ?_⟩
   have hxm : Ext N1 (N1.set m o1) := .set ot
   have ye : σ1 m = some o1 := hx _ _ (Hp.AA _ _ _)
   rw [← Hp.VH ye]
   have An : Ext N1 (σ1.off [m]) := Ext.UY (hxm.trans hx) fun b hb => by rw [List.mem_singleton.1 hb]; exact ot
   obtain ⟨τ2, dN, x2, gJ⟩ := iu.grow An
   have AAC : (σ1.off [m]) m = none := Hp.Ef (by simp)
   obtain ⟨D, W, rows, ts, g1, g2, g3, g4, g5, g6, g7⟩ := dN
   have hnn : Ext ((N1.set m o1).new σ1) τ2 := fun i u hi => gJ _ _ (by
     obtain ⟨i1, i2⟩ := AQ.1 hi
     have Ad : i ≠ m := fun e => by rw [e, Hp.AA] at i1; cases i1
     rw [Hp.AF Ad] at i1
     exact AQ.2 ⟨i1, by rw [Hp.BN (by simpa using Ad)]; exact i2⟩)
   refine Spec.BW AAC (YQ (K := K) g1 (ht.mono x2) g2 g3 hK RZ sT (AS.rd (Own.mono hnn ho)) (Ym Jm Yn) (by have := nq (rep := nm) Jm Yn; omega) (v := r.Ez) (by have := hr.Ez; omega) (by omega) (fun Ad σ3 DR rU => ⟨_, _, rfl, fun hh => (by cases hh), fun _ => ⟨fun _ => ?_, fun hh => absurd rfl hh⟩⟩) (fun heq σ3 D' W' rows' mn u1 u2 u3 u4 u5 u6 _ rU => ⟨_, _, rfl, fun _ => ⟨some m, ldd (j := 11) rU (x2.trans u1.ext) rfl, ?_⟩, fun hh => absurd rfl hh⟩) fun hh => by rw [g4] at hh; cases hh)
   · -- AG7 else was there
     rw [g6] at Ad
     rw [if_neg (fun e => Ad e.symm)] at hR
     have jE : Gb σ3 dk bb bk K k S cnt rg τ := ⟨D, W, rows, ts, (g1.mono DR).EW x2, g2, g3, g4, g5, g6, g7⟩
     refine MO rU (jE.ext _ _ hd) jE RZ hS hE1 fun N4 o4 sN Kt hE4 => ⟨_, _, _, _, _, _, rfl, fun hh => (by cases hh), fun _ => ?_⟩
     have hk4 := jE.mono Kt
     rw [Xz]
     by_cases hs : 0 < S.Ez ∧ S.rep = nm
     · rw [if_pos hs] at hR
       exact ⟨fun _ => ⟨fun _ => hR N4 o4 sN (hk4.more (by omega)) hE4, fun hh => absurd hs.2 (of_decide_eq_false hh)⟩, fun hh => absurd hs.1 (of_decide_eq_false hh)⟩
     · rw [if_neg hs] at hR
       exact ⟨fun h1 => ⟨fun h2 => absurd ⟨of_decide_eq_true h1, of_decide_eq_true h2⟩ hs, fun _ => hR N4 o4 sN (hk4.more (by omega)) hE4⟩, fun _ => hR N4 o4 sN (hk4.more (by omega)) hE4⟩
   · -- it is set
     rw [g6] at heq
     have mo : r.Ez = S.Ez := heq.symm
     rw [if_pos mo] at hR
     refine hE1.put (e := ⟨true, nm, now, r.Ez + 1, now⟩) (Hp.AA _ _ _) fun o' EN => ?_
     rw [Hp.set_set]
     rw [mo] at EN
     exact hR σ3 o' rU ⟨D', W', rows', mn, u1.EW x2, u2, u3, u5.trans g4, by have := u6.1; omega, by rw [dm u4, if_pos rfl, mo]; rfl, by rw [dm u4, if_neg hkr]; exact g7⟩ EN
 refine BB.start ⟨bd, 0, rfl, some m, ldd (j := 11) hm hk.ext rfl, hE.look (Hp.AA _ _ _) (fun he => ?_) fun e he => ?_⟩
 · refine ⟨_, _, _, _, _, _, rfl, fun _ => ⟨fun _ => ?_, fun hh => (by cases hh)⟩⟩
   refine MO hm (hk.ext _ _ hd) hk RZ hS hE fun N4 o4 sN Kt hE4 => ⟨_, _, _, _, _, _, rfl, fun hh => (by cases hh), fun _ => ?_⟩
   have LF : known E S now re = look S now := by rw [he]; rfl
   rw [LF] at P
   exact P N4 o4 _ rfl sN (hk.mono Kt) hE4
 · have heo := hEo e he
   refine ⟨_, _, _, _, _, _, rfl, fun _ => ⟨fun hh => (by cases hh), fun _ => ⟨by have := heo.at_; unfold AO; omega, re, ldd (j := 5) hm hk.ext rfl, fun hle => ?_, fun hle => ?_⟩⟩⟩
   · refine MO hm (hk.ext _ _ hd) hk RZ hS hE fun N4 o4 sN Kt hE4 => ⟨_, _, _, _, _, _, rfl, fun hh => (by cases hh), fun _ => ?_⟩
     have LF : known E S now re = look S now := by rw [he]; exact if_pos hle
     rw [LF] at P
     exact P N4 o4 _ rfl sN (hk.mono Kt) hE4
   · have LF : known E S now re = e := by rw [he]; exact if_neg hle
     rw [LF] at P
     exact P N o _ rfl hm hk (he ▸ hE)
theorem UI : ∀ (bs : List Int) (h : Int), 0 ≤ h ∧ h < 4294967296 → 0 ≤ bs.foldl mI h ∧ bs.foldl mI h < 4294967296
 | [], h, hh => hh
 | b :: bs, h, _ => UI bs _ (by unfold mI; simp [IntKind.wrap, IntKind.bits, IntKind.signed]; omega)
theorem O9 (ls : List Lb) : 0 ≤ FO ls ∧ FO ls < 4294967296 := UI _ _ (by decide)
def Rt (ten cl : ByteArray) : ByteArray := (((⟨#[104, 97, 47]⟩ : ByteArray) ++ ten) ++ ⟨#[47]⟩) ++ ⟨(Lib.decDigits (FO [(Bj, cl)]).toNat).toArray⟩
theorem LC {ten cl : ByteArray} : (Rt ten cl).size ≤ ten.size + 24 ∧ ten.size + 4 ≤ (Rt ten cl).size := by
 have h1 := Lib.decDigits_length (FO [(Bj, cl)]).toNat
 have h2 := Lib.nDigits_le20 (FO [(Bj, cl)]).toNat (by have := O9 [(Bj, cl)]; omega)
 have h3 : (Rt ten cl).size = 3 + ten.size + 1 + (Lib.decDigits (FO [(Bj, cl)]).toNat).length := by
   unfold Rt
   simp only [ByteArray.size_append]
   rfl
 omega
theorem UJ {ten cl : ByteArray} (ht : Tb σ) (AU6 : ten.size ≤ 32) (eZ : cl.size ≤ 256) (h : ∀ σ', Ext σ σ' → R (.returned (.string (Rt ten cl))) σ') : Spec prog 27 #[.string ten, .string cl] σ R := by
 have hr := O9 [(Bj, cl)]
 have Ee := (LC (ten := ten) (cl := cl)).1
 refine lF.start fun b8 hb8 => Tt (ls := [(Bj, cl)]) ?_ ⟨by simp, fun x hx => ?_⟩ ⟨_, rfl, ?_, ?_, fun E7 h14 => ?_⟩
 · exact ⟨rfl, [.string Bj, .string cl], ⟨rfl, by omega, .inr ⟨b8, 0, rfl, ⟨AD (Hp.AA _ _ _) rfl, AD (Hp.AA _ _ _) rfl, trivial⟩⟩⟩, Ch.one rfl rfl⟩
 · rw [List.mem_singleton] at hx; subst hx; exact ⟨(by decide : Bj.size ≤ 256), eZ⟩
 · have : (ByteArray.mk #[104, 97, 47]).size = 3 := rfl
   omega
 · simp only [ByteArray.size_append]; have : (ByteArray.mk #[104, 97, 47]).size = 3 := rfl; have : (ByteArray.mk #[47]).size = 1 := rfl; omega
 have e14 : E7 = ((FO [(Bj, cl)]).toNat : Int) := by rw [h14]; simp [IntKind.wrap, IntKind.bits, IntKind.signed]; omega
 subst e14
 have Qy : Ext σ (σ.set b8 (.cells #[(.string (ByteArray.mk #[99, 108, 117, 115, 116, 101, 114])), .string cl] 61 (0, 0))) := .set hb8
 refine Tj (by omega) (ht.mono Qy) fun σ1 BH => ⟨_, rfl, ?_, h σ1 (Qy.trans BH)⟩
 have h1 := Lib.decDigits_length (FO [(Bj, cl)]).toNat
 have h2 := Lib.nDigits_le20 (FO [(Bj, cl)]).toNat (by omega)
 simp only [ByteArray.size_append]
 have e1 : (ByteArray.mk #[104, 97, 47]).size = 3 := rfl
 have e2 : (ByteArray.mk #[47]).size = 1 := rfl
 have e3 : (ByteArray.mk (Lib.decDigits (FO [(Bj, cl)]).toNat).toArray).size = (Lib.decDigits (FO [(Bj, cl)]).toNat).length := rfl
 omega
def kC : ByteArray := ⟨#[99]⟩
theorem JX (ht : Tb σ) (hk : Gb σ dk bb bk K (Rt kT kC) S cnt rg τ) (hS : vq S) (h : ∀ σ', Ext σ σ' → R (.returned (.agg #[.string S.rep, .int .i64 S.st])) σ') : Spec prog 19 #[.pointer (some ⟨bk, 0, none⟩)] σ R := by
 have RZ : Dg (Rt kT kC) = true := by
   have := LC (ten := kT) (cl := kC)
   have e : kT.size = 1 := rfl
   simp only [Dg, Bool.and_eq_true, decide_eq_true_eq]; omega
 obtain ⟨D, W, rows, ts, h1, h2, h3, h4, h5, h6, h7⟩ := hk
 refine Oc.start fun _ => UJ (ten := kT) (cl := kC) ht (by decide) (by decide) fun σ1 BH => ⟨_, rfl, NG (h1.mono BH) h2.up (fun hf => by rw [RZ] at hf; cases hf) fun _ p n c σ2 ho An => ?_⟩
 rw [h6] at ho ⊢
 refine ⟨_, _, _, _, _, rfl, fun hz => ?_, fun hz => UH (S := S) (AS.rd (Own.mono (Ext.Af _ _) ho)) (Own.cap ho) hS fun code => ⟨_, _, _, rfl, fun _ => h σ2 (BH.trans An)⟩⟩
 have hz' : S.Ez = 0 := by dsimp only at hz; omega
 have := h σ2 (BH.trans An)
 rw [(hS.nil hz').1, (hS.nil hz').2] at this
 exact this
end
end TwW
end
section
namespace TwW
open Go Tw Go.RowKit Go.Proofs.Tryz
section
variable {σ σ' τ N : Hp} {R : Rr} {dk bb bk bd m cnt : Nat} {K : List ByteArray} {nm : ByteArray} {S : Hd} {E : Option MT} {o : Obj} {rf fo re now : Int}
def OE (nm : ByteArray) (now : Int) : Sm := ⟨[(Bj, kC), (BU, nm)], now, 1⟩
abbrev kH : ByteArray := Rt kT kC
theorem AG8 : Dg kH = true := by
 have h := LC (ten := kT) (cl := kC)
 have e : kT.size = 1 := rfl
 simp only [Dg, Bool.and_eq_true, decide_eq_true_eq]
 show 0 < (Rt kT kC).size ∧ (Rt kT kC).size ≤ 64
 omega
theorem vr : kH ≠ D3 := fun h => by
 have h1 := LC (ten := kT) (cl := kC)
 have e : kT.size = 1 := rfl
 rw [show Rt kT kC = D3 from h] at h1
 have e2 : D3.size = 4 := rfl
 omega
theorem AN8 {nm : ByteArray} (hn : nm = ⟨#[120]⟩ ∨ nm = ⟨#[121]⟩) (h : 0 ≤ now ∧ now ≤ 1099511627776) : I4 kT 16 100 [OE nm now] = 0 := by
 have hc : X1 (OE nm now).ls = 0 := by rcases hn with rfl | rfl <;> (simp only [OE]; decide +kernel)
 have ha : RF 16 (OE nm now) = 0 := by
   unfold RF
   rw [if_neg (by rw [hc]; simp [OE]), if_neg (by show ¬ (now < _ ∨ _ < now); omega)]
 unfold I4
 rw [if_neg (by decide), if_neg (by simp)]
 simp [NB, ha]
theorem lsH {nm : ByteArray} (hn : nm = ⟨#[120]⟩ ∨ nm = ⟨#[121]⟩) : A0 [(Bj, kC), (BU, nm)] Bj = kC ∧ A0 [(Bj, kC), (BU, nm)] BU = nm ∧ A0 (List.filter (fun x => !Sl x.1 [BU]) [(Bj, kC), (BU, nm)]) BU = As ∧ A0 (List.filter (fun x => !Sl x.1 [BU]) [(Bj, kC), (BU, nm)]) Bj = kC ∧ nm ≠ As ∧ kC ≠ As := by
 rcases hn with rfl | rfl <;> decide +kernel
theorem AG9 {nm : ByteArray} (hn : nm = ⟨#[120]⟩ ∨ nm = ⟨#[121]⟩) : Eo [OE nm now] = some (kC, nm) ∧ A0 (Bt (OE nm now)).ls BU = As ∧ A0 (Bt (OE nm now)).ls Bj = kC ∧ Cp (OE nm now) = true ∧ A0 (OE nm now).ls Bj = kC ∧ A0 (OE nm now).ls BU = nm := by
 obtain ⟨a, b, c, d, e, f⟩ := lsH hn
 exact ⟨by simp [Eo, OE, a, b, e], c, d, by simp [Cp, OE, a, b, e, f], a, b⟩
theorem bU {p : Option Addr} {c rk e : Nat} {ms : List Mem} (hm : σ m = some o) (hd : τ bd = some (D1 rf fo re true m)) (hk : Gb (σ.off [m]) dk bb bk K kH S cnt (enc e ms, 1) τ) (ht : Tb τ) (hK : K.length ≤ 8) (sT : kH ∈ K) (jD : Tr (enc e ms) e ms)
   (aV : 1 ≤ rf) (zc : rf ≤ 5) (vb : rf = rk) (Va : rk ≤ (CE ms).length) (hS : vq S) (dw : Rs S now) (hE : Da o kH E) (hEo : Vt E S now) (Jm : nm = ⟨#[120]⟩ ∨ nm = ⟨#[121]⟩) (Yn : now ≤ 1099511627776) (nr : S.Ez + 1 < 18446744073709551616) (GJ : cnt + 1 < 67108864) (hs : IC σ p 1 [OE nm now])
   (hR : ∀ σ' o', σ' m = some o' → Gb (σ'.off [m]) dk bb bk K kH (dec E S nm now re fo).2.2 (cnt + 2) (enc e ms, 1) τ → Da o' kH (some (dec E S nm now re fo).2.1) →
     ((dec E S nm now re fo).1 ≠ 0 → R (.returned (.tuple #[.pointer none, .int .i64 (dec E S nm now re fo).1])) σ') ∧
     ((dec E S nm now re fo).1 = 0 → ∀ pb mv, IE σ' pb e (rf / 2 + 1) [partOf ms rk (Bt (OE nm now))] mv → R (.returned (.tuple #[.pointer (some ⟨pb, 0, none⟩), .int .i64 0])) σ')) :
   Spec prog 12 #[.pointer (some ⟨bd, 0, none⟩), .string kT, .slice p 1 c, .int .i64 now, .pointer (some ⟨bk, 0, none⟩)] σ R := by
 have h0 : 0 ≤ now := Int.le_trans dw.st.1 dw.st.2
 obtain ⟨f1, f2, f3, f4, f5, f6⟩ := AG9 (now := now) Jm
 have ym : nm ≠ As := by rcases Jm with rfl | rfl <;> decide
 have hnl : nm.size ≤ 256 := by rcases Jm with rfl | rfl <;> decide
 have vt : Ext τ σ := hk.ext.trans (Ext.CJ _ _)
 obtain ⟨D, W, rows, ts, g1, g2, g3, g4, g5, g6, g7⟩ := hk
 refine Rm (ha := true) (md := m) (vt _ _ hd) (g1.mono (Ext.CJ _ _)) g2.up (by rw [g7]; exact jD) aV zc vb Va hs (fun hh => absurd (AN8 Jm ⟨h0, Yn⟩) hh) (fun _ _ cl rep hf Be => ?_) fun _ cl rep bQ Vh hca b3 b4 b5 BA q n' d pb σ1 mv h5 hx hP lo jA => ?_
 · rw [f1] at hf; cases hf
   exact absurd ⟨by simp [f4], fun s hs => by simp at hs; subst hs; exact ⟨f5, f6⟩⟩ Be
 obtain ⟨rfl, rfl, rfl⟩ : cl = kC ∧ rep = nm ∧ bQ = [Bt (OE nm now)] := by
   rcases hca with h | h | h
   · cases h.1
   · rw [f1] at h; cases h.2.1
   · rw [f1] at h; have := h.2.1; cases this; exact ⟨rfl, rfl, h.2.2.2⟩
 have AHA : Tb σ1 := ht.mono (vt.trans hx)
 have e1 : ∀ s : ByteArray, (s.toList == (ByteArray.mk #[]).toList) = decide (s = As) := fun _ => Xz
 refine Bh.start ⟨_, AD h5.e4 rfl, BA, 0, rfl, rep, AD lo rfl, fun hh => absurd (of_decide_eq_true (by rw [e1] at hh; exact hh)) ym, fun _ => ⟨_, AD h5.e3 rfl, _, AD h5.e5 rfl, _, AD h5.e4 rfl, BA, 0, rfl, kT, AD lo rfl, _, AD h5.e4 rfl, BA, 0, rfl, kC, AD lo rfl, _, AD h5.e4 rfl, BA, 0, rfl, rep, AD lo rfl, _, AD h5.e4 rfl, BA, 0, rfl, now, AD lo rfl, ?_⟩⟩
 refine UJ AHA (by decide) (by decide) fun σ2 An => ⟨_, rfl, Kp.CG An, ?_⟩
 have ye : σ2 m = some o := An _ _ (hx _ _ hm)
 have SY : Ext (σ.off [m]) (σ2.off [m]) := (hx.trans An).off [m]
 have ux : Gb (σ.off [m]) dk bb bk K kH S cnt (enc e ms, 1) τ := ⟨D, W, rows, ts, g1, g2, g3, g4, g5, g6, g7⟩
 obtain ⟨τ2, dN, x2, gJ⟩ := ux.grow SY
 have hnn : Ext (σ.new σ1) τ2 := fun i u hi => gJ _ _ (by
   obtain ⟨i1, i2⟩ := AQ.1 hi
   have Ad : i ∉ [m] := fun e => by rw [List.mem_singleton.1 e, hm] at i1; cases i1
   exact AQ.2 ⟨Hp.KB i1, by rw [Hp.BN Ad]; exact An _ _ i2⟩)
 rw [← Hp.VH ye]
 refine Vf (Hp.Ef (by simp)) (x2 _ _ hd) dN (ht.mono x2) hK AG8 sT vr hS dw hE hEo hnl (by omega) nr GJ fun N' o' rU jE hE3 => ?_
 have hX : Ext τ2 (N'.set m o') := jE.ext.trans (.set rU)
 have eo : (N'.set m o').off [m] = N' := by
   funext i
   by_cases hi : i = m
   · subst hi; rw [Hp.Ef (by simp), rU]
   · rw [Hp.BN (by simpa using hi), Hp.AF hi]
 obtain ⟨r1, r2⟩ := hR (N'.set m o') o' (Hp.AA _ _ _) (by rw [eo]; exact jE.EW x2) hE3
 have hob : (N'.set m o') BA = some (Bf kT kC rep q n' d now (some ⟨pb, 0, none⟩)) := hX _ _ (hnn _ _ (AQ.2 ⟨jA, lo⟩))
 exact ⟨_, rfl, _, rfl, fun hv => r1 hv, fun hv => ⟨_, AD hob rfl, r2 hv pb mv (hP.at.mono (hnn.trans hX))⟩⟩
end
end TwW
end
section
namespace TwW
open Go Tw Go.RowKit Go.Proofs.Tryz
section
variable {σ σ' τ N : Hp} {R : Rr} {dk bb bk m1 m2 cnt : Nat} {K : List ByteArray} {S : Hd} {E1 E2 : Option MT} {rg : jB} {now : Int}
theorem dx {x : Int} {y : Nat} (hy : y < 4611686018427387904) : 0 ≤ Go.bits .and .i64 x (y : Int) ∧ Go.bits .and .i64 x (y : Int) ≤ y := by
 have h2 : (BitVec.ofInt 64 (y : Int)).toNat = y := by rw [BitVec.toNat_ofInt]; omega
 have e : Go.bits .and .i64 x (y : Int) = IntKind.i64.wrap (((BitVec.ofInt 64 x) &&& (BitVec.ofInt 64 (y : Int))).toNat : Int) := rfl
 rw [e, BitVec.toNat_and, h2]
 have hle : (BitVec.ofInt 64 x).toNat &&& y ≤ y := Nat.and_le_right
 generalize (BitVec.ofInt 64 x).toNat &&& y = z at hle
 simp [IntKind.wrap, IntKind.bits, IntKind.signed]; omega
structure HU (σ : Hp) (dk bb bk m1 m2 : Nat) (K : List ByteArray) (S : Hd) (E1 E2 : Option MT) (cnt : Nat) (rg : jB) (τ : Hp) : Prop where
 ne : m1 ≠ m2
 kn1 : ∃ o, σ m1 = some o ∧ Da o kH E1
 kn2 : ∃ o, σ m2 = some o ∧ Da o kH E2
 oD : Gb (σ.off [m1, m2]) dk bb bk K kH S cnt rg τ
theorem HU.mono (h : HU σ dk bb bk m1 m2 K S E1 E2 cnt rg τ) (hx : Ext σ σ') : HU σ' dk bb bk m1 m2 K S E1 E2 cnt rg τ :=
 ⟨h.ne, let ⟨o, a, b⟩ := h.kn1; ⟨o, hx _ _ a, b⟩, let ⟨o, a, b⟩ := h.kn2; ⟨o, hx _ _ a, b⟩, h.oD.mono (hx.off _)⟩
theorem HU.all (h : HU σ dk bb bk m1 m2 K S E1 E2 cnt rg τ) : Gb σ dk bb bk K kH S cnt rg τ := h.oD.mono (Ext.CJ _ _)
theorem HU.swap (h : HU σ dk bb bk m1 m2 K S E1 E2 cnt rg τ) : HU σ dk bb bk m2 m1 K S E2 E1 cnt rg τ :=
 ⟨h.ne.symm, h.kn2, h.kn1, by
   have e : σ.off [m2, m1] = σ.off [m1, m2] := by
     funext i
     by_cases hi : i ∈ [m1, m2]
     · rw [Hp.Ef hi, Hp.Ef (by simp at hi ⊢; exact hi.symm)]
     · rw [Hp.BN hi, Hp.BN (by simp at hi ⊢; exact ⟨hi.2, hi.1⟩)]
   rw [e]; exact h.oD⟩
theorem bV {p : Option Addr} {nm : ByteArray} {c e bd : Nat} {fo re : Int} {ms : List Mem} (h : HU σ dk bb bk m1 m2 K S E1 E2 cnt (enc e ms, 1) τ) (hd : τ bd = some (D1 1 fo re true m1)) (ht : Tb τ) (hK : K.length ≤ 8) (sT : kH ∈ K) (jD : Tr (enc e ms) e ms) (hg : HT ms 1)
   (hS : vq S) (dw : Rs S now) (hEo : Vt E1 S now) (Jm : nm = ⟨#[120]⟩ ∨ nm = ⟨#[121]⟩) (Yn : now ≤ 1099511627776) (nr : S.Ez + 1 < 18446744073709551616) (GJ : cnt + 1 < 67108864) (hs : IC (σ.off [m2]) p 1 [OE nm now])
   (hR : ∀ v S' e' σ', Yl E1 S nm now re fo v e' S' → HU σ' dk bb bk m1 m2 K S' (some e') E2 (cnt + 2) (enc e ms, 1) τ → (S' = S ∨ S'.rep = nm ∧ S'.st = now) →
     (v ≠ 0 → R (.returned (.tuple #[.pointer none, .int .i64 v])) σ') ∧ (v = 0 → ∀ pb mv, IE σ' pb e 1 [partOf ms 1 (Bt (OE nm now))] mv → R (.returned (.tuple #[.pointer (some ⟨pb, 0, none⟩), .int .i64 0])) σ')) :
   Spec prog 12 #[.pointer (some ⟨bd, 0, none⟩), .string kT, .slice p 1 c, .int .i64 now, .pointer (some ⟨bk, 0, none⟩)] σ R := by
 obtain ⟨o1, a1, b1⟩ := h.kn1
 obtain ⟨o2, a2, b2⟩ := h.kn2
 have hoo : (σ.off [m2]).off [m1] = σ.off [m1, m2] := by rw [Hp.IT, Hp.pE]; rfl
 have ym : nm ≠ As := by rcases Jm with rfl | rfl <;> decide
 refine Spec.VH a2 (bU (m := m1) (o := o1) (E := E1) (S := S) (cnt := cnt) (K := K) (rk := 1) (ms := ms) (e := e) (fo := fo) (re := re) (by rw [Hp.BN (by simpa using h.ne)]; exact a1) hd (by rw [hoo]; exact h.oD) ht hK sT jD (by decide) (by decide) rfl (by rw [hg.CE]; simp) hS dw b1 hEo Jm Yn nr GJ hs fun σ1 o1' a1' AHC LF => ?_)
 have hh := iM (re := re) (fo := fo) (nm := nm) dw hEo ym
 have tA : (dec E1 S nm now re fo).2.2 = S ∨ (dec E1 S nm now re fo).2.2.rep = nm ∧ (dec E1 S nm now re fo).2.2.st = now := by
   unfold dec
   dsimp only
   split
   · exact .inl rfl
   · split
     · exact .inl rfl
     · split
       · exact .inr ⟨rfl, rfl⟩
       · split <;> exact .inl rfl
 generalize hdv : dec E1 S nm now re fo = dd at hh AHC LF tA ⊢
 have key : σ1 m2 = none → HU (σ1.set m2 o2) dk bb bk m1 m2 K dd.2.2 (some dd.2.1) E2 (cnt + 2) (enc e ms, 1) τ := fun hn => by
   refine ⟨h.ne, ⟨o1', by rw [Hp.AF h.ne]; exact a1', LF⟩, ⟨o2, Hp.AA _ _ _, b2⟩, ?_⟩
   have e : (σ1.set m2 o2).off [m1, m2] = σ1.off [m1] := by
     funext i
     by_cases h1 : i = m1
     · rw [h1, Hp.Ef (by simp), Hp.Ef (by simp)]
     · by_cases h2 : i = m2
       · rw [h2, Hp.Ef (by simp), Hp.BN (by simpa using h.ne.symm), hn]
       · rw [Hp.BN (by simp [h1, h2]), Hp.BN (by simpa using h1), Hp.AF h2]
   rw [e]; exact AHC
 exact ⟨fun hv hn => (hR _ _ _ _ hh (key hn) tA).1 hv, fun hv pb mv hP hn => (hR _ _ _ _ hh (key hn) tA).2 hv pb mv (hP.mono (.set hn))⟩
theorem nu {x3 fo re : Int} {p0 p1 p2 : Option Addr} {n0 c0 n1 c1 n2 c2 e b1 b2 : Nat} {ws hs : List Bool} {ls : List Int} {ms : List Mem} (h0 : VJ τ p0 n0 ws) (h1 : CA .i64 τ p1 n1 ls) (h2 : VJ τ p2 n2 hs) (jA : n0 ≤ 8388608) (ht : Tb τ) (Pu : τ b1 = some (D1 1 fo re true m1)) (PN : τ b2 = some (D1 1 fo re true m2))
   (hK : K.length ≤ 8) (sT : kH ∈ K) (jD : Tr (enc e ms) e ms) (hg : HT ms 1) (Vh : re = Go.bits .and .i64 x3 15) (hR : ∀ σ', Ext τ σ' → R (.returned (.bool true)) σ')
   (hU : HU σ dk bb bk m1 m2 K ⟨As, 0, 0⟩ none none 2 (enc e ms, 1) τ) :
   AK.MD R p0 n0 c0 p1 n1 c1 p2 n2 c2 x3 0 1 0 0 fo re 0 100 16 100 true (some ⟨b1, 0, none⟩) (some ⟨b2, 0, none⟩) (some ⟨bk, 0, none⟩) 0 0 σ := by
 have hw0 : ws.length = n0 := by have := h0.1; simpa using this
 have hw2 : hs.length = n2 := by have := h2.1; simpa using this
 have NM : ls.length = n1 := h1.1
 suffices H : ∀ g i : Nat, ∀ (σ : Hp) (now : Int) (S : Hd) (E1 E2 : Option MT), n0 - i = g → i ≤ n0 → now ≤ 31 * i → vq S → Rs S now → Vt E1 S now → Vt E2 S now → S.Ez ≤ i → HU σ dk bb bk m1 m2 K S E1 E2 (2 + 2 * i) (enc e ms, 1) τ →
     AK.MD R p0 n0 c0 p1 n1 c1 p2 n2 c2 x3 0 1 0 0 fo re 0 100 16 100 true (some ⟨b1, 0, none⟩) (some ⟨b2, 0, none⟩) (some ⟨bk, 0, none⟩) now i σ from
   H n0 0 σ 0 ⟨As, 0, 0⟩ none none rfl (Nat.zero_le _) (by omega) ⟨by decide, by decide, fun _ => ⟨rfl, rfl⟩⟩ ⟨by decide, fun _ => ⟨rfl, rfl⟩⟩ (fun e he => by cases he) (fun e he => by cases he) (Nat.zero_le _) hU
 intro g
 induction g with
 | zero =>
   intro i σ now S E1 E2 hg' hi _ _ _ _ _ _ hU
   exact AK.Hl ⟨fun Ag => by omega, fun _ => O8 (ht.mono hU.all.ext) fun PC Cc => ⟨_, rfl, hR _ (hU.all.ext.trans Cc)⟩⟩
 | succ g ih =>
   intro i σ now S E1 E2 hg' hi Yn hSF dw hE1 hE2 nr hU
   have aw : ∀ {σ : Hp}, Ext τ σ → Spec prog 13 #[] σ (AB R (CB fun t185 y => R (.returned (.bool t185)) y)) := fun hx => O8 (ht.mono hx) fun PC Cc => ⟨_, rfl, hR _ (hx.trans Cc)⟩
   have Ha := hU.all.ext
   have fe : i < n0 := by omega
   refine AK.Hl ⟨fun _ => ⟨fun AVE => ⟨fun AE2 => AK.qQ ?_, fun _ => aw Ha⟩, fun _ => aw Ha⟩, fun hh => by omega⟩
   obtain ⟨x73, AOA⟩ := h1.ex (k := i) (by omega)
   obtain ⟨kS, kU, rfl, AOB⟩ := h1.at AOA
   obtain ⟨w, hw⟩ : ∃ w, ws[i]? = some w := ⟨_, List.getElem?_eq_getElem (by omega)⟩
   obtain ⟨Yx, kV, rfl, AOC⟩ := h0.at hw
   obtain ⟨u, hu⟩ : ∃ u, hs[i]? = some u := ⟨_, List.getElem?_eq_getElem (by omega)⟩
   obtain ⟨kW, kX, rfl, AOD⟩ := h2.at hu
   refine ⟨kS, kU, rfl, by omega, x73, by simpa using Ha.ld AOB, fun xg h74 => ?_⟩
   have h31 : 0 ≤ xg ∧ xg ≤ 31 := by rw [h74]; exact dx (y := 31) (by decide)
   have AQS : 0 ≤ now := Int.le_trans dw.st.1 dw.st.2
   refine ⟨by unfold AO; omega, Yx, kV, rfl, by omega, w, by simpa using Ha.ld AOC, ?_⟩
   generalize hnw : now + xg = nw
   have hle : now ≤ nw := by omega
   have AHD := dw.mono hle
   have AHE : Vt E1 S nw := fun e he => (hE1 e he).mono hle
   have AHF : Vt E2 S nw := fun e he => (hE2 e he).mono hle
   have B : ∀ nm : ByteArray, (nm = ⟨#[120]⟩ ∨ nm = ⟨#[121]⟩) → AK.fE R (aD Yx kV) n0 c0 (aD kS kU) n1 c1 (aD kW kX) n2 c2 x3 0 1 0 0 fo re 0 100 16 100 true (some ⟨b1, 0, none⟩) (some ⟨b2, 0, none⟩) (some ⟨bk, 0, none⟩) nw i nm σ := by
     intro nm Jm
     have ym : nm ≠ As := by rcases Jm with rfl | rfl <;> decide
     have hnl : nm.size ≤ 256 := by rcases Jm with rfl | rfl <;> decide
     have C : ∀ (σ5 : Hp) (v : Int) (S' : Hd) (F1 F2 : Option MT) (q : Option Addr) (E : Option MT) (e' : MT), Yl E S nm nw re fo v e' S' → (S' = S ∨ S'.rep = nm ∧ S'.st = nw) → Vt F1 S' nw → Vt F2 S' nw → HU σ5 dk bb bk m1 m2 K S' F1 F2 (2 + 2 * i + 2) (enc e ms, 1) τ →
         (v = 0 → ∃ pb mv, q = some ⟨pb, 0, none⟩ ∧ IE σ5 pb e 1 [partOf ms 1 (Bt (OE nm nw))] mv) →
         AK.DY R (aD Yx kV) n0 c0 (aD kS kU) n1 c1 (aD kW kX) n2 c2 x3 0 1 0 0 fo re 0 100 16 100 true (some ⟨b1, 0, none⟩) (some ⟨b2, 0, none⟩) (some ⟨bk, 0, none⟩) nw i nm S.rep S.st q v S'.rep S'.st σ5 := by
       intro σ5 v S' F1 F2 q E e' hh tA hF1 hF2 hU5 hq
       have last : ∀ σ6, Ext σ5 σ6 → AK.kP R (aD Yx kV) n0 c0 (aD kS kU) n1 c1 (aD kW kX) n2 c2 x3 0 1 0 0 fo re 0 100 16 100 true (some ⟨b1, 0, none⟩) (some ⟨b2, 0, none⟩) (some ⟨bk, 0, none⟩) nw i nm v S'.rep S'.st σ6 := by
         intro σ6 LU
         have nx : AK.kR R (aD Yx kV) n0 c0 (aD kS kU) n1 c1 (aD kW kX) n2 c2 x3 0 1 0 0 fo re 0 100 16 100 true (some ⟨b1, 0, none⟩) (some ⟨b2, 0, none⟩) (some ⟨bk, 0, none⟩) nw i σ6 := by
           refine AK.qV ⟨Ah fe h0.2.1, ih (i + 1) σ6 nw S' F1 F2 (by omega) (by omega) (by omega) ?_ hh.ok hF1 hF2 ?_ (hU5.mono LU)⟩
           · rcases tA with e | ⟨e1, e2⟩
             · rw [e]; exact hSF
             · exact ⟨by rw [e1]; exact hnl, by rw [e2]; omega, hh.ok.nil⟩
           · rcases hh.Ez with e | ⟨_, e⟩
             · rw [e]; omega
             · omega
         rw [AK.kP] at *
         refine AK.qU ⟨fun hv => ⟨fun Ad ACX AOF => ⟨fun hz => ?_, fun _ => nx⟩, fun _ => nx⟩, fun _ => nx⟩
         rw [Xz, decide_eq_false_iff_not] at Ad
         exact absurd (hh.AN5 hv (by rw [Vh, ← AOF]; exact hz)) Ad
       have mid : AK.kQ R (aD Yx kV) n0 c0 (aD kS kU) n1 c1 (aD kW kX) n2 c2 x3 0 1 0 0 fo re 0 100 16 100 true (some ⟨b1, 0, none⟩) (some ⟨b2, 0, none⟩) (some ⟨bk, 0, none⟩) nw i nm q v S'.rep S'.st σ5 := by
         refine AK.qT ⟨fun hv => ?_, fun _ => last σ5 (.refl _)⟩
         obtain ⟨pb, mv, rfl, hP⟩ := hq hv
         refine RX hP fun p n c σ6 ho LU => ⟨_, _, _, _, rfl, ?_⟩
         have AHG : Eb 0 (partOf ms 1 (Bt (OE nm nw))) = true := by
           obtain ⟨r1, r2⟩ := Rp (h := FO (Bt (OE nm nw)).ls) hg (k := 1) (by decide)
           have Cl : ∀ x ∈ (round ms (FO (Bt (OE nm nw)).ls)).take 1, x = 0 := fun x hx => by
             have := (T0 hg.ok).1 (List.mem_of_mem_take hx)
             rw [hg.CE] at this
             simpa using this
           show decide ((0 : Int) ∈ (round ms (FO (Bt (OE nm nw)).ls)).take 1) = true
           generalize (round ms (FO (Bt (OE nm nw)).ls)).take 1 = L at r2 Cl
           match L, r2 with
           | [a], _ => rw [Cl a (by simp)]; simp
         rw [List.filter_cons_of_pos AHG, List.filter_nil] at ho
         have hn : n = 1 := by have := ho.1; simpa using this.symm
         subst hn
         have HM : IC σ6 p 1 _ := (ho.rd ML.mono).mono ML.mono (Ext.Af _ _)
         obtain ⟨b, o, q6, k6, c6, rfl, mr, hq6⟩ := IC.at HM (i := 0) rfl
         obtain ⟨_, g2, g3, _⟩ := AG9 (now := nw) Jm
         have hls : (Bt (OE nm nw)).ls = (partOf ms 1 (Bt (OE nm nw))).s.ls := rfl
         rw [← hls] at hq6
         have e1 : ∀ s : ByteArray, (s.toList == (ByteArray.mk #[]).toList) = decide (s = As) := fun _ => Xz
         refine ⟨fun hh => absurd rfl hh, fun _ => ⟨b, o, rfl, by omega, q6, k6, c6, by simpa using mr.1, DW (k := BU) hq6 ⟨_, rfl, fun hh => ?_, fun _ => ⟨by omega, q6, k6, c6, by simpa using mr.1, DW (k := Bj) hq6 ⟨_, rfl, fun hh => ?_, fun _ => last σ6 LU⟩⟩⟩⟩⟩
         · rw [e1, g2] at hh; simp at hh
         · rw [g3] at hh; exact absurd hh (by decide +kernel)
       refine AK.Uv ⟨fun Ad => ?_, fun _ => mid⟩
       rw [Xz, decide_eq_false_iff_not] at Ad
       obtain ⟨c1, c2, c3⟩ := hh.chg Ad
       have e1 : ∀ s : ByteArray, (s.toList == (ByteArray.mk #[]).toList) = decide (s = As) := fun _ => Xz
       refine ⟨fun UK => absurd c1 UK, fun _ => ⟨fun UK => ?_, fun _ => ⟨fun hz => ⟨by have := AHD.st; unfold AO; omega, fun Ag => ?_, fun _ => mid⟩, fun _ => mid⟩⟩⟩
       · rw [Xz, decide_eq_false_iff_not] at UK; exact absurd c2 UK
       · rw [e1, decide_eq_false_iff_not] at hz
         have := c3 hz
         omega
     refine AK.qR ⟨kW, kX, rfl, by omega, u, by simpa using Ha.ld AOD, ?_⟩
     have A : ∀ (bd m n : Nat) (F G : Option MT), τ bd = some (D1 1 fo re true m) → Vt F S nw → Vt G S nw → HU σ dk bb bk m n K S F G (2 + 2 * i) (enc e ms, 1) τ →
         (∀ (σ5 : Hp) (S' : Hd) (e' : MT), HU σ5 dk bb bk m n K S' (some e') G (2 + 2 * i + 2) (enc e ms, 1) τ → Kg e' S' nw → Vt G S' nw → ∃ F1 F2, Vt F1 S' nw ∧ Vt F2 S' nw ∧ HU σ5 dk bb bk m1 m2 K S' F1 F2 (2 + 2 * i + 2) (enc e ms, 1) τ) →
         AK.qF R (aD Yx kV) n0 c0 (aD kS kU) n1 c1 (aD kW kX) n2 c2 x3 0 1 0 0 fo re 0 100 16 100 true (some ⟨b1, 0, none⟩) (some ⟨b2, 0, none⟩) (some ⟨bk, 0, none⟩) nw i nm (some ⟨bd, 0, none⟩) σ := by
       intro bd m n F G hdd hF hG hUU bh
       refine AK.qS (JX (ht.mono Ha) hUU.all hSF fun σ2 An => ⟨_, _, rfl, fun _ SM AHH iW AHI => ?_⟩)
       show Spec prog 12 #[_, .string kT, .slice (some ⟨iW, 0, none⟩) 1 1, _, _] ((σ2.set SM (.cells #[.string Bj, .string kC, .string BU, .string nm] 61 (0, 0))).set iW (.cells #[(.slice (aD SM 0) 2 2), .int .i64 nw, .int .u64 1] 25 (0, 0))) _
       have AHJ : Ext σ2 (σ2.set SM (.cells #[.string Bj, .string kC, .string BU, .string nm] 61 (0, 0))) := .set AHH
       have AHK := Ext.set AHI (o := .cells #[(.slice (aD SM 0) 2 2), .int .i64 nw, .int .u64 1] 25 (0, 0))
       have hU4 := hUU.mono (An.trans (AHJ.trans AHK))
       obtain ⟨on, an, _⟩ := (hUU.mono (An.trans AHJ)).kn2
       obtain ⟨on', an', _⟩ := (hUU.mono An).kn2
       have n96 : iW ≠ n := fun e => by subst e; cases (an.symm.trans AHI)
       have n93 : SM ≠ n := fun e => by subst e; cases (an'.symm.trans AHH)
       have l96 : ∀ {j : Nat} {v : Value}, (#[(.slice (aD SM 0) 2 2), .int .i64 nw, .int .u64 1] : Array Value)[j]? = some v → Hp.ld (((σ2.set SM (.cells #[.string Bj, .string kC, .string BU, .string nm] 61 (0, 0))).set iW (.cells #[(.slice (aD SM 0) 2 2), .int .i64 nw, .int .u64 1] 25 (0, 0))).off [n]) ⟨iW, j, none⟩ = some v := fun h => AD (by rw [Hp.BN (by simpa using n96)]; exact Hp.AA _ _ _) h
       have l93 : ∀ {j : Nat} {v : Value}, (#[.string Bj, .string kC, .string BU, .string nm] : Array Value)[j]? = some v → Hp.ld (((σ2.set SM (.cells #[.string Bj, .string kC, .string BU, .string nm] 61 (0, 0))).set iW (.cells #[(.slice (aD SM 0) 2 2), .int .i64 nw, .int .u64 1] 25 (0, 0))).off [n]) ⟨SM, j, none⟩ = some v := fun h => AD (by rw [Hp.BN (by simpa using n93)]; exact AHK _ _ (Hp.AA _ _ _)) h
       have hrs : IC (((σ2.set SM (.cells #[.string Bj, .string kC, .string BU, .string nm] 61 (0, 0))).set iW (.cells #[(.slice (aD SM 0) 2 2), .int .i64 nw, .int .u64 1] 25 (0, 0))).off [n]) (some ⟨iW, 0, none⟩) 1 [OE nm nw] :=
         ⟨rfl, [.slice (aD SM 0) 2 2, .int .i64 nw, .int .u64 1], ⟨rfl, by omega, .inr ⟨iW, 0, rfl, ⟨l96 rfl, l96 rfl, l96 rfl, trivial⟩⟩⟩, Ch.one rfl ⟨_, _, _, rfl, rfl, [.string Bj, .string kC, .string BU, .string nm], ⟨rfl, by omega, .inr ⟨SM, 0, rfl, ⟨l93 rfl, l93 rfl, l93 rfl, l93 rfl, trivial⟩⟩⟩, Ch.snoc (Ch.one (x := (Bj, kC)) (show [Value.string Bj, Value.string kC].length = 2 from rfl) rfl) (show [Value.string BU, Value.string nm].length = 2 from rfl) rfl⟩⟩
       refine bV hU4 hdd ht hK sT jD hg hSF AHD hF Jm (by omega) (by omega) (by omega) hrs fun v S' e' σ5 hh hU5 tA => ?_
       have hG' := hh.other hG
       obtain ⟨F1, F2, k1, k2, k3⟩ := bh σ5 S' e' hU5 hh.CY hG'
       have AHL : vq S' := by
         rcases tA with e | ⟨e1, e2⟩
         · rw [e]; exact hSF
         · exact ⟨by rw [e1]; exact hnl, by rw [e2]; omega, hh.ok.nil⟩
       refine ⟨fun hv => ⟨_, _, rfl, ?_⟩, fun hv pb mv hP => ⟨_, _, rfl, ?_⟩⟩
       · have hv2 : v = 2 := hh.vd.resolve_left hv
         subst hv2
         refine JX (ht.mono k3.all.ext) k3.all AHL fun σ6 LU => ⟨_, _, rfl, fun _ => ⟨fun _ => ⟨fun UK => absurd rfl UK, fun _ => ⟨fun _ => ⟨fun _ => C σ6 2 S' F1 F2 none F e' hh tA k1 k2 (k3.mono LU) fun UK => (by cases UK), fun UK => absurd (by decide) UK⟩, fun UK => (by cases UK)⟩⟩, fun UK => absurd (by decide) UK⟩⟩
       · subst hv
         refine JX (ht.mono k3.all.ext) k3.all AHL fun σ6 LU => ⟨_, _, rfl, fun _ => ⟨fun UK => absurd rfl UK, fun _ => ⟨fun UK => (by cases UK), fun _ => ⟨fun UK => absurd rfl UK, fun _ => C σ6 0 S' F1 F2 _ F e' hh tA k1 k2 (k3.mono LU) fun _ => ⟨pb, mv, rfl, hP.mono LU⟩⟩⟩⟩⟩
     refine ⟨fun _ => A b2 m2 m1 E2 E1 PN AHF AHE hU.swap fun σ5 S' e' h5 he hG => ⟨E1, some e', hG, fun e pG => (by cases pG; exact he), h5.swap⟩, fun _ => A b1 m1 m2 E1 E2 Pu AHE AHF hU fun σ5 S' e' h5 he hG => ⟨some e', E2, fun e pG => (by cases pG; exact he), hG, h5⟩⟩
   exact ⟨fun _ => B _ (.inr rfl), fun _ => B _ (.inl rfl)⟩
theorem bW {x3 x4 : Int} {p0 p1 p2 : Option Addr} {n0 c0 n1 c1 n2 c2 : Nat} {ws hs : List Bool} {ls : List Int} (ht : Tb σ) (h0 : VJ σ p0 n0 ws) (h1 : CA .i64 σ p1 n1 ls) (h2 : VJ σ p2 n2 hs) (jA : n0 ≤ 8388608) (hR : ∀ σ', Ext σ σ' → R (.returned (.bool true)) σ') :
   Spec prog 4 #[.slice p0 n0 c0, .slice p1 n1 c1, .slice p2 n2 c2, .int .i64 x3, .int .i64 x4] σ R := by
 refine AK.start fun JB h27 MG h29 => ?_
 have h63 : 0 ≤ MG ∧ MG ≤ 63 := by rw [h29]; exact dx (y := 63) (by decide)
 refine ⟨by unfold AO; omega, O6 ⟨_, _, _, _, _, _, _, _, _, _, _, rfl, fun _ => ?_⟩⟩
 have hrf : iH 0 = 1 := by decide
 rw [hrf]
 refine Ri fun bd1 jF AOI AOJ ya => ⟨_, rfl, Ri fun bd2 dy AOK AOL AOM => ⟨_, rfl, ?_⟩⟩
 obtain ⟨n21, AHM⟩ := Hp.AL AOK
 obtain ⟨n2m, AAE⟩ := Hp.AL AHM
 obtain ⟨nb1, AHO⟩ := Hp.AL AOL
 obtain ⟨nbm, AAF⟩ := Hp.AL AHO
 generalize hB : (σ.set bd1 (D1 1 (16 + MG) JB true jF)).set bd2 (D1 1 (16 + MG) JB true dy) = B
 have eB : (((σ.set jF (.map #[] 0)).set bd1 (D1 1 (16 + MG) JB true jF)).set dy (.map #[] 0)).set bd2 (D1 1 (16 + MG) JB true dy) = (B.set jF (.map #[] 0)).set dy (.map #[] 0) := by
   rw [← hB]
   funext i
   simp only [Hp.set]
   by_cases e1 : i = bd2 <;> by_cases e2 : i = dy <;> by_cases e3 : i = bd1 <;> by_cases e4 : i = jF <;> simp_all
 rw [eB]
 have hB1 : B jF = none := by rw [← hB, Hp.AF (fun e => nbm e.symm), Hp.AF (fun e => ya e.symm)]; exact AOI
 have hB2 : B dy = none := by rw [← hB, Hp.AF (fun e => AOM e.symm), Hp.AF n21]; exact AAE
 have gx : Ext σ B := by
   rw [← hB]
   exact (Ext.set AOJ).trans (.set (by rw [Hp.AF nb1]; exact AAF))
 have Pu : B bd1 = some (D1 1 (16 + MG) JB true jF) := by rw [← hB, Hp.AF (fun e => nb1 e.symm), Hp.AA]
 have PN : B bd2 = some (D1 1 (16 + MG) JB true dy) := by rw [← hB, Hp.AA]
 have AON : (B.set jF (.map #[] 0)) dy = none := by rw [Hp.AF n2m]; exact hB2
 refine Spec.BW AON (Spec.BW hB1 (Rj (n := 1) (by decide) fun pr cr σ2 ms US hg An PU NT => ⟨_, _, _, _, rfl, ?_⟩))
 have AVQ : σ2 dy = none := by rwa [Hp.AF n2m] at NT
 refine Spec.BW NT (Spec.BW PU (O7 (K := [D3, kH]) (e := 2) (by simp) (by simp) (ht.mono (gx.trans An)) US hg.ok hg.tok (by decide) fun dk bb s sb σ3 D W rows ts τ3 jE Dl hs3 ha3 hc3 _ jD hgk Ha ot ye => ⟨_, _, rfl, fun hh => (by cases hh), fun _ => ⟨fun hh => (by cases hh), fun _ => ⟨fun hh => (by cases hh), fun _ => AK.BI ?_⟩⟩⟩))
 have AAC : σ3 dy = none := by rwa [Hp.AF n2m] at ye
 have hg1 := hgk D3
 rw [if_pos rfl] at hg1
 rw [hg1] at jD
 have hgh := hgk kH
 rw [if_neg (fun e => vr e.symm)] at hgh
 refine nu (τ := τ3) (e := 2) (ms := ms) (K := [D3, kH]) (dk := dk) (bb := bb) (m1 := jF) (m2 := dy) (h0.mono ((gx.trans An).trans Ha)) (h1.mono ((gx.trans An).trans Ha)) (h2.mono ((gx.trans An).trans Ha)) jA (ht.mono ((gx.trans An).trans Ha)) (Ha _ _ (An _ _ Pu)) (Ha _ _ (An _ _ PN)) (by simp) (by simp) jD hg h27 (fun σ' Cc => hR _ (((gx.trans An).trans Ha).trans Cc)) ⟨fun e => n2m e.symm, ⟨_, by rw [Hp.AF (fun e => n2m e.symm), Hp.AA], Da.fresh⟩, ⟨_, Hp.AA _ _ _, Da.fresh⟩, ?_⟩
 have e : ((σ3.set jF (.map #[] 0)).set dy (.map #[] 0)).off [jF, dy] = σ3 := by
   funext i
   by_cases h1 : i = jF
   · rw [h1, Hp.Ef (by simp), ot]
   · by_cases h2 : i = dy
     · rw [h2, Hp.Ef (by simp), AAC]
     · rw [Hp.BN (by simp [h1, h2]), Hp.AF h2, Hp.AF h1]
 rw [e]
 exact ⟨D, W, rows, ts, jE, Dl, hs3, ha3, hc3, by rw [hgh]; rfl, hg1⟩
end
end TwW
end
