/-
  Part 4 of the proof that the law DistributorRoutesCardSaid of the given program answers true for every input of the given statement; the input reads behind the call as it did. (The texts: packed from 21 texts. Names are shortened by the packing program, for the bound on size.)
-/
import Derived.Test.YtaaincfenibojaaGreatDoorA3
import Derived.Shelf.Strings.Builder1
import Derived.Shelf.Strings.Builder2
import Derived.Shelf.Small.Bits
import Derived.Shelf.Small.Wraps
import Derived.Shelf.Strings.BuilderF
import Derived.Shelf.Strings.BuilderK
import Derived.Shelf.Strings.Builder2Cap
import Derived.Shelf.Strconv.Atoi
import Derived.Shelf.Strconv.Itoa0
import Derived.Shelf.Strconv.Itoa1
import Derived.Shelf.LaysM
import Derived.Shelf.Strconv.Itoa2
import Derived.Shelf.Strconv.Itoa3
import Derived.Shelf.Strconv.AtoiErrFast
import Derived.Shelf.Strconv.ParseIntEmpty
import Derived.Shelf.Strconv.AtoiFail
import Derived.Shelf.Strconv.Clone
import Derived.Shelf.Strconv.SyntaxError
import Derived.Shelf.LaysC
import Derived.Shelf.Strconv.ToError
import Derived.Shelf.Strconv.AtoiErr
import Derived.Shelf.Strconv.Lower
import Derived.Shelf.Strconv.ParseUint10
import Derived.Shelf.Strconv.ParseUint10Empty
import Derived.Shelf.Strconv.ParseUint10Any
import Derived.Shelf.Strconv.ParseInt10
import Derived.Shelf.Strconv.RangeError
import Derived.Shelf.Strconv.ToErrorRange
import Derived.Shelf.Strconv.ParseUintEmpty
import Derived.Shelf.Strconv.ParseUint10b64
import Derived.Shelf.Strconv.ParseUint10b32
import Derived.Shelf.Strconv.ParseUint10b16
import Derived.Shelf.Strconv.ParseUint10b8
import Derived.Shelf.Strconv.ParseUint10At
import Derived.Shelf.Strconv.ParseInt10At64
import Derived.Shelf.Strconv.ParseInt10At32
import Derived.Shelf.Strconv.ParseInt10At16
import Derived.Shelf.Strconv.ParseInt10At8
import Derived.Shelf.Sort.Plain
import Derived.Shelf.Strings.Prefix
import Derived.Shelf.Bits.Mul64
import Derived.Shelf.Strings.Repeat
import Derived.Shelf.Strings.BuilderCap
import Derived.Shelf.Slices.Turned
import Derived.Ground.Names2Prog
import Derived.Shelf.Slices.CompactI
import Derived.Shelf.Slices.SearchI
import Derived.Shelf.Slices.Cells
import Derived.Shelf.Slices.In.SortNone
import Derived.Shelf.Bytes.SlSearch0
import Derived.Shelf.Bytes.SlEqualAll
import Derived.Shelf.Bytes.Small
import Derived.Test.YtaaincfenibojaaGreatDoorProg
import Derived.Laws.Bits64b
import Derived.Lib.SmallJoins
import Derived.Lib.ItoaLen
import Derived.Lib.ItoaMem
import Derived.WalkKit
import Derived.Defers
import Derived.Recover
set_option linter.all false
section
namespace TwW
open Go Tw Go.Proofs.Tryz
section
variable {σ : Hp} {d : Nat} {D : Dk} {S : List Nat} {R : Rr}
theorem Ry (h : ∀ d σ' S', A5 σ' d ⟨fun _ => none, true, false, 0⟩ S' → Ext σ (σ'.off S') → R (.returned (.pointer (some ⟨d, 0, none⟩))) σ') : Spec prog 42 #[] σ R := by
 refine Wf.start (HQ fun m hm => ⟨m, rfl, fun d hd => ?_⟩)
 have Ae : m ≠ d := fun e => by rw [e, Hp.AA] at hd; cases hd
 have hd' : σ d = none := by rw [Hp.AH (Ne.symm Ae)] at hd; exact hd
 refine h d _ [d, m] ⟨m, 0, [], 188, 0, 0, 0, ⟨rfl, Ae, by simp, by simp, Hp.AA _ _ _, ?_, by simp, rfl, Nat.le_refl _⟩⟩ ((Ext.set hm).trans (Ext.set hd) |>.jD (by simp [hm, hd']))
 exact A1.fresh.loc (Hp.AH Ae)
theorem cw (hd : A5 σ d D S) (h : R (.returned (.bool D.up)) σ) : Spec prog 91 #[.pointer (some ⟨d, 0, none⟩)] σ R := by
 obtain ⟨m, cl, rows, T, a, b, e, hd⟩ := hd
 exact MP.start ⟨d, 0, rfl, _, AD hd.obj rfl, h⟩
theorem fW {s : ByteArray} {f : Fl} (hd : A5 σ d D S) (Ed : D.up = true) (hn : Ah s = true) (hf : D.files s = some f)
   (h : ∀ p c σ', AR .u8 (σ.new σ') p f.data.length c f.data → Ext σ σ' → R (.returned (.tuple #[.slice p f.data.length c, .int .i64 0])) σ') : Spec prog 176 #[.pointer (some ⟨d, 0, none⟩), .string s] σ R := by
 have hd' := hd
 obtain ⟨m, cl, rows, T, a, b, e, hdi⟩ := hd'
 refine J9.start ⟨d, 0, rfl, _, AD hdi.obj rfl, fun hh => (by rw [Ed] at hh; cases hh), fun _ => JC hd (fun hh => by rw [hn] at hh; cases hh) (fun _ hh => by rw [hf] at hh; cases hh) fun f' _ _ => ⟨0, rfl, fun hh => absurd rfl hh, fun _ PM hb => ?_⟩⟩
 have Rz := hdi.mono (σ' := σ.set PM (.cells #[] 5 (0, 0))) (.set hb)
 refine ⟨some m, AD Rz.obj rfl, Rz.look (fun _ JY => by rw [hf] at JY; cases JY) fun r1 r r2 CO Ez JY => ⟨_, rfl, r.f, 0, rfl, r.p, r.n, r.c, ?_⟩⟩
 rw [hf] at JY
 cases JY
 have hr := Rz.row r (by simp [CO])
 refine ⟨AD hr.obj rfl, ?_⟩
 have FV : r.n ≤ 140737488355328 := Nat.le_trans hr.small (by decide)
 have hq : ∀ a : Addr, (some (⟨PM, 0, none⟩ : Addr)) = some a → σ a.block = none := fun a ha => by cases ha; exact hb
 refine Dr (T := 84) Own.empty (Own.rd hr.own) CR.Cj (by rw [Nat.zero_add, Nat.mul_one]; exact FV) fun p' c' σ' AY Di => ⟨p', _, c', rfl, ?_⟩
 rw [Nat.zero_add] at AY ⊢
 exact h p' c' σ' (Own.CC AY (Bb hq Di (.set hb))) (CL hq Di (.set hb))
theorem AD4 {s : ByteArray} {h : Nat} (hh : h ≤ s.size) : YF prog (Instr.sliceAt 9 (.string s) none (some (.int .i64 (h : Int))) none) σ (.string (s.extract 0 h)) := fun w _ => by
 rw [run_sliceAt_string (h := underlying9)]
 have h1 : (h : Int) ≤ s.size := by omega
 simp [Instr.slice, run_underlying underlying9, Instr.sliceBounds, run_sliceBound, h1, Result.andThen]
theorem qT {s : ByteArray} {l : Nat} (hl : l ≤ s.size) : YF prog (Instr.sliceAt 9 (.string s) (some (.int .i64 (l : Int))) none none) σ (.string (s.extract l s.size)) := fun w _ => by
 rw [run_sliceAt_string (h := underlying9)]
 have h1 : (l : Int) ≤ s.size := by omega
 simp [Instr.slice, run_underlying underlying9, Instr.sliceBounds, run_sliceBound, h1, Result.andThen]
def BR (s t : ByteArray) : Bool := decide (t.data.toList <+: s.data.toList)
theorem Ww {s : ByteArray} {i j : Nat} : (s.extract i j).data.toList = (s.data.toList.drop i).take (j - i) := by
 rw [ByteArray.data_extract, Array.toList_extract, List.extract]
theorem QW {a b : ByteArray} : (ByteArray.toList a == ByteArray.toList b) = decide (a.data.toList = b.data.toList) := by
 rw [ByteArray.toList_eq, ByteArray.toList_eq]
 by_cases h : a.data.toList = b.data.toList
 · simp [h]
 · rw [decide_eq_false h]; exact beq_eq_false_iff_ne.2 h
theorem QX {s t : ByteArray} (h : R (.returned (.bool (BR s t))) σ) : Spec prog 169 #[.string s, .string t] σ R := by
 have hs : s.data.toList.length = s.size := rfl
 have ht : t.data.toList.length = t.size := rfl
 refine Cv.start ⟨fun hle => ⟨_, AD4 (by omega), ?_⟩, fun hgt => ?_⟩
 · rw [QW, Ww]
   have : (List.take (t.size - 0) (List.drop 0 s.data.toList) = t.data.toList) ↔ t.data.toList <+: s.data.toList := by
     rw [List.drop_zero, Nat.sub_zero, ← ht]
     exact ⟨fun e => e ▸ List.take_prefix _ _, fun e => (List.prefix_iff_eq_take.1 e).symm⟩
   rw [show decide (List.take (t.size - 0) (List.drop 0 s.data.toList) = t.data.toList) = BR s t from decide_eq_decide.2 this]
   exact h
 · have : BR s t = false := by
     unfold BR
     rw [decide_eq_false_iff_not]
     intro e
     have := e.length_le
     omega
   rwa [this] at h
theorem fX {s t : ByteArray} (h : R (.returned (.bool (BR s t))) σ) : Spec prog 92 #[.string s, .string t] σ R :=
 strings_HasPrefix.start (QX ⟨_, rfl, h⟩)
theorem fY {s t : ByteArray} (h0 : BR s t = false → R (.returned (.tuple #[.string s, .bool false])) σ) (h1 : BR s t = true → R (.returned (.tuple #[.string (s.extract t.size s.size), .bool true])) σ) : Spec prog 300 #[.string s, .string t] σ R := by
 refine strings_CutPrefix.start (Cr.start (QX ⟨_, rfl, fun hf => ⟨_, _, rfl, h0 hf⟩, fun ht => ⟨_, qT ?_, _, _, rfl, h1 ht⟩⟩))
 have : t.data.toList <+: s.data.toList := by simpa [BR] using ht
 exact this.length_le
end
end TwW
end
section
namespace Go.Proofs
open Go.Shelf
def Tryz.Wx : Go.Shelf.Ren := ⟨fun | 172 => 301 | 244 => 318 | 245 => 319 | 247 => 337 | 279 => 338 | 280 => 339 | 281 => 340 | 282 => 341 | 287 => 352 | 316 => 353 | 171 => 355 | 205 => 354 | 321 => 359 | 322 => 360 | 243 => 361 | 246 => 362 | 283 => 215 | 284 => 216 | 285 => 217 | 286 => 218 | 129 => 211 | 317 => 285 | 318 => 286 | 319 => 287 | 320 => 288 | 337 => 313 | 338 => 314 | n => n, fun | 9 => 9 | 3 => 3 | 75 => 346 | 76 => 347 | 4 => 4 | 5 => 5 | 167 => 373 | 37 => 84 | 0 => 0 | 85 => 374 | 2 => 2 | 168 => 376 | 53 => 23 | 175 => 392 | 46 => 205 | 210 => 396 | 127 => 391 | 145 => 405 | 143 => 403 | 21 => 21 | 171 => 290 | 173 => 292 | 212 => 336 | 51 => 70 | 20 => 20 | 213 => 337 | 232 => 366 | 233 => 367 | 80 => 301 | n => n, fun | 15 => 4 | 16 => 5 | 17 => 1 | 18 => 2 | 19 => 3 | n => n⟩
theorem Tryz.qU : Go.Proofs.Lays.n172 Tryz.prog Tryz.Wx := {
 mixed := by kernel_rfl
 f129 := Tryz.func211.trans (congrArg some (by kernel_rfl))
 f171 := Tryz.func355.trans (congrArg some (by kernel_rfl))
 f172 := Tryz.func301.trans (congrArg some (by kernel_rfl))
 f205 := Tryz.func354.trans (congrArg some (by kernel_rfl))
 f243 := Tryz.func361.trans (congrArg some (by kernel_rfl))
 f244 := Tryz.func318.trans (congrArg some (by kernel_rfl))
 f245 := Tryz.func319.trans (congrArg some (by kernel_rfl))
 f246 := Tryz.func362.trans (congrArg some (by kernel_rfl))
 f247 := Tryz.func337.trans (congrArg some (by kernel_rfl))
 f279 := Tryz.func338.trans (congrArg some (by kernel_rfl))
 f280 := Tryz.func339.trans (congrArg some (by kernel_rfl))
 f281 := Tryz.func340.trans (congrArg some (by kernel_rfl))
 f282 := Tryz.func341.trans (congrArg some (by kernel_rfl))
 f283 := Tryz.func215.trans (congrArg some (by kernel_rfl))
 f284 := Tryz.func216.trans (congrArg some (by kernel_rfl))
 f285 := Tryz.func217.trans (congrArg some (by kernel_rfl))
 f286 := Tryz.func218.trans (congrArg some (by kernel_rfl))
 f287 := Tryz.func352.trans (congrArg some (by kernel_rfl))
 f316 := Tryz.func353.trans (congrArg some (by kernel_rfl))
 f317 := Tryz.func285.trans (congrArg some (by kernel_rfl))
 f318 := Tryz.func286.trans (congrArg some (by kernel_rfl))
 f319 := Tryz.func287.trans (congrArg some (by kernel_rfl))
 f320 := Tryz.func288.trans (congrArg some (by kernel_rfl))
 f321 := Tryz.func359.trans (congrArg some (by kernel_rfl))
 f322 := Tryz.func360.trans (congrArg some (by kernel_rfl))
 f337 := Tryz.func313.trans (congrArg some (by kernel_rfl))
 f338 := Tryz.func314.trans (congrArg some (by kernel_rfl))
 t0 := Tryz.underlying0
 a0 := Tryz.isAgg0
 z0 := Tryz.sizeOf0
 v0 := Tryz.zeroValue0
 t2 := Tryz.underlying2
 a2 := Tryz.isAgg2
 z2 := Tryz.sizeOf2
 v2 := Tryz.zeroValue2
 t3 := Tryz.underlying3
 a3 := Tryz.isAgg3
 z3 := Tryz.sizeOf3
 v3 := Tryz.zeroValue3
 t4 := Tryz.underlying4
 a4 := Tryz.isAgg4
 z4 := Tryz.sizeOf4
 v4 := Tryz.zeroValue4
 t5 := Tryz.underlying5
 a5 := Tryz.isAgg5
 z5 := Tryz.sizeOf5
 v5 := Tryz.zeroValue5
 t9 := Tryz.underlying9
 a9 := Tryz.isAgg9
 z9 := Tryz.sizeOf9
 v9 := Tryz.zeroValue9
 t20 := Tryz.underlying20
 a20 := Tryz.isAgg20
 z20 := Tryz.sizeOf20
 v20 := Tryz.zeroValue20
 t21 := Tryz.underlying21
 a21 := Tryz.isAgg21
 z21 := Tryz.sizeOf21
 v21 := Tryz.zeroValue21
 t37 := Tryz.underlying84
 a37 := Tryz.isAgg84
 z37 := Tryz.sizeOf84
 v37 := Tryz.zeroValue84
 t46 := Tryz.underlying205
 a46 := Tryz.isAgg205
 z46 := Tryz.sizeOf205
 v46 := Tryz.zeroValue205
 t51 := Tryz.underlying70
 a51 := Tryz.isAgg70
 z51 := Tryz.sizeOf70
 v51 := Tryz.zeroValue70
 t53 := Tryz.underlying23
 a53 := Tryz.isAgg23
 z53 := Tryz.sizeOf23
 v53 := Tryz.zeroValue23
 t75 := Tryz.underlying346
 a75 := Tryz.isAgg346
 z75 := Tryz.sizeOf346
 v75 := Tryz.zeroValue346
 t76 := Tryz.underlying347
 a76 := Tryz.isAgg347
 z76 := Tryz.sizeOf347
 v76 := Tryz.zeroValue347
 t85 := Tryz.underlying374
 a85 := Tryz.isAgg374
 z85 := Tryz.sizeOf374
 v85 := Tryz.zeroValue374
 t127 := Tryz.underlying391
 a127 := Tryz.isAgg391
 z127 := Tryz.sizeOf391
 v127 := Tryz.zeroValue391
 t143 := Tryz.underlying403
 a143 := Tryz.isAgg403
 z143 := Tryz.sizeOf403
 v143 := Tryz.zeroValue403
 t145 := Tryz.underlying405
 a145 := Tryz.isAgg405
 z145 := Tryz.sizeOf405
 v145 := Tryz.zeroValue405
 t167 := Tryz.underlying373
 a167 := Tryz.isAgg373
 z167 := Tryz.sizeOf373
 v167 := Tryz.zeroValue373
 t168 := Tryz.underlying376
 a168 := Tryz.isAgg376
 z168 := Tryz.sizeOf376
 v168 := Tryz.zeroValue376
 t171 := Tryz.underlying290
 a171 := Tryz.isAgg290
 z171 := Tryz.sizeOf290
 v171 := Tryz.zeroValue290
 t173 := Tryz.underlying292
 a173 := Tryz.isAgg292
 z173 := Tryz.sizeOf292
 v173 := Tryz.zeroValue292
 t175 := Tryz.underlying392
 a175 := Tryz.isAgg392
 z175 := Tryz.sizeOf392
 v175 := Tryz.zeroValue392
 t210 := Tryz.underlying396
 a210 := Tryz.isAgg396
 z210 := Tryz.sizeOf396
 v210 := Tryz.zeroValue396
 t212 := Tryz.underlying336
 a212 := Tryz.isAgg336
 z212 := Tryz.sizeOf336
 v212 := Tryz.zeroValue336
 t213 := Tryz.underlying337
 a213 := Tryz.isAgg337
 z213 := Tryz.sizeOf337
 t232 := Tryz.underlying366
 a232 := Tryz.isAgg366
 z232 := Tryz.sizeOf366
 v232 := Tryz.zeroValue366
 t233 := Tryz.underlying367
 a233 := Tryz.isAgg367
 z233 := Tryz.sizeOf367
 v233 := Tryz.zeroValue367
 g15 := by kernel_rfl
 g16 := by kernel_rfl
 g17 := by kernel_rfl
 g18 := by kernel_rfl
 g19 := by kernel_rfl }
open Go.RowKit in
theorem Tryz.strconv_Atoi (s : ByteArray) (n : Int) (hl : s.size ≤ 18) (h : Lib.atoi s.data.toList = some n) (w : World) :
   Calls Tryz.prog 301 #[.string s] w fun e w' => e = .returned (.tuple #[.int .i64 n, .nilIface]) ∧ ∃ t, w' = Lib.bytesWorld w 5 t := Any.strconv_Atoi Tryz.qU s n hl h w
def Tryz.Wy : Go.Shelf.Ren := ⟨fun | 283 => 215 | n => n, fun | 3 => 3 | 9 => 9 | 4 => 4 | n => n, fun | n => n⟩
theorem Tryz.qV : Go.Proofs.Lays.n283 Tryz.prog Tryz.Wy := {
 mixed := by kernel_rfl
 f283 := Tryz.func215.trans (congrArg some (by kernel_rfl))
 t3 := Tryz.underlying3
 a3 := Tryz.isAgg3
 z3 := Tryz.sizeOf3
 v3 := Tryz.zeroValue3
 t4 := Tryz.underlying4
 a4 := Tryz.isAgg4
 z4 := Tryz.sizeOf4
 v4 := Tryz.zeroValue4
 t9 := Tryz.underlying9
 a9 := Tryz.isAgg9
 z9 := Tryz.sizeOf9
 v9 := Tryz.zeroValue9 }
open Go.Lib in
theorem Tryz.internal_strconv_small (i : Nat) (h : i < 100) (w : World) :
   Calls Tryz.prog 215 #[.int .i64 i] w fun e w' => e = .returned (.string ⟨(Lib.decDigits i).toArray⟩) ∧ w' = w := Any.internal_strconv_small Tryz.qV i h w
def Tryz.Uo : Go.Shelf.Ren := ⟨fun | 284 => 216 | 129 => 211 | 317 => 285 | 318 => 286 | n => n, fun | 53 => 23 | 3 => 3 | 212 => 336 | 0 => 0 | 4 => 4 | 46 => 205 | 5 => 5 | 9 => 9 | n => n, fun | 17 => 1 | n => n⟩
theorem Tryz.kt : Go.Proofs.LaysM.n284 Tryz.prog Tryz.Uo := {
 mixed := by kernel_rfl
 f129 := Tryz.func211.trans (congrArg some (by kernel_rfl))
 f284 := Tryz.func216.trans (congrArg some (by kernel_rfl))
 f317 := Tryz.func285.trans (congrArg some (by kernel_rfl))
 f318 := Tryz.func286.trans (congrArg some (by kernel_rfl))
 t0 := Tryz.underlying0
 a0 := Tryz.isAgg0
 z0 := Tryz.sizeOf0
 v0 := Tryz.zeroValue0
 t3 := Tryz.underlying3
 a3 := Tryz.isAgg3
 z3 := Tryz.sizeOf3
 v3 := Tryz.zeroValue3
 t4 := Tryz.underlying4
 a4 := Tryz.isAgg4
 z4 := Tryz.sizeOf4
 v4 := Tryz.zeroValue4
 t5 := Tryz.underlying5
 a5 := Tryz.isAgg5
 z5 := Tryz.sizeOf5
 v5 := Tryz.zeroValue5
 t9 := Tryz.underlying9
 a9 := Tryz.isAgg9
 z9 := Tryz.sizeOf9
 v9 := Tryz.zeroValue9
 t46 := Tryz.underlying205
 a46 := Tryz.isAgg205
 z46 := Tryz.sizeOf205
 v46 := Tryz.zeroValue205
 t53 := Tryz.underlying23
 a53 := Tryz.isAgg23
 z53 := Tryz.sizeOf23
 v53 := Tryz.zeroValue23
 t212 := Tryz.underlying336
 a212 := Tryz.isAgg336
 z212 := Tryz.sizeOf336
 v212 := Tryz.zeroValue336
 g17 := by kernel_rfl
 i0 := by kernel_rfl
 i3 := by kernel_rfl
 i4 := by kernel_rfl
 i5 := by kernel_rfl
 i9 := by kernel_rfl
 i46 := by kernel_rfl
 i53 := by kernel_rfl
 i212 := by kernel_rfl
 m17 := by kernel_rfl }
open Go.Lib in
theorem Tryz.internal_strconv_numDigits (u : Nat) (h1 : 1 ≤ u) (h2 : u < 18446744073709551616) (w : World) (AKE : Lib.TabIs Tryz.prog w "internal/strconv.uint64pow10" .u64 Lib.pow10Tab) :
   Calls Tryz.prog 216 #[.int .u64 u] w fun e w' => e = .returned (.int .i64 (Lib.nDigits u)) ∧ w' = w := Any.internal_strconv_numDigits Tryz.kt u h1 h2 w AKE
def Tryz.Wz : Go.Shelf.Ren := ⟨fun | 285 => 217 | n => n, fun | 37 => 84 | 53 => 23 | 3 => 3 | 4 => 4 | 51 => 70 | 9 => 9 | 5 => 5 | 0 => 0 | n => n, fun | n => n⟩
theorem Tryz.qW : Go.Proofs.Lays.n285 Tryz.prog Tryz.Wz := {
 mixed := by kernel_rfl
 f285 := Tryz.func217.trans (congrArg some (by kernel_rfl))
 t0 := Tryz.underlying0
 a0 := Tryz.isAgg0
 z0 := Tryz.sizeOf0
 v0 := Tryz.zeroValue0
 t3 := Tryz.underlying3
 a3 := Tryz.isAgg3
 z3 := Tryz.sizeOf3
 v3 := Tryz.zeroValue3
 t4 := Tryz.underlying4
 a4 := Tryz.isAgg4
 z4 := Tryz.sizeOf4
 v4 := Tryz.zeroValue4
 t5 := Tryz.underlying5
 a5 := Tryz.isAgg5
 z5 := Tryz.sizeOf5
 v5 := Tryz.zeroValue5
 t9 := Tryz.underlying9
 a9 := Tryz.isAgg9
 z9 := Tryz.sizeOf9
 v9 := Tryz.zeroValue9
 t37 := Tryz.underlying84
 a37 := Tryz.isAgg84
 z37 := Tryz.sizeOf84
 v37 := Tryz.zeroValue84
 t51 := Tryz.underlying70
 a51 := Tryz.isAgg70
 z51 := Tryz.sizeOf70
 v51 := Tryz.zeroValue70
 t53 := Tryz.underlying23
 a53 := Tryz.isAgg23
 z53 := Tryz.sizeOf23
 v53 := Tryz.zeroValue23 }
open Go.RowKit Go.Sort Go.Lib in
theorem Tryz.internal_strconv_formatBase10 (DL off cap : Nat) (u : Nat) (d : Array UInt8) (w : World) (hH : Holds (fun (b : UInt8) => Value.int .u8 (b.toNat : Int)) w DL off d) (hu : u < 10 ^ d.size) (AKF : u < 18446744073709551616) (EY : d.size < 4611686018427387904) :
   Calls Tryz.prog 217 #[.slice (some ⟨DL, off, none⟩) d.size cap, .int .u64 u] w fun e w' =>
     e = .returned (.tuple #[]) ∧ ∃ (n v' : Nat) (dk : Array UInt8), w' = (putRow (fun (b : UInt8) => Value.int .u8 (b.toNat : Int)) w DL off dk).drewN n ∧ FmtInv d.size u 0 v' dk := Any.internal_strconv_formatBase10 Tryz.qW DL off cap u d w hH hu AKF EY
def Tryz.W3 : Go.Shelf.Ren := ⟨fun | 190 => 93 | 125 => 113 | 258 => 170 | 128 => 210 | 129 => 211 | 302 => 248 | 303 => 249 | 304 => 250 | 305 => 251 | 306 => 252 | 307 => 253 | 308 => 254 | 309 => 255 | 310 => 256 | 333 => 296 | 329 => 273 | 330 => 274 | 334 => 297 | 335 => 298 | 336 => 299 | 344 => 316 | n => n, fun | 31 => 97 | 9 => 9 | 3 => 3 | 46 => 205 | 0 => 0 | 51 => 70 | 53 => 23 | 4 => 4 | 183 => 280 | 182 => 279 | 131 => 151 | 5 => 5 | 218 => 325 | 222 => 328 | 228 => 351 | 229 => 352 | n => n, fun | n => n⟩
theorem Tryz.cy : Go.Proofs.Lays.n190 Tryz.prog Tryz.W3 := {
 mixed := by kernel_rfl
 f125 := Tryz.func113.trans (congrArg some (by kernel_rfl))
 f128 := Tryz.func210.trans (congrArg some (by kernel_rfl))
 f129 := Tryz.func211.trans (congrArg some (by kernel_rfl))
 f190 := Tryz.func93.trans (congrArg some (by kernel_rfl))
 f258 := Tryz.func170.trans (congrArg some (by kernel_rfl))
 f302 := Tryz.func248.trans (congrArg some (by kernel_rfl))
 f303 := Tryz.func249.trans (congrArg some (by kernel_rfl))
 f304 := Tryz.func250.trans (congrArg some (by kernel_rfl))
 f305 := Tryz.func251.trans (congrArg some (by kernel_rfl))
 f306 := Tryz.func252.trans (congrArg some (by kernel_rfl))
 f307 := Tryz.func253.trans (congrArg some (by kernel_rfl))
 f308 := Tryz.func254.trans (congrArg some (by kernel_rfl))
 f309 := Tryz.func255.trans (congrArg some (by kernel_rfl))
 f310 := Tryz.func256.trans (congrArg some (by kernel_rfl))
 f329 := Tryz.func273.trans (congrArg some (by kernel_rfl))
 f330 := Tryz.func274.trans (congrArg some (by kernel_rfl))
 f333 := Tryz.func296.trans (congrArg some (by kernel_rfl))
 f334 := Tryz.func297.trans (congrArg some (by kernel_rfl))
 f335 := Tryz.func298.trans (congrArg some (by kernel_rfl))
 f336 := Tryz.func299.trans (congrArg some (by kernel_rfl))
 f344 := Tryz.func316.trans (congrArg some (by kernel_rfl))
 t0 := Tryz.underlying0
 a0 := Tryz.isAgg0
 z0 := Tryz.sizeOf0
 v0 := Tryz.zeroValue0
 t3 := Tryz.underlying3
 a3 := Tryz.isAgg3
 z3 := Tryz.sizeOf3
 v3 := Tryz.zeroValue3
 t4 := Tryz.underlying4
 a4 := Tryz.isAgg4
 z4 := Tryz.sizeOf4
 v4 := Tryz.zeroValue4
 t5 := Tryz.underlying5
 a5 := Tryz.isAgg5
 z5 := Tryz.sizeOf5
 v5 := Tryz.zeroValue5
 t9 := Tryz.underlying9
 a9 := Tryz.isAgg9
 z9 := Tryz.sizeOf9
 v9 := Tryz.zeroValue9
 t31 := Tryz.underlying97
 a31 := Tryz.isAgg97
 z31 := Tryz.sizeOf97
 v31 := Tryz.zeroValue97
 t46 := Tryz.underlying205
 a46 := Tryz.isAgg205
 z46 := Tryz.sizeOf205
 v46 := Tryz.zeroValue205
 t51 := Tryz.underlying70
 a51 := Tryz.isAgg70
 z51 := Tryz.sizeOf70
 v51 := Tryz.zeroValue70
 t53 := Tryz.underlying23
 a53 := Tryz.isAgg23
 z53 := Tryz.sizeOf23
 v53 := Tryz.zeroValue23
 t131 := Tryz.underlying151
 a131 := Tryz.isAgg151
 z131 := Tryz.sizeOf151
 v131 := Tryz.zeroValue151
 t182 := Tryz.underlying279
 a182 := Tryz.isAgg279
 z182 := Tryz.sizeOf279
 v182 := Tryz.zeroValue279
 t183 := Tryz.underlying280
 a183 := Tryz.isAgg280
 z183 := Tryz.sizeOf280
 v183 := Tryz.zeroValue280
 t218 := Tryz.underlying325
 a218 := Tryz.isAgg325
 z218 := Tryz.sizeOf325
 v218 := Tryz.zeroValue325
 t222 := Tryz.underlying328
 a222 := Tryz.isAgg328
 z222 := Tryz.sizeOf328
 v222 := Tryz.zeroValue328
 t228 := Tryz.underlying351
 a228 := Tryz.isAgg351
 z228 := Tryz.sizeOf351
 v228 := Tryz.zeroValue351
 t229 := Tryz.underlying352
 a229 := Tryz.isAgg352
 z229 := Tryz.sizeOf352
 v229 := Tryz.zeroValue352 }
open Go.Sort Go.RowKit in
theorem Tryz.slices_Sort_string (DL off cap : Nat) (ss : List (List UInt8)) (w : World) (hH : Holds encStr w DL off ss.toArray) (hblk : DL < w.heap.size) (EY : ss.length < 4611686018427387904) :
   Calls Tryz.prog 93 #[.slice (some ⟨DL, off, none⟩) ss.length cap] w fun e w' =>
     e = .returned (.tuple #[]) ∧ ∃ n os, w' = grow (putRow encStr (Sort.ahead w n) DL off (ss.mergeSort fun x y => decide (x ≤ y)).toArray) os := Any.slices_Sort_string Tryz.cy DL off cap ss w hH hblk EY
def Tryz.OQ : Go.Shelf.Ren := ⟨fun | 105 => 315 | 212 => 332 | 99 => 92 | 165 => 333 | 166 => 334 | 170 => 335 | 169 => 336 | 263 => 348 | 264 => 349 | 206 => 169 | 240 => 350 | 241 => 351 | 276 => 357 | 277 => 358 | n => n, fun | 9 => 9 | 3 => 3 | 4 => 4 | 20 => 20 | 0 => 0 | 46 => 205 | 109 => 368 | 5 => 5 | 72 => 372 | 76 => 347 | 51 => 70 | 146 => 387 | 53 => 23 | 148 => 389 | 70 => 370 | 37 => 84 | 75 => 346 | 127 => 391 | 164 => 399 | 80 => 301 | n => n, fun | n => n⟩
theorem Tryz.qX : Go.Proofs.Lays.n105 Tryz.prog Tryz.OQ := {
 mixed := by kernel_rfl
 f99 := Tryz.func92.trans (congrArg some (by kernel_rfl))
 f105 := Tryz.func315.trans (congrArg some (by kernel_rfl))
 f165 := Tryz.func333.trans (congrArg some (by kernel_rfl))
 f166 := Tryz.func334.trans (congrArg some (by kernel_rfl))
 f169 := Tryz.func336.trans (congrArg some (by kernel_rfl))
 f170 := Tryz.func335.trans (congrArg some (by kernel_rfl))
 f206 := Tryz.func169.trans (congrArg some (by kernel_rfl))
 f212 := Tryz.func332.trans (congrArg some (by kernel_rfl))
 f240 := Tryz.func350.trans (congrArg some (by kernel_rfl))
 f241 := Tryz.func351.trans (congrArg some (by kernel_rfl))
 f263 := Tryz.func348.trans (congrArg some (by kernel_rfl))
 f264 := Tryz.func349.trans (congrArg some (by kernel_rfl))
 f276 := Tryz.func357.trans (congrArg some (by kernel_rfl))
 f277 := Tryz.func358.trans (congrArg some (by kernel_rfl))
 t0 := Tryz.underlying0
 a0 := Tryz.isAgg0
 z0 := Tryz.sizeOf0
 v0 := Tryz.zeroValue0
 t3 := Tryz.underlying3
 a3 := Tryz.isAgg3
 z3 := Tryz.sizeOf3
 v3 := Tryz.zeroValue3
 t4 := Tryz.underlying4
 a4 := Tryz.isAgg4
 z4 := Tryz.sizeOf4
 v4 := Tryz.zeroValue4
 t5 := Tryz.underlying5
 a5 := Tryz.isAgg5
 z5 := Tryz.sizeOf5
 v5 := Tryz.zeroValue5
 t9 := Tryz.underlying9
 a9 := Tryz.isAgg9
 z9 := Tryz.sizeOf9
 v9 := Tryz.zeroValue9
 t20 := Tryz.underlying20
 a20 := Tryz.isAgg20
 z20 := Tryz.sizeOf20
 v20 := Tryz.zeroValue20
 t37 := Tryz.underlying84
 a37 := Tryz.isAgg84
 z37 := Tryz.sizeOf84
 v37 := Tryz.zeroValue84
 t46 := Tryz.underlying205
 a46 := Tryz.isAgg205
 z46 := Tryz.sizeOf205
 v46 := Tryz.zeroValue205
 t51 := Tryz.underlying70
 a51 := Tryz.isAgg70
 z51 := Tryz.sizeOf70
 v51 := Tryz.zeroValue70
 t53 := Tryz.underlying23
 a53 := Tryz.isAgg23
 z53 := Tryz.sizeOf23
 v53 := Tryz.zeroValue23
 t70 := Tryz.underlying370
 a70 := Tryz.isAgg370
 z70 := Tryz.sizeOf370
 v70 := Tryz.zeroValue370
 t72 := Tryz.underlying372
 a72 := Tryz.isAgg372
 z72 := Tryz.sizeOf372
 v72 := Tryz.zeroValue372
 t75 := Tryz.underlying346
 a75 := Tryz.isAgg346
 z75 := Tryz.sizeOf346
 v75 := Tryz.zeroValue346
 t76 := Tryz.underlying347
 a76 := Tryz.isAgg347
 z76 := Tryz.sizeOf347
 v76 := Tryz.zeroValue347
 t109 := Tryz.underlying368
 a109 := Tryz.isAgg368
 z109 := Tryz.sizeOf368
 v109 := Tryz.zeroValue368
 t127 := Tryz.underlying391
 a127 := Tryz.isAgg391
 z127 := Tryz.sizeOf391
 v127 := Tryz.zeroValue391
 t146 := Tryz.underlying387
 a146 := Tryz.isAgg387
 z146 := Tryz.sizeOf387
 v146 := Tryz.zeroValue387
 t148 := Tryz.underlying389
 a148 := Tryz.isAgg389
 z148 := Tryz.sizeOf389
 v148 := Tryz.zeroValue389
 t164 := Tryz.underlying399
 a164 := Tryz.isAgg399
 z164 := Tryz.sizeOf399
 v164 := Tryz.zeroValue399 }
theorem Tryz.Mg : Builder.Extra Tryz.prog Tryz.OQ := {
 sizeBuilder := by kernel_rfl
 liesBuilder := by kernel_rfl
 t5 := Tryz.underlying5
 a5 := Tryz.isAgg5
 z5 := Tryz.sizeOf5
 v5 := Tryz.zeroValue5
 infoByte := by kernel_rfl
 cellsByte := by kernel_rfl
 sizeByte := by kernel_rfl
 neB5 := by decide }
open Go.RowKit Go.Lib in
theorem Tryz.strings_Repeat (s : ByteArray) (c : Nat) (w : World) (hc : c ≤ 9223372036854775807) (hlen : s.size * c ≤ 140737488355328) :
   Calls Tryz.prog 315 #[.string s, .int .i64 c] w fun e w' => e = .returned (.string ⟨(Lib.repeatL s.data.toList c).toArray⟩) ∧ Below w.heap.size w w' := Any.strings_Repeat Tryz.qX Tryz.Mg s c w hc hlen
open Go.RowKit Go.Sort in
theorem Tryz.slices_Sort_string_none (p : Option Addr) (cap : Nat) (w : World) :
   Calls Tryz.prog 93 #[.slice p 0 cap] w fun e w' => e = .returned (.tuple #[]) ∧ w' = w := Any.slices_Sort_string_none Tryz.cy p cap w
end Go.Proofs
end
section
namespace TwW
open Go Tw Go.Proofs.Tryz
abbrev W5 (l : List UInt8) : Value := .string ⟨l.toArray⟩
def GY (xs : List (List UInt8)) : List (List UInt8) := xs.mergeSort fun x y => decide (x ≤ y)
theorem HX (xs : List (List UInt8)) : (GY xs).length = xs.length := by simp [GY]
theorem E0 {α : Type} [Inhabited α] (enc : α → Value) (F : Array α) (arr : Array Value) (o j : Nat) : (Sort.putCells enc o F arr)[j]? = if o ≤ j ∧ j < o + F.size then (arr[j]?).map fun _ => enc F[j - o]! else arr[j]? := by
 simp only [Sort.putCells, Array.getElem?_mapIdx]
 by_cases h : o ≤ j ∧ j < o + F.size
 · rw [if_pos h]; simp [h]
 · rw [if_neg h]
   cases arr[j]? with
   | none => rfl
   | some v => simp only [Option.map_some]; rw [if_neg h]
section
variable {σ : Hp} {R : Rr}
theorem Mh {q : Option Addr} {m d : Nat} {xs : List (List UInt8)} (ho : Own 1 σ q m d (xs.map W5)) (hm : xs.length = m) (EY : m < 4611686018427387904)
   (h : ∀ σ', Own 1 σ' q m d ((GY xs).map W5) → Ext (σ.del q) (σ'.del q) → R (.returned (.tuple #[])) σ') : Spec prog 93 #[.slice q m d] σ R := by
 intro w F hs hF
 by_cases Mi : m = 0
 · subst Mi
   have hx : xs = [] := List.eq_nil_of_length_eq_zero hm
   subst hx
   have Ho := Go.Proofs.Tryz.slices_Sort_string_none q d w
   refine Ho.mono ?_
   rintro e w' ⟨rfl, rfl⟩
   exact ⟨σ, h σ (by simpa [GY] using ho) (Ext.refl _), hs, fun b hb => ⟨(hF b hb).2, rfl⟩, .same rfl rfl rfl, rfl, Nat.le_refl _⟩
 · obtain ⟨b, o, arr, T, rfl, hb, cz, Oo, H5⟩ : ∃ b o arr T, q = some ⟨b, o, none⟩ ∧ σ b = some (.cells arr T (0, 0)) ∧ m ≤ d ∧ o + d * 1 ≤ arr.size ∧ (arr.toList.drop o).take (m * 1) = xs.map W5 := by
     rcases ho.2.2 with ⟨_, h2, _⟩ | h
     · exact absurd h2 Mi
     · exact h
   have hw := hs _ _ hb
   have O0 : ∀ (j : Nat) (hj : j < xs.length), arr[o + j]? = some (W5 xs[j]) := fun j hj => by
     have h1 : (xs.map W5)[j]? = some (W5 xs[j]) := by simp [hj]
     rw [← H5, List.getElem?_take, if_pos (by omega), List.getElem?_drop, Array.getElem?_toList] at h1
     exact h1
   have hH : Sort.Holds Go.Proofs.encStr w b o xs.toArray := fun j hj => by
     have Tx : j < xs.length := by simpa using hj
     refine ⟨?_, by simp [World.frozen?, hw]⟩
     have e1 : xs.toArray[j]! = xs[j] := by simp [Tx]
     simp only [World.cell?, hw, e1]
     simpa using O0 j Tx
   have hblk : b < w.heap.size := (Array.getElem?_eq_some_iff.1 hw).1
   have Ho := Go.Proofs.Tryz.slices_Sort_string b o d xs w hH hblk (by omega)
   rw [hm] at Ho
   refine Ho.mono ?_
   rintro e w' ⟨rfl, n, os, rfl⟩
   let F2 : Array (List UInt8) := (GY xs).toArray
   have hF2 : F2.size = m := by simp [F2, HX, hm]
   have DI : ∀ k, (Sort.grow (Sort.putRow Go.Proofs.encStr (Sort.ahead w n) b o F2) os).heap[k]? = if k < w.heap.size then (if b = k then (w.heap[k]?).map (Sort.onCells (Sort.putCells Go.Proofs.encStr o F2)) else w.heap[k]?) else os[k - w.heap.size]? := fun k => by
     simp only [Sort.grow, Sort.putRow, Sort.mapBlock, Sort.ahead, Array.getElem?_append, Array.size_modify, Array.getElem?_modify]
   refine ⟨σ.set b (.cells (Sort.putCells Go.Proofs.encStr o F2 arr) T (0, 0)), h _ ⟨by simp [HX, hm], by omega, .inr ⟨b, o, _, T, rfl, Hp.AA _ _ _, cz, by simpa [Sort.putCells] using Oo, ?_⟩⟩ (by rw [Hp.Bh]; exact Ext.refl _), ?_⟩
   · refine List.ext_getElem? fun j => ?_
     rw [List.getElem?_take]
     by_cases hj : j < m * 1
     · have Ty : j < (GY xs).length := by rw [HX]; omega
       rw [if_pos hj, List.getElem?_drop, Array.getElem?_toList, E0, if_pos (by omega), O0 j (by omega)]
       simp [F2, Ty]
     · rw [if_neg hj, List.getElem?_eq_none (by simp [HX]; omega)]
   · refine ⟨fun k u hk => ?_, fun k hk => ?_, ⟨rfl, rfl, fun _ => ⟨n, rfl⟩⟩, rfl, by simp [Sort.grow, Sort.putRow, Sort.mapBlock, Sort.ahead]⟩
     · rw [show (Sort.grow (Sort.putRow Go.Proofs.encStr (Sort.ahead w n) b o (xs.mergeSort fun x y => decide (x ≤ y)).toArray) os).heap[k]? = _ from DI k]
       by_cases C5 : k = b
       · subst C5
         rw [Hp.AA] at hk; cases hk
         rw [if_pos hblk, if_pos rfl, hw]; rfl
       · rw [Hp.AH C5] at hk
         have := hs k u hk
         rw [if_pos (Array.getElem?_eq_some_iff.1 this).1, if_neg (Ne.symm C5)]; exact this
     · have C5 : k ≠ b := fun e => by have := (hF k hk).2; rw [e, hb] at this; cases this
       refine ⟨by rw [Hp.AH C5]; exact (hF k hk).2, ?_⟩
       rw [show (Sort.grow (Sort.putRow Go.Proofs.encStr (Sort.ahead w n) b o (xs.mergeSort fun x y => decide (x ≤ y)).toArray) os).heap[k]? = _ from DI k, if_pos (hF k hk).1, if_neg (Ne.symm C5)]
theorem Co.sub {i b clock : Nat} {l L : List MapEntry} (h : Co σ i b l L clock) : L.Sublist l := by
 obtain ⟨seen, c0, _, _, rfl⟩ := h
 simp only [leftOf, List.filter_toArray]
 exact List.filter_sublist
theorem Ka {e : MapEntry} : ∀ {L : List MapEntry}, (L.map (·.born)).Nodup → e ∈ L → L.Perm (e :: L.filter fun x => x.born != e.born)
 | a :: L, hn, he => by
   simp only [List.map_cons, List.nodup_cons] at hn
   rcases List.mem_cons.1 he with rfl | he
   · have : (e :: L).filter (fun x => x.born != e.born) = L := by
       rw [List.filter_cons_of_neg (by simp)]
       refine List.filter_eq_self.2 fun x hx => ?_
       simp only [bne_iff_ne]
       exact fun h => hn.1 (h ▸ List.mem_map.2 ⟨x, hx, rfl⟩)
     rw [this]
   · have Ae : a.born ≠ e.born := fun h => hn.1 (h ▸ List.mem_map.2 ⟨e, he, rfl⟩)
     rw [List.filter_cons_of_pos (by simpa using Ae)]
     exact ((Ka hn.2 he).cons a).trans (List.Perm.swap ..)
def nm (e : MapEntry) : ByteArray := match e.key with
 | .string s => s
 | _ => ⟨#[]⟩
def Oz (pre : ByteArray) (L : List MapEntry) : List ByteArray := (L.map nm).filter (BR · pre)
structure Names (fs : ByteArray → Option Fl) (pre : ByteArray) (L : List ByteArray) : Prop where
 sorted : L.Pairwise fun a b => a.data.toList ≤ b.data.toList
 nodup : L.Nodup
 mem : ∀ s, s ∈ L ↔ (fs s).isSome = true ∧ BR s pre = true
theorem fZ (a b : List UInt8) : (decide (a ≤ b) || decide (b ≤ a)) = true := by
 rcases Std.le_total (a := a) (b := b) with h | h <;> simp [h]
theorem ku {rows : List Row} {pre : ByteArray} {xs : List ByteArray} (hn : (rows.map (·.name)).Nodup) (hp : xs.Perm ((rows.map (·.name)).filter (BR · pre))) :
   Names (Row.look rows) pre ((GY (xs.map (·.data.toList))).map fun l => ⟨l.toArray⟩) := by
 have uH : ((GY (xs.map (·.data.toList))).map fun l => (⟨l.toArray⟩ : ByteArray)).Perm xs := by
   have h1 := (List.mergeSort_perm (xs.map (·.data.toList)) fun x y => decide (x ≤ y)).map fun l => (⟨l.toArray⟩ : ByteArray)
   rw [List.map_map] at h1
   have h2 : xs.map ((fun l => (⟨l.toArray⟩ : ByteArray)) ∘ fun s : ByteArray => s.data.toList) = xs := by
     conv => rhs; rw [← List.map_id xs]
     exact List.map_congr_left fun a _ => rfl
   rw [h2] at h1
   exact h1
 refine ⟨?_, ?_, fun s => ?_⟩
 · rw [List.pairwise_map]
   have := List.pairwise_mergeSort (le := fun x y : List UInt8 => decide (x ≤ y)) (fun a b c h1 h2 => by simp only [decide_eq_true_eq] at h1 h2 ⊢; exact Std.le_trans h1 h2) (fun a b => fZ a b) (xs.map (·.data.toList))
   exact this.imp fun h => by simpa using h
 · exact (uH.nodup_iff).2 (hp.nodup_iff.2 (hn.filter _))
 · rw [uH.mem_iff, hp.mem_iff, List.mem_filter, and_congr_left_iff]
   intro _
   unfold Row.look
   cases hf : rows.find? (fun r => decide (r.name = s)) with
   | none =>
     simp only [Option.map_none, Option.isSome_none, Bool.false_eq_true, iff_false]
     intro hm
     obtain ⟨r, hr, rfl⟩ := List.mem_map.1 hm
     have := List.find?_eq_none.1 hf r hr
     simp at this
   | some r =>
     simp only [Option.map_some, Option.isSome_some, iff_true]
     exact List.mem_map.2 ⟨r, List.mem_of_find?_eq_some hf, by simpa using List.find?_some hf⟩
abbrev QY (σ : Hp) (p : Option Addr) (n c : Nat) (L : List ByteArray) : Prop := Own 1 σ p n c (L.map .string)
theorem qY {σ0 : Hp} {pre : ByteArray} {i m clock : Nat} {rows : List Row} (Mi : A1 σ0 m (rows.map Row.Cd) clock) (dA : rows.length ≤ 67108864)
   (hR : ∀ p n c L σ', QY (σ0.new σ') p n c L → Names (Row.look rows) pre L → Ext σ0 σ' → n ≤ rows.length → R (.returned (.slice p n c)) σ') :
   ∀ (k : Nat) (σ : Hp) (L : List MapEntry) (xs : List ByteArray) (p : Option Addr) (c : Nat), L.length = k → Ext σ0 σ → Co (σ0.new σ) i m (rows.map Row.Cd) L clock → QY (σ0.new σ) p xs.length c xs → (xs ++ Oz pre L).Perm (Oz pre (rows.map Row.Cd)) →
     Ey.GR R pre p xs.length c (.pointer (some ⟨i, 0, none⟩)) σ := by
 intro k
 induction k using Nat.strongRecOn with
 | _ k ih =>
 intro σ L xs p c hL hx hi ho hp
 have AD5 : Oz pre (rows.map Row.Cd) = (rows.map (·.name)).filter (BR · pre) := by simp only [Oz, List.map_map]; rfl
 have hlen : xs.length ≤ rows.length := by
   have := hp.length_eq
   rw [AD5] at this
   have h2 := List.length_filter_le (BR · pre) (rows.map (·.name))
   simp at this h2; omega
 have hm := Mi.mono hx
 have Rx : (rows.map (·.name)).Nodup := by
   have := Mi.nodup
   rw [List.map_map] at this
   have e : (rows.map ((fun e : MapEntry => e.key) ∘ Row.Cd)) = (rows.map (·.name)).map Value.string := by rw [List.map_map]; rfl
   rw [e, List.Nodup, List.pairwise_map] at this
   exact this.imp fun Ae e => Ae (by rw [e])
 refine Ey.GS (Jy hm (hi.mono (Ext.Af _ _)) (fun h0 => .inl ⟨rfl, ?_⟩) fun e Ju Ui o Z2 Zz => .inr ?_)
 · subst h0
   simp only [Oz, List.map_nil, List.filter_nil, List.append_nil] at hp
   rw [← Oz, AD5] at hp
   have Bt : Own 1 σ p xs.length c ((xs.map (·.data.toList)).map W5) := by
     rw [List.map_map]; exact ho.mono (Ext.Af _ _)
   refine Mh Bt (by simp) (by omega) fun σ' hs hsx => ⟨rfl, ?_⟩
   refine hR p _ c _ σ' ?_ (ku Rx hp) (CL ho.De hsx hx) hlen
   have := Own.CC hs (σ := σ0) ho.De
   unfold QY
   rw [List.map_map]
   exact this
 · obtain ⟨seen, c0, xy, _⟩ := hi
   obtain ⟨km, _⟩ := AS.1 xy
   have qZ : ∀ a, p = some a → a.block ≠ i := fun a ha e => by
     rcases ho.2.2 with ⟨h1, _⟩ | ⟨b, o', arr, T, h1, h2, _⟩
     · rw [h1] at ha; cases ha
     · rw [h1] at ha; cases ha
       simp only at e; subst e
       rw [xy] at h2; cases h2
   have uF : m ≠ i := fun e => by rw [← e, Mi.1] at km; cases km
   obtain ⟨l1, l2, hl⟩ := List.append_of_mem Ui
   obtain ⟨r1, r, r2, CO, _, rfl, _⟩ := EU hl
   have Ay : Ext σ0 (σ.set i o) := fun b u hb => by rw [Hp.AH fun e => by rw [e, km] at hb; cases hb]; exact hx b u hb
   have nq : (σ0.new (σ.set i o)) i = some o := AS.2 ⟨km, Hp.AA _ _ _⟩
   have Bt : QY (σ0.new (σ.set i o)) p xs.length c xs := TwW.Own.loc ho fun b hb => by
     cases p with
     | none => cases hb
     | some a =>
       simp only [DL, List.mem_singleton] at hb
       subst hb
       simp only [Hp.new, Hp.AH (qZ a rfl)]
   have W7 : (L.map (·.born)).Nodup := Mi.Vh.sublist ((Co.sub ⟨seen, c0, xy, by assumption⟩).map _)
   have qa := Ka W7 Ju
   have kv : (Oz pre L).Perm (Oz pre (r.Cd :: L.filter fun x => x.born != r.Cd.born)) := (qa.map nm).filter _
   have AD6 : ∀ M, Oz pre (r.Cd :: M) = if BR r.name pre = true then r.name :: Oz pre M else Oz pre M := fun M => by
     have : nm r.Cd = r.name := rfl
     simp only [Oz, List.map_cons, List.filter_cons, this]
   rw [AD6] at kv
   refine ⟨_, _, rfl, Zz _ (Hp.AA _ _ _) (Hp.AH uF) ⟨_, _, rfl, fX ⟨_, rfl, fun ht PQ Up => ?_, fun hf => ?_⟩⟩⟩
   · rw [if_pos ht] at kv
     refine Iy (T := 97) (ys := [.string r.name]) Ay Bt rfl (fun u hu => by simp at hu; subst hu; rfl) (by omega) (fun p' c' σ' Dq C6 nr => ⟨p', _, c', rfl, ?_⟩) Up
     have hi3 : (σ0.new σ') i = some o := by
       have := nr i o (A9.2 ⟨fun a ha => Ne.symm (qZ a ha), nq⟩)
       exact (A9.1 this).2
     have := ih _ (hL ▸ KS Ju) σ' _ (xs ++ [r.name]) p' c' rfl C6 (Z2 _ hi3) (by simpa [QY] using Dq) (by
       rw [List.append_assoc]
       exact (kv.append_left xs).symm.trans hp)
     simpa using this
   · rw [if_neg (by rw [hf]; simp)] at kv
     exact ih _ (hL ▸ KS Ju) _ _ xs p c rfl Ay (Z2 _ nq) Bt ((kv.append_left xs).symm.trans hp)
theorem fc {d : Nat} {D : Dk} {S : List Nat} {pre : ByteArray} (hd : A5 σ d D S) (Ed : D.up = true) (hc : D.cnt ≤ 67108864)
   (h : ∀ p n c L σ', QY (σ.new σ') p n c L → Names D.files pre L → Ext σ σ' → n ≤ D.cnt → R (.returned (.slice p n c)) σ') : Spec prog 174 #[.pointer (some ⟨d, 0, none⟩), .string pre] σ R := by
 obtain ⟨m, cl, rows, T, a, b, e, hd⟩ := hd
 refine Ey.start ⟨d, 0, rfl, _, AD hd.obj rfl, fun hh => (by rw [Ed] at hh; cases hh), fun _ => ⟨some m, AD hd.obj rfl, H9 hd.map fun i o hi Oz => ⟨_, rfl, ?_⟩⟩⟩
 have JY := hd.files
 exact qY hd.map (Nat.le_trans hd.cnt hc) (fun p n c L σ' ho hN hx hn => h p n c L σ' ho (JY ▸ hN) hx (Nat.le_trans hn hd.cnt)) _ _ _ [] none 0 rfl (.set hi) (Oz.loc (by simp [Hp.new, hi])) Own.nil (by simp)
end
end TwW
end
section
namespace TwW
open Go Tw Go.Proofs.Tryz
def uv (x : Nat) : List Int := if h : 128 ≤ x then ((x % 128 + 128 : Nat) : Int) :: uv (x / 128) else [(x : Int)]
termination_by x
decreasing_by omega
theorem G5 {x : Nat} (h : 128 ≤ x) : uv x = ((x % 128 + 128 : Nat) : Int) :: uv (x / 128) := by rw [uv, dif_pos h]
theorem CZ {x : Nat} (h : ¬ 128 ≤ x) : uv x = [(x : Int)] := by rw [uv, dif_neg h]
theorem Z3 : ∀ (k x : Nat), x < 128 ^ (k + 1) → (uv x).length ≤ k + 1
 | 0, x, h => by rw [CZ (by simpa using h)]; simp
 | k + 1, x, h => by
   by_cases hx : 128 ≤ x
   · rw [G5 hx]
     have := Z3 k (x / 128) (by rw [Nat.div_lt_iff_lt_mul (by decide)]; rw [Nat.pow_succ] at h; exact h)
     simp; omega
   · rw [CZ hx]; simp
theorem BV {x : Nat} (h : x < 18446744073709551616) : (uv x).length ≤ 10 := Z3 9 x (by omega)
set_option maxRecDepth 100000 in
theorem AD7 : ∀ y : Fin 256, Go.bits .or .u8 (y.1 : Int) 128 = ((y.1 % 128 + 128 : Nat) : Int) := by decide
set_option maxRecDepth 100000 in
theorem yA : ∀ y : Fin 128, (y.1 ||| 128) = y.1 + 128 := by decide
theorem DF {R : Rr} {σ : Hp} {p : Option Addr} {n c x : Nat} {xs : List Int} (hr : B9 .u8 σ p n xs) (hn : n ≤ 70368744177664) (hx : x < 18446744073709551616)
   (h : ∀ p' n' c' σ', AR .u8 (σ.new σ') p' n' c' (xs ++ uv x) → Ext σ σ' → R (.returned (.slice p' n' c')) σ') : Spec prog 99 #[.slice p n c, .int .u64 x] σ R := by
 refine EG.start fun b hb => ?_
 refine Dr Own.empty ((GP.of_map hr).mono (.set hb)) CR.Cj (by omega) fun p' c' σ' AY Di => ?_
 have hq : ∀ a : Addr, (some (⟨b, 0, none⟩ : Addr)) = some a → σ a.block = none := fun a ha => by cases ha; exact hb
 have ho := Own.CC AY (Bb hq Di (.set hb))
 have he := CL hq Di (.set hb)
 refine ⟨p', 0 + n, c', rfl, ?_⟩
 rw [Nat.zero_add] at ho ⊢
 have hlen := hr.1
 suffices H : ∀ (k x n' : Nat) p' c' σ' ys, x < 128 ^ (k + 1) → n' + k ≤ n + 9 → AR .u8 (σ.new σ') p' n' c' ys → Ext σ σ' → (∀ p' n' c' σ', AR .u8 (σ.new σ') p' n' c' (ys ++ uv x) → Ext σ σ' → R (.returned (.slice p' n' c')) σ') → EG.Jh R x p' n' c' σ' from
   H 9 x n p' c' σ' xs (by omega) (by omega) ho he h
 intro k
 induction k with
 | zero =>
   intro x n' p' c' σ' ys hx Jn ho he h
   refine EG.CU ⟨fun Ag => by omega, fun _ IE Uq b2 HD => ?_⟩
   have Ni : IE = (x : Int) := by rw [Uq]; simp [IntKind.wrap, IntKind.bits, IntKind.signed]; omega
   subst Ni
   refine AR.H7 he ho (by omega) (fun p2 c2 σ2 Bt W8 _ => ⟨p2, n' + 1, c2, rfl, h _ _ _ _ ?_ W8⟩) HD
   rw [CZ (by omega)]; exact Bt
 | succ k ih =>
   intro x n' p' c' σ' ys hx Jn ho he h
   refine EG.CU ⟨fun Ag Hh fe Hi qb b2 HD => ?_, fun FB IE Uq b2 HD => ?_⟩
   · have h15 : Hh = ((x % 256 : Nat) : Int) := by rw [fe]; simp [IntKind.wrap, IntKind.bits, IntKind.signed]
     have ff : Hi = ((x % 128 + 128 : Nat) : Int) := by
       rw [qb, h15, AD7 ⟨x % 256, Nat.mod_lt _ (by decide)⟩]
       have : x % 256 % 128 = x % 128 := by omega
       rw [this]
     subst ff
     refine AR.H7 he ho (by omega) (fun p2 c2 σ2 Bt W8 _ => ⟨p2, n' + 1, c2, rfl, by simp [IntKind.bits], fun DU Z4 => ?_⟩) HD
     have h12 : DU = ((x / 128 : Nat) : Int) := by rw [Z4]; simp
     subst h12
     refine ih (x / 128) (n' + 1) p2 c2 σ2 _ (by rw [Nat.div_lt_iff_lt_mul (by decide)]; rw [Nat.pow_succ] at hx; exact hx) (by omega) Bt W8 fun p3 n3 c3 σ3 Dq he3 => h p3 n3 c3 σ3 ?_ he3
     rw [G5 (by omega)]
     simpa using Dq
   · have Ni : IE = (x : Int) := by rw [Uq]; simp [IntKind.wrap, IntKind.bits, IntKind.signed]; omega
     subst Ni
     refine AR.H7 he ho (by omega) (fun p2 c2 σ2 Bt W8 _ => ⟨p2, n' + 1, c2, rfl, h _ _ _ _ ?_ W8⟩) HD
     rw [CZ (by omega)]; exact Bt
def E6 (bs : List Int) : Prop := ∀ x ∈ bs, 0 ≤ x ∧ x < 256
def JF (bs : List Int) (i w : Nat) : Prop := w < 18446744073709551616 ∧ ∃ rest, bs.drop i = uv w ++ rest
theorem dB (x : Nat) : ∃ c t, uv x = c :: t ∧ (128 ≤ x → c = ((x % 128 + 128 : Nat) : Int) ∧ t = uv (x / 128)) ∧ (x < 128 → c = (x : Int) ∧ t = []) := by
 by_cases h : 128 ≤ x
 · exact ⟨_, _, G5 h, fun _ => ⟨rfl, rfl⟩, fun h2 => by omega⟩
 · exact ⟨_, _, CZ h, fun h2 => by omega, fun _ => ⟨rfl, rfl⟩⟩
theorem Nj : ∀ (k x : Nat), x < 128 ^ (k + 1) → E6 (uv x)
 | 0, x, h => by
   rw [CZ (by simpa using h)]
   intro y hy; simp at hy; subst hy; simp at h; omega
 | k + 1, x, h => by
   by_cases hx : 128 ≤ x
   · rw [G5 hx]
     intro y hy
     rcases List.mem_cons.1 hy with rfl | hy
     · omega
     · exact Nj k (x / 128) (by rw [Nat.div_lt_iff_lt_mul (by decide)]; rw [Nat.pow_succ] at h; exact h) y hy
   · rw [CZ hx]
     intro y hy; simp at hy; subst hy; omega
theorem QZ (x : Nat) : 0 < (uv x).length := by
 obtain ⟨c, t, h, _⟩ := dB x; rw [h]; simp
set_option maxRecDepth 100000 in
theorem yB : ∀ y : Fin 256, Go.bits .and .u8 (y.1 : Int) 127 = ((y.1 % 128 : Nat) : Int) := by decide
theorem kx {acc c k : Nat} (ha : acc < 2 ^ (7 * k)) (hk : k ≤ 9) (hc : c * 2 ^ (7 * k) < 18446744073709551616) : Go.bits .or .u64 (acc : Int) ((c * 2 ^ (7 * k) : Nat) : Int) = ((acc + c * 2 ^ (7 * k) : Nat) : Int) := by
 have hp : 2 ^ (7 * k) ≤ 2 ^ 63 := Nat.pow_le_pow_right (by decide) (by omega)
 rw [bits_or_u64_nat acc _ (by omega) hc]
 congr 1
 rw [Nat.or_comm, Nat.mul_comm, ← Nat.two_pow_add_eq_or_of_lt ha, Nat.add_comm]
def So (bs : List Int) (i k acc : Nat) : Prop := ∀ w, JF bs i w → acc = w % 2 ^ (7 * k) ∧ (∃ rest, bs.drop (i + k) = uv (w / 2 ^ (7 * k)) ++ rest) ∧ (0 < k → 0 < w / 2 ^ (7 * k)) ∧ (uv w).length = k + (uv (w / 2 ^ (7 * k))).length
theorem So.zero {bs : List Int} {i : Nat} : So bs i 0 0 := fun w ⟨hw, rest, hr⟩ => by
 refine ⟨by simp [Nat.mod_one], ⟨rest, by simpa using hr⟩, fun h => by omega, by simp⟩
theorem So.byte {bs : List Int} {i k acc w : Nat} {c : Int} (h : So bs i k acc) (hw : JF bs i w) (hc : bs[i + k]? = some c) :
   (128 ≤ w / 2 ^ (7 * k) → c = ((w / 2 ^ (7 * k) % 128 + 128 : Nat) : Int)) ∧ (w / 2 ^ (7 * k) < 128 → c = ((w / 2 ^ (7 * k) : Nat) : Int)) := by
 obtain ⟨_, ⟨rest, hr⟩, _, _⟩ := h w hw
 obtain ⟨c', t, he, h1, h2⟩ := dB (w / 2 ^ (7 * k))
 have : (bs.drop (i + k))[0]? = some c := by rw [List.getElem?_drop]; simpa using hc
 rw [hr, he] at this
 simp at this
 subst this
 exact ⟨fun h => (h1 h).1, fun h => (h2 h).1⟩
theorem So.next {bs : List Int} {i k acc a' : Nat} {c : Nat} (h : So bs i k acc) (hc : bs[i + k]? = some (c : Int)) (FB : 128 ≤ c) (ha' : acc < 2 ^ (7 * k) → a' = acc + (c % 128) * 2 ^ (7 * k)) : So bs i (k + 1) a' := fun w hw => by
 obtain ⟨h1, ⟨rest, hr⟩, h3, h4⟩ := h w hw
 obtain ⟨g1, g2⟩ := h.byte hw hc
 have hp : 0 < 2 ^ (7 * k) := Nat.two_pow_pos _
 have FV : 128 ≤ w / 2 ^ (7 * k) := by
   rcases Nat.lt_or_ge (w / 2 ^ (7 * k)) 128 with Ag | yC
   · have := g2 Ag; omega
   · exact yC
 have hcv : c = w / 2 ^ (7 * k) % 128 + 128 := by have := g1 FV; omega
 have e1 : 2 ^ (7 * (k + 1)) = 2 ^ (7 * k) * 128 := by rw [Nat.mul_succ, Nat.pow_add]
 have e2 : w / 2 ^ (7 * (k + 1)) = w / 2 ^ (7 * k) / 128 := by rw [e1, Nat.div_div_eq_div_mul]
 rw [e2]
 rw [G5 FV] at hr h4
 refine ⟨?_, ⟨rest, ?_⟩, fun _ => by omega, by simp at h4; omega⟩
 · rw [ha' (by rw [h1]; exact Nat.mod_lt _ hp), e1, Nat.mod_mul, ← h1, show c % 128 = w / 2 ^ (7 * k) % 128 by omega, Nat.mul_comm (2 ^ (7 * k))]
 · rw [show i + (k + 1) = (i + k) + 1 by omega, ← List.drop_drop, hr]; rfl
theorem ky : ∀ (v w : Nat) (r s : List Int), uv v ++ r = uv w ++ s → v = w ∧ r = s := by
 intro v
 induction v using Nat.strongRecOn with
 | _ v ih =>
 intro w r s h
 by_cases hv : 128 ≤ v <;> by_cases hw : 128 ≤ w
 · rw [G5 hv, G5 hw] at h
   simp only [List.cons_append, List.cons.injEq] at h
   have := ih (v / 128) (by omega) (w / 128) r s h.2
   exact ⟨by omega, this.2⟩
 · rw [G5 hv, CZ hw] at h
   simp only [List.cons_append, List.cons.injEq] at h
   omega
 · rw [CZ hv, G5 hw] at h
   simp only [List.cons_append, List.cons.injEq] at h
   omega
 · rw [CZ hv, CZ hw] at h
   simp only [List.cons_append, List.nil_append, List.cons.injEq] at h
   exact ⟨by omega, h.2⟩
def kz (bs : List Int) (i k acc : Nat) : Prop := ∀ hi : Nat, (0 < hi ∨ k = 0) → uv (acc + hi * 2 ^ (7 * k)) = (bs.drop i).take k ++ uv hi
theorem kz.zero {bs : List Int} {i : Nat} : kz bs i 0 0 := fun hi _ => by simp
theorem TF {bs : List Int} {i k : Nat} {c : Int} (hc : bs[i + k]? = some c) : (bs.drop i).take (k + 1) = (bs.drop i).take k ++ [c] := AO (by rw [List.getElem?_drop]; exact hc)
theorem kz.next {bs : List Int} {i k acc c : Nat} (h : kz bs i k acc) (hc : bs[i + k]? = some (c : Int)) (FB : 128 ≤ c) (AQ1 : c < 256) : kz bs i (k + 1) (acc + c % 128 * 2 ^ (7 * k)) := fun hi hh => by
 have Ix : 0 < hi := hh.resolve_right (by omega)
 have h1 := h (c % 128 + hi * 128) (.inl (by omega))
 have e1 : acc + c % 128 * 2 ^ (7 * k) + hi * 2 ^ (7 * (k + 1)) = acc + (c % 128 + hi * 128) * 2 ^ (7 * k) := by
   rw [show 2 ^ (7 * (k + 1)) = 128 * 2 ^ (7 * k) by rw [Nat.mul_succ, Nat.pow_add, Nat.mul_comm], Nat.add_mul, Nat.mul_assoc, Nat.add_assoc]
 rw [e1, h1, G5 (by omega), TF hc]
 have e2 : (c % 128 + hi * 128) % 128 + 128 = c := by omega
 have e3 : (c % 128 + hi * 128) / 128 = hi := by omega
 rw [e2, e3]; simp
theorem kz.last {bs : List Int} {i k acc c : Nat} (h : kz bs i k acc) (hc : bs[i + k]? = some (c : Int)) (Ag : c < 128) (Ix : 0 < c ∨ k = 0) : uv (acc + c * 2 ^ (7 * k)) = (bs.drop i).take (k + 1) := by
 rw [h c Ix, CZ (by omega), TF hc]
structure LV (bs : List Int) (i : Nat) (Φ : Int → Int → Int → Prop) : Prop where
 err : (∀ w, ¬ JF bs i w) → ∀ code : Int, code ≠ 0 → Φ 0 0 code
 ok : ∀ v : Nat, JF bs i v → Φ v ((i + (uv v).length : Nat)) 0
theorem LV.no9 {bs : List Int} {i acc : Nat} {c : Int} (h : So bs i 9 acc) (hc : bs[i + 9]? = some c) (h1 : 1 < c) : ∀ w, ¬ JF bs i w := fun w hw => by
 obtain ⟨g1, g2⟩ := h.byte hw hc
 have : w / 2 ^ (7 * 9) < 2 := by have := hw.1; omega
 have := g2 (by omega)
 omega
theorem LV.no0 {bs : List Int} {i k acc : Nat} {c : Int} (h : So bs i k acc) (hk : 0 < k) (hc : bs[i + k]? = some c) (h0 : c = 0) : ∀ w, ¬ JF bs i w := fun w hw => by
 obtain ⟨g1, g2⟩ := h.byte hw hc
 have := (h w hw).2.2.1 hk
 rcases Nat.lt_or_ge (w / 2 ^ (7 * k)) 128 with Ag | yC
 · have := g2 Ag; omega
 · have := g1 yC; omega
theorem LV.AEA {bs : List Int} {i k acc : Nat} (h : So bs i k acc) (he : bs.length ≤ i + k) : ∀ w, ¬ JF bs i w := fun w hw => by
 obtain ⟨_, ⟨rest, hr⟩, _, _⟩ := h w hw
 rw [List.drop_eq_nil_of_le he] at hr
 have := QZ (w / 2 ^ (7 * k))
 have := congrArg List.length hr
 simp at this; omega
theorem fg {bs : List Int} {n i k acc c : Nat} (hk : k ≤ 9) (AEB : c < 256) (h9 : k = 9 → c ≤ 1) (O1 : acc < 2 ^ (7 * k)) :
   IntKind.u64.wrap (IntKind.u64.wrap (Go.bits .and .u8 (c : Int) 127) * 2 ^ Int.toNat (7 * (k : Int))) = ((c % 128 * 2 ^ (7 * k) : Nat) : Int) ∧ c % 128 * 2 ^ (7 * k) < 18446744073709551616 ∧ acc + c % 128 * 2 ^ (7 * k) < 2 ^ (7 * (k + 1)) ∧ acc + c % 128 * 2 ^ (7 * k) < 18446744073709551616 := by
 have e0 : IntKind.u64.wrap (Go.bits .and .u8 (c : Int) 127) = ((c % 128 : Nat) : Int) := by
   rw [yB ⟨c, AEB⟩]; simp [IntKind.wrap, IntKind.bits, IntKind.signed]; omega
 have e1 : Int.toNat (7 * (k : Int)) = 7 * k := by omega
 have hm : c % 128 < 128 := Nat.mod_lt _ (by decide)
 have Ag : c % 128 * 2 ^ (7 * k) < 18446744073709551616 := by
   by_cases h : k = 9
   · subst h
     have := h9 rfl
     have : c % 128 ≤ 1 := by omega
     exact Nat.lt_of_le_of_lt (Nat.mul_le_mul_right (2 ^ (7 * 9)) this) (by decide)
   · have hp : 2 ^ (7 * k) ≤ 2 ^ 56 := Nat.pow_le_pow_right (by decide) (by omega)
     exact Nat.lt_of_le_of_lt (Nat.mul_le_mul (show c % 128 ≤ 127 by omega) hp) (by decide)
 refine ⟨?_, Ag, ?_, ?_⟩
 · rw [e0, e1, show (((c % 128 : Nat) : Int) * 2 ^ (7 * k)) = ((c % 128 * 2 ^ (7 * k) : Nat) : Int) by rw [Int.natCast_mul, Int.natCast_pow]; rfl]
   generalize c % 128 * 2 ^ (7 * k) = y at Ag
   simp [IntKind.wrap, IntKind.bits, IntKind.signed]; omega
 · rw [show 2 ^ (7 * (k + 1)) = 2 ^ (7 * k) * 128 by rw [Nat.mul_succ, Nat.pow_add]]
   have : c % 128 * 2 ^ (7 * k) ≤ 127 * 2 ^ (7 * k) := Nat.mul_le_mul_right _ (by omega)
   omega
 · by_cases h : k = 9
   · subst h
     have := h9 rfl
     have h1 : c % 128 ≤ 1 := by omega
     have h2 : c % 128 * 2 ^ (7 * 9) ≤ 1 * 2 ^ (7 * 9) := Nat.mul_le_mul_right _ h1
     have h3 : acc < 9223372036854775808 := O1
     have h4 : 1 * 2 ^ (7 * 9) = 9223372036854775808 := by decide
     omega
   · have hp : 2 ^ (7 * k) ≤ 2 ^ 56 := Nat.pow_le_pow_right (by decide) (by omega)
     have h2 : c % 128 * 2 ^ (7 * k) ≤ 127 * 2 ^ 56 := Nat.mul_le_mul (by omega) hp
     have h3 : (2 : Nat) ^ 56 = 72057594037927936 := by decide
     omega
theorem Kb {R : Rr} {σ : Hp} {p : Option Addr} {n c0 i : Nat} {bs : List Int} (hr : B9 .u8 σ p n bs) (h8 : E6 bs) (hi : i ≤ n)
   (h : LV bs i fun v t code => R (.returned (.tuple #[.int .u64 v, .int .i64 t, .int .i64 code])) σ) : Spec prog 177 #[.slice p n c0, .int .i64 i] σ R := by
 have fN : bs.length = n := hr.1
 have FV := hr.big
 refine ES.start ⟨fun h0 => by omega, fun _ => ⟨fun h0 => by omega, fun _ => ?_⟩⟩
 suffices H : ∀ d k acc : Nat, 9 - k = d → k ≤ 9 → i + k ≤ n → acc < 2 ^ (7 * k) → So bs i k acc → kz bs i k acc → ES.Ko R p n c0 i acc k σ from H 9 0 0 rfl (by omega) (by omega) (by decide) So.zero kz.zero
 intro d
 have body : ∀ k acc : Nat, (∀ a', k < 9 → i + (k + 1) ≤ n → a' < 2 ^ (7 * (k + 1)) → So bs i (k + 1) a' → kz bs i (k + 1) a' → ES.Ko R p n c0 i a' (k + 1 : Nat) σ) → k ≤ 9 → i + k ≤ n → acc < 2 ^ (7 * k) → So bs i k acc → kz bs i k acc → ES.Ko R p n c0 i acc k σ := by
   intro k acc rec hk Ck O1 uI fh
   have AQ4 : 2 ^ (7 * k) ≤ 2 ^ 63 := Nat.pow_le_pow_right (by decide) (by omega)
   refine ES.PR ⟨by unfold AN; omega, fun Ag => ?_, fun FB => h.err (LV.AEA uI (by omega)) 20 (by decide)⟩
   obtain ⟨x, hx⟩ := hr.ex (k := i + k) (by omega)
   obtain ⟨b, o, rfl, hl⟩ := hr.at hx
   have O2 := h8 x (List.mem_of_getElem? hx)
   obtain ⟨c, rfl⟩ : ∃ c : Nat, x = c := ⟨x.toNat, by omega⟩
   have e0 : Int.toNat ((i : Int) + (k : Int)) = i + k := by omega
   have core : (k = 9 → c ≤ 1) → ((0 : Int) < (k : Int) → ¬ ((c : Int) = 0)) → ∀ JO : Int, JO = Go.bits .and .u8 (c : Int) 127 → ∀ WZ : Int, WZ = IntKind.u64.wrap JO → AN (7 * (k : Int)) ∧ ((0 : Int) ≤ (7 * (k : Int)) ∧ (7 * (k : Int)) ≤ ((IntKind.bits .u64 : Nat) : Int)) ∧ ∀ S7 : Int, S7 = IntKind.u64.wrap (WZ * 2 ^ Int.toNat (7 * (k : Int))) → ∀ Ow : Int, Ow = Go.bits .or .u64 (acc : Int) S7 → (((c : Int) : Int) < 128 → AN ((i : Int) + (k : Int)) ∧ AN (((i : Int) + (k : Int)) + 1) ∧ R (.returned (.tuple #[(.int .u64 Ow), (.int .i64 (((i : Int) + (k : Int)) + 1)), (.int .i64 0)])) σ) ∧ (¬ (((c : Int) : Int) < 128) → AN ((k : Int) + 1) ∧ ES.Ko R (some ⟨b, o, none⟩) n c0 i Ow ((k : Int) + 1) σ) := by
     intro h9 hnz JO yD WZ AKK
     refine ⟨by unfold AN; omega, ⟨by omega, by simp [IntKind.bits]; omega⟩, fun S7 AEC Ow AED => ?_⟩
     obtain ⟨f1, f2, f3, f4⟩ := fg (bs := bs) (n := n) (i := i) hk (by omega) h9 O1
     rw [AKK, yD, f1] at AEC
     subst AEC
     rw [kx O1 hk f2] at AED
     subst AED
     refine ⟨fun hc => ⟨by unfold AN; omega, by unfold AN; omega, ?_⟩, fun hc => ⟨by unfold AN; omega, ?_⟩⟩
     · have hc' : c < 128 := by omega
       have e5 : c % 128 = c := Nat.mod_eq_of_lt hc'
       have hz : 0 < c ∨ k = 0 := by
         rcases Nat.eq_zero_or_pos k with h1 | h1
         · exact .inr h1
         · exact .inl (Nat.pos_of_ne_zero fun h2 => hnz (by omega) (by omega))
       have hu := fh.last hx hc' hz
       have hlk : ((bs.drop i).take (k + 1)).length = k + 1 := by rw [List.length_take, List.length_drop]; omega
       have := h.ok (acc + c * 2 ^ (7 * k)) ⟨by rw [← e5]; omega, (bs.drop i).drop (k + 1), by rw [hu, List.take_append_drop]⟩
       rw [hu, hlk] at this
       have e4 : (((i + (k + 1) : Nat)) : Int) = (i : Int) + k + 1 := by omega
       rw [e4] at this
       rw [e5]; exact this
     · exact rec _ (by rcases Nat.lt_or_ge k 9 with h1 | h1; · exact h1
                       · have := h9 (by omega); omega) (by omega) f3 (uI.next hx (by omega) fun _ => rfl) (fh.next hx (by omega) (by omega))
   have rest : (k = 9 → c ≤ 1) → ((0 : Int) < (k : Int) → (((c : Int)) = 0 → R (.returned (.tuple #[(.int .u64 0), (.int .i64 0), (.int .i64 21)])) σ) ∧ (¬ (((c : Int)) = 0) → _)) ∧ (¬ ((0 : Int) < (k : Int)) → _) := fun h9 =>
     ⟨fun hk0 => ⟨fun hc0 => h.err (LV.no0 uI (by omega) hx hc0) 21 (by decide), fun hc0 => core h9 fun _ => hc0⟩, fun hk0 => core h9 fun hk1 => absurd hk1 hk0⟩
   refine ⟨by unfold AN; omega, b, o, rfl, by omega, c, by rw [e0]; simpa using hl, fun hk9 => ⟨fun fi => ?_, fun fi => rest fun _ => by omega⟩, fun hk9 => rest fun h => by omega⟩
   have : k = 9 := by omega
   subst this
   exact h.err (LV.no9 uI hx fi) 21 (by decide)
 induction d with
 | zero =>
   intro k acc hd hk Ck O1 uI fh
   exact body k acc (fun a' h1 => by omega) hk Ck O1 uI fh
 | succ d ih =>
   intro k acc hd hk Ck O1 uI fh
   exact body k acc (fun a' h1 h2 h3 h4 h5 => ih (k + 1) a' (by omega) (by omega) h2 h3 h4 h5) hk Ck O1 uI fh
end TwW
end
section
namespace TwW
open Go Tw Go.Proofs.Tryz
def E1 (x : Int) : Int := if Go.bits .and .u32 x 1 = 0 then x / 2 else Go.bits .xor .u32 (x / 2) 3988292384
def Ia (i : Nat) : Int := E1 (E1 (E1 (E1 i)))
def uJ (c : Int) (t : Int) : Int := Go.bits .xor .u32 (c / 16) t
def qc (c : Int) : Nat := (Go.bits .and .u32 c 15).toNat
def uK (c x : Int) : Int := let a := Go.bits .xor .u32 c (IntKind.u32.wrap x); let b := uJ a (Ia (qc a)); uJ b (Ia (qc b))
def XA (xs : List Int) : Int := Go.bits .xor .u32 4294967295 (xs.foldl uK 4294967295)
theorem k7 (op : BinOp) (a b : Int) : 0 ≤ Go.bits op .u32 a b ∧ Go.bits op .u32 a b < 4294967296 := by
 have h := bits_within op .u32 a b
 have e1 : IntKind.min .u32 = 0 := rfl
 have e2 : IntKind.max .u32 = 4294967295 := rfl
 rw [e1, e2] at h; omega
theorem TG (xs : List Int) : 0 ≤ XA xs ∧ XA xs < 4294967296 := k7 _ _ _
theorem Z5 (c : Int) : (0 : Int) ≤ Go.bits .and .u32 c 15 ∧ Go.bits .and .u32 c 15 < 16 := by
 refine ⟨(k7 _ _ _).1, ?_⟩
 have h2 : (BitVec.ofInt 32 15).toNat = 15 := rfl
 have : Go.bits .and .u32 c 15 = IntKind.u32.wrap (((BitVec.ofInt 32 c) &&& (BitVec.ofInt 32 15)).toNat : Int) := rfl
 rw [this, BitVec.toNat_and, h2]
 have hle : (BitVec.ofInt 32 c).toNat &&& 15 ≤ 15 := Nat.and_le_right
 generalize (BitVec.ofInt 32 c).toNat &&& 15 = y at hle
 simp [IntKind.wrap, IntKind.bits, IntKind.signed]; omega
theorem dC (c : Int) : qc c < 16 := by have := Z5 c; unfold qc; omega
def Mj : List Value := (List.range 16).map fun j => .int .u32 (Ia j)
section
variable {σ : Hp} {R : Rr}
theorem yE : ∀ w, (Go.sizeOf 70).run prog w = .ok 1 w := fun w => by
 have h : prog.info? 70 = some t70 := by kernel_rfl
 simp [Go.sizeOf, typeInfo, h, show t70.size = 1 from rfl]
theorem qe : ∀ w, (Go.sizeOf 338).run prog w = .ok 16 w := fun w => by
 have h : prog.info? 338 = some t338 := by kernel_rfl
 simp [Go.sizeOf, typeInfo, h, show t338.size = 16 from rfl]
theorem XB : ∀ (n : Nat) (x : Int), Nat.repeat E1 n (E1 x) = Nat.repeat E1 (n + 1) x
 | 0, _ => rfl
 | n + 1, x => by
   show E1 (Nat.repeat E1 n (E1 x)) = E1 (Nat.repeat E1 (n + 1) x)
   rw [XB n x]
theorem XC {b1 : Nat} {i : Nat} {x5 : Int} : ∀ (n : Nat) (x3 : Int) (j : Int), j = 4 - (n : Int) → n ≤ 4 → (∀ y, y = (Nat.repeat E1 n x3) → Bp.Ru R 0 0 0 0 0 0 0 0 0 0 0 0 0 0 0 0 b1 i y 4 x5 σ) → Bp.Ru R 0 0 0 0 0 0 0 0 0 0 0 0 0 0 0 0 b1 i x3 j x5 σ
 | 0, x3, j, hj, _, h => by
   have : j = 4 := by simpa using hj
   subst this; exact h x3 rfl
 | n + 1, x3, j, hj, hn, h => by
   have step : Bp.Nc R 0 0 0 0 0 0 0 0 0 0 0 0 0 0 0 0 b1 i (E1 x3) j x5 σ := by
     refine Bp.JB ⟨by unfold AN; omega, XC n (E1 x3) (j + 1) (by omega) (by omega) fun y hy => h y ?_⟩
     rw [hy, XB]
   refine Bp.MX ⟨fun _ Hh fe => ⟨fun h0 => ⟨by simp [IntKind.bits], fun Fc AKL => ?_⟩, fun h0 => ⟨by simp [IntKind.bits], fun Jr Ur IE Uq => ?_⟩⟩, fun hh => by omega⟩
   · have : Fc = E1 x3 := by rw [E1, if_pos (by rw [← fe]; exact h0), AKL]; rfl
     rw [this]; exact step
   · have : IE = E1 x3 := by rw [E1, if_neg (by rw [← fe]; exact h0), Uq, Ur]; rfl
     rw [this]; exact step
theorem AKM {A : Array Value} {i j : Nat} {v : Value} (hi : i < A.size) : (DT A i [v])[j]? = if j = i then some v else A[j]? := by
 simp only [DT]
 by_cases h : j = i
 · subst h; simp [hi]
 · simp [h, Ne.symm h]
theorem Z6 (h : ∀ σ', Ext σ σ' → R (.returned (.agg Mj.toArray)) σ') : Spec prog 289 #[] σ R := by
 refine Bp.start fun _ b1 O4 => ?_
 suffices H : ∀ (d i : Nat) (A : Array Value), 16 - i = d → i ≤ 16 → A.size = 16 → (∀ j, j < i → A[j]? = some (.int .u32 (Ia j))) → Bp.A4 R 0 0 0 0 0 0 0 0 0 0 0 0 0 0 0 0 b1 i (σ.set b1 (.cells A 338 (0, 0))) from
   H 16 0 _ rfl (by omega) rfl (fun j hj => by omega)
 intro d
 induction d with
 | zero =>
   intro i A hd hi hA hj
   have : i = 16 := by omega
   subst this
   refine Bp.AW ⟨fun hh => by omega, fun _ => ⟨Ia 0, Ia 1, Ia 2, Ia 3, Ia 4, Ia 5, Ia 6, Ia 7, Ia 8, Ia 9, Ia 10, Ia 11, Ia 12, Ia 13, Ia 14, Ia 15, Dn.of fun j v hv => ?_, h _ (.set O4)⟩⟩
   have oL : Mj[j]? = some v := hv
   have Ag : j < 16 := by
     have := (List.getElem?_eq_some_iff.1 oL).1
     simpa [Mj] using this
   have : Mj[j]? = some (.int .u32 (Ia j)) := by simp [Mj, Ag]
   rw [this] at oL
   cases oL
   rw [Nat.zero_add]
   exact AD (Hp.AA _ _ _) (hj j Ag)
 | succ d ih =>
   intro i A hd hi hA hj
   refine Bp.AW ⟨fun _ x9 hx9 => ?_, fun hh => by omega⟩
   have h9 : x9 = (i : Int) := by rw [hx9]; simp [IntKind.wrap, IntKind.bits, IntKind.signed]; omega
   subst h9
   refine XC 4 (i : Int) 0 rfl (Nat.le_refl _) fun y hy => ?_
   refine Bp.MX ⟨fun hh => by omega, fun _ => ⟨by omega, ?_⟩⟩
   refine AJ.store (v := .int .u32 y) yE (Hp.AA _ _ _) rfl (by omega) (by simp [Value.cells, Value.oneCell']) ⟨by unfold AN; omega, ?_⟩
   rw [Hp.set_set]
   have e0 : 0 + Int.toNat (i : Int) * 1 = i := by omega
   rw [e0]
   have e1 : (Value.int .u32 y).cells.toList = [.int .u32 y] := rfl
   rw [e1]
   refine ih (i + 1) _ (by omega) (by omega) (by rw [Dc]; exact hA) fun j Tx => ?_
   rw [AKM (by omega)]
   by_cases YI : j = i
   · subst YI; rw [if_pos rfl, hy]; rfl
   · rw [if_neg YI]; exact hj j (by omega)
theorem XD {p : Option Addr} {n c : Nat} {xs : List Int} (hr : B9 .u8 σ p n xs) (h : ∀ σ', Ext σ σ' → R (.returned (.int .u32 (XA xs))) σ') : Spec prog 219 #[.slice p n c] σ R := by
 refine IG.start (Z6 fun σ1 hx => ⟨Ia 0, Ia 1, Ia 2, Ia 3, Ia 4, Ia 5, Ia 6, Ia 7, Ia 8, Ia 9, Ia 10, Ia 11, Ia 12, Ia 13, Ia 14, Ia 15, rfl, fun b3 Ul => ?_⟩)
 refine AJ.store (v := .agg Mj.toArray) (c := (List.replicate 16 (Value.int .u32 0)).toArray) qe (Hp.AA _ _ _) (by simp [Value.cells, Mj]) (by simp) (by simp [Value.cells, Mj, Value.oneCell']) ?_
 rw [Hp.set_set]
 have hw : DT (List.replicate 16 (Value.int .u32 0)).toArray 0 (Value.agg Mj.toArray).cells.toList = Mj.toArray := by kernel_rfl
 rw [hw]
 have Ay : Ext σ (σ1.set b3 (.cells Mj.toArray 338 (0, 0))) := hx.trans (.set Ul)
 have SJ := hr.mono Ay
 have ht : ∀ k : Nat, k < 16 → (σ1.set b3 (.cells Mj.toArray 338 (0, 0))).ld ⟨b3, k, none⟩ = some (.int .u32 (Ia k)) := fun k hk => AD (Hp.AA _ _ _) (by simp [Mj, hk])
 generalize (σ1.set b3 (.cells Mj.toArray 338 (0, 0))) = τ at Ay SJ ht
 suffices H : ∀ (d k : Nat) (acc : Int), n - k = d → k ≤ n → acc = (xs.take k).foldl uK 4294967295 → IG.Gp R b3 acc p n c n k τ from H n 0 _ rfl (by omega) rfl
 intro d
 induction d with
 | zero =>
   intro k acc hd hk ha
   refine IG.Fb ⟨fun hh => by omega, fun _ => ⟨XA xs, fun w _ => ?_, h τ Ay⟩⟩
   rw [List.take_of_length_le (by rw [hr.1]; omega)] at ha
   subst ha
   simp [Op.unary, intBits_xor, XA, IntKind.signed, IntKind.max, IntKind.bits]
 | succ d ih =>
   intro k acc hd hk ha
   refine IG.Fb ⟨fun _ => ?_, fun hh => by omega⟩
   obtain ⟨y, hy⟩ := SJ.ex (k := k) (by omega)
   obtain ⟨b, o, rfl, hl⟩ := SJ.at hy
   refine ⟨b, o, rfl, by omega, y, by simpa using hl, fun Hi ff I7 h17 => ⟨by simp [IntKind.bits], fun Iu h19 IE h21 => ?_⟩⟩
   subst ff h17 h19 h21
   refine ⟨Z5 _, Ia (qc (Go.bits .xor .u32 acc (IntKind.u32.wrap y))), ?_, fun Kk h24 => ⟨by simp [IntKind.bits], fun Hw h26 Gq h28 => ?_⟩⟩
   · rw [Nat.zero_add, Nat.mul_one]; exact ht (qc _) (dC _)
   subst h24 h26 h28
   refine ⟨Z5 _, Ia (qc (Go.bits .xor .u32 (Go.bits .xor .u32 acc (IntKind.u32.wrap y) / 2 ^ Int.toNat 4) (Ia (qc (Go.bits .xor .u32 acc (IntKind.u32.wrap y)))))), ?_, fun Fp nu => ⟨Aa (by omega) hr.big, ?_⟩⟩
   · rw [Nat.zero_add, Nat.mul_one]; exact ht (qc _) (dC _)
   subst nu
   refine ih (k + 1) _ (by omega) (by omega) ?_
   rw [AO hy, List.foldl_append, ← ha]
   rfl
def Ye (x : Int) : List Int := [x / 16777216 % 256, x / 65536 % 256, x / 256 % 256, x % 256]
def frame (r : List Int) : List Int := uv r.length ++ Ye (XA r) ++ r
theorem Ee (r : List Int) : (frame r).length = (uv r.length).length + 4 + r.length := by simp [frame, Ye]; omega
theorem OR {r : List Int} (h : r.length ≤ 65536) : (frame r).length ≤ r.length + 7 := by
 have := Z3 2 r.length (by omega)
 rw [Ee]; omega
theorem Qa {p : Option Addr} {n c : Nat} {xs : List Int} (hr : B9 .u8 σ p n xs) (h0 : 65536 < n → R (.returned (.tuple #[.slice none 0 0, .int .i64 23])) σ)
   (h1 : n ≤ 65536 → ∀ p' n' c' σ', AR .u8 (σ.new σ') p' n' c' (frame xs) → Ext σ σ' → R (.returned (.tuple #[.slice p' n' c', .int .i64 0])) σ') : Spec prog 128 #[.slice p n c] σ R := by
 have hn : xs.length = n := hr.1
 refine OC.start ⟨fun h => h0 (by omega), fun hle => XD hr fun σ1 BM => ⟨_, rfl, fun E7 h13 => ?_⟩⟩
 have e13 : E7 = (n : Int) := by rw [h13]; simp [IntKind.wrap, IntKind.bits, IntKind.signed]; omega
 subst e13
 have Z7 : B9 .u8 σ1 none 0 [] := Fi.nil
 refine DF Z7 (by omega) (by omega) fun p' n' c' σ2 ho Ay => ⟨p', n', c', rfl, by simp [IntKind.bits], fun Hi ff I7 h17 => ⟨by simp [IntKind.bits], fun Iu h19 Jr iW => ⟨by simp [IntKind.bits], fun js h22 Sp h23 M4 h25 PQ Up => ?_⟩⟩⟩
 rw [List.nil_append] at ho
 have hcr := TG xs
 have ec : [Value.int .u8 I7, .int .u8 Jr, .int .u8 Sp, .int .u8 M4] = (Ye (XA xs)).map (.int .u8) := by
   subst ff h17 h19 iW h22 h23 h25
   simp [Ye, IntKind.wrap, IntKind.bits, IntKind.signed]
 have hnl : n' ≤ 10 := by have := ho.1; have h2 := BV (x := n) (by omega); simp at this; omega
 have Z4 := BM.trans Ay
 have Bt : Own 1 (σ.new σ2) p' n' c' ((uv n).map (.int .u8)) := ho.mono (Ext.Cm BM)
 refine Iy (T := 84) Z4 Bt (m := 4) rfl (fun u hu => by simp at hu; rcases hu with rfl | rfl | rfl | rfl <;> rfl) (by omega) (fun p3 c3 σ3 Dq C6 _ => ⟨p3, _, c3, rfl, ?_⟩) Up
 refine Dt (T := 84) C6 Dq (GP.of_map (hr.mono C6)) CR.Cj (by omega) fun p4 c4 σ4 OS LW _ => ⟨p4, _, c4, rfl, h1 (by omega) p4 _ c4 σ4 ?_ LW⟩
 rw [ec] at OS
 unfold AR frame
 rw [List.map_append, List.map_append, hn]
 exact OS
end
end TwW
end
section
namespace TwW
open Go Tw Go.Proofs.Tryz
theorem B9.sub {k : IntKind} {σ : Hp} {p : Option Addr} {n c i m : Nat} {xs : List Int} (h : B9 k σ p n xs) (him : i + m ≤ n) (hc : n ≤ c) : B9 k σ (Dp p i c 1) m ((xs.drop i).take m) := by
 have hl : xs.length = n := h.1
 obtain ⟨_, cs, ⟨h2, h3, h4⟩, h5⟩ := h
 rw [Yu.1 h5] at h4
 refine B9.Lg ⟨by simp; omega, by omega, ?_⟩
 rcases Nat.eq_zero_or_pos m with hm | hm
 · exact .inl hm
 · rcases h4 with h4 | ⟨b, o, rfl, h4⟩
   · omega
   · refine .inr ⟨b, o + i, ?_, ?_⟩
     · unfold Dp
       rw [if_neg (by omega)]
       simp [DB]
     · rw [List.map_take, List.map_drop]
       exact h4.part
theorem O5 (a b : Nat) (ha : a < 4294967296) (hb : b < 4294967296) : Go.bits .or .u32 (a : Int) (b : Int) = ((a ||| b : Nat) : Int) := by
 have hx : a ||| b < 2 ^ 32 := Nat.or_lt_two_pow (by omega) (by omega)
 have h1 : (BitVec.ofInt 32 (a : Int)).toNat = a := by
   rw [BitVec.ofInt_natCast, BitVec.toNat_ofNat]; exact Nat.mod_eq_of_lt (by omega)
 have h2 : (BitVec.ofInt 32 (b : Int)).toNat = b := by
   rw [BitVec.ofInt_natCast, BitVec.toNat_ofNat]; exact Nat.mod_eq_of_lt (by omega)
 show IntKind.u32.wrap ((BitVec.ofInt 32 (a : Int) ||| BitVec.ofInt 32 (b : Int)).toNat : Int) = _
 rw [BitVec.toNat_or, h1, h2]
 generalize a ||| b = y at hx
 simp [IntKind.wrap, IntKind.bits, IntKind.signed]; omega
theorem qf {a c : Nat} (ha : a < 16777216) (hc : c < 256) : Go.bits .or .u32 (IntKind.u32.wrap ((a : Int) * 2 ^ Int.toNat 8)) (IntKind.u32.wrap (c : Int)) = ((a * 256 + c : Nat) : Int) := by
 have e1 : IntKind.u32.wrap ((a : Int) * 2 ^ Int.toNat 8) = ((a * 256 : Nat) : Int) := by
   simp [IntKind.wrap, IntKind.bits, IntKind.signed]; omega
 have e2 : IntKind.u32.wrap (c : Int) = (c : Int) := by simp [IntKind.wrap, IntKind.bits, IntKind.signed]; omega
 rw [e1, e2, O5 _ _ (by omega) (by omega), show a * 256 = 2 ^ 8 * a by omega, ← Nat.two_pow_add_eq_or_of_lt (show c < 2 ^ 8 from hc)]
def k8 (l : List Int) : Int := l.foldl (fun a c => a * 256 + c) 0
theorem qg {x : Int} (h : 0 ≤ x ∧ x < 4294967296) : k8 (Ye x) = x := by simp [k8, Ye]; omega
theorem qh {l : List Int} (h : l.length = 4) (h8 : E6 l) : Ye (k8 l) = l := by
 match l, h with
 | [a, b, c, d], _ =>
   have ha := h8 a (by simp)
   have hb := h8 b (by simp)
   have hc := h8 c (by simp)
   have hd := h8 d (by simp)
   simp [k8, Ye]; omega
theorem JF.uniq {bs : List Int} {i v w : Nat} (h : JF bs i v) (g : JF bs i w) : v = w := by
 obtain ⟨_, r, hr⟩ := h
 obtain ⟨_, s, hs⟩ := g
 exact (ky v w r s (hr.symm.trans hs)).1
def Ib (bs : List Int) (i : Nat) (r : List Int) : Prop := r.length ≤ 65536 ∧ ∃ rest, bs.drop i = frame r ++ rest
theorem Ib.uv {bs : List Int} {i : Nat} {r : List Int} (h : Ib bs i r) : JF bs i r.length := by
 obtain ⟨h1, rest, h2⟩ := h
 exact ⟨by omega, _, by rw [h2, frame, List.append_assoc, List.append_assoc]⟩
theorem Ib.parts {bs : List Int} {i : Nat} {r : List Int} (h : Ib bs i r) : ((bs.drop (i + (TwW.uv r.length).length)).take 4 = Ye (XA r)) ∧ (bs.drop (i + (TwW.uv r.length).length + 4)).take r.length = r ∧ i + (TwW.uv r.length).length + 4 + r.length ≤ bs.length ∨ bs.length ≤ i := by
 obtain ⟨h1, rest, h2⟩ := h
 rcases Nat.lt_or_ge i bs.length with hi | hi
 · left
   have e1 : bs.drop (i + (TwW.uv r.length).length) = Ye (XA r) ++ (r ++ rest) := by
     rw [← List.drop_drop, h2, frame, List.append_assoc, List.append_assoc, List.drop_left]
   have e2 : bs.drop (i + (TwW.uv r.length).length + 4) = r ++ rest := by
     rw [← List.drop_drop, e1, show 4 = (Ye (XA r)).length from rfl, List.drop_left]
   refine ⟨by rw [e1, show 4 = (Ye (XA r)).length from rfl, List.take_left], by rw [e2, List.take_left], ?_⟩
   have := congrArg List.length h2
   rw [List.length_append, Ee, List.length_drop] at this
   omega
 · exact .inr hi
theorem Ib.lt {bs : List Int} {i : Nat} {r : List Int} (h : Ib bs i r) : i < bs.length := by
 obtain ⟨h1, rest, h2⟩ := h
 have := congrArg List.length h2
 have h3 := Ee r
 rw [List.length_append, List.length_drop] at this
 omega
theorem E6.part {bs : List Int} (h : E6 bs) (i m : Nat) : E6 ((bs.drop i).take m) := fun x hx => h x (List.mem_of_mem_drop (List.mem_of_mem_take hx))
theorem Ib.of {bs : List Int} {i len : Nat} (h8 : E6 bs) (hu : JF bs i len) (hle : len ≤ 65536) (DX : i + (TwW.uv len).length + 4 + len ≤ bs.length)
   (hs : XA ((bs.drop (i + (TwW.uv len).length + 4)).take len) = k8 ((bs.drop (i + (TwW.uv len).length)).take 4)) : Ib bs i ((bs.drop (i + (TwW.uv len).length + 4)).take len) := by
 have hl : ((bs.drop (i + (TwW.uv len).length + 4)).take len).length = len := by rw [List.length_take, List.length_drop]; omega
 refine ⟨by omega, (bs.drop (i + (TwW.uv len).length + 4)).drop len, ?_⟩
 obtain ⟨_, rest, hr⟩ := hu
 have e0 : rest = bs.drop (i + (TwW.uv len).length) := by rw [← List.drop_drop, hr, List.drop_left]
 have e4 : Ye (XA ((bs.drop (i + (TwW.uv len).length + 4)).take len)) = (bs.drop (i + (TwW.uv len).length)).take 4 := by
   rw [hs, qh (by rw [List.length_take, List.length_drop]; omega) (h8.part _ _)]
 rw [frame, hl, e4, hr, e0, List.append_assoc, List.append_assoc, List.take_append_drop, show bs.drop (i + (TwW.uv len).length + 4) = (bs.drop (i + (TwW.uv len).length)).drop 4 from List.drop_drop.symm, List.take_append_drop]
section
variable {σ : Hp} {R : Rr}
theorem AEG : Enters prog 343 := fun args w => call343 args w
theorem AEH : Enters prog 344 := fun args w => call344 args w
theorem XE {b i len : Nat} {p : Option Addr} {n c : Nat} {bs : List Int} (hb : σ b = none) (hr : B9 .u8 σ p n bs) (h8 : E6 bs) (hc : n ≤ c) (hi : i ≤ n) (hle : len ≤ 65536)
   (yF : n < i + 4 + len → ∀ σ', Ext σ σ' → R (.returned (.tuple #[.slice none 0 0, .int .i64 20])) σ')
   (KF : i + 4 + len ≤ n → XA ((bs.drop (i + 4)).take len) ≠ k8 ((bs.drop i).take 4) → ∀ σ', Ext σ σ' → R (.returned (.tuple #[.slice none 0 0, .int .i64 22])) σ')
   (Aq : i + 4 + len ≤ n → XA ((bs.drop (i + 4)).take len) = k8 ((bs.drop i).take 4) → ∀ p' c' σ', AR .u8 (σ.new σ') p' len c' ((bs.drop (i + 4)).take len) → Ext (σ.set b (.cells #[.slice p n c, .int .i64 (i + 4 + len : Nat)] 381 (0, 0))) σ' → R (.returned (.tuple #[.slice p' len c', .int .i64 0])) σ') :
   Spec prog 344 #[.pointer (some ⟨b, 0, none⟩), .int .i64 len] (σ.set b (.cells #[.slice p n c, .int .i64 i] 381 (0, 0))) R := by
 have fN : bs.length = n := hr.1
 have FV := hr.big
 have hx : Ext σ (σ.set b (.cells #[.slice p n c, .int .i64 i] 381 (0, 0))) := .set hb
 have bN : ∀ {τ : Hp} {k : Int} {T : TypeId}, (τ.set b (.cells #[.slice p n c, .int .i64 k] T (0, 0))).ld ⟨b, 0, none⟩ = some (.slice p n c) := fun {τ k T} => AD (Hp.AA _ _ _) rfl
 have fj : ∀ {τ : Hp} {k : Int} {T : TypeId}, (τ.set b (.cells #[.slice p n c, .int .i64 k] T (0, 0))).ld ⟨b, 0 + 1, none⟩ = some (.int .i64 k) := fun {τ k T} => AD (Hp.AA _ _ _) rfl
 refine BW.start ⟨b, 0, rfl, p, n, c, bN, i, fj, by unfold AN; omega, by unfold AN; omega, fun h => yF (by omega) _ hx, fun h => ⟨p, n, c, bN, i, fj, i, fj, by unfold AN; omega, by omega, ?_⟩⟩
 have DX : i + 4 + len ≤ n := by omega
 have e1 : Int.toNat (i : Int) = i := by omega
 have e2 : Int.toNat ((i : Int) + 4) - i = 4 := by omega
 rw [e1, e2]
 have h4 : B9 .u8 (σ.set b (.cells #[.slice p n c, .int .i64 i] 381 (0, 0))) (Dp p i c 1) 4 ((bs.drop i).take 4) := B9.sub (hr.mono hx) (by omega) hc
 have h48 : E6 ((bs.drop i).take 4) := h8.part _ _
 have fin : BW.GR R (some ⟨b, 0, none⟩) len (k8 ((bs.drop i).take 4)) (Dp p i c 1) 4 (c - i) ((4 : Nat) : Int) ((4 : Nat) : Int) (σ.set b (.cells #[.slice p n c, .int .i64 i] 381 (0, 0))) := by
   refine BW.GS ⟨fun hh => by omega, fun _ => ⟨b, 0, rfl, p, n, c, bN, i, fj, by unfold AN; omega, i, fj, by unfold AN; omega, by unfold AN; omega, by omega, i, fj, by unfold AN; omega, by unfold AN; omega, ?_⟩⟩
   refine AJ.store (v := .int .i64 ((i : Int) + (4 + (len : Int)))) HW (Hp.AA _ _ _) rfl (by simp) (by simp [Value.cells, Value.oneCell']) ?_
   rw [Hp.set_set]
   have hw : DT #[Value.slice p n c, .int .i64 i] (0 + 1) (Value.int .i64 ((i : Int) + (4 + (len : Int)))).cells.toList = #[.slice p n c, .int .i64 ((i + 4 + len : Nat) : Int)] := by
     rw [show ((i + 4 + len : Nat) : Int) = (i : Int) + (4 + (len : Int)) by omega]; rfl
   rw [hw]
   have e3 : Int.toNat ((i : Int) + 4) = i + 4 := by omega
   have e4 : Int.toNat ((i : Int) + 4 + (len : Int)) - (i + 4) = len := by omega
   rw [e3, e4]
   have Ay : Ext σ (σ.set b (.cells #[.slice p n c, .int .i64 ((i + 4 + len : Nat) : Int)] 381 (0, 0))) := .set hb
   have lA : B9 .u8 (σ.set b (.cells #[.slice p n c, .int .i64 ((i + 4 + len : Nat) : Int)] 381 (0, 0))) (Dp p (i + 4) c 1) len ((bs.drop (i + 4)).take len) := B9.sub (hr.mono Ay) (by omega) hc
   refine XD lA fun σ3 C6 => ⟨_, rfl, fun Ae => KF DX Ae _ (Ay.trans C6), fun heq => ?_⟩
   intro b78 qi
   have hq : ∀ a : Addr, (some (⟨b78, 0, none⟩ : Addr)) = some a → σ3 a.block = none := fun a ha => by cases ha; exact qi
   refine Dr (T := 84) Own.empty ((GP.of_map (lA.mono C6)).mono (.set qi)) CR.Cj (by omega) fun p' c' σ' AY Di => ⟨p', _, c', rfl, ?_⟩
   rw [Nat.zero_add] at AY ⊢
   have ho := Own.CC AY (Bb hq Di (.set qi))
   have he := CL hq Di (.set qi)
   exact Aq DX (Decidable.byContradiction heq) p' c' σ' (ho.mono (Ext.Cm (Ay.trans C6))) (C6.trans he)
 have step : ∀ (d k : Nat) (acc : Nat), 4 - k = d → k ≤ 4 → acc < 256 ^ k → (acc : Int) = k8 (((bs.drop i).take 4).take k) → BW.GR R (some ⟨b, 0, none⟩) len acc (Dp p i c 1) 4 (c - i) ((4 : Nat) : Int) k (σ.set b (.cells #[.slice p n c, .int .i64 i] 381 (0, 0))) := by
   intro d
   induction d with
   | zero =>
     intro k acc hd hk O1 ha
     have : k = 4 := by omega
     subst this
     rw [List.take_take, Nat.min_self] at ha
     rw [ha]; exact fin
   | succ d ih =>
     intro k acc hd hk O1 ha
     refine BW.GS ⟨fun _ => ?_, fun hh => by omega⟩
     obtain ⟨y, hy⟩ := h4.ex (k := k) (by omega)
     obtain ⟨b2, o2, hp, hl⟩ := h4.at hy
     have hy8 := h48 y (List.mem_of_getElem? hy)
     obtain ⟨cc, rfl⟩ : ∃ cc : Nat, y = cc := ⟨y.toNat, by omega⟩
     refine ⟨b2, o2, hp, by omega, cc, by simpa using hl, by simp [IntKind.bits], fun w7 lB Zf h45 ef h46 => ⟨by unfold AN; omega, ?_⟩⟩
     subst lB h45 h46
     have AEI : acc < 16777216 := Nat.lt_of_lt_of_le O1 (Nat.le_trans (Nat.pow_le_pow_right (by decide) (show k ≤ 3 by omega)) (by decide))
     rw [qf AEI (by omega), show aD b2 o2 = _ from hp.symm]
     refine ih (k + 1) (acc * 256 + cc) (by omega) (by omega) (by rw [Nat.pow_succ]; omega) ?_
     rw [AO hy, k8, List.foldl_append, ← k8, ← ha]
     simp
 exact step 4 0 0 rfl (by omega) (by decide) rfl
theorem Mk {i : Nat} {p : Option Addr} {n c : Nat} {bs : List Int} (hr : B9 .u8 σ p n bs) (h8 : E6 bs) (hc : n ≤ c) (hi : i ≤ n)
   (Aq : ∀ r, Ib bs i r → ∀ p' c' σ', AR .u8 (σ.new σ') p' r.length c' r → Ext σ σ' → R (.returned (.tuple #[.slice p' r.length c', .int .i64 (i + (frame r).length : Nat), .int .i64 0])) σ')
   (Qb : (∀ r, ¬ Ib bs i r) → ∀ σ' (code : Int), code ≠ 0 → Ext σ σ' → R (.returned (.tuple #[.slice none 0 0, .int .i64 0, .int .i64 code])) σ') :
   Spec prog 320 #[.slice p n c, .int .i64 i] σ R := by
 have fN : bs.length = n := hr.1
 refine LL.start fun b hb => ?_
 have hx : ∀ k : Int, Ext σ (σ.set b (.cells #[.slice p n c, .int .i64 k] 381 (0, 0))) := fun k => .set hb
 refine QN.start ⟨_, _, _, rfl, AEG, ?_⟩
 simp only [Array.append_empty]
 refine GM.start ⟨b, 0, rfl, p, n, c, AD (Hp.AA _ _ _) rfl, i, AD (Hp.AA _ _ _) rfl, Kb (hr.mono (hx i)) h8 hi ⟨fun BX code TH => ⟨0, 0, code, rfl, ?_⟩, fun v hv => ⟨v, _, 0, rfl, ?_⟩⟩⟩
 · refine AJ.store (v := .int .i64 0) HW (Hp.AA _ _ _) rfl (by simp) (by simp [Value.cells, Value.oneCell']) ?_
   rw [Hp.set_set]
   refine ⟨fun _ => ⟨_, _, rfl, fun _ => ⟨_, _, _, _, rfl, fun _ => Qb (fun r hf => BX _ hf.uv) _ code TH (hx 0), fun h => absurd TH h⟩, fun h => absurd TH h⟩, fun h => absurd TH h⟩
 · refine AJ.store (v := .int .i64 ((i + (uv v).length : Nat) : Int)) HW (Hp.AA _ _ _) rfl (by simp) (by simp [Value.cells, Value.oneCell']) ?_
   rw [Hp.set_set]
   have hw : DT #[Value.slice p n c, .int .i64 i] (0 + 1) (Value.int .i64 ((i + (uv v).length : Nat) : Int)).cells.toList = #[.slice p n c, .int .i64 ((i + (uv v).length : Nat) : Int)] := rfl
   rw [hw]
   have hto : i + (uv v).length ≤ n := by
     obtain ⟨_, rest, h2⟩ := hv
     have := congrArg List.length h2
     rw [List.length_append, List.length_drop] at this
     rw [← fN]
     rcases Nat.lt_or_ge i bs.length with h | h
     · omega
     · have := QZ v; omega
   refine ⟨fun h => absurd rfl h, fun _ => ⟨fun FV => ⟨_, _, rfl, fun _ => ⟨_, _, _, _, rfl, fun _ => Qb (fun r hf => ?_) _ 23 (by decide) (hx _), fun h => absurd (by decide) h⟩, fun h => absurd (by decide) h⟩, fun Ky sk h32 => ?_⟩⟩
   · have := hv.uniq hf.uv
     have := hf.1
     omega
   · have e32 : sk = (v : Int) := by rw [h32]; simp [IntKind.wrap, IntKind.bits, IntKind.signed]; omega
     subst e32
     refine ⟨_, _, rfl, fun h => absurd rfl h, fun _ => ⟨_, _, _, rfl, AEH, ?_⟩⟩
     have hle : v ≤ 65536 := by omega
     have dD : ∀ r, Ib bs i r → r.length = v := fun r hf => (hv.uniq hf.uv).symm
     simp only [Array.append_empty]
     refine XE hb hr h8 hc hto hle (fun hs σ' Ci => ⟨_, _, _, _, rfl, _, _, _, _, rfl, fun _ => Qb (fun r hf => ?_) σ' 20 (by decide) Ci, fun h => absurd (by decide) h⟩) (fun DX Ae σ' Ci => ⟨_, _, _, _, rfl, _, _, _, _, rfl, fun _ => Qb (fun r hf => ?_) σ' 22 (by decide) Ci, fun h => absurd (by decide) h⟩)
       fun DX heq p' c' σ' ho Ci => ⟨_, _, _, _, rfl, _, _, _, _, rfl, fun h => absurd rfl h, fun _ => ⟨_, AD (Ci _ _ (Hp.AA _ _ _)) rfl, ?_⟩⟩
     · have := dD r hf
       rcases hf.parts with ⟨_, _, h3⟩ | h3
       · rw [this] at h3; omega
       · have := hf.lt; omega
     · have := dD r hf
       rcases hf.parts with ⟨h1, h2, h3⟩ | h3
       · rw [this] at h1 h2
         rw [h2, h1, qg (TG r)] at Ae
         exact Ae rfl
       · have := hf.lt; omega
     · have hf := Ib.of h8 hv hle (by omega) heq
       have dA : ((bs.drop (i + (uv v).length + 4)).take v).length = v := by rw [List.length_take, List.length_drop]; omega
       have := Aq _ hf p' c' σ' (by rw [dA]; exact ho) ((hx _).trans Ci)
       rw [Ee, dA] at this
       rw [show i + (uv v).length + 4 + v = i + ((uv v).length + 4 + v) by omega]
       exact this
end
end TwW
end
section
namespace TwW
open Go Tw Go.Proofs.Tryz
def Rf (σ : Hp) (vs : List Value) (x : List Int) : Prop := ∃ p n c, vs = [.slice p n c] ∧ n ≤ c ∧ B9 .u8 σ p n x
theorem Rf.mono : Oq Rf := fun _ _ _ _ h ⟨p, n, c, h1, h2, h3⟩ => ⟨p, n, c, h1, h2, h3.mono h⟩
abbrev Jj := Fi 1 Rf
abbrev Ic := A3 1 Rf
theorem Jj.mono {σ σ' : Hp} (h : Ext σ σ') {p : Option Addr} {n : Nat} {xs : List (List Int)} (hr : Jj σ p n xs) : Jj σ' p n xs := Fi.mono Rf.mono h hr
theorem Jj.at {σ : Hp} {p : Option Addr} {n i : Nat} {xs : List (List Int)} {x : List Int} (hr : Jj σ p n xs) (hx : xs[i]? = some x) : ∃ b o p' n' c', p = some ⟨b, o, none⟩ ∧ σ.ld ⟨b, o + i * 1, none⟩ = some (.slice p' n' c') ∧ n' ≤ c' ∧ B9 .u8 σ p' n' x := by
 obtain ⟨b, o, vs, hp, ⟨p', n', c', rfl, h2, h3⟩, hl⟩ := Fi.idx hr hx
 exact ⟨b, o, p', n', c', hp, hl.1, h2, h3⟩
def AU (rs : List (List Int)) : List Int := rs.flatMap frame
theorem TI : AU [] = [] := rfl
theorem B2 (r : List Int) (rs : List (List Int)) : AU (r :: rs) = frame r ++ AU rs := by simp [AU]
theorem E2 (rs ss : List (List Int)) : AU (rs ++ ss) = AU rs ++ AU ss := by simp [AU]
def fk (t : List Int) : Prop := ∀ r, ¬ Ib t 0 r
theorem EK : fk [] := fun r h => by have := h.lt; simp at this
abbrev Ml (rs : List (List Int)) : Prop := ∀ r ∈ rs, r.length ≤ 65536
theorem Ib.here {bs : List Int} {i : Nat} {r rest : List Int} (h : r.length ≤ 65536) (hd : bs.drop i = frame r ++ rest) : Ib bs i r := ⟨h, rest, hd⟩
theorem Ib.uniq {bs : List Int} {i : Nat} {r s : List Int} (h : Ib bs i r) (g : Ib bs i s) : r = s := by
 have hl := h.uv.uniq g.uv
 rcases h.parts with ⟨_, h2, _⟩ | h3
 · rcases g.parts with ⟨_, g2, _⟩ | g3
   · rw [← hl] at g2; exact h2.symm.trans g2
   · have := h.lt; omega
 · have := h.lt; omega
section
variable {σ : Hp} {R : Rr}
theorem OT {p : Option Addr} {n c : Nat} {bs t : List Int} {Bi : List (List Int)} (hr : B9 .u8 σ p n bs) (h8 : E6 bs) (hc : n ≤ c) (hn : n ≤ 4194304) (iX : bs = AU Bi ++ t) (hs : Ml Bi) (ht : fk t)
   (h : ∀ p' n' c' σ', Ic (σ.new σ') p' n' c' Bi → Ext σ σ' → R (.returned (.tuple #[.slice p' n' c', .bool (decide (t ≠ []))])) σ') : Spec prog 302 #[.slice p n c] σ R := by
 have fN : bs.length = n := hr.1
 refine Gz.start ?_
 have hle : ∀ rs : List (List Int), rs.length ≤ (AU rs).length := fun rs => by
   induction rs with
   | nil => simp
   | cons r rs ih => rw [B2, List.length_append, Ee]; simp; omega
 suffices H : ∀ (d : List (List Int)) (k : List (List Int)) (p' : Option Addr) (n' c' : Nat) (σ' : Hp), Bi = k ++ d → Ic (σ.new σ') p' n' c' k → Ext σ σ' → Gz.Bu R p n c p' n' c' ((AU k).length : Nat) σ' from
   H Bi [] none 0 0 σ rfl A3.nil (Ext.refl _)
 intro d
 induction d with
 | nil =>
   intro k p' n' c' σ' hk ho hx
   rw [List.append_nil] at hk
   subst hk
   refine Gz.BF ⟨fun he => ?_, fun Ae => ?_⟩
   · have : t = [] := by
       have h1 := congrArg List.length iX
       rw [List.length_append] at h1
       exact List.eq_nil_of_length_eq_zero (by omega)
     subst this
     simpa using h p' n' c' σ' ho hx
   · have h1 := congrArg List.length iX
     rw [List.length_append] at h1
     have htn : t ≠ [] := fun e => by subst e; simp at h1; omega
     have hdr : bs.drop (AU Bi).length = t := by rw [iX, List.drop_left]
     refine Mk (hr.mono hx) h8 hc (by omega) (fun r hf => absurd ?_ (ht r)) (fun _ σ2 code TH Ay => ⟨_, _, _, _, _, rfl, fun _ => ?_, fun hh => absurd TH hh⟩)
     · obtain ⟨g1, rest, g2⟩ := hf
       exact ⟨g1, rest, by rw [List.drop_zero, ← hdr, g2]⟩
     · have := h p' n' c' σ2 (A3.mono Rf.mono (Ext.BN Ay) ho) (hx.trans Ay)
       simpa [htn] using this
 | cons r d ih =>
   intro k p' n' c' σ' hk ho hx
   have h1 := congrArg List.length iX
   rw [hk, List.length_append, E2, List.length_append, B2, List.length_append, Ee] at h1
   have dA : r.length ≤ 65536 := hs r (by rw [hk]; simp)
   have Vb : Ib bs (AU k).length r := Ib.here (rest := AU d ++ t) dA (by rw [iX, hk, E2, B2, List.append_assoc, List.drop_left, List.append_assoc])
   have iC := hle k
   have Pd : k.length = n' := ho.1
   refine Gz.BF ⟨fun he => by omega, fun _ => ?_⟩
   refine Mk (hr.mono hx) h8 hc (by omega) (fun r' hf p2 c2 σ2 Bt Ay => ⟨_, _, _, _, _, rfl, fun hh => absurd rfl hh, fun _ PQ Up => ?_⟩) (fun BX => absurd Vb (BX r))
   have := hf.uniq Vb
   subst this
   have C6 := hx.trans Ay
   have Dq : Ic (σ.new σ2) p' n' c' k := A3.mono Rf.mono (Ext.BN Ay) ho
   have HD : ∀ a, p' = some a → σ' a.block ≠ none := fun a ha e => ho.block a ha (by
     cases hh : (σ.new σ') a.block with
     | none => rfl
     | some o => rw [(AS.1 hh).2] at e; cases e)
   refine A3.H7 (T := 165) Rf.mono C6 Dq rfl (fun u hu => by simp at hu; subst hu; rfl) (x := r') ⟨p2, r'.length, c2, rfl, Own.cap Bt, (AR.rd Bt).mono ?_⟩ (by omega) (fun p3 c3 σ3 OS LW => ⟨p3, _, c3, rfl, ?_⟩) Up
   · exact Ext.Gj hx HD
   · have := ih (k ++ [r']) p3 (n' + 1) c3 σ3 (by rw [hk]; simp) OS LW
     rw [E2, B2, TI, List.append_nil, List.length_append] at this
     exact this
theorem fm {p : Option Addr} {n c : Nat} {Bi : List (List Int)} (hr : Jj σ p n Bi) (hs : Ml Bi) (hb : (AU Bi).length ≤ 70368744177664)
   (h : ∀ p' n' c' σ', AR .u8 (σ.new σ') p' n' c' (AU Bi) → Ext σ σ' → R (.returned (.slice p' n' c')) σ') : Spec prog 230 #[.slice p n c] σ R := by
 refine KD.start ?_
 have hln : Bi.length = n := hr.1
 suffices H : ∀ (d k : Nat) (p' : Option Addr) (n' c' : Nat) (σ' : Hp), n - k = d → k ≤ n → AR .u8 (σ.new σ') p' n' c' (AU (Bi.take k)) → Ext σ σ' → KD.A4 R p' n' c' p n c n k σ' from H n 0 none 0 0 σ rfl (by omega) Own.nil (Ext.refl _)
 intro d
 induction d with
 | zero =>
   intro k p' n' c' σ' hd hk ho hx
   rw [List.take_of_length_le (by omega)] at ho
   exact KD.AW ⟨fun hh => by omega, fun _ => h p' n' c' σ' ho hx⟩
 | succ d ih =>
   intro k p' n' c' σ' hd hk ho hx
   refine KD.AW ⟨fun _ => ?_, fun hh => by omega⟩
   obtain ⟨x, R0⟩ := hr.ex (k := k) (by omega)
   obtain ⟨b, o, p2, n2, c2, rfl, hl, T4, HJ⟩ := hr.at R0
   have Rg : x.length ≤ 65536 := hs x (List.mem_of_getElem? R0)
   have O6 : x.length = n2 := HJ.1
   refine ⟨b, o, rfl, by omega, p2, n2, c2, by simpa using hx.ld hl, Qa (HJ.mono hx) (fun hh => by omega) fun _ p3 n3 c3 σ3 Dq C6 => ⟨p3, n3, c3, 0, rfl, ?_⟩⟩
   have e1 : AU (Bi.take (k + 1)) = AU (Bi.take k) ++ frame x := by rw [AO R0, E2, B2, TI, List.append_nil]
   have hlen : (AU (Bi.take (k + 1))).length ≤ 70368744177664 := by
     refine Nat.le_trans ?_ hb
     have : AU Bi = AU (Bi.take (k + 1)) ++ AU (Bi.drop (k + 1)) := by rw [← E2, List.take_append_drop]
     rw [this, List.length_append]; omega
   rw [e1, List.length_append] at hlen
   have SH := ho.1
   have hl3 := Dq.1
   simp at SH hl3
   have OS : AR .u8 (σ.new σ3) p' n' c' (AU (Bi.take k)) := ho.mono (Ext.BN C6)
   refine Dt (T := 84) (hx.trans C6) OS ((GP.of_map (AR.rd Dq)).mono (Ext.Af _ _)) CR.Cj (by omega) fun p4 c4 σ4 dE OU _ => ⟨p4, _, c4, rfl, Aa (by omega) hr.big, ?_⟩
   refine ih (k + 1) p4 _ c4 σ4 (by omega) (by omega) ?_ OU
   rw [e1]
   unfold AR
   rw [List.map_append]
   exact dE
end
end TwW
end
section
namespace TwW
open Go Tw Go.RowKit Go.Proofs.Tryz
section
variable {P : Program} {f : FuncId} {args : Array Value} {σ : Hp} {R : Rr} {v : Value}
theorem Spec.below (h : ∀ w, Sat σ w → Calls P f args w fun e w' => e = .returned v ∧ Below w.heap.size w w') (hR : R (.returned v) σ) : Spec P f args σ R := fun w F hs hF =>
 (h w hs).mono fun e w' ⟨he, hb⟩ => ⟨σ, he ▸ hR, fun b o ho => by
   have h1 := hs b o ho
   rw [hb.block b (Array.getElem?_eq_some_iff.1 h1).1]; exact h1, fun b hFb => ⟨(hF b hFb).2, hb.block b (hF b hFb).1⟩, ⟨hb.os, hb.tape, fun h => h.elim⟩, hb.output, hb.size⟩
theorem Spec.same (h : ∀ w, Sat σ w → Calls P f args w fun e w' => e = .returned v ∧ w' = w) (hR : R (.returned v) σ) : Spec P f args σ R :=
 Spec.below (fun w hs => (h w hs).mono fun e w' ⟨he, hw⟩ => ⟨he, hw ▸ Below.refl _ _⟩) hR
end
def Tb (σ : Hp) : Prop := ∃ g T fr, prog.globalNamed "internal/strconv.uint64pow10" = some g ∧ σ g = some (.cells (Lib.pow10Tab.map fun z => Value.int .u64 z).toArray T fr)
theorem Tb.mono {σ σ' : Hp} (h : Tb σ) (hx : Ext σ σ') : Tb σ' := let ⟨g, T, fr, h1, h2⟩ := h; ⟨g, T, fr, h1, hx _ _ h2⟩
theorem Tb.is {σ : Hp} (h : Tb σ) {w : World} (hs : Sat σ w) : Lib.TabIs prog w "internal/strconv.uint64pow10" .u64 Lib.pow10Tab := by
 obtain ⟨g, T, fr, h1, h2⟩ := h
 simp [Lib.TabIs, World.var?, h1, hs _ _ h2]
def strOf (xs : List Int) : ByteArray := ⟨(xs.map fun n => UInt8.ofNat n.toNat).toArray⟩
section
variable {σ : Hp} {R : Rr}
theorem F3 {p : Option Addr} {n c : Nat} {xs : List Int} {Φ : Value → Hp → Prop} (hr : B9 .u8 σ p n xs) (h : Φ (.string (strOfNums xs)) σ) : AJ prog (convert 84 9 (.slice p n c)) σ Φ := by
 refine AJ.pu (fun w hs => ?_) h
 have h1 := underlying84
 have h2 := underlying9
 by_cases hn : n = 0
 · subst hn
   have hx : xs = [] := List.eq_nil_of_length_eq_zero hr.1
   subst hx
   rw [run_convert_bytes_string w 84 9 _ p 0 c h1 underlying5 h2]
   cases p <;> simp [Conv.bytesToString, loadCells] <;> rfl
 · obtain ⟨x0, Z8⟩ := hr.ex (k := 0) (by omega)
   obtain ⟨b, o, rfl, _⟩ := hr.at Z8
   refine run_convert_bytes_arg w 84 _ h1 underlying5 b o n c xs hr.1 (fun i hi => ?_) 9 h2
   obtain ⟨x, hx⟩ := hr.ex hi
   obtain ⟨b', o', he, hl⟩ := hr.at hx
   cases he
   rw [List.getD_eq_getElem?_getD, hx]
   simpa using hs.ld hl
theorem XF (l : List UInt8) : strOfNums (l.map fun b => (b.toNat : Int)) = ⟨l.toArray⟩ := by
 apply ByteArray.ext
 apply Array.toList_inj.1
 rw [strOfNums_data, List.map_map]
 conv => rhs; rw [← List.map_id l]
 exact List.map_congr_left fun a _ => by simp
theorem yG : prog.underlying 290 = some (.array 24 5) := underlying290
theorem XG {b T u : Nat} (hb : σ b = none) (hu : u < 18446744073709551616) {c : Nat} (h : ∀ σ', Ext σ σ' → B9 .u8 σ' (some ⟨b, 0, none⟩) (Lib.nDigits u) ((Lib.decDigits u).map fun x => (x.toNat : Int)) → R (.returned (.tuple #[])) σ') :
   Spec prog 217 #[.slice (some ⟨b, 0, none⟩) (Lib.nDigits u) c, .int .u64 u] (σ.set b (.cells Lib.zeros24 T (0, 0))) R := fun w F hs hF => by
 have uL : Lib.nDigits u ≤ 20 := Lib.nDigits_le20 u hu
 have hw := hs b _ (Hp.AA _ _ _)
 let d : Array UInt8 := Array.replicate (Lib.nDigits u) 0
 have hH : Sort.Holds (fun (b : UInt8) => Value.int .u8 (b.toNat : Int)) w b 0 d := fun j hj => by
   have Tx : j < Lib.nDigits u := by simpa [d] using hj
   refine ⟨?_, by simp [World.frozen?, hw]⟩
   have : d[j]! = 0 := by simp [d, Tx]
   simp only [World.cell?, hw, this, Nat.zero_add]
   simpa using Lib.zeros24_at j (by omega)
 have Ho := Go.Proofs.Tryz.internal_strconv_formatBase10 b 0 c u d w hH (by simpa [d] using Lib.lt_pow_nDigits u) hu (by simp [d]; omega)
 rw [show d.size = Lib.nDigits u by simp [d]] at Ho
 refine Ho.mono ?_
 rintro e w' ⟨rfl, n, v', dk, rfl, hI⟩
 have EY : dk.size = Lib.nDigits u := hI.size
 have hblk : b < w.heap.size := (Array.getElem?_eq_some_iff.1 hw).1
 have DI : ∀ k, ((Sort.putRow (fun (b : UInt8) => Value.int .u8 (b.toNat : Int)) w b 0 dk).drewN n).heap[k]? = if b = k then (w.heap[k]?).map (Sort.onCells (Sort.putCells (fun (b : UInt8) => Value.int .u8 (b.toNat : Int)) 0 dk)) else w.heap[k]? := fun k => by
   simp only [Sort.putRow, Sort.mapBlock, World.drewN, Array.getElem?_modify]
 refine ⟨σ.set b (.cells (Sort.putCells (fun (b : UInt8) => Value.int .u8 (b.toNat : Int)) 0 dk Lib.zeros24) T (0, 0)), h _ (.set hb) ?_, fun k o hk => ?_, fun k hk => ?_, ⟨rfl, rfl, fun _ => ⟨n, rfl⟩⟩, rfl, by simp [Sort.putRow, Sort.mapBlock, World.drewN]⟩
 · have hlen : (Lib.decDigits u).length = Lib.nDigits u := Lib.decDigits_length u
   refine B9.Lg ⟨by simp [hlen], by omega, .inr ⟨b, 0, rfl, Dn.of fun j x hx => AD (Hp.AA _ _ _) ?_⟩⟩
   have hj : j < (Lib.decDigits u).length := by
     have := (List.getElem?_eq_some_iff.1 hx).1
     simpa using this
   rw [E0, if_pos (by omega), Nat.zero_add, Lib.zeros24_at j (by omega), Nat.sub_zero, ← Lib.row_is_numeral hI j hj]
   simp [hj] at hx ⊢
   exact hx
 · rw [DI]
   by_cases C5 : k = b
   · subst C5
     rw [Hp.AA] at hk; cases hk
     rw [if_pos rfl, hw]; rfl
   · rw [Hp.AH C5] at hk
     rw [if_neg (Ne.symm C5)]
     exact hs k o (by rw [Hp.AH C5]; exact hk)
 · have C5 : k ≠ b := fun e => by have := (hF k hk).2; rw [e, Hp.AA] at this; cases this
   refine ⟨by rw [Hp.AH C5]; have := (hF k hk).2; rwa [Hp.AH C5] at this, ?_⟩
   rw [DI, if_neg (Ne.symm C5)]
theorem uM {b k : Nat} (hk : k ≤ 24) {τ : Hp} : YF prog (Instr.sliceAt 290 (.pointer (some ⟨b, 0, none⟩)) none (some (.int .i64 (k : Int))) none) τ (.slice (some ⟨b, 0, none⟩) k 24) := fun w _ => by
 have h5 : ∀ w, (Go.sizeOf 5).run prog w = .ok 1 w := fun w => by
   have h : prog.info? 5 = some t5 := by kernel_rfl
   simp [Go.sizeOf, typeInfo, h, show t5.size = 1 from rfl]
 have nw : (k : Int) ≤ 24 := by omega
 simp [Instr.sliceAt, run_underlying yG, Instr.sliceBounds, run_sliceBound, nw, Instr.slice, Result.andThen, h5, Instr.sureAddr, Addr.add]
theorem fp {u : Nat} (hu : u < 9223372036854775808) (ht : Tb σ) (h : ∀ σ', Ext σ σ' → R (.returned (.string ⟨(Lib.decDigits u).toArray⟩)) σ') : Spec prog 58 #[.int .u64 u, .int .i64 10] σ R := by
 refine G1.start (Da.start ⟨fun _ => ⟨fun hs FD h14 => ?_, fun hb b5 Wu => ?_⟩, fun hh => absurd rfl hh⟩)
 · have e14 : FD = (u : Int) := by rw [h14]; simp [IntKind.wrap, IntKind.bits, IntKind.signed]; omega
   subst e14
   exact Spec.same (fun w _ => Go.Proofs.Tryz.internal_strconv_small u (by omega) w) ⟨_, rfl, _, rfl, h σ (Ext.refl _)⟩
 · have hx : Ext σ (σ.set b5 (.cells Lib.zeros24 290 (0, 0))) := .set Wu
   refine Spec.same (fun w hs => Go.Proofs.Tryz.internal_strconv_numDigits u (by omega) (by omega) w ((ht.mono hx).is hs)) ⟨_, rfl, some ⟨b5, 0, none⟩, Lib.nDigits u, 24, ?_, ?_⟩
   · exact uM (by have := Lib.nDigits_le20 u (by omega); omega)
   · refine XG Wu (by omega) fun σ' Ci hr => ⟨rfl, some ⟨b5, 0, none⟩, Lib.nDigits u, 24, ?_, F3 hr ⟨_, rfl, _, rfl, ?_⟩⟩
     · exact uM (by have := Lib.nDigits_le20 u (by omega); omega)
     · rw [XF]; exact h σ' Ci
end
def DQ (b : UInt8) : Bool := decide (48 ≤ b.toNat) && decide (b.toNat ≤ 57)
def Kq (a : Nat) (l : List UInt8) : Nat := l.foldl (fun a b => a * 10 + (b.toNat - 48)) a
theorem Dj (a : Nat) (b : UInt8) (l : List UInt8) : Kq a (b :: l) = Kq (a * 10 + (b.toNat - 48)) l := by unfold Kq; rw [List.foldl_cons]
theorem Qc (a : Nat) (l m : List UInt8) : Kq a (l ++ m) = Kq (Kq a l) m := by simp [Kq, List.foldl_append]
theorem fq (k : Nat) : Kq 0 (List.replicate k 48) = 0 := by
 induction k with
 | zero => rfl
 | succ k ih =>
   rw [List.replicate_succ, Dj]
   have e : 0 * 10 + ((48 : UInt8).toNat - 48) = 0 := by decide
   rw [e, ih]
theorem FW : ∀ (l : List UInt8) (a : Nat), Kq a l = a * 10 ^ l.length + Kq 0 l
 | [], a => by simp [Kq]
 | b :: l, a => by
   rw [Dj, Dj, FW l, FW l (0 * 10 + (b.toNat - 48)), List.length_cons, Nat.pow_succ, Nat.add_mul, Nat.zero_mul, Nat.zero_add, Nat.mul_assoc, Nat.mul_comm 10, Nat.add_assoc]
theorem Qd : ∀ (l : List UInt8), l.all DQ = true → Kq 0 l < 10 ^ l.length
 | [], _ => by simp [Kq]
 | b :: l, h => by
   simp only [List.all_cons, Bool.and_eq_true] at h
   have h1 := Qd l h.2
   have hb : b.toNat - 48 ≤ 9 := by have := h.1; simp [DQ] at this; omega
   rw [Dj, FW, List.length_cons, Nat.pow_succ, Nat.zero_mul, Nat.zero_add]
   have : (b.toNat - 48) * 10 ^ l.length ≤ 9 * 10 ^ l.length := Nat.mul_le_mul_right _ hb
   omega
theorem lC : ∀ (l m : List UInt8), l.length = m.length → l.all DQ = true → m.all DQ = true → Kq 0 l = Kq 0 m → l = m
 | [], [], _, _, _, _ => rfl
 | b :: l, c :: m, hl, h, g, he => by
   simp only [List.length_cons, Nat.succ.injEq] at hl
   simp only [List.all_cons, Bool.and_eq_true] at h g
   rw [Dj, Dj, FW, FW m, hl, Nat.zero_mul, Nat.zero_add, Nat.zero_add] at he
   have h1 := Qd l h.2
   have h2 := Qd m g.2
   rw [hl] at h1
   have hb := h.1
   have hc := g.1
   simp [DQ] at hb hc
   have hp : 0 < 10 ^ m.length := Nat.pow_pos (by decide)
   have e1 : b.toNat - 48 = c.toNat - 48 := by
     have d1 : ((b.toNat - 48) * 10 ^ m.length + Kq 0 l) / 10 ^ m.length = b.toNat - 48 := by
       rw [Nat.mul_comm, Nat.mul_add_div hp, Nat.div_eq_of_lt h1, Nat.add_zero]
     have d2 : ((c.toNat - 48) * 10 ^ m.length + Kq 0 m) / 10 ^ m.length = c.toNat - 48 := by
       rw [Nat.mul_comm, Nat.mul_add_div hp, Nat.div_eq_of_lt h2, Nat.add_zero]
     rw [← d1, ← d2, he]
   have e2 : Kq 0 l = Kq 0 m := by rw [e1] at he; omega
   have e3 : b = c := UInt8.toNat_inj.1 (by omega)
   rw [e3, lC l m hl h.2 g.2 e2]
theorem uN : ∀ (l m : List UInt8), l.length = m.length → l.all DQ = true → m.all DQ = true → l ≤ m → Kq 0 l ≤ Kq 0 m
 | [], [], _, _, _, _ => Nat.le_refl _
 | b :: l, c :: m, hl, h, g, he => by
   simp only [List.length_cons, Nat.succ.injEq] at hl
   simp only [List.all_cons, Bool.and_eq_true] at h g
   rw [Dj, Dj, FW, FW m, hl, Nat.zero_mul, Nat.zero_add, Nat.zero_add]
   have h1 := Qd l h.2
   rw [hl] at h1
   have hb := h.1
   have hc := g.1
   simp [DQ] at hb hc
   rcases List.cons_le_cons_iff.1 he with Ag | ⟨rfl, hle⟩
   · have Qe : b.toNat < c.toNat := UInt8.lt_iff_toNat_lt.1 Ag
     have : (b.toNat - 48 + 1) * 10 ^ m.length ≤ (c.toNat - 48) * 10 ^ m.length := Nat.mul_le_mul_right _ (by omega)
     rw [Nat.add_mul] at this
     omega
   · have := uN l m hl h.2 g.2 hle
     omega
theorem lD {d : Nat} (h : d < 10) : DQ (UInt8.ofNat (48 + d)) = true ∧ (UInt8.ofNat (48 + d)).toNat - 48 = d := by
 have : (UInt8.ofNat (48 + d)).toNat = 48 + d := by rw [UInt8.toNat_ofNat']; omega
 simp [DQ, this]; omega
theorem Us (u : Nat) : (Lib.decDigits u).all DQ = true ∧ Kq 0 (Lib.decDigits u) = u := by
 induction u using Nat.strongRecOn with
 | _ u ih =>
   rw [Lib.decDigits]
   by_cases h : u < 10
   · rw [dif_pos h]
     have := lD h
     refine ⟨by rw [List.all_cons, this.1]; rfl, ?_⟩
     rw [Dj, this.2]; simp [Kq]
   · rw [dif_neg h]
     have h1 := ih (u / 10) (by omega)
     have h2 := lD (show u % 10 < 10 by omega)
     rw [List.all_append, h1.1, Qc, h1.2]
     refine ⟨by rw [List.all_cons, h2.1]; rfl, ?_⟩
     rw [Dj, h2.2]; simp only [Kq, List.foldl_nil]; omega
def Jk (u : Nat) : List UInt8 := List.replicate (8 - (Lib.decDigits u).length) 48 ++ Lib.decDigits u
theorem dF {u : Nat} (h : u < 100000000) : (Lib.decDigits u).length ≤ 8 := by
 rw [Lib.decDigits_length]
 rcases Nat.lt_or_ge 8 (Lib.nDigits u) with h1 | h1
 · exfalso
   have hd := Us u
   have : ∀ (k : Nat) (v : Nat), v < 10 ^ k → 0 < k → Lib.nDigits v ≤ k := by
     intro k
     induction k with
     | zero => intro v _ h; omega
     | succ k ih =>
       intro v hv _
       by_cases qj : v < 10
       · rw [Lib.nDigits_small qj]; omega
       · rw [Lib.nDigits_big qj]
         have hk : 0 < k := by
           rcases Nat.eq_zero_or_pos k with rfl | hk
           · simp at hv; omega
           · exact hk
         have := ih (v / 10) (by rw [Nat.div_lt_iff_lt_mul (by decide)]; rw [Nat.pow_succ] at hv; exact hv) hk
         omega
   have := this 8 u (by omega) (by decide)
   omega
 · exact h1
theorem Ie {u : Nat} (h : u < 100000000) : (Jk u).length = 8 := by
 have := dF h
 simp [Jk]; omega
theorem KG (u : Nat) : (Jk u).all DQ = true := by
 rw [Jk, List.all_append, (Us u).1, Bool.and_true]
 rw [List.all_eq_true]
 intro x hx
 rw [List.eq_of_mem_replicate hx]; rfl
theorem Mm (u : Nat) : Kq 0 (Jk u) = u := by rw [Jk, Qc, fq, (Us u).2]
theorem ql {l : List UInt8} (hl : l.length = 8) (hd : l.all DQ = true) : Jk (Kq 0 l) = l ∧ Kq 0 l < 100000000 := by
 have Ag := Qd l hd
 rw [hl] at Ag
 have Qe : Kq 0 l < 100000000 := by omega
 exact ⟨lC _ _ (by rw [Ie Qe, hl]) (KG _) hd (Mm _), Qe⟩
theorem dG (c : Nat) : Lib.repeatL [48] c = List.replicate c 48 := by
 induction c with
 | zero => rfl
 | succ c ih => rw [Lib.repeatL, ih, List.replicate_succ]; rfl
section
variable {σ : Hp} {R : Rr}
theorem lE {u : Nat} (hu : u < 100000000) (ht : Tb σ) (h : ∀ σ', Ext σ σ' → R (.returned (.string ⟨(Jk u).toArray⟩)) σ') : Spec prog 226 #[.int .u64 u, .int .i64 8] σ R := by
 have hl := dF hu
 refine QJ.start (fp (by omega) ht fun σ' hx => ⟨_, rfl, OF.start ⟨?_, ?_⟩⟩)
 · have : (ByteArray.size ⟨(Lib.decDigits u).toArray⟩) = (Lib.decDigits u).length := by simp [ByteArray.size]
   rw [this]; unfold AN; omega
 · have e1 : (ByteArray.size ⟨(Lib.decDigits u).toArray⟩) = (Lib.decDigits u).length := by simp [ByteArray.size]
   rw [e1]
   have e2 : (if (8 - ((Lib.decDigits u).length : Int)) < 0 then (0 : Int) else 8 - ((Lib.decDigits u).length : Int)) = ((8 - (Lib.decDigits u).length : Nat) : Int) := by split <;> omega
   rw [e2]
   refine Spec.below (fun w _ => Go.Proofs.Tryz.strings_Repeat ⟨#[48]⟩ (8 - (Lib.decDigits u).length) w (by omega) ?_) ⟨_, rfl, ?_, _, rfl, ?_⟩
   · have : ByteArray.size ⟨#[48]⟩ = 1 := rfl
     rw [this]; omega
   · have : ByteArray.size ⟨(Lib.repeatL (ByteArray.mk #[48]).data.toList (8 - (Lib.decDigits u).length)).toArray⟩ = 8 - (Lib.decDigits u).length := by
       show (List.toArray (Lib.repeatL [48] _)).size = _
       rw [dG]; simp
     rw [this]; omega
   · have : (⟨(Lib.repeatL (ByteArray.mk #[48]).data.toList (8 - (Lib.decDigits u).length)).toArray⟩ ++ ⟨(Lib.decDigits u).toArray⟩ : ByteArray) = ⟨(Jk u).toArray⟩ := by
       apply ByteArray.ext
       show _ = (Jk u).toArray
       rw [ByteArray.data_append]
       show (List.toArray (Lib.repeatL [48] _)) ++ _ = _
       rw [dG, Jk]; simp
     rw [this]; exact h σ' hx
end
end TwW
end
section
namespace TwW
open Go Tw Go.RowKit Go.Proofs.Tryz
def Ce : ByteArray := ⟨#[47]⟩
def kc : ByteArray := ⟨#[99]⟩
def ks : ByteArray := ⟨#[115]⟩
def cat (dir kind : ByteArray) : ByteArray := dir ++ Ce ++ kind
def AF (dir kind : ByteArray) (no : Nat) : ByteArray := cat dir kind ++ ⟨(Jk no).toArray⟩
def BC (dir : ByteArray) : ByteArray := dir ++ ⟨#[47, 110, 101, 119]⟩
def rest (s t : ByteArray) : List UInt8 := s.data.toList.drop t.size
def numOf (dir kind s : ByteArray) : Nat := if BR s (cat dir kind) = true ∧ (rest s (cat dir kind)).length = 8 ∧ (rest s (cat dir kind)).all DQ = true then Kq 0 (rest s (cat dir kind)) else 0
theorem C7 (a b : ByteArray) : (a ++ b).data.toList = a.data.toList ++ b.data.toList := by rw [ByteArray.data_append, Array.toList_append]
theorem lF {a b : ByteArray} (h : a.data.toList = b.data.toList) : a = b := ByteArray.ext (Array.toList_inj.1 h)
theorem KH (dir kind : ByteArray) : (cat dir kind).data.toList = dir.data.toList ++ 47 :: kind.data.toList := by
 rw [cat, C7, C7]; simp [Ce]
theorem Cc (dir kind : ByteArray) (no : Nat) : (AF dir kind no).data.toList = (cat dir kind).data.toList ++ Jk no := by rw [AF, C7]
theorem Ig (s : ByteArray) : s.size = s.data.toList.length := rfl
theorem Ut (dir kind : ByteArray) (no : Nat) : BR (AF dir kind no) (cat dir kind) = true ∧ rest (AF dir kind no) (cat dir kind) = Jk no := by
 refine ⟨?_, ?_⟩
 · rw [BR, Cc]; simp
 · rw [rest, Cc, Ig, List.drop_left]
theorem Bq {dir kind : ByteArray} {no : Nat} (h : no < 100000000) : numOf dir kind (AF dir kind no) = no := by
 have h1 := Ut dir kind no
 rw [numOf, h1.1, h1.2, if_pos ⟨rfl, Ie h, KG no⟩, Mm]
theorem Dz {dir kind s : ByteArray} (h : 0 < numOf dir kind s) : s = AF dir kind (numOf dir kind s) ∧ numOf dir kind s < 100000000 := by
 unfold numOf at h ⊢
 split at h
 · rename_i hc
   rw [if_pos hc]
   have h8 := ql hc.2.1 hc.2.2
   refine ⟨lF ?_, h8.2⟩
   rw [Cc, h8.1]
   have hp : (cat dir kind).data.toList <+: s.data.toList := by simpa [BR] using hc.1
   obtain ⟨t, ht⟩ := hp
   rw [rest, ← ht, Ig, List.drop_left]
 · omega
theorem Ef {dir kind : ByteArray} {a b : Nat} (ha : a < 100000000) (hb : b < 100000000) (h : AF dir kind a = AF dir kind b) : a = b := by
 rw [← Bq (dir := dir) (kind := kind) ha, h, Bq hb]
theorem BH {dir : ByteArray} {a b : Nat} : AF dir kc a ≠ AF dir ks b := fun h => by
 have := congrArg (fun s : ByteArray => s.data.toList) h
 simp only [Cc, KH, List.append_assoc, List.append_cancel_left_eq] at this
 simp [kc, ks] at this
theorem Bj {dir kind : ByteArray} {a : Nat} (hk : kind = kc ∨ kind = ks) : BC dir ≠ AF dir kind a := fun h => by
 have := congrArg (fun s : ByteArray => s.data.toList) h
 simp only [BC, Cc, KH, C7, List.append_assoc, List.append_cancel_left_eq] at this
 rcases hk with rfl | rfl <;> simp [kc, ks] at this
theorem Ih {dir s : ByteArray} (h : 0 < numOf dir kc s) : numOf dir ks s = 0 := by
 rcases Nat.eq_zero_or_pos (numOf dir ks s) with h0 | h0
 · exact h0
 · exact absurd ((Dz h).1.symm.trans (Dz h0).1) BH
theorem Kc {dir kind : ByteArray} (hk : kind = kc ∨ kind = ks) : numOf dir kind (BC dir) = 0 := by
 rcases Nat.eq_zero_or_pos (numOf dir kind (BC dir)) with h0 | h0
 · exact h0
 · exact absurd (Dz h0).1 (Bj hk)
def CG (dir : ByteArray) : Bool := Ah dir && decide (dir.size ≤ 32)
theorem qm {b : UInt8} (h : DQ b = true) : fL b = true := by
 have h2 : (decide (48 ≤ b.toNat) && decide (b.toNat ≤ 57)) = true := h
 unfold fL
 rw [h2]; simp only [Bool.or_true, Bool.true_or]
theorem E3 {dir kind : ByteArray} {no : Nat} (hd : CG dir = true) (hk : kind = kc ∨ kind = ks) (hn : no < 100000000) : Ah (AF dir kind no) = true := by
 simp only [CG, Ah, Bool.and_eq_true, decide_eq_true_eq] at hd
 obtain ⟨⟨⟨h1, h2⟩, h3⟩, h4⟩ := hd
 have hl : (AF dir kind no).size = dir.size + 10 := by
   rw [Ig, Cc, KH, List.length_append, List.length_append, Ie hn, List.length_cons]
   rcases hk with rfl | rfl <;> rfl
 have ha : (AF dir kind no).data.toList.all fL = true := by
   rw [Cc, KH, List.all_append, List.all_append, h3]
   have hd : (Jk no).all fL = true := by
     have := KG no
     rw [List.all_eq_true] at this ⊢
     exact fun x hx => qm (this x hx)
   rw [hd]
   rcases hk with rfl | rfl <;> rfl
 simp only [Ah, ha, hl, Bool.and_true, Bool.and_eq_true, decide_eq_true_eq]
 omega
theorem qn {dir : ByteArray} (hd : CG dir = true) : Ah (BC dir) = true := by
 simp only [CG, Ah, Bool.and_eq_true, decide_eq_true_eq] at hd
 obtain ⟨⟨⟨h1, h2⟩, h3⟩, h4⟩ := hd
 have hl : (BC dir).size = dir.size + 4 := by rw [Ig, BC, C7, List.length_append]; rfl
 have ha : (BC dir).data.toList.all fL = true := by
   rw [BC, C7, List.all_append, h3]; rfl
 simp only [Ah, ha, hl, Bool.and_true, Bool.and_eq_true, decide_eq_true_eq]
 omega
section
variable {σ : Hp} {R : Rr}
theorem DG {b : Nat} {dir kind : ByteArray} {no : Nat} (hl : σ.ld ⟨b, 0 + 1, none⟩ = some (.string dir)) (hd : dir.size ≤ 32) (hk : kind = kc ∨ kind = ks) (hn : no < 100000000) (ht : Tb σ)
   (h : ∀ σ', Ext σ σ' → R (.returned (.string (AF dir kind no))) σ') : Spec prog 134 #[.pointer (some ⟨b, 0, none⟩), .string kind, .int .i64 no] σ R := by
 have XH : kind.size = 1 := by rcases hk with rfl | rfl <;> rfl
 have Re : (Ce).size = 1 := rfl
 refine MR.start ⟨b, 0, rfl, dir, hl, ?_, ?_, fun Hh h15 => ?_⟩
 · show dir.size + Ce.size ≤ _; rw [Re]; omega
 · rw [ByteArray.size_append, XH]; show dir.size + Ce.size + 1 ≤ _; rw [Re]; omega
 · have e15 : Hh = (no : Int) := by rw [h15]; simp [IntKind.wrap, IntKind.bits, IntKind.signed]; omega
   subst e15
   refine lE hn ht fun σ' hx => ⟨_, rfl, Kp.CA hx, ?_, ?_⟩
   · have : (ByteArray.size ⟨(Jk no).toArray⟩) = 8 := by
       show (Jk no).toArray.size = 8
       rw [List.size_toArray, Ie hn]
     rw [ByteArray.size_append, ByteArray.size_append, this, XH]; show dir.size + Ce.size + 1 + 8 ≤ _; rw [Re]; omega
   · exact h σ' hx
theorem Qf {b : Nat} {dir : ByteArray} (hl : σ.ld ⟨b, 0 + 1, none⟩ = some (.string dir)) (hd : dir.size ≤ 32) (h : R (.returned (.string (BC dir))) σ) : Spec prog 229 #[.pointer (some ⟨b, 0, none⟩)] σ R := by
 refine LN.start ⟨b, 0, rfl, dir, hl, ?_, h⟩
 have : ByteArray.size ⟨#[47, 110, 101, 119]⟩ = 4 := rfl
 rw [this]; omega
theorem OV : ∀ (l : List UInt8) (a : Nat), l.all DQ = true → Lib.decFrom a l = some (Kq a l)
 | [], a, _ => rfl
 | b :: l, a, h => by
   simp only [List.all_cons, Bool.and_eq_true] at h
   have hb := h.1
   simp [DQ] at hb
   rw [Lib.decFrom, Lib.digitVal, if_pos hb]
   simp only
   rw [OV l _ h.2, Dj]
theorem lG {l : List UInt8} (h0 : l ≠ []) (h : l.all DQ = true) : Lib.atoi l = some (Kq 0 l : Nat) := by
 match l, h0 with
 | b :: r, _ =>
   have hb := h
   simp only [List.all_cons, Bool.and_eq_true] at hb
   have hb := hb.1
   simp [DQ] at hb
   have n1 : (b == 45) = false := by
     rw [beq_eq_false_iff_ne]; intro e; subst e; simp at hb
   have n2 : (b == 43) = false := by
     rw [beq_eq_false_iff_ne]; intro e; subst e; simp at hb
   simp only [Lib.atoi, n1, n2, Lib.decNat, List.isEmpty_cons, OV _ 0 h]
   rfl
theorem KI {b : Nat} {dir kind s : ByteArray} (hl : σ.ld ⟨b, 0 + 1, none⟩ = some (.string dir)) (hd : dir.size ≤ 32) (hk : kind = kc ∨ kind = ks)
   (h : R (.returned (.int .i64 (numOf dir kind s))) σ) : Spec prog 257 #[.pointer (some ⟨b, 0, none⟩), .string kind, .string s] σ R := by
 have XH : kind.size = 1 := by rcases hk with rfl | rfl <;> rfl
 have Re : (Ce).size = 1 := rfl
 refine Cw.start ⟨b, 0, rfl, dir, hl, ?_, ?_, fY (fun hf => ⟨_, _, rfl, fun _ => ?_, fun hh => (by cases hh)⟩) fun ht => ⟨_, _, rfl, fun hh => (by cases hh), fun _ => ⟨fun h8 => ?_, fun h8 => ?_⟩⟩⟩
 · show dir.size + Ce.size ≤ _; rw [Re]; omega
 · rw [ByteArray.size_append, XH]; show dir.size + Ce.size + 1 ≤ _; rw [Re]; omega
 · have VZ : BR s (cat dir kind) = false := hf
   have : numOf dir kind s = 0 := by simp [numOf, VZ]
   rw [this] at h; exact h
 all_goals
   have ht' : BR s (cat dir kind) = true := ht
   have hr : (s.extract (cat dir kind).size s.size).data.toList = rest s (cat dir kind) := by
     rw [Ww, rest, List.take_of_length_le (by rw [List.length_drop]; exact Nat.le_refl _)]
   have EY : (s.extract (cat dir kind).size s.size).size = (rest s (cat dir kind)).length := by rw [Ig, hr]
 · have : numOf dir kind s = 0 := by
     have : (rest s (cat dir kind)).length ≠ 8 := fun e => h8 (by show ((s.extract (cat dir kind).size s.size).size : Int) = 8; rw [EY, e]; rfl)
     simp [numOf, this]
   rw [this] at h; exact h
 · have hlen : (rest s (cat dir kind)).length = 8 := by
     have : ¬ (((s.extract (cat dir kind).size s.size).size : Int) ≠ 8) := h8
     rw [EY] at this; omega
   show Cw.Ko R (s.extract (cat dir kind).size s.size) 0 σ
   generalize s.extract (cat dir kind).size s.size = t at hr EY
   have bad : (∃ (k : Nat) (u : UInt8), (rest s (cat dir kind))[k]? = some u ∧ DQ u = false) → R (.returned (.int .i64 0)) σ := fun ⟨k, u, hu, hdg⟩ => by
     have D3 : (rest s (cat dir kind)).all DQ = false := by
       rw [List.all_eq_false]
       exact ⟨u, List.mem_of_getElem? hu, by simp [hdg]⟩
     have : numOf dir kind s = 0 := by simp [numOf, D3]
     rw [this] at h; exact h
   suffices H : ∀ d k : Nat, 8 - k = d → k ≤ 8 → ((rest s (cat dir kind)).take k).all DQ = true → Cw.Ko R t k σ from H 8 0 rfl (by omega) rfl
   intro d
   induction d with
   | zero =>
     intro k hd hk D3
     rw [List.take_of_length_le (by omega)] at D3
     refine Cw.PR ⟨fun hh => by omega, fun _ => ?_⟩
     have yH : numOf dir kind s = Kq 0 (rest s (cat dir kind)) := by rw [numOf, if_pos ⟨ht', hlen, D3⟩]
     rw [yH] at h
     refine Spec.below (v := .tuple #[.int .i64 (Kq 0 (rest s (cat dir kind)) : Nat), .nilIface]) (fun w _ => (Go.Proofs.Tryz.strconv_Atoi t _ (by omega) (by rw [hr]; exact lG (fun e => by rw [e] at hlen; cases hlen) D3) w).mono ?_) ⟨_, _, rfl, h⟩
     rintro e w' ⟨he, t', hw⟩
     exact ⟨he, hw ▸ Go.Joins.below_bytesWorld _ _ _ _ (Nat.le_refl _)⟩
   | succ d ih =>
     intro k hd hk D3
     obtain ⟨u, hu⟩ : ∃ u, (rest s (cat dir kind))[k]? = some u := ⟨_, List.getElem?_eq_getElem (by omega)⟩
     have Ya : t.data[Int.toNat (k : Int)]? = some u := by
       rw [← hr] at hu
       simpa using hu
     refine Cw.PR ⟨fun _ => ⟨u, by omega, Ya, fun Rh => bad ⟨k, u, hu, by simp [DQ]; omega⟩, fun Rh => ⟨u, by omega, Ya, fun hhi => bad ⟨k, u, hu, by simp [DQ]; omega⟩, fun hhi => ⟨by unfold AN; omega, ih (k + 1) (by omega) (by omega) ?_⟩⟩⟩, fun hh => by omega⟩
     rw [AO hu, List.all_append, D3]
     simp [DQ]; omega
end
end TwW
end
section
namespace TwW
open Go Tw Go.RowKit Go.Proofs.Tryz
abbrev bI (code : Int) : List PanicEntry := [{ v := .iface 295 (.agg #[.int .i64 code]), recovered := false }]
theorem qp (w : World) : (binOp BinOp.neq 20 .nilIface .nilIface).run prog w = .ok (.bool false) w := by kernel_rfl
theorem lH (c : Int) (w : World) : (binOp BinOp.neq 20 (.iface 295 (.agg #[.int .i64 c])) .nilIface).run prog w = .ok (.bool true) w := by kernel_rfl
theorem Z9 (p : Addr) (w : World) :
   CallsD prog 220 #[.pointer (some p)] .returning w fun e u' w' => e = .returned (.tuple #[]) ∧ u' = .returning ∧ w' = w := by
 refine callsD_of_wpS func220 rfl fun c₀ cs hu => ?_
 apply wpS_seq
 apply wpS_region
 simp [wpOpsS, go_sem, recoverD, hu, Exit.thenS]
 apply wpS_seq
 apply wpS_region
 simp [wpOpsS, go_sem, Exit.thenS, qp]
 refine wpS_cond (t := false) (by simp [Act.eval, Array.replicate, ntmps220]) ?_
 simp only [Bool.false_eq_true, if_false]
 refine wpS_of_wp (wp_skip ?_)
 cases c₀
 simp_all [bodyPostS, results, results220, Exit.thenS]
theorem lI (c : Int) (w : World) : (Instr.typeAssert (.iface 295 (.agg #[.int .i64 c])) 20 295 true).run prog w = .ok (.tuple #[.agg #[.int .i64 c], .bool true]) w := by
 simp [Instr.typeAssert, run_underlying underlying295]
theorem aA (b : Nat) (code : Int) (w : World) {x : Value} {T : TypeId} (hb : w.heap[b]? = some (.cells #[x] T (0, 0))) :
   CallsD prog 220 #[.pointer (some ⟨b, 0, none⟩)] (.panicking (bI code)) w fun e u' w' => e = .returned (.tuple #[]) ∧ u' = .panicking [{ v := .iface 295 (.agg #[.int .i64 code]), recovered := true }] ∧
     w' = (w.alloc (.cells #[.int .i64 code] 295)).setCell ⟨b, 0, none⟩ (.int .i64 code) := by
 have Ag : b < w.heap.size := (Array.getElem?_eq_some_iff.1 hb).1
 have hh : (w.alloc (.cells #[.int .i64 code] 295)).heap[b]? = some (.cells #[x] T (0, 0)) := by
   have e : (w.alloc (.cells #[.int .i64 code] 295)).heap = w.heap.push (.cells #[.int .i64 code] 295) := rfl
   rw [e, Array.getElem?_push, if_neg (by omega)]; exact hb
 have hc : (w.alloc (.cells #[.int .i64 code] 295)).cell? ⟨b, 0, none⟩ = some x := by simp only [World.cell?, hh]; rfl
 have hfz : (w.alloc (.cells #[.int .i64 code] 295)).frozen? ⟨b, 0, none⟩ = false := by simp only [World.frozen?, hh]; rfl
 refine callsD_of_wpS func220 rfl fun c₀ cs hu => ?_
 apply wpS_seq
 apply wpS_region
 simp [wpOpsS, go_sem, recoverD, hu, Exit.thenS]
 apply wpS_seq
 apply wpS_region
 simp [wpOpsS, go_sem, Exit.thenS, lH]
 refine wpS_cond (t := true) (by simp [Act.eval, Array.replicate, ntmps220]) ?_
 simp only [if_true]
 apply wpS_seq
 apply wpS_region
 simp [wpOpsS, go_sem, Exit.thenS, lI]
 apply wpS_seq
 apply wpS_seq
 apply wpS_region
 simp [wpOpsS, go_sem, Exit.thenS]
 refine wpS_cond (t := false) (by simp [Act.eval, Array.replicate, ntmps220]) ?_
 simp only [Bool.false_eq_true, if_false]
 refine wpS_of_wp (wp_skip ?_)
 simp only [Exit.thenS]
 apply wpS_region
 simp [wpOpsS, go_sem, Exit.thenS, hc, hfz]
 simp [bodyPostS, results, results220]
theorem Qg {w : World} {b : Nat} {x v : Value} {T : TypeId} (h : w.heap[b]? = some (.cells #[x] T (0, 0))) : (w.setCell ⟨b, 0, none⟩ v).heap[b]? = some (.cells #[v] T (0, 0)) ∧ ∀ k, k ≠ b → (w.setCell ⟨b, 0, none⟩ v).heap[k]? = w.heap[k]? := by
 have Ag : b < w.heap.size := (Array.getElem?_eq_some_iff.1 h).1
 refine ⟨?_, fun k hk => ?_⟩
 · simp only [World.setCell, Array.getElem?_modify, if_true, h]; rfl
 · simp only [World.setCell, Array.getElem?_modify, if_neg (Ne.symm hk)]
theorem ft (f : Nat) (cap : Array Value) (w : World) (Ju : ∀ w, (callFunc f cap).run prog w = .ok (.enter f cap) w) {R : Ending → World → Prop} (h : Calls prog f cap (w.alloc (.cells #[.int .i64 0] 67)) fun e w' => w'.heap[w.heap.size]? = some (.cells #[.int .i64 0] 67 (0, 0)) ∧
     ((e = .returned (.tuple #[]) ∧ R (.returned (.int .i64 0)) (w'.setCell ⟨w.heap.size, 0, none⟩ (.int .i64 0))) ∨ (∃ code, e = .panicked (bI code) ∧ R (.returned (.int .i64 code)) ((w'.alloc (.cells #[.int .i64 code] 295)).setCell ⟨w.heap.size, 0, none⟩ (.int .i64 code))))) :
   Calls prog 129 #[.func (.func f) #[] cap] w R := by
 have hmf : ∀ (fn : Fn) (first cap : Array Value) (w : World), (Instr.makeFunc fn first cap).run prog w = .ok (.func fn first cap) w := fun _ _ _ _ => rfl
 go_enter_defers func129, ntmps129
 go_wp2
 rename_i K1 ha1 K2 ha2
 refine h.mono ?_
 rintro e w' ⟨FA, ⟨rfl, hR⟩ | ⟨code, rfl, hR⟩⟩
 · have hc : w'.cell? ⟨w.heap.size, 0, none⟩ = some (.int .i64 0) := by simp only [World.cell?, FA]; rfl
   have hfz : w'.frozen? ⟨w.heap.size, 0, none⟩ = false := by simp only [World.frozen?, FA]; rfl
   apply ha2
   simp only [wpList, Exit.then]
   apply ha1
   go_wp2
   have T4 : (w'.setCell ⟨w.heap.size, 0, none⟩ (.int .i64 0)).cell? ⟨w.heap.size, 0, none⟩ = some (.int .i64 0) := by simp only [World.cell?, (Qg FA).1]; rfl
   simp only [bodyPostD]
   refine leaves_cons (f := 220) (args := #[.pointer (some ⟨w.heap.size, 0, none⟩)]) (by simp) (by simp [go_sem]) ?_
   refine (Z9 ⟨w.heap.size, 0, none⟩ _).mono ?_
   rintro e u' vE ⟨rfl, rfl, rfl⟩
   simp [Leaves, settle, results, results129, go_sem, T4]
   exact hR
 · simp only [bodyPostD]
   refine leaves_cons (f := 220) (args := #[.pointer (some ⟨w.heap.size, 0, none⟩)]) (by simp) (by simp [go_sem]) ?_
   refine (aA w.heap.size code w' FA).mono ?_
   rintro e u' vE ⟨rfl, rfl, rfl⟩
   have hh : (w'.alloc (.cells #[.int .i64 code] 295)).heap[w.heap.size]? = some (.cells #[.int .i64 0] 67 (0, 0)) := by
     have Ag : w.heap.size < w'.heap.size := (Array.getElem?_eq_some_iff.1 FA).1
     have e : (w'.alloc (.cells #[.int .i64 code] 295)).heap = w'.heap.push (.cells #[.int .i64 code] 295) := rfl
     rw [e, Array.getElem?_push, if_neg (by omega)]; exact FA
   have T4 : ((w'.alloc (.cells #[.int .i64 code] 295)).setCell ⟨w.heap.size, 0, none⟩ (.int .i64 code)).cell? ⟨w.heap.size, 0, none⟩ = some (.int .i64 code) := by simp only [World.cell?, (Qg hh).1]; rfl
   simp [Leaves, settle, results, results129, go_sem, T4]
   exact hR
theorem KJ {σ : Hp} {R : Rr} {f : Nat} {cap : Array Value} (Ju : Enters prog f)
   (h : Spec prog f cap σ fun e σ' => (e = .returned (.tuple #[]) ∧ R (.returned (.int .i64 0)) σ') ∨ ∃ code, e = .panicked (bI code) ∧ R (.returned (.int .i64 code)) σ') : Spec prog 129 #[.func (.func f) #[] cap] σ R := fun w F hs hF => by
 have EY : (w.alloc (.cells #[.int .i64 0] 67)).heap.size = w.heap.size + 1 := by
   have e : (w.alloc (.cells #[.int .i64 0] 67)).heap = w.heap.push (.cells #[.int .i64 0] 67) := rfl
   rw [e]; simp
 have hold : ∀ k : Nat, k < w.heap.size → (w.alloc (.cells #[.int .i64 0] 67)).heap[k]? = w.heap[k]? := fun k hk => by
   have e : (w.alloc (.cells #[.int .i64 0] 67)).heap = w.heap.push (.cells #[.int .i64 0] 67) := rfl
   rw [e, Array.getElem?_push, if_neg (by omega)]
 have C3 : (w.alloc (.cells #[.int .i64 0] 67)).heap[w.heap.size]? = some (.cells #[.int .i64 0] 67 (0, 0)) := by
   have e : (w.alloc (.cells #[.int .i64 0] 67)).heap = w.heap.push (.cells #[.int .i64 0] 67) := rfl
   rw [e]; simp
 have Ag : ∀ b o, σ b = some o → b < w.heap.size := fun b o hb => (Array.getElem?_eq_some_iff.1 (hs b o hb)).1
 refine ft f cap w (fun w => Ju cap w) ((h (w.alloc (.cells #[.int .i64 0] 67)) (fun k => F k ∨ k = w.heap.size) (fun b o hb => by rw [hold b (Ag b o hb)]; exact hs b o hb) (fun k hk => ?_)).mono ?_)
 · rw [EY]
   rcases hk with hk | rfl
   · exact ⟨by have := (hF k hk).1; omega, (hF k hk).2⟩
   · exact ⟨by omega, DJ hs⟩
 · rintro e w' ⟨σ', hr, hf⟩
   have hp := hf.C1 w.heap.size (.inr rfl)
   have FA := hp.2.trans C3
   have key : ∀ (w2 : World) (v : Value), w2.heap[w.heap.size]? = some (.cells #[.int .i64 0] 67 (0, 0)) → (∀ (k : Nat) (o : Obj), w'.heap[k]? = some o → w2.heap[k]? = some o) → (∀ k : Nat, k < w'.heap.size → w2.heap[k]? = w'.heap[k]?) → w'.heap.size ≤ w2.heap.size → w2.os = w'.os → w2.tape = w'.tape → w2.output = w'.output →
       Fin σ' F w (w2.setCell ⟨w.heap.size, 0, none⟩ v) := by
     intro w2 v h1 h2 fR h3 h4 h5 h6
     have Yr := Qg (v := v) h1
     refine ⟨fun b o hb => ?_, fun k hk => ?_, ⟨h4.trans hf.os.1, h5.trans hf.os.2.1, fun h => h.elim⟩, h6.trans hf.out, ?_⟩
     · have Ae : b ≠ w.heap.size := fun e => by rw [e, hp.1] at hb; cases hb
       rw [Yr.2 b Ae]; exact h2 b o (hf.sat b o hb)
     · have iC := (hF k hk).1
       have Ae : k ≠ w.heap.size := by omega
       have qa := hf.C1 k (.inl hk)
       refine ⟨qa.1, ?_⟩
       rw [Yr.2 k Ae, fR k (by have := hf.grow; rw [EY] at this; omega), qa.2, hold k iC]
     · have := hf.grow
       rw [EY] at this
       have e : (w2.setCell ⟨w.heap.size, 0, none⟩ v).heap.size = w2.heap.size := by simp [World.setCell]
       omega
   refine ⟨FA, ?_⟩
   rcases hr with ⟨rfl, hr⟩ | ⟨code, rfl, hr⟩
   · exact .inl ⟨rfl, σ', hr, key w' _ FA (fun k o h => h) (fun k _ => rfl) (Nat.le_refl _) rfl rfl rfl⟩
   · have e : (w'.alloc (.cells #[.int .i64 code] 295)).heap = w'.heap.push (.cells #[.int .i64 code] 295) := rfl
     have hg : ∀ k : Nat, k < w'.heap.size → (w'.alloc (.cells #[.int .i64 code] 295)).heap[k]? = w'.heap[k]? := fun k hk => by rw [e, Array.getElem?_push, if_neg (by omega)]
     have AKW : w.heap.size < w'.heap.size := (Array.getElem?_eq_some_iff.1 FA).1
     exact .inr ⟨code, rfl, σ', hr, key _ _ (by rw [hg _ AKW]; exact FA) (fun k o h => by rw [hg k (Array.getElem?_eq_some_iff.1 h).1]; exact h) hg (by rw [e]; simp) rfl rfl rfl⟩
end TwW
end
section
namespace TwW
open Go Tw Go.RowKit Go.Proofs.Tryz
structure Wl where
 dir : ByteArray
 check : Nat
 AP : List Nat
 opn : Nat
 size : Nat
abbrev I1 (l : List Nat) : List Int := l.map fun (n : Nat) => (n : Int)
abbrev qq (d : Nat) (W : Wl) (p : Option Addr) (n c : Nat) : Array Value := #[.pointer (some ⟨d, 0, none⟩), .string W.dir, .int .i64 W.check, .slice p n c, .int .i64 W.opn, .int .i64 W.size]
structure FG (σ : Hp) (b d : Nat) (W : Wl) (S : List Nat) (p : Option Addr) (c : Nat) (T : TypeId) : Prop where
 ET : S = b :: DL p
 out : b ∉ DL p
 obj : σ b = some (.cells (qq d W p W.AP.length c) T (0, 0))
 own : AR .i64 σ p W.AP.length c (I1 W.AP)
section
variable {σ σ' τ τ' : Hp} {b d : Nat} {W : Wl} {S Sd : List Nat} {p : Option Addr} {c : Nat} {T : TypeId} {D : Dk}
theorem FG.known (h : FG σ b d W S p c T) : ∀ k ∈ S, σ k ≠ none := by
 intro k hk
 rw [h.ET] at hk
 rcases List.mem_cons.1 hk with rfl | hk
 · rw [h.obj]; simp
 · cases p with
   | none => cases hk
   | some a => simp [DL] at hk; subst hk; exact h.own.block a rfl
theorem FG.loc (h : FG σ b d W S p c T) (hs : ∀ k ∈ S, σ' k = σ k) : FG σ' b d W S p c T := by
 have hf := h.ET
 subst hf
 exact ⟨rfl, h.out, (hs b (by simp)).trans h.obj, Own.loc h.own fun k hk => hs k (by simp [hk])⟩
theorem FG.mono (h : FG σ b d W S p c T) (hx : Ext σ σ') : FG σ' b d W S p c T := h.loc fun k hk => by
 cases hs : σ k with
 | none => exact absurd hs (h.known k hk)
 | some o => exact hx k o hs
theorem FG.uO (h : FG σ b d W S p c T) : b ∈ S := by rw [h.ET]; simp
def Ai (σ : Hp) (d : Nat) (D : Dk) (τ : Hp) : Prop := ∃ S, A5 σ d D S ∧ Ext τ (σ.off S)
def Aj (σ : Hp) (d b : Nat) (D : Dk) (W : Wl) (τ : Hp) : Prop := ∃ Sd S p c T, A5 σ d D Sd ∧ FG (σ.off Sd) b d W S p c T ∧ Ext τ ((σ.off Sd).off S)
theorem Ai.names (h : Ai σ d D τ) : ∀ s, (D.files s).isSome = true → Ah s = true := let ⟨_, h1, _⟩ := h; h1.names
theorem Ai.ext (h : Ai σ d D τ) : Ext τ σ := let ⟨S, _, h2⟩ := h; h2.trans (Ext.Cn _ _)
theorem Aj.ext (h : Aj σ d b D W τ) : Ext τ σ := let ⟨_, _, _, _, _, _, _, h3⟩ := h; h3.trans ((Ext.Cn _ _).trans (Ext.Cn _ _))
theorem Ai.FX (h : Ai σ d D τ) (hx : Ext τ' τ) : Ai σ d D τ' := let ⟨S, h1, h2⟩ := h; ⟨S, h1, hx.trans h2⟩
theorem Aj.FX (h : Aj σ d b D W τ) (hx : Ext τ' τ) : Aj σ d b D W τ' := let ⟨Sd, S, p, c, T, h1, h2, h3⟩ := h; ⟨Sd, S, p, c, T, h1, h2, hx.trans h3⟩
theorem Aj.fu (h : Aj σ d b D W τ) : Ai σ d D τ := let ⟨Sd, S, p, c, T, h1, h2, h3⟩ := h; ⟨Sd, h1, h3.trans (Ext.Cn _ _)⟩
theorem Ai.grow (h : Ai σ d D τ) (hx : Ext σ σ') : ∃ τ', Ai σ' d D τ' ∧ Ext τ τ' ∧ Ext (σ.new σ') τ' := by
 obtain ⟨S, h1, h2⟩ := h
 refine ⟨σ'.off S, ⟨S, h1.mono hx, Ext.refl _⟩, h2.trans (hx.off S), fun k o hk => ?_⟩
 obtain ⟨h3, h4⟩ := AS.1 hk
 exact Hp.AG.2 ⟨fun hs => h1.known k hs h3, h4⟩
theorem Aj.grow (h : Aj σ d b D W τ) (hx : Ext σ σ') : ∃ τ', Aj σ' d b D W τ' ∧ Ext τ τ' ∧ Ext (σ.new σ') τ' := by
 obtain ⟨Sd, S, p, c, T, h1, h2, h3⟩ := h
 refine ⟨(σ'.off Sd).off S, ⟨Sd, S, p, c, T, h1.mono hx, h2.mono (hx.off Sd), Ext.refl _⟩, h3.trans ((hx.off Sd).off S), fun k o hk => ?_⟩
 obtain ⟨h4, h5⟩ := AS.1 hk
 refine Hp.AG.2 ⟨fun hs => ?_, Hp.AG.2 ⟨fun hs => h1.known k hs h4, h5⟩⟩
 have := h2.known k hs
 exact this (Hp.ME h4)
theorem Aj.mono (h : Aj σ d b D W τ) (hx : Ext σ σ') : Aj σ' d b D W τ := let ⟨_, h1, h2, _⟩ := h.grow hx; h1.FX h2
theorem Ai.mono (h : Ai σ d D τ) (hx : Ext σ σ') : Ai σ' d D τ := let ⟨_, h1, h2, _⟩ := h.grow hx; h1.FX h2
theorem Aj.box {k : Nat} {o : Obj} (h : Aj σ d b D W τ) (hk : σ k = none) : ∃ τ', Aj (σ.set k o) d b D W τ' ∧ Ext τ τ' ∧ τ' k = some o := by
 obtain ⟨τ', h1, h2, h3⟩ := h.grow (.set hk (o := o))
 exact ⟨τ', h1, h2, h3 k o (AS.2 ⟨hk, Hp.AA _ _ _⟩)⟩
theorem Ai.box {k : Nat} {o : Obj} (h : Ai σ d D τ) (hk : σ k = none) : ∃ τ', Ai (σ.set k o) d D τ' ∧ Ext τ τ' ∧ τ' k = some o := by
 obtain ⟨τ', h1, h2, h3⟩ := h.grow (.set hk (o := o))
 exact ⟨τ', h1, h2, h3 k o (AS.2 ⟨hk, Hp.AA _ _ _⟩)⟩
theorem Aj.step {D' : Dk} {S S' : List Nat} (h1 : FG (σ.off Sd) b d W S p c T) (h2 : Ext τ ((σ.off Sd).off S)) (hd : A5 σ' d D' S') (hx : Ext (σ.off Sd) (σ'.off S')) : Aj σ' d b D' W τ :=
 ⟨S', S, p, c, T, hd, h1.mono hx, h2.trans (hx.off S)⟩
structure AKX (σ : Hp) (d b : Nat) (D : Dk) (W : Wl) : Prop where
 ptr : σ.ld ⟨b, 0, none⟩ = some (.pointer (some ⟨d, 0, none⟩))
 dir : σ.ld ⟨b, 0 + 1, none⟩ = some (.string W.dir)
 check : σ.ld ⟨b, 0 + 2, none⟩ = some (.int .i64 W.check)
 AP : ∃ p c, W.AP.length ≤ c ∧ σ.ld ⟨b, 0 + 3, none⟩ = some (.slice p W.AP.length c) ∧ B9 .i64 σ p W.AP.length (I1 W.AP)
 opn : σ.ld ⟨b, 0 + 4, none⟩ = some (.int .i64 W.opn)
 size : σ.ld ⟨b, 0 + 5, none⟩ = some (.int .i64 W.size)
theorem Aj.rd (h : Aj σ d b D W τ) : AKX σ d b D W := by
 obtain ⟨Sd, S, p, c, T, h1, h2, h3⟩ := h
 have h2 := h2.mono (Ext.Cn _ _)
 exact ⟨AD h2.obj rfl, AD h2.obj rfl, AD h2.obj rfl, ⟨p, c, Own.cap h2.own, AD h2.obj rfl, h2.own.rd⟩, AD h2.obj rfl, AD h2.obj rfl⟩
theorem Aj.st {W' : Wl} {i : Nat} {x : Int} {Φ : Unit → Hp → Prop} (h : Aj σ d b D W τ) (hi : i + 1 ≤ 6) (hs : W'.AP = W.AP)
   (hw : ∀ p n c, DT (qq d W p n c) i [Value.int .i64 x] = qq d W' p n c) (hΦ : ∀ σ', Aj σ' d b D W' τ → Φ () σ') : AJ prog (Instr.storeAt 3 (.pointer (some ⟨b, i, none⟩)) (.int .i64 x)) σ Φ := by
 obtain ⟨Sd, S, p, c, T, h1, h2, h3⟩ := h
 have hb := Hp.AG.1 h2.obj
 refine AJ.store (v := .int .i64 x) HW hb.2 rfl (by simp; omega) (by simp [Value.cells, Value.oneCell']) ?_
 refine hΦ _ ⟨Sd, S, p, c, T, h1.loc fun k hk => Hp.AH fun e => hb.1 (e ▸ hk), ?_, ?_⟩
 · rw [Hp.Er hb.1]
   refine ⟨h2.ET, h2.out, by rw [Hp.AA, hs]; exact congrArg (fun a => some (Obj.cells a T (0, 0))) (hw p _ c), ?_⟩
   rw [hs]
   exact Own.loc h2.own fun k hk => Hp.AH fun e => h2.out (e ▸ hk)
 · rw [Hp.Er hb.1, Hp.GQ h2.uO]; exact h3
theorem lJ : ∀ w, (Go.sizeOf 26).run prog w = .ok 1 w := fun w => by
 have h : prog.info? 26 = some t26 := by kernel_rfl
 simp [Go.sizeOf, typeInfo, h, show t26.size = 1 from rfl]
theorem Aj.cut {p' : Option Addr} {n' c' : Nat} {l : List Nat} {Φ : Unit → Hp → Prop} (h : Aj σ d b D W τ) (hl : l.length = n')
   (hp : ∀ p c, σ.ld ⟨b, 0 + 3, none⟩ = some (.slice p W.AP.length c) → DL p' = DL p ∧ ∀ ρ, AR .i64 ρ p W.AP.length c (I1 W.AP) → AR .i64 ρ p' n' c' (I1 l))
   (hΦ : ∀ σ', Aj σ' d b D { W with AP := l } τ → Φ () σ') : AJ prog (Instr.storeAt 26 (.pointer (some ⟨b, 0 + 3, none⟩)) (.slice p' n' c')) σ Φ := by
 obtain ⟨Sd, S, p, c, T, h1, h2, h3⟩ := h
 have hb := Hp.AG.1 h2.obj
 obtain ⟨e1, e2⟩ := hp p c (AD hb.2 rfl)
 refine AJ.store (v := .slice p' n' c') lJ hb.2 rfl (by simp) (by simp [Value.cells, Value.oneCell']) ?_
 refine hΦ _ ⟨Sd, S, p', c', T, h1.loc fun k hk => Hp.AH fun e => hb.1 (e ▸ hk), ?_, ?_⟩
 · rw [Hp.Er hb.1]
   refine ⟨by rw [e1]; exact h2.ET, by rw [e1]; exact h2.out, by rw [Hp.AA]; subst hl; rfl, ?_⟩
   have := e2 _ h2.own
   subst hl
   exact Own.loc this fun k hk => Hp.AH fun e => h2.out (by rw [← e1]; exact e ▸ hk)
 · rw [Hp.Er hb.1, Hp.GQ h2.uO]; exact h3
theorem Aj.app {k : Nat} {p : Option Addr} {n c M9 : Nat} {Φ : Unit → Hp → Prop} (h : Aj σ d b D W τ) (hp : σ.ld ⟨b, 0 + 3, none⟩ = some (.slice p n c)) (FV : W.AP.length ≤ 67108864) (hn : σ M9 = none) {K : Hp → Hp → Prop}
   (hK : ∀ σ', Ext τ σ' → K (σ.set M9 (.cells #[.int .i64 k] 3 (0, 0))) σ')
   (hΦ : ∀ σ', Aj σ' d b D { W with AP := W.AP ++ [k] } τ → Φ () σ') :
   AJ prog (Builtin.append_ #[26, 26] 26 #[.slice p n c, .slice (some ⟨M9, 0, none⟩) 1 1]) (σ.set M9 (.cells #[.int .i64 k] 3 (0, 0))) (fun v σ1 => ∃ p' n' c', v = .slice p' n' c' ∧ K (σ.set M9 (.cells #[.int .i64 k] 3 (0, 0))) σ1 ∧
     AJ prog (Instr.storeAt 26 (.pointer (some ⟨b, 0 + 3, none⟩)) (.slice p' n' c')) σ1 Φ) := by
 obtain ⟨Sd, S, p0, c0, T, h1, h2, h3⟩ := h
 have hb := Hp.AG.1 h2.obj
 have hpe : σ.ld ⟨b, 0 + 3, none⟩ = some (.slice p0 W.AP.length c0) := AD hb.2 rfl
 rw [hpe] at hp
 cases hp
 let σ1 : Hp := σ.set M9 (.cells #[.int .i64 k] 3 (0, 0))
 have hx : Ext σ σ1 := .set hn
 have TD := h1.mono hx
 have VJ := h2.mono (hx.off Sd)
 have nu := h3.trans ((hx.off Sd).off S)
 have AKY : GP 1 σ1 (some ⟨M9, 0, none⟩) 1 [.int .i64 k] := ⟨rfl, by omega, .inr ⟨M9, 0, rfl, AD (Hp.AA _ _ _) rfl, trivial⟩⟩
 have AY : AR .i64 σ1 p W.AP.length c (I1 W.AP) := VJ.own.mono (Ext.Cn _ _)
 refine MB (T := 26) AY AKY (fun u hu => by simp at hu; subst hu; rfl) (by omega) fun p' c' σ2 Bt Ay _ => ?_
 rw [Hp.DY, Hp.DY] at Ay
 have keep : ∀ j o, j ∉ DL p → σ1 j = some o → σ2 j = some o ∧ j ∉ DL p' := fun j o h4 h5 => by
   have := Hp.AG.1 (Ay j o (Hp.AG.2 ⟨h4, h5⟩)); exact ⟨this.2, this.1⟩
 have hp0 : ∀ j ∈ Sd, j ∉ DL p := fun j hj Tx => VJ.known j (by rw [VJ.ET]; simp [Tx]) (Hp.T6 hj)
 have Rz : A5 σ2 d D Sd := TD.loc fun j hj => by
   cases hs : σ1 j with
   | none => exact absurd hs (TD.known j hj)
   | some o => exact (keep j o (hp0 j hj) hs).1
 have AKZ : ∀ j ∈ DL p', j ∉ Sd := fun j hj hs => by
   cases Re : σ1 j with
   | none => exact absurd Re (TD.known j hs)
   | some o => exact (keep j o (hp0 j hs) Re).2 hj
 have O4 := Hp.AG.1 VJ.obj
 have HD := keep b _ VJ.out O4.2
 have hτ : Ext τ ((σ2.off Sd).off (b :: DL p')) := fun j o hj => by
   have h4 := Hp.AG.1 (nu j o hj)
   have h5 := Hp.AG.1 h4.2
   rw [VJ.ET] at h4
   simp only [List.mem_cons, not_or] at h4
   have h6 := keep j o h4.1.2 h5.2
   exact Hp.AG.2 ⟨by simp [h4.1.1, h6.2], Hp.AG.2 ⟨h5.1, h6.1⟩⟩
 refine ⟨p', _, c', rfl, hK σ2 (hτ.trans ((Ext.Cn _ _).trans (Ext.Cn _ _))), ?_⟩
 refine AJ.store (v := .slice p' (W.AP.length + 1) c') lJ HD.1 rfl (by simp) (by simp [Value.cells, Value.oneCell']) ?_
 refine hΦ _ ⟨Sd, b :: DL p', p', c', T, Rz.loc fun j hj => Hp.AH fun e => O4.1 (e ▸ hj), ?_, ?_⟩
 · rw [Hp.Er O4.1]
   refine ⟨rfl, HD.2, by rw [Hp.AA, List.length_append]; rfl, ?_⟩
   have Dq : AR .i64 σ2 p' (W.AP ++ [k]).length c' (I1 (W.AP ++ [k])) := by simpa [AR] using Bt
   have OS : AR .i64 (σ2.off Sd) p' (W.AP ++ [k]).length c' (I1 (W.AP ++ [k])) := Own.loc Dq fun j hj => Hp.EP (AKZ j hj)
   exact Own.loc OS fun j hj => Hp.AH fun e => HD.2 (e ▸ hj)
 · rw [Hp.Er O4.1, Hp.GQ (by simp)]; exact hτ
end
end TwW
end
section
namespace TwW
open Go Tw Go.RowKit Go.Proofs.Tryz
abbrev Bs := List (List Int)
abbrev Fs := ByteArray → Option Fl
def Good (rs : Bs) : Prop := ∀ r ∈ rs, r.length ≤ 65536 ∧ E6 r
theorem Good.short {rs : Bs} (h : Good rs) : Ml rs := fun r hr => (h r hr).1
theorem Good.nil : Good [] := fun r hr => by cases hr
theorem Good.append {rs ss : Bs} (h : Good rs) (g : Good ss) : Good (rs ++ ss) := fun r hr => (List.mem_append.1 hr).elim (h r) (g r)
theorem Good.take {rs : Bs} (h : Good rs) (k : Nat) : Good (rs.take k) := fun r hr => h r (List.mem_of_mem_take hr)
theorem Be {xs ys : List Int} (hx : E6 xs) (hy : E6 ys) : E6 (xs ++ ys) := fun a ha => (List.mem_append.1 ha).elim (hx a) (hy a)
theorem fv {r : List Int} (h : r.length ≤ 65536) (h8 : E6 r) : E6 (frame r) := by
 unfold frame
 refine Be (Be (Nj 9 _ (by omega)) ?_) h8
 intro x hx
 simp only [Ye, List.mem_cons, List.not_mem_nil, or_false] at hx
 rcases hx with rfl | rfl | rfl | rfl <;> omega
theorem Mn : ∀ {rs : Bs}, Good rs → E6 (AU rs)
 | [], _ => fun x hx => by cases hx
 | r :: rs, h => by
   rw [B2]
   exact Be (fv (h r (by simp)).1 (h r (by simp)).2) (Mn fun x hx => h x (by simp [hx]))
theorem lK {xs : List Int} (h : E6 xs) (k : Nat) : E6 (xs.take k) := fun x hx => h x (List.mem_of_mem_take hx)
theorem fw {r : List Int} {j : Nat} (hr : r.length ≤ 65536) (hj : j < (frame r).length) : fk ((frame r).take j) := fun r' ⟨h1, rest, h2⟩ => by
 rw [List.drop_zero] at h2
 have h3 : frame r' ++ (rest ++ (frame r).drop j) = frame r := by rw [← List.append_assoc, ← h2, List.take_append_drop]
 have h4 : uv r'.length ++ (Ye (XA r') ++ (r' ++ (rest ++ (frame r).drop j))) = uv r.length ++ (Ye (XA r) ++ r) := by
   generalize rest ++ (frame r).drop j = Z at h3
   simpa [frame, List.append_assoc] using h3
 have h5 := (ky _ _ _ _ h4).1
 have h6 := congrArg List.length h2
 rw [List.length_append, Ee, h5, List.length_take] at h6
 rw [Ee] at hj h6
 omega
theorem XI : ∀ (rs : Bs) (j : Nat), Ml rs → ∃ k t, k ≤ rs.length ∧ (AU rs).take j = AU (rs.take k) ++ t ∧ fk t ∧ ∀ m, m ≤ rs.length → (AU (rs.take m)).length ≤ j → m ≤ k
 | [], j, _ => ⟨0, [], Nat.le_refl _, by simp [AU], EK, fun m hm _ => hm⟩
 | r :: rs, j, hs => by
   by_cases hj : j < (frame r).length
   · refine ⟨0, (frame r).take j, Nat.zero_le _, by rw [B2, List.take_append_of_le_length (by omega)]; simp [AU], fw (hs r (by simp)) hj, fun m hm h => ?_⟩
     cases m with
     | zero => exact Nat.le_refl _
     | succ m =>
       rw [List.take_succ_cons, B2, List.length_append] at h
       omega
   · obtain ⟨k, t, h1, h2, h3, h4⟩ := XI rs (j - (frame r).length) fun x hx => hs x (by simp [hx])
     refine ⟨k + 1, t, by simp; omega, ?_, h3, fun m hm h => ?_⟩
     · rw [B2, List.take_append, List.take_of_length_le (by omega), h2, List.take_succ_cons, B2, List.append_assoc]
     · cases m with
       | zero => omega
       | succ m =>
         rw [List.take_succ_cons, B2, List.length_append] at h
         have := h4 m (by simp at hm; exact hm) (by omega)
         omega
def Has (fs : Fs) (s : ByteArray) (x : List Int) : Prop := ∃ f, fs s = some f ∧ f.data = x
theorem Has.Uu {fs : Fs} {s : ByteArray} {x : List Int} (h : Has fs s x) : (fs s).isSome = true := by obtain ⟨f, h, _⟩ := h; simp [h]
abbrev Sg := List (Nat × Bs)
def Ao (sg : Sg) : Bs := sg.flatMap (·.2)
theorem B8 (a b : Sg) : Ao (a ++ b) = Ao a ++ Ao b := by simp [Ao]
theorem Eg (x : Nat × Bs) : Ao [x] = x.2 := by simp [Ao]
structure Shape (fs : Fs) (dir : ByteArray) (cnt check : Nat) (rc : Bs) (sg : Sg) (tail : List Int) : Prop where
 O7 : 0 < check → Has fs (AF dir kc check) (AU rc)
 XJ : check = 0 → rc = []
 Yf : ∀ s, (fs s).isSome = true → numOf dir kc s ≤ check
 aB : check ≤ cnt
 gt : ∀ x ∈ sg, check < x.1 ∧ x.1 ≤ cnt
 Jl : sg.Pairwise fun x y => x.1 < y.1
 dH : ∀ s, (fs s).isSome = true → check < numOf dir ks s → ∃ x ∈ sg, x.1 = numOf dir ks s
 file : ∀ k x, sg[k]? = some x → Has fs (AF dir ks x.1) (AU x.2 ++ if k + 1 = sg.length then tail else [])
 uP : sg = [] → tail = []
 AKa : fk tail
 OW : Good rc
 LX : ∀ x ∈ sg, Good x.2
 uQ : E6 tail
def Kept (fs : Fs) (dir : ByteArray) (check : Nat) (sg : Sg) : Prop := (∀ f, 0 < check → fs (AF dir kc check) = some f → f.GF = f.data.length) ∧ ∀ k x, sg[k]? = some x → k + 1 < sg.length → ∀ f, fs (AF dir ks x.1) = some f → f.GF = f.data.length
def XK (fs : Fs) (dir : ByteArray) (cnt : Nat) (told : Bs) (w : Bool) : Prop := ∃ check rc sg tail, Shape fs dir cnt check rc sg tail ∧ told = rc ++ Ao sg ∧ Kept fs dir check sg ∧ (w = true → tail = [])
abbrev G6 (fs : Fs) (dir : ByteArray) (cnt : Nat) (told : Bs) : Prop := XK fs dir cnt told false
structure A7 (fs : Fs) (cnt : Nat) (W : Wl) (rc : Bs) (sg : Sg) (safe : Nat) : Prop where
 sh : Shape fs W.dir cnt W.check rc sg []
 AP : W.AP = sg.map (·.1)
 opn : W.check < W.opn ∧ W.opn ≤ cnt + 1 ∧ ∀ x ∈ sg, x.1 ≤ W.opn
 size : ∀ x ∈ sg, x.1 = W.opn → W.size = (AU x.2).length
 Ii : (∀ x ∈ sg, x.1 ≠ W.opn) → W.size = 0
 sync : ∀ f, 0 < W.check → fs (AF W.dir kc W.check) = some f → f.GF = f.data.length
 OX : ∀ x ∈ sg, x.1 < W.opn → ∀ f, fs (AF W.dir ks x.1) = some f → f.GF = f.data.length
 dur : ∀ x ∈ sg, x.1 = W.opn → ∃ m f, m ≤ x.2.length ∧ fs (AF W.dir ks x.1) = some f ∧ (AU (x.2.take m)).length ≤ f.GF ∧ safe + x.2.length ≤ (rc ++ Ao sg).length + m
 fx : (∀ x ∈ sg, x.1 ≠ W.opn) → safe ≤ (rc ++ Ao sg).length
theorem dI {sg : Sg} {n : Nat} (hr : sg.Pairwise fun x y => x.1 < y.1) (hle : ∀ x ∈ sg, x.1 ≤ n) {x : Nat × Bs} (hx : x ∈ sg) (he : x.1 = n) : ∃ s0, sg = s0 ++ [x] ∧ ∀ y ∈ s0, y.1 < n := by
 obtain ⟨a, b, rfl⟩ := List.append_of_mem hx
 rw [List.pairwise_append, List.pairwise_cons] at hr
 have hb : b = [] := by
   cases b with
   | nil => rfl
   | cons y b =>
     have h1 := hr.2.1.1 y (by simp)
     have h2 := hle y (by simp)
     omega
 subst hb
 exact ⟨a, rfl, fun y hy => by have := hr.2.2 y hy x (by simp); omega⟩
theorem GN.Uu {fs gs : Fs} (h : GN fs gs) {s : ByteArray} (hs : (gs s).isSome = true) : (fs s).isSome = true := by
 cases hf : fs s with
 | none => rw [(h s).1 hf] at hs; cases hs
 | some f => rfl
theorem GN.GF {fs gs : Fs} (h : GN fs gs) {s : ByteArray} {f : Fl} (hf : gs s = some f) : f.GF = f.data.length := by
 cases hs : fs s with
 | none => rw [(h s).1 hs] at hf; cases hf
 | some g =>
   obtain ⟨k, h1, h2, h3⟩ := (h s).2 g hs
   rw [h3] at hf
   cases hf
   simp only [List.length_take]; omega
theorem GN.kept {fs gs : Fs} (h : GN fs gs) {dir : ByteArray} {check : Nat} {sg : Sg} : Kept gs dir check sg := ⟨fun f _ hf => h.GF hf, fun _ _ _ _ f hf => h.GF hf⟩
theorem GN.whole {fs gs : Fs} (h : GN fs gs) {s : ByteArray} {x : List Int} (hx : Has fs s x) (hs : ∀ f, fs s = some f → f.GF = f.data.length) : Has gs s x := by
 obtain ⟨f, hf, rfl⟩ := hx
 obtain ⟨k, h1, h2, h3⟩ := (h s).2 f hf
 rw [hs f hf] at h1
 exact ⟨_, h3, by rw [List.take_of_length_le (by omega)]⟩
theorem A7.dJ {fs gs : Fs} {cnt : Nat} {W : Wl} {rc : Bs} {sg : Sg} {safe : Nat} (h : A7 fs cnt W rc sg safe) (hc : GN fs gs) : ∃ told, G6 gs W.dir cnt told ∧ told <+: rc ++ Ao sg ∧ safe ≤ told.length := by
 by_cases hl : ∃ x ∈ sg, x.1 = W.opn
 · obtain ⟨x, hx, he⟩ := hl
   obtain ⟨s0, rfl, Ag⟩ := dI h.sh.Jl h.opn.2.2 hx he
   obtain ⟨m, f, hm, hf, hms, dK⟩ := h.dur x hx he
   obtain ⟨f2, oR, Rz⟩ := h.sh.file s0.length x (by simp)
   rw [hf] at oR
   cases oR
   simp at Rz
   obtain ⟨j, Ty, nG, hj3⟩ := (hc _).2 f hf
   have TJ := h.sh.LX x hx
   obtain ⟨k, t, hk, hkt, ht, yI⟩ := XI x.2 j TJ.short
   refine ⟨rc ++ Ao (s0 ++ [(x.1, x.2.take k)]), ⟨W.check, rc, s0 ++ [(x.1, x.2.take k)], t, ⟨fun h0 => hc.whole (h.sh.O7 h0) fun f hf => h.sync f h0 hf, h.sh.XJ, fun s hs => h.sh.Yf s (hc.Uu hs), h.sh.aB, ?_, ?_, ?_, ?_, ?_, ht, h.sh.OW, ?_, ?_⟩, rfl, hc.kept, fun h => (by cases h)⟩, ?_, ?_⟩
   · intro y hy
     rcases List.mem_append.1 hy with hy | hy
     · exact h.sh.gt y (by simp [hy])
     · simp at hy; subst hy; exact h.sh.gt x (by simp)
   · have := h.sh.Jl
     rw [List.pairwise_append] at this ⊢
     exact ⟨this.1, by simp, fun y hy z hz => by simp at hz; subst hz; exact this.2.2 y hy x (by simp)⟩
   · intro s hs Qe
     obtain ⟨y, hy, yJ⟩ := h.sh.dH s (hc.Uu hs) Qe
     rcases List.mem_append.1 hy with hy | hy
     · exact ⟨y, by simp [hy], yJ⟩
     · simp at hy; subst hy; exact ⟨(y.1, y.2.take k), by simp, yJ⟩
   · intro i y hy
     rcases Nat.lt_or_ge i s0.length with hi | hi
     · rw [List.getElem?_append_left hi] at hy
       have Ht : y ∈ s0 := List.mem_of_getElem? hy
       have h1 := h.sh.file i y (by rw [List.getElem?_append_left hi]; exact hy)
       rw [if_neg (by simp; omega)] at h1 ⊢
       exact hc.whole h1 fun f hf => h.OX y (by simp [Ht]) (Ag y Ht) f hf
     · have nq : i = s0.length := by
         have := (List.getElem?_eq_some_iff.1 hy).1
         simp at this; omega
       subst nq
       simp at hy
       subst hy
       rw [if_pos (by simp)]
       exact ⟨_, hj3, by rw [Rz, hkt]⟩
   · intro e; simp at e
   · intro y hy
     rcases List.mem_append.1 hy with hy | hy
     · exact h.sh.LX y (by simp [hy])
     · simp at hy; subst hy; exact TJ.take k
   · have h8 := lK (Mn TJ) j
     rw [hkt] at h8
     exact fun a ha => h8 a (List.mem_append_right _ ha)
   · rw [B8, B8, Eg, Eg]
     exact (List.prefix_append_right_inj _).2 ((List.prefix_append_right_inj _).2 (List.take_prefix _ _))
   · have vy := yI m hm (by omega)
     rw [B8, Eg] at dK ⊢
     simp only [List.length_append, List.length_take] at dK ⊢
     omega
 · have BX : ∀ x ∈ sg, x.1 ≠ W.opn := fun x hx he => hl ⟨x, hx, he⟩
   refine ⟨rc ++ Ao sg, ⟨W.check, rc, sg, [], ⟨fun h0 => hc.whole (h.sh.O7 h0) fun f hf => h.sync f h0 hf, h.sh.XJ, fun s hs => h.sh.Yf s (hc.Uu hs), h.sh.aB, h.sh.gt, h.sh.Jl, fun s hs => h.sh.dH s (hc.Uu hs), fun i y hy => ?_, fun _ => rfl, EK, h.sh.OW, h.sh.LX, h.sh.uQ⟩, rfl, hc.kept, fun h => (by cases h)⟩, List.prefix_refl _, h.fx BX⟩
   have Ht := List.mem_of_getElem? hy
   exact hc.whole (h.sh.file i y hy) fun f hf => h.OX y Ht (by have := h.opn.2.2 y Ht; have := BX y Ht; omega) f hf
end TwW
end
section
namespace TwW
open Go Tw Go.RowKit Go.Proofs.Tryz
section
variable {fs gs : Fs} {dir : ByteArray} {cnt cnt' check : Nat} {rc : Bs} {sg : Sg} {tail : List Int} {W : Wl} {safe : Nat}
theorem C0 {s : ByteArray} {x : Option Fl} : BE fs s x s = x := by simp [BE]
theorem Aw {s t : ByteArray} {x : Option Fl} (h : t ≠ s) : BE fs s x t = fs t := by simp [BE, h]
theorem Ca {s t : ByteArray} {xs : List Int} (h : t ≠ s) : EV fs s xs t = fs t := Aw h
theorem Shape.congr (h : Shape fs dir cnt check rc sg tail) (hc : cnt ≤ cnt') (h1 : 0 < check → gs (AF dir kc check) = fs (AF dir kc check)) (h2 : ∀ x ∈ sg, gs (AF dir ks x.1) = fs (AF dir ks x.1))
   (h3 : ∀ s, (gs s).isSome = true → (fs s).isSome = true ∨ (numOf dir kc s = 0 ∧ numOf dir ks s = 0)) : Shape gs dir cnt' check rc sg tail :=
 { h with
   O7 := fun h0 => by obtain ⟨f, hf, e⟩ := h.O7 h0; exact ⟨f, by rw [h1 h0, hf], e⟩
   Yf := fun s hs => (h3 s hs).elim (h.Yf s) fun ⟨e, _⟩ => by omega
   aB := Nat.le_trans h.aB hc
   gt := fun x hx => ⟨(h.gt x hx).1, Nat.le_trans (h.gt x hx).2 hc⟩
   dH := fun s hs Ag => (h3 s hs).elim (fun h4 => h.dH s h4 Ag) fun ⟨_, e⟩ => by omega
   file := fun k x hx => by obtain ⟨f, hf, e⟩ := h.file k x hx; exact ⟨f, by rw [h2 x (List.mem_of_getElem? hx), hf], e⟩ }
theorem A7.congr (h : A7 fs cnt W rc sg safe) (hc : cnt ≤ cnt') (h1 : 0 < W.check → gs (AF W.dir kc W.check) = fs (AF W.dir kc W.check)) (h2 : ∀ x ∈ sg, gs (AF W.dir ks x.1) = fs (AF W.dir ks x.1))
   (h3 : ∀ s, (gs s).isSome = true → (fs s).isSome = true ∨ (numOf W.dir kc s = 0 ∧ numOf W.dir ks s = 0)) : A7 gs cnt' W rc sg safe :=
 { sh := h.sh.congr hc h1 h2 h3
   AP := h.AP
   opn := ⟨h.opn.1, by have := h.opn.2.1; omega, h.opn.2.2⟩
   size := h.size
   Ii := h.Ii
   sync := fun f h0 hf => h.sync f h0 (by rw [← h1 h0]; exact hf)
   OX := fun x hx Ag f hf => h.OX x hx Ag f (by rw [← h2 x hx]; exact hf)
   dur := fun x hx he => by obtain ⟨m, f, a, b, c⟩ := h.dur x hx he; exact ⟨m, f, a, by rw [h2 x hx]; exact b, c⟩
   fx := h.fx }
theorem A7.fresh (h : A7 fs cnt W rc sg safe) (hc : cnt ≤ cnt') (hg : ∀ s, s ≠ BC W.dir → gs s = fs s) : A7 gs cnt' W rc sg safe :=
 h.congr hc (fun _ => hg _ (Bj (.inl rfl)).symm) (fun x _ => hg _ (Bj (.inr rfl)).symm) fun s hs => by
   by_cases Hy : s = BC W.dir
   · subst Hy; exact .inr ⟨Kc (.inl rfl), Kc (.inr rfl)⟩
   · rw [hg s Hy] at hs; exact .inl hs
theorem A7.free (h : A7 fs cnt W rc sg safe) (hn : cnt < 99999999) (BX : ∀ x ∈ sg, x.1 ≠ W.opn) : fs (AF W.dir ks W.opn) = none := by
 cases hf : fs (AF W.dir ks W.opn) with
 | none => rfl
 | some f =>
   have ho := h.opn
   have e := Bq (dir := W.dir) (kind := ks) (no := W.opn) (by omega)
   obtain ⟨x, hx, Ay⟩ := h.sh.dH _ (by rw [hf]; rfl) (by rw [e]; exact ho.1)
   exact absurd (Ay.trans e) (BX x hx)
theorem A7.uR {s0 : Sg} {x : Nat × Bs} {r : List Int} (h : A7 fs cnt W rc (s0 ++ [x]) safe) (hn : cnt < 99999998) (he : x.1 = W.opn) (hr : r.length ≤ 65536) (h8 : E6 r) :
   A7 (EV fs (AF W.dir ks W.opn) (frame r)) (cnt + 1) { W with size := W.size + (frame r).length } rc (s0 ++ [(x.1, x.2 ++ [r])]) safe := by
 have hx : x ∈ s0 ++ [x] := by simp
 have Ag : ∀ y ∈ s0, y.1 < W.opn := fun y hy => by
   have := h.sh.Jl
   rw [List.pairwise_append] at this
   have := this.2.2 y hy x (by simp); omega
 have hb : W.opn < 100000000 := by have := h.opn.2.1; omega
 have Ae : ∀ y ∈ s0, AF W.dir ks y.1 ≠ AF W.dir ks W.opn := fun y hy e => by
   have := Ag y hy
   have := Ef (by omega) hb e; omega
 obtain ⟨f, hf, hd⟩ := h.sh.file s0.length x (by simp)
 rw [he] at hf
 simp at hd
 have hg : Good (x.2 ++ [r]) := (h.sh.LX x hx).append fun r' Is => by simp at Is; subst Is; exact ⟨hr, h8⟩
 have VZ : EV fs (AF W.dir ks W.opn) (frame r) (AF W.dir ks W.opn) = some ⟨f.data ++ frame r, f.GF⟩ := by simp [EV, BE, hf]
 have C2 : ∀ y, y ∈ s0 ++ [(x.1, x.2 ++ [r])] → y ∈ s0 ∨ y = (x.1, x.2 ++ [r]) := fun y hy => by simpa using hy
 refine ⟨⟨fun h0 => ?_, h.sh.XJ, fun s hs => ?_, Nat.le_succ_of_le h.sh.aB, fun y hy => ?_, ?_, fun s hs Qe => ?_, fun i y hy => ?_, fun e => by simp at e, EK, h.sh.OW, fun y hy => ?_, h.sh.uQ⟩, ?_, ⟨h.opn.1, by have := h.opn.2.1; simp only; omega, fun y hy => ?_⟩, fun y hy dL => ?_, fun BX => absurd he (BX (x.1, x.2 ++ [r]) (by simp)), fun g h0 hg => ?_, fun y hy Uv g hg => ?_, fun y hy dL => ?_, fun BX => absurd he (BX (x.1, x.2 ++ [r]) (by simp))⟩
 · obtain ⟨g, hg, e⟩ := h.sh.O7 h0
   exact ⟨g, by rw [Ca BH]; exact hg, e⟩
 · by_cases Hy : s = AF W.dir ks W.opn
   · subst Hy; exact h.sh.Yf _ (by rw [hf]; rfl)
   · rw [Ca Hy] at hs; exact h.sh.Yf s hs
 · rcases C2 y hy with hy | rfl
   · have := h.sh.gt y (by simp [hy]); exact ⟨this.1, by omega⟩
   · have := h.sh.gt x hx; exact ⟨this.1, by omega⟩
 · have := h.sh.Jl
   rw [List.pairwise_append] at this ⊢
   exact ⟨this.1, by simp, fun y hy z hz => by simp at hz; subst hz; exact this.2.2 y hy x (by simp)⟩
 · have : (fs s).isSome = true := by
     by_cases Hy : s = AF W.dir ks W.opn
     · subst Hy; rw [hf]; rfl
     · rw [Ca Hy] at hs; exact hs
   obtain ⟨y, hy, yJ⟩ := h.sh.dH s this Qe
   rcases List.mem_append.1 hy with hy | hy
   · exact ⟨y, by simp [hy], yJ⟩
   · simp at hy; subst hy; exact ⟨(y.1, y.2 ++ [r]), by simp, yJ⟩
 · rcases Nat.lt_or_ge i s0.length with hi | hi
   · rw [List.getElem?_append_left hi] at hy
     have Ht : y ∈ s0 := List.mem_of_getElem? hy
     obtain ⟨g, hg, e⟩ := h.sh.file i y (by rw [List.getElem?_append_left hi]; exact hy)
     rw [if_neg (by simp; omega)] at e ⊢
     exact ⟨g, by rw [Ca (Ae y Ht)]; exact hg, e⟩
   · have nq : i = s0.length := by
       have := (List.getElem?_eq_some_iff.1 hy).1
       simp at this; omega
     subst nq
     simp at hy
     subst hy
     refine ⟨_, by rw [he]; exact VZ, ?_⟩
     simp [hd, AU]
 · rcases C2 y hy with hy | rfl
   · exact h.sh.LX y (by simp [hy])
   · exact hg
 · simp [h.AP]
 · rcases C2 y hy with hy | rfl
   · exact h.opn.2.2 y (by simp [hy])
   · exact h.opn.2.2 x hx
 · rcases C2 y hy with hy | rfl
   · have := Ag y hy; simp only at dL; omega
   · have := h.size x hx he
     simp [this, AU]
 · rw [Ca BH] at hg; exact h.sync g h0 hg
 · rcases C2 y hy with hy | rfl
   · rw [Ca (Ae y hy)] at hg; exact h.OX y (by simp [hy]) Uv g hg
   · simp only at Uv; omega
 · rcases C2 y hy with hy | rfl
   · have := Ag y hy; simp only at dL; omega
   · obtain ⟨m, g, hm, hg, hms, hs⟩ := h.dur x hx he
     rw [he, hf] at hg
     cases hg
     refine ⟨m, _, by simp; omega, by rw [he]; exact VZ, ?_, ?_⟩
     · rw [List.take_append_of_le_length hm]; exact hms
     · simp only [B8, Eg, List.length_append, List.length_cons, List.length_nil] at hs ⊢; omega
theorem A7.uS {r : List Int} (h : A7 fs cnt W rc sg safe) (hn : cnt < 99999998) (BX : ∀ x ∈ sg, x.1 ≠ W.opn) (hr : r.length ≤ 65536) (h8 : E6 r) :
   A7 (EV fs (AF W.dir ks W.opn) (frame r)) (cnt + 1) { W with AP := W.AP ++ [W.opn], size := W.size + (frame r).length } rc (sg ++ [(W.opn, [r])]) safe := by
 have hb : W.opn < 100000000 := by have := h.opn.2.1; omega
 have bM := h.free (by omega) BX
 have Ag : ∀ y ∈ sg, y.1 < W.opn := fun y hy => by have := h.opn.2.2 y hy; have := BX y hy; omega
 have Ae : ∀ y ∈ sg, AF W.dir ks y.1 ≠ AF W.dir ks W.opn := fun y hy e => by
   have := Ag y hy
   have := Ef (by omega) hb e; omega
 have VZ : EV fs (AF W.dir ks W.opn) (frame r) (AF W.dir ks W.opn) = some ⟨frame r, 0⟩ := by simp [EV, BE, bM]
 have C2 : ∀ y, y ∈ sg ++ [(W.opn, [r])] → y ∈ sg ∨ y = (W.opn, [r]) := fun y hy => by simpa using hy
 have yH := Bq (dir := W.dir) (kind := ks) hb
 have hold : ∀ s, (EV fs (AF W.dir ks W.opn) (frame r) s).isSome = true → (fs s).isSome = true ∨ s = AF W.dir ks W.opn := fun s hs => by
   by_cases Hy : s = AF W.dir ks W.opn
   · exact .inr Hy
   · rw [Ca Hy] at hs; exact .inl hs
 refine ⟨⟨fun h0 => ?_, h.sh.XJ, fun s hs => ?_, Nat.le_succ_of_le h.sh.aB, fun y hy => ?_, ?_, fun s hs Qe => ?_, fun i y hy => ?_, fun e => by simp at e, EK, h.sh.OW, fun y hy => ?_, h.sh.uQ⟩, ?_, ⟨h.opn.1, by have := h.opn.2.1; simp only; omega, fun y hy => ?_⟩, fun y hy dL => ?_, fun yK => absurd rfl (yK (W.opn, [r]) (by simp)), fun g h0 hg => ?_, fun y hy Uv g hg => ?_, fun y hy dL => ?_, fun yK => absurd rfl (yK (W.opn, [r]) (by simp))⟩
 · obtain ⟨g, hg, e⟩ := h.sh.O7 h0
   exact ⟨g, by rw [Ca BH]; exact hg, e⟩
 · rcases hold s hs with hs | rfl
   · exact h.sh.Yf s hs
   · show numOf W.dir kc (AF W.dir ks W.opn) ≤ W.check
     rcases Nat.eq_zero_or_pos (numOf W.dir kc (AF W.dir ks W.opn)) with h0 | h0
     · omega
     · have := Ih h0
       have := h.opn.1; omega
 · rcases C2 y hy with hy | rfl
   · have := h.sh.gt y hy; exact ⟨this.1, by omega⟩
   · exact ⟨h.opn.1, h.opn.2.1⟩
 · rw [List.pairwise_append]
   exact ⟨h.sh.Jl, by simp, fun y hy z hz => by simp at hz; subst hz; exact Ag y hy⟩
 · rcases hold s hs with hs | rfl
   · obtain ⟨y, hy, yJ⟩ := h.sh.dH s hs Qe
     exact ⟨y, by simp [hy], yJ⟩
   · exact ⟨(W.opn, [r]), by simp, yH.symm⟩
 · rcases Nat.lt_or_ge i sg.length with hi | hi
   · rw [List.getElem?_append_left hi] at hy
     have Ht : y ∈ sg := List.mem_of_getElem? hy
     obtain ⟨g, hg, e⟩ := h.sh.file i y hy
     refine ⟨g, by rw [Ca (Ae y Ht)]; exact hg, ?_⟩
     rw [e]; simp
   · have nq : i = sg.length := by
       have := (List.getElem?_eq_some_iff.1 hy).1
       simp at this; omega
     subst nq
     simp at hy
     subst hy
     exact ⟨_, VZ, by simp [AU]⟩
 · rcases C2 y hy with hy | rfl
   · exact h.sh.LX y hy
   · intro r' Is; simp at Is; subst Is; exact ⟨hr, h8⟩
 · simp [h.AP]
 · rcases C2 y hy with hy | rfl
   · exact h.opn.2.2 y hy
   · exact Nat.le_refl _
 · rcases C2 y hy with hy | rfl
   · have := Ag y hy; simp only at dL; omega
   · have := h.Ii BX
     simp [this, AU]
 · rw [Ca BH] at hg; exact h.sync g h0 hg
 · rcases C2 y hy with hy | rfl
   · rw [Ca (Ae y hy)] at hg; exact h.OX y hy Uv g hg
   · simp only at Uv; omega
 · rcases C2 y hy with hy | rfl
   · have := Ag y hy; simp only at dL; omega
   · refine ⟨0, _, by simp, VZ, by simp [AU], ?_⟩
     have := h.fx BX
     simp only [B8, Eg, List.length_append, List.length_cons, List.length_nil] at this ⊢; omega
theorem A7.synced {s0 : Sg} {x : Nat × Bs} {f : Fl} (h : A7 fs cnt W rc (s0 ++ [x]) safe) (hn : cnt < 99999998) (he : x.1 = W.opn) (hf : fs (AF W.dir ks W.opn) = some f) :
   A7 (BE fs (AF W.dir ks W.opn) (some ⟨f.data, f.data.length⟩)) cnt W rc (s0 ++ [x]) (rc ++ Ao (s0 ++ [x])).length := by
 have hx : x ∈ s0 ++ [x] := by simp
 have Ag : ∀ y ∈ s0, y.1 < W.opn := fun y hy => by
   have := h.sh.Jl
   rw [List.pairwise_append] at this
   have := this.2.2 y hy x (by simp); omega
 have hb : W.opn < 100000000 := by have := h.opn.2.1; omega
 have Ae : ∀ y ∈ s0, AF W.dir ks y.1 ≠ AF W.dir ks W.opn := fun y hy e => by
   have := Ag y hy
   have := Ef (by omega) hb e; omega
 obtain ⟨f2, oR, hd⟩ := h.sh.file s0.length x (by simp)
 rw [he, hf] at oR
 cases oR
 simp at hd
 have hold : ∀ s, (BE fs (AF W.dir ks W.opn) (some ⟨f.data, f.data.length⟩) s).isSome = true → (fs s).isSome = true := fun s hs => by
   by_cases Hy : s = AF W.dir ks W.opn
   · subst Hy; rw [hf]; rfl
   · rwa [Aw Hy] at hs
 refine ⟨⟨fun h0 => ?_, h.sh.XJ, fun s hs => h.sh.Yf s (hold s hs), h.sh.aB, h.sh.gt, h.sh.Jl, fun s hs => h.sh.dH s (hold s hs), fun i y hy => ?_, h.sh.uP, EK, h.sh.OW, h.sh.LX, h.sh.uQ⟩, h.AP, h.opn, h.size, h.Ii, fun g h0 hg => ?_, fun y hy Uv g hg => ?_, fun y hy dL => ?_, fun BX => absurd he (BX x hx)⟩
 · obtain ⟨g, hg, e⟩ := h.sh.O7 h0
   exact ⟨g, by rw [Aw BH]; exact hg, e⟩
 · obtain ⟨g, hg, e⟩ := h.sh.file i y hy
   rcases List.mem_append.1 (List.mem_of_getElem? hy) with Ht | Ht
   · exact ⟨g, by rw [Aw (Ae y Ht)]; exact hg, e⟩
   · simp at Ht
     subst Ht
     rw [he, hf] at hg
     cases hg
     exact ⟨⟨f.data, f.data.length⟩, by rw [he]; exact C0, e⟩
 · rw [Aw BH] at hg; exact h.sync g h0 hg
 · rcases List.mem_append.1 hy with Ht | Ht
   · rw [Aw (Ae y Ht)] at hg; exact h.OX y hy Uv g hg
   · simp at Ht; subst Ht; omega
 · rcases List.mem_append.1 hy with Ht | Ht
   · have := Ag y Ht; omega
   · simp at Ht
     subst Ht
     exact ⟨y.2.length, ⟨f.data, f.data.length⟩, Nat.le_refl _, by rw [he]; exact C0, by rw [List.take_length, ← hd]; exact Nat.le_refl _, Nat.le_refl _⟩
theorem A7.rotate {s0 : Sg} {x : Nat × Bs} (h : A7 fs cnt W rc (s0 ++ [x]) safe) (hn : cnt < 99999998) (he : x.1 = W.opn) (hs : ∀ f, fs (AF W.dir ks W.opn) = some f → f.GF = f.data.length) (dK : safe ≤ (rc ++ Ao (s0 ++ [x])).length) :
   A7 fs cnt { W with opn := W.opn + 1, size := 0 } rc (s0 ++ [x]) safe := by
 have hx : x ∈ s0 ++ [x] := by simp
 have hle := h.opn.2.2
 refine ⟨h.sh, h.AP, ⟨by have := h.opn.1; simp only; omega, by have := (h.sh.gt x hx).2; simp only; omega, fun y hy => by have := hle y hy; simp only; omega⟩, fun y hy dL => ?_, fun _ => rfl, h.sync, fun y hy Uv f hf => ?_, fun y hy dL => ?_, fun _ => dK⟩
 · have := hle y hy; simp only at dL; omega
 · rcases Nat.lt_or_ge y.1 W.opn with h1 | h1
   · exact h.OX y hy h1 f hf
   · have : y.1 = W.opn := by have := hle y hy; omega
     rw [this] at hf
     exact hs f hf
 · have := hle y hy; simp only at dL; omega
end
end TwW
end
section
namespace TwW
open Go Tw Go.RowKit Go.Proofs.Tryz
structure Out (dir : ByteArray) (fs gs : Fs) : Prop where
 out : ∀ s, BR s (dir ++ Ce) = false → gs s = fs s
 new : ∀ s, (gs s).isSome = true → (fs s).isSome = true ∨ 0 < numOf dir kc s ∨ 0 < numOf dir ks s ∨ s = BC dir
theorem Out.refl {dir : ByteArray} {fs : Fs} : Out dir fs fs := ⟨fun _ _ => rfl, fun _ h => .inl h⟩
theorem Out.trans {dir : ByteArray} {fs gs hs : Fs} (h : Out dir fs gs) (g : Out dir gs hs) : Out dir fs hs := ⟨fun s hb => (g.out s hb).trans (h.out s hb), fun s hb => (g.new s hb).elim (h.new s) .inr⟩
theorem TK {s dir : ByteArray} {l : List UInt8} (h : s.data.toList = dir.data.toList ++ 47 :: l) : BR s (dir ++ Ce) = true := by
 unfold BR
 rw [decide_eq_true_iff, C7, h]
 exact ⟨l, by simp [Ce]⟩
theorem C8 {dir kind : ByteArray} {n : Nat} : BR (AF dir kind n) (dir ++ Ce) = true := TK (l := kind.data.toList ++ Jk n) (by rw [Cc, KH]; simp)
theorem Lu {dir : ByteArray} : BR (BC dir) (dir ++ Ce) = true := TK (l := [110, 101, 119]) (by rw [BC, C7])
theorem Out.del {dir s : ByteArray} {fs : Fs} (h : BR s (dir ++ Ce) = true) : Out dir fs (TwW.BE fs s none) := ⟨fun t ht => Aw fun e => (by rw [e, h] at ht; cases ht), fun t ht => by
 by_cases e : t = s
 · subst e; rw [C0] at ht; cases ht
 · rw [Aw e] at ht; exact .inl ht⟩
theorem Out.put {dir kind : ByteArray} {n : Nat} {fs : Fs} {x : Option Fl} (hk : kind = kc ∨ kind = ks) (h0 : 0 < n) (h1 : n < 100000000) : Out dir fs (TwW.BE fs (AF dir kind n) x) := ⟨fun t ht => Aw fun e => (by rw [e, C8] at ht; cases ht), fun t ht => by
 by_cases e : t = AF dir kind n
 · subst e
   have := Bq (dir := dir) (kind := kind) h1
   rcases hk with rfl | rfl
   · exact .inr (.inl (by omega))
   · exact .inr (.inr (.inl (by omega)))
 · rw [Aw e] at ht; exact .inl ht⟩
theorem Out.app {dir kind : ByteArray} {n : Nat} {fs : Fs} {xs : List Int} (hk : kind = kc ∨ kind = ks) (h0 : 0 < n) (h1 : n < 100000000) : Out dir fs (TwW.EV fs (AF dir kind n) xs) := Out.put hk h0 h1
section
variable {σ σ' τ : Hp} {d b : Nat} {D : Dk} {W : Wl} {R : Rr}
structure lL (σ : Hp) (d : Nat) (D : Dk) (τ : Hp) (L : Hp → Dk → Prop) (fs FF : Fs) (c : Nat) (R : Rr) : Prop where
 ok : ∀ σ', L σ' ⟨fs, true, D.armed, c⟩ → R (.returned (.int .i64 0)) σ'
 bad : D.armed = true → ∀ σ' gs, GN FF gs → Ai σ' d ⟨gs, false, false, c⟩ τ → R (.returned (.int .i64 60)) σ'
theorem lL.wr {fs FF : Fs} {c : Nat} {Sd S : List Nat} {p : Option Addr} {cc : Nat} {T : TypeId} (h2 : FG (σ.off Sd) b d W S p cc T) (h3 : Ext τ ((σ.off Sd).off S)) (h : lL σ d D τ (fun σ' D' => Aj σ' d b D' W τ) fs FF c R) : Wr σ Sd d D fs FF c R :=
 ⟨fun σ' S' hd hx => h.ok σ' (Aj.step h2 h3 hd hx), fun ha σ' S' gs hg hd hx => h.bad ha σ' gs hg (Aj.step h2 h3 hd hx).fu⟩
theorem lL.wrd {fs FF : Fs} {c : Nat} {Sd : List Nat} (h3 : Ext τ (σ.off Sd)) (h : lL σ d D τ (fun σ' D' => Ai σ' d D' τ) fs FF c R) : Wr σ Sd d D fs FF c R :=
 ⟨fun σ' S' hd hx => h.ok σ' ⟨S', hd, h3.trans hx⟩, fun ha σ' S' gs hg hd hx => h.bad ha σ' gs hg ⟨S', hd, h3.trans hx⟩⟩
theorem qt {s : ByteArray} {p : Option Addr} {n c : Nat} {xs : List Int} (h : Aj σ d b D W τ) (Ed : D.up = true) (hn : Ah s = true) (hc : ON D) (hx : B9 .u8 τ p n xs) (hlen : ((D.files s).getD ⟨[], 0⟩).data.length + n ≤ 4194304)
   (hw : lL σ d D τ (fun σ' D' => Aj σ' d b D' W τ) (EV D.files s xs) (EV D.files s xs) (D.cnt + 1) R) : Spec prog 135 #[.pointer (some ⟨d, 0, none⟩), .string s, .slice p n c] σ R := by
 obtain ⟨Sd, S, q, cc, T, h1, h2, h3⟩ := h
 exact OO h1 Ed hn hc (hx.mono (h3.trans (Ext.Cn _ _))) hlen (hw.wr h2 h3)
theorem uT {s : ByteArray} {f : Fl} (h : Aj σ d b D W τ) (Ed : D.up = true) (hn : Ah s = true) (hf : D.files s = some f)
   (hw : lL σ d D τ (fun σ' D' => Aj σ' d b D' W τ) (BE D.files s (some ⟨f.data, f.data.length⟩)) D.files D.cnt R) : Spec prog 133 #[.pointer (some ⟨d, 0, none⟩), .string s] σ R := by
 obtain ⟨Sd, S, q, cc, T, h1, h2, h3⟩ := h
 exact TE h1 Ed hn hf (hw.wr h2 h3)
theorem PU {s : ByteArray} {f : Fl} (h : Aj σ d b D W τ) (Ed : D.up = true) (hn : Ah s = true) (hf : D.files s = some f)
   (hw : lL σ d D τ (fun σ' D' => Aj σ' d b D' W τ) (BE D.files s none) D.files D.cnt R) : Spec prog 138 #[.pointer (some ⟨d, 0, none⟩), .string s] σ R := by
 obtain ⟨Sd, S, q, cc, T, h1, h2, h3⟩ := h
 exact OP h1 Ed hn hf (hw.wr h2 h3)
theorem Ij {K : Hp → Prop} (h : K σ) : Spec prog 132 #[.int .i64 0] σ (AB R fun v σ1 => v = .tuple #[] ∧ K σ1) :=
 QO.start ⟨fun hh => absurd rfl hh, fun _ => ⟨rfl, h⟩⟩
theorem Lv {K : Hp → Prop} (h : R (.panicked (bI 60)) σ) : Spec prog 132 #[.int .i64 60] σ (AB R fun v σ1 => v = .tuple #[] ∧ K σ1) :=
 QO.start ⟨fun _ => h, fun hh => absurd (by decide) hh⟩
def hasB (W : Wl) : Bool := decide (W.AP.getLast? = some W.opn)
theorem Qh (h : Aj σ d b D W τ) (hR : R (.returned (.bool (hasB W))) σ) : Spec prog 131 #[.pointer (some ⟨b, 0, none⟩)] σ R := by
 have r := h.rd
 obtain ⟨p, c, hc, hl, HJ⟩ := r.AP
 have FV := HJ.big
 refine OK.start ⟨b, 0, rfl, p, _, c, hl, fun Ix => ?_, fun hz => ?_⟩
 · have AOF : 0 < W.AP.length := by omega
   have Ja : W.AP.getLast? = some (W.AP[W.AP.length - 1]) := by rw [List.getLast?_eq_getElem?, List.getElem?_eq_getElem (by omega)]
   have hg : (I1 W.AP)[W.AP.length - 1]? = some ((W.AP[W.AP.length - 1] : Nat) : Int) := by
     rw [I1, List.getElem?_map, List.getElem?_eq_getElem (by omega)]; rfl
   obtain ⟨BI, cG, rfl, R1⟩ := HJ.at hg
   have e : Int.toNat (((W.AP.length : Nat) : Int) - 1) = W.AP.length - 1 := by omega
   refine ⟨_, _, c, hl, _, _, c, hl, by unfold AN; omega, BI, cG, rfl, by omega, _, by rw [e]; exact R1, W.opn, r.opn, ?_⟩
   have : decide (((W.AP[W.AP.length - 1] : Nat) : Int) = (W.opn : Int)) = hasB W := by
     unfold hasB
     rw [Ja]
     apply decide_eq_decide.2
     simp only [Option.some.injEq]
     omega
   dsimp only; rw [this]; exact hR
 · have : hasB W = false := by
     have : W.AP = [] := List.eq_nil_of_length_eq_zero (by omega)
     simp [hasB, this]
   rw [this] at hR; exact hR
theorem EL {fs : Fs} {cnt : Nat} {rc : Bs} {sg : Sg} {safe : Nat} (h : A7 fs cnt W rc sg safe) : (hasB W = true → ∃ s0 x, sg = s0 ++ [x] ∧ x.1 = W.opn) ∧ (hasB W = false → ∀ x ∈ sg, x.1 ≠ W.opn) := by
 constructor
 · intro hh
   simp only [hasB, decide_eq_true_eq] at hh
   rcases List.eq_nil_or_concat sg with rfl | ⟨s0, x, rfl⟩
   · rw [h.AP] at hh; simp at hh
   · refine ⟨s0, x, by simp, ?_⟩
     rw [h.AP] at hh; simpa using hh
 · intro hh x hx he
   obtain ⟨s0, rfl, _⟩ := dI h.sh.Jl h.opn.2.2 hx he
   have : hasB W = true := by simp [hasB, h.AP, he]
   rw [this] at hh; cases hh
theorem XL : ∀ (l : List Nat) (lo hi : Nat), l.Pairwise (· < ·) → (∀ x ∈ l, lo ≤ x ∧ x < hi) → l.length ≤ hi - lo
 | [], _, _, _, _ => Nat.zero_le _
 | a :: l, lo, hi, hp, hb => by
   rw [List.pairwise_cons] at hp
   have h1 := XL l (a + 1) hi hp.2 fun x hx => ⟨hp.1 x hx, (hb x (by simp [hx])).2⟩
   have h2 := hb a (by simp)
   simp; omega
theorem A7.len {fs : Fs} {cnt : Nat} {rc : Bs} {sg : Sg} {safe : Nat} (h : A7 fs cnt W rc sg safe) : W.AP.length ≤ cnt + 1 := by
 have := XL W.AP 0 (cnt + 1) (by rw [h.AP, List.pairwise_map]; exact h.sh.Jl) (fun x hx => by
   rw [h.AP] at hx
   obtain ⟨y, hy, rfl⟩ := List.mem_map.1 hx
   have := h.sh.gt y hy; omega)
 simpa using this
structure yL (d b : Nat) (D : Dk) (W : Wl) (τ : Hp) (rc : Bs) (sg : Sg) (safe : Nat) (xs : List Int) (rok : Hp → Prop) (lM : Hp → Prop) : Prop where
 ok : ∀ σ' D' W' KK Mo, Aj σ' d b D' W' τ → D'.up = true → D'.armed = D.armed → D'.cnt = D.cnt + 1 → W'.dir = W.dir → (W'.AP.length ≤ W.AP.length + 1 ∧ W'.size ≤ 4096 + (frame xs).length ∧ hasB W' = true ∧ W.AP <+: W'.AP ∧ ∀ s, (D'.files s).isSome = true → (D.files s).isSome = true ∨ s = AF W'.dir ks W'.opn) → A7 D'.files D'.cnt W' rc KK Mo → safe ≤ Mo → Ao KK = Ao sg ++ [xs] → Out W.dir D.files D'.files →
   D'.files (BC W.dir) = D.files (BC W.dir) → W'.check = W.check → (hasB W = false → W'.AP = W.AP ++ [W.opn] ∧ W'.opn = W.opn ∧ W'.size = W.size + (frame xs).length) → (hasB W = true → W.size < 4096 → W'.AP = W.AP ∧ W'.opn = W.opn ∧ W'.size = W.size + (frame xs).length) → (hasB W = false ∨ W.size < 4096 → D'.files = EV D.files (AF W.dir ks W.opn) (frame xs)) → rok σ'
 bad : D.armed = true → ∀ σ' D' told, Ai σ' d D' τ → D'.up = false → D'.armed = false → (D'.cnt ≤ D.cnt + 1 ∧ ∀ s, (D'.files s).isSome = true → (D.files s).isSome = true ∨ s = AF W.dir ks W.opn ∨ s = AF W.dir ks (W.opn + 1)) → G6 D'.files W.dir D'.cnt told → told <+: rc ++ Ao sg ++ [xs] → safe ≤ told.length → lM σ'
theorem uU {b0 b1 : Nat} {pf : Option Addr} {cf : Nat} {fr : List Int} (h : Aj σ d b D W τ) (t0 : τ b0 = some (.cells #[.pointer (some ⟨b, 0, none⟩)] 158 (0, 0))) (t1 : τ b1 = some (.cells #[.slice pf fr.length cf] 84 (0, 0))) (EY : W.size + fr.length ≤ 4194304)
   (hR : ∀ σ', Aj σ' d b D { W with size := W.size + fr.length } τ → R (.returned (.tuple #[])) σ') : BP.GR R b0 b1 σ := by
 have r := h.rd
 have hx := h.ext
 refine BP.GS ⟨_, AD (hx _ _ t0) rfl, b, 0, rfl, W.size, r.size, pf, _, cf, AD (hx _ _ t1) rfl, by unfold AN; omega, ?_⟩
 have e : ((W.size : Int) + (fr.length : Int)) = ((W.size + fr.length : Nat) : Int) := by omega
 rw [e]
 exact h.st (i := 0 + 5) (W' := { W with size := W.size + fr.length }) (by omega) rfl (fun p n c => rfl) hR
theorem uV {b0 b1 : Nat} {pf : Option Addr} {cf : Nat} {xs : List Int} {rc : Bs} {sg : Sg} {safe uW : Nat} {D0 : Dk} {W0 : Wl} (h : Aj σ d b D W τ) (ht : Tb τ) (t0 : τ b0 = some (.cells #[.pointer (some ⟨b, 0, none⟩)] 158 (0, 0))) (t1 : τ b1 = some (.cells #[.slice pf (frame xs).length cf] 84 (0, 0)))
   (hx : B9 .u8 τ pf (frame xs).length (frame xs)) (Rg : xs.length ≤ 65536) (h8 : E6 xs) (Ed : D.up = true) (Hn : D.cnt < 67108864) (hfew : ON D) (hd : CG W.dir = true) (Aq : A7 D.files D.cnt W rc sg safe) (EY : W.size ≤ 4096) (hss : uW ≤ safe)
   (hD : D.armed = D0.armed ∧ D.cnt = D0.cnt ∧ Out W.dir D0.files D.files ∧ D.files (BC W.dir) = D0.files (BC W.dir) ∧ ∀ s, (D.files s).isSome = true → (D0.files s).isSome = true) (ho0 : W.opn = W0.opn ∨ W.opn = W0.opn + 1) (hW : W.dir = W0.dir ∧ W.AP = W0.AP ∧ W.check = W0.check ∧ (hasB W0 = false → W = W0) ∧ (hasB W0 = true → W0.size < 4096 → W = W0) ∧ (hasB W0 = false ∨ W0.size < 4096 → W = W0 ∧ D.files = D0.files))
   (hR : yL d b D0 W0 τ rc sg uW xs (fun σ' => R (.returned (.tuple #[])) σ') (fun σ' => R (.panicked (bI 60)) σ')) : BP.Bu R b0 b1 σ := by
 have r := h.rd
 have O8 := h.ext
 have Nz : W.dir.size ≤ 32 := by simp [CG] at hd; exact hd.2
 have yM := Aq.opn.2.1
 have Z0 := OR Rg
 have Ji : Ah (AF W.dir ks W.opn) = true := E3 hd (.inr rfl) (by omega)
 refine BP.BF ⟨_, AD (O8 _ _ t0) rfl, b, 0, rfl, _, r.ptr, _, AD (O8 _ _ t0) rfl, _, AD (O8 _ _ t0) rfl, b, 0, rfl, W.opn, r.opn, pf, _, cf, AD (O8 _ _ t1) rfl, ?_⟩
 refine DG (kind := ks) r.dir Nz (.inr rfl) (by omega) (ht.mono O8) fun σ1 BM => ⟨_, rfl, Kp.CA BM, ?_⟩
 have h1 := h.mono BM
 have hlen : ((D.files (AF W.dir ks W.opn)).getD ⟨[], 0⟩).data.length ≤ 4096 := by
   cases hb : hasB W with
   | true =>
     obtain ⟨s0, x, rfl, he⟩ := (EL Aq).1 hb
     obtain ⟨f, hf, e⟩ := Aq.sh.file s0.length x (by simp)
     rw [he] at hf
     rw [hf]
     have := Aq.size x (by simp) he
     simp at e
     simp [e]; omega
   | false =>
     rw [Aq.free (by omega) ((EL Aq).2 hb)]; simp
 have lN : ∀ KK : Sg, Ao KK = Ao sg ++ [xs] → rc ++ Ao KK = rc ++ Ao sg ++ [xs] := fun KK e => by rw [e, List.append_assoc]
 have AEL : ∀ W' KK, W'.dir = W.dir → A7 (EV D.files (AF W.dir ks W.opn) (frame xs)) (D.cnt + 1) W' rc KK safe → Ao KK = Ao sg ++ [xs] → D.armed = true → ∀ σ' gs, GN (EV D.files (AF W.dir ks W.opn) (frame xs)) gs → Ai σ' d ⟨gs, false, false, D.cnt + 1⟩ τ → R (.panicked (bI 60)) σ' := by
   intro W' KK Qi hl he ha σ' gs hg Mp
   obtain ⟨told, g1, g2, g3⟩ := hl.dJ hg
   rw [lN KK he] at g2
   rw [Qi] at g1
   refine hR.bad (hD.1 ▸ ha) σ' _ told Mp rfl rfl ⟨by simp only; omega, fun s hs => ?_⟩ (hW.1 ▸ g1) g2 (by omega)
   have aC := hg.Uu hs
   by_cases Hy : s = AF W.dir ks W.opn
   · rw [Hy, hW.1]
     rcases ho0 with e | e <;> rw [e]
     · exact .inr (.inl rfl)
     · exact .inr (.inr rfl)
   · rw [Ca Hy] at aC
     exact .inl (hD.2.2.2.2 s aC)
 have okR : ∀ W' KK Mo, W'.check = W.check → (hasB W = false → W'.AP = W.AP ++ [W.opn] ∧ W'.opn = W.opn ∧ W'.size = W.size + (frame xs).length) → (hasB W = true → W'.AP = W.AP ∧ W'.opn = W.opn ∧ W'.size = W.size + (frame xs).length) → W'.dir = W.dir → (W'.AP.length ≤ W.AP.length + 1 ∧ W'.size ≤ 4096 + (frame xs).length ∧ hasB W' = true ∧ W.AP <+: W'.AP ∧ W'.opn = W.opn) → A7 (EV D.files (AF W.dir ks W.opn) (frame xs)) (D.cnt + 1) W' rc KK Mo → safe ≤ Mo → Ao KK = Ao sg ++ [xs] → ∀ σ', Aj σ' d b ⟨EV D.files (AF W.dir ks W.opn) (frame xs), true, D.armed, D.cnt + 1⟩ W' τ → R (.returned (.tuple #[])) σ' := by
   intro W' KK Mo q1 q2 q3 Qi dM hl hle he σ' qu
   refine hR.ok σ' _ W' KK Mo qu rfl hD.1 (by simp only; omega) (Qi.trans hW.1) ⟨by rw [← hW.2.1]; exact dM.1, dM.2.1, dM.2.2.1, by rw [← hW.2.1]; exact dM.2.2.2.1, fun s hs => ?_⟩ hl (by omega) he ?_ ?_ (q1.trans hW.2.2.1) (fun hb => by rw [← hW.2.2.2.1 hb]; exact q2 (by rw [hW.2.2.2.1 hb]; exact hb)) (fun hb hz => by rw [← hW.2.2.2.2.1 hb hz]; exact q3 (by rw [hW.2.2.2.2.1 hb hz]; exact hb)) (fun hz => by obtain ⟨e1, e2⟩ := hW.2.2.2.2.2 hz; rw [← e1, ← e2])
   · by_cases Hy : s = AF W.dir ks W.opn
     · exact .inr (by rw [Hy, Qi, dM.2.2.2.2])
     · have aC : (EV D.files (AF W.dir ks W.opn) (frame xs) s).isSome = true := hs
       rw [Ca Hy] at aC
       exact .inl (hD.2.2.2.2 s aC)
   · exact hW.1 ▸ hD.2.2.1.trans (Out.app (.inr rfl) (by have := Aq.opn.1; omega) (by omega))
   · have := hD.2.2.2.1
     rw [← hW.1]
     show EV D.files (AF W.dir ks W.opn) (frame xs) (BC W.dir) = _
     rw [Ca (Bj (.inr rfl))]; exact this
 refine qt h1 Ed Ji hfew hx (by omega) ⟨fun σ2 h2 => ⟨_, rfl, Ij ?_⟩, fun ha σ2 gs hg Mp => ⟨_, rfl, Lv ?_⟩⟩
 · have Ay := h2.ext
   refine ⟨_, AD (Ay _ _ t0) rfl, Qh h2 ⟨_, rfl, fun hb => ?_, fun hb => ?_⟩⟩
   · have BX := (EL Aq).2 hb
     have hl := Aq.uS (by omega) BX Rg h8
     obtain ⟨p53, c53, ARP, AEM, AOH⟩ := h2.rd.AP
     refine ⟨_, AD (Ay _ _ t0) rfl, _, AD (Ay _ _ t0) rfl, b, 0, rfl, p53, _, c53, AEM, _, AD (Ay _ _ t0) rfl, b, 0, rfl, W.opn, h2.rd.opn, fun M9 AEN => ?_⟩
     have Kr : W.AP.length ≤ 67108864 := Nat.le_trans (Aq.len) (by omega)
     have vP : ∀ b, τ b ≠ none → b ≠ M9 := fun b' h1 e => by
       cases h2 : τ b' with
       | none => exact h1 h2
       | some o => have := Ay _ _ h2; rw [e, AEN] at this; cases this
     refine (h2.app (Φ := fun _ AEO => BP.GR R b0 b1 AEO) AEM Kr AEN (K := fun σa σb => Kp [b0] σa σb) (fun σ' Ci => fun k hk o ho => ?_) fun σ3 h3 => ?_).mono fun v σ3 ⟨p', n', c', e1, e2, e3⟩ => ⟨p', n', c', e1, e2, b, 0, rfl, e3⟩
     · simp only [List.mem_singleton] at hk
       subst hk
       rw [Hp.AH (vP k (by rw [t0]; simp)), Ay _ _ t0] at ho
       cases ho
       exact Ci _ _ t0
     · exact uU h3 t0 t1 (by simp only; omega) fun σ4 h4 => okR { W with AP := W.AP ++ [W.opn], size := W.size + (frame xs).length } _ _ rfl (fun _ => ⟨rfl, rfl, rfl⟩) (fun hh => by rw [hb] at hh; cases hh) rfl ⟨by simp, by simp only; omega, by simp [hasB], List.prefix_append _ _, rfl⟩ hl (Nat.le_refl _) (by simp [Ao]) σ4 h4
   · obtain ⟨s0, x, rfl, he⟩ := (EL Aq).1 hb
     have hl := Aq.uR (by omega) he Rg h8
     refine uU h2 t0 t1 (by omega) fun σ3 h3 => okR { W with size := W.size + (frame xs).length } _ _ rfl (fun hh => by rw [hb] at hh; cases hh) (fun _ => ⟨rfl, rfl, rfl⟩) rfl ⟨by simp, by simp only; omega, hb, List.prefix_refl _, rfl⟩ hl (Nat.le_refl _) ?_ σ3 h3
     simp [Ao]
 · cases hb : hasB W with
   | true =>
     obtain ⟨s0, x, rfl, he⟩ := (EL Aq).1 hb
     exact AEL { W with size := W.size + (frame xs).length } _ rfl (Aq.uR (by omega) he Rg h8) (by simp [Ao]) ha σ2 gs hg Mp
   | false => exact AEL { W with AP := W.AP ++ [W.opn], size := W.size + (frame xs).length } _ rfl (Aq.uS (by omega) ((EL Aq).2 hb) Rg h8) (by simp [Ao]) ha σ2 gs hg Mp
end
end TwW
end
section
namespace TwW
open Go Tw Go.RowKit Go.Proofs.Tryz
section
variable {σ σ' τ : Hp} {d b : Nat} {D : Dk} {W : Wl} {R : Rr}
theorem AKc : Enters prog 130 := fun args w => call130 args w
theorem A7.size_le {fs : Fs} {cnt : Nat} {rc : Bs} {safe : Nat} {s0 : Sg} {x : Nat × Bs} (h : A7 fs cnt W rc (s0 ++ [x]) safe) (he : x.1 = W.opn) : ∃ f, fs (AF W.dir ks W.opn) = some f ∧ f.data.length = W.size := by
 obtain ⟨f, hf, e⟩ := h.sh.file s0.length x (by simp)
 rw [he] at hf
 have := h.size x (by simp) he
 simp at e
 exact ⟨f, hf, by rw [e, this]⟩
theorem A7.qw {fs : Fs} {cnt : Nat} {rc : Bs} {sg : Sg} {safe : Nat} (h : A7 fs cnt W rc sg safe) : safe ≤ (rc ++ Ao sg).length := by
 by_cases hl : ∃ x ∈ sg, x.1 = W.opn
 · obtain ⟨x, hx, he⟩ := hl
   obtain ⟨m, f, hm, _, _, hs⟩ := h.dur x hx he
   omega
 · exact h.fx fun x hx he => hl ⟨x, hx, he⟩
theorem fy {b0 b1 : Nat} {pf : Option Addr} {cf : Nat} {xs : List Int} {rc : Bs} {sg : Sg} {safe : Nat} (h : Aj σ d b D W τ) (ht : Tb τ) (t0 : τ b0 = some (.cells #[.pointer (some ⟨b, 0, none⟩)] 158 (0, 0))) (t1 : τ b1 = some (.cells #[.slice pf (frame xs).length cf] 84 (0, 0)))
   (hx : B9 .u8 τ pf (frame xs).length (frame xs)) (Rg : xs.length ≤ 65536) (h8 : E6 xs) (Ed : D.up = true) (Hn : D.cnt < 67108864) (hfew : ON D) (hd : CG W.dir = true) (Aq : A7 D.files D.cnt W rc sg safe)
   (hR : yL d b D W τ rc sg safe xs (fun σ' => R (.returned (.tuple #[])) σ') (fun σ' => R (.panicked (bI 60)) σ')) : Spec prog 130 #[.pointer (some ⟨b0, 0, none⟩), .pointer (some ⟨b1, 0, none⟩)] σ R := by
 have r := h.rd
 have O8 := h.ext
 have Nz : W.dir.size ≤ 32 := by simp [CG] at hd; exact hd.2
 have yM := Aq.opn.2.1
 have keep : W.size ≤ 4096 → BP.Bu R b0 b1 σ := fun EY => uV h ht t0 t1 hx Rg h8 Ed Hn hfew hd Aq EY (Nat.le_refl _) ⟨rfl, rfl, Out.refl, rfl, fun _ hs => hs⟩ (.inl rfl) ⟨rfl, rfl, rfl, fun _ => rfl, fun _ _ => rfl, fun _ => ⟨rfl, rfl⟩⟩ hR
 refine BP.start ⟨_, AD (O8 _ _ t0) rfl, Qh h ⟨_, rfl, fun hb => ?_, fun hb => ?_⟩⟩
 · obtain ⟨s0, x, rfl, he⟩ := (EL Aq).1 hb
   refine ⟨_, AD (O8 _ _ t0) rfl, b, 0, rfl, W.size, r.size, fun FV => ?_, fun Ky => keep (by omega)⟩
   obtain ⟨f, hf, Z0⟩ := Aq.size_le he
   have Ji : Ah (AF W.dir ks W.opn) = true := E3 hd (.inr rfl) (by omega)
   refine ⟨_, AD (O8 _ _ t0) rfl, b, 0, rfl, _, r.ptr, _, AD (O8 _ _ t0) rfl, _, AD (O8 _ _ t0) rfl, b, 0, rfl, W.opn, r.opn, ?_⟩
   refine DG (kind := ks) r.dir Nz (.inr rfl) (by omega) (ht.mono O8) fun σ1 BM => ⟨_, rfl, Kp.CA BM, ?_⟩
   have h1 := h.mono BM
   have qx := Aq.synced (by omega) he hf
   refine uT h1 Ed Ji hf ⟨fun σ2 h2 => ⟨_, rfl, Ij ?_⟩, fun ha σ2 gs hg Mp => ⟨_, rfl, Lv ?_⟩⟩
   · have Ay := h2.ext
     have Lt : ∀ s, (TwW.BE D.files (AF W.dir ks W.opn) (some ⟨f.data, f.data.length⟩) s).isSome = true → (D.files s).isSome = true := fun s hs => by
       by_cases Hy : s = AF W.dir ks W.opn
       · rw [Hy, hf]; rfl
       · rwa [Aw Hy] at hs
     have AKd := qx.rotate (by omega) he (fun g hg => by rw [C0] at hg; cases hg; rfl) (Nat.le_refl _)
     refine ⟨_, AD (Ay _ _ t0) rfl, b, 0, rfl, W.opn, h2.rd.opn, by unfold AN; omega, ?_⟩
     have e : ((W.opn : Int) + 1) = ((W.opn + 1 : Nat) : Int) := by omega
     rw [e]
     refine h2.st (i := 0 + 4) (W' := { W with opn := W.opn + 1 }) (by omega) rfl (fun p n c => rfl) fun σ3 h3 => ?_
     have C6 := h3.ext
     refine ⟨_, AD (C6 _ _ t0) rfl, b, 0, rfl, ?_⟩
     refine h3.st (i := 0 + 5) (x := 0) (W' := { W with opn := W.opn + 1, size := 0 }) (by omega) rfl (fun p n c => rfl) fun σ4 h4 => ?_
     exact uV (D0 := D) (W0 := W) h4 ht t0 t1 hx Rg h8 rfl Hn (hfew.sub (Nat.le_refl _) Lt) hd AKd (Nat.zero_le _) Aq.qw ⟨rfl, rfl, Out.put (.inr rfl) (by have := Aq.opn.1; omega) (by omega), Aw (Bj (.inr rfl)), Lt⟩ (.inr rfl) ⟨rfl, rfl, rfl, fun hh => (by rw [hb] at hh; cases hh), fun _ hz => (by omega), fun hz => (by rcases hz with hz | hz; rw [hb] at hz; cases hz; omega)⟩ hR
   · obtain ⟨told, g1, g2, g3⟩ := Aq.dJ hg
     exact hR.bad ha σ2 _ told Mp rfl rfl ⟨by simp only; omega, fun s hs => .inl (hg.Uu hs)⟩ g1 (g2.trans (List.prefix_append _ _)) g3
 · have BX := (EL Aq).2 hb
   exact keep (by rw [Aq.Ii BX]; omega)
theorem Uw {p : Option Addr} {n c : Nat} {xs : List Int} {rc : Bs} {sg : Sg} {safe : Nat} (h : Aj σ d b D W τ) (ht : Tb τ) (hx : B9 .u8 τ p n xs) (h8 : E6 xs) (Ed : D.up = true) (Hn : D.cnt < 67108864) (hd : CG W.dir = true) (Aq : A7 D.files D.cnt W rc sg safe)
   (lO : 65536 < n → ∀ σ', Aj σ' d b D W τ → R (.returned (.int .i64 70)) σ')
   (hR : n ≤ 65536 → yL d b D W τ rc sg safe xs (fun σ' => R (.returned (.int .i64 0)) σ') (fun σ' => R (.returned (.int .i64 60)) σ')) (hfew : ON D := by refine .inl ?_; first | omega | (dsimp only [dk]; omega) | (dsimp only; omega)) : Spec prog 63 #[.pointer (some ⟨b, 0, none⟩), .slice p n c] σ R := by
 have hnx : xs.length = n := hx.1
 refine J3.start fun b2 HD => ?_
 obtain ⟨τ1, h1, x1, t0⟩ := h.box (o := .cells #[.pointer (some ⟨b, 0, none⟩)] 158 (0, 0)) HD
 refine Qa (hx.mono (x1.trans h1.ext)) (fun hl => ⟨_, _, _, _, rfl, fun b5 Wu => ?_⟩) fun hle p' n' c' σ1 ho BM => ⟨_, _, _, _, rfl, fun b5 Wu => ?_⟩
 · obtain ⟨τ2, h2, x2, t5⟩ := h1.box (o := .cells #[.slice none 0 0] 84 (0, 0)) Wu
   refine AJ.store (v := .slice none 0 0) Ug (Hp.AA _ _ _) rfl (by simp) (by simp [Value.cells, Value.oneCell']) ?_
   rw [Hp.set_set]
   obtain ⟨τ3, h3, x3, t5⟩ := h1.box (o := .cells (DT #[.slice none 0 0] 0 (Value.slice none 0 0).cells.toList) 84 (0, 0)) Wu
   exact ⟨fun _ => lO hl _ (h3.FX (x1.trans x3)), fun hh => absurd (by decide) hh⟩
 · obtain ⟨τ2, h2, x2, qy⟩ := h1.grow BM
   have Z0 : (frame xs).length = n' := by have := ho.1; simpa using this
   subst Z0
   have Vb : B9 .u8 τ2 p' (frame xs).length (frame xs) := (AR.rd ho).mono qy
   refine AJ.store (v := .slice p' (frame xs).length c') Ug (Hp.AA _ _ _) rfl (by simp) (by simp [Value.cells, Value.oneCell']) ?_
   rw [Hp.set_set]
   obtain ⟨τ3, h3, x3, t5⟩ := h2.box (o := .cells (DT #[.slice none 0 0] 0 (Value.slice p' (frame xs).length c').cells.toList) 84 (0, 0)) Wu
   have hτ : Ext τ τ3 := x1.trans (x2.trans x3)
   have hR' := hR hle
   refine ⟨fun hh => absurd rfl hh, fun _ => KJ AKc ?_⟩
   refine fy h3 (ht.mono hτ) (x3 _ _ (x2 _ _ t0)) t5 (Vb.mono x3) (by omega) h8 Ed Hn hfew hd Aq
     ⟨fun σ' D' W' KK Mo a1 a2 a3 a4 a5 a6 a7 a8 a9 a10 a11 a12 a13 a14 a15 => .inl ⟨rfl, _, rfl, hR'.ok σ' D' W' KK Mo (a1.FX hτ) a2 a3 a4 a5 a6 a7 a8 a9 a10 a11 a12 a13 a14 a15⟩, fun ha σ' D' told a1 a2 a3 a4 a5 a6 a7 => .inr ⟨60, rfl, _, rfl, hR'.bad ha σ' D' told (a1.FX hτ) a2 a3 a4 a5 a6 a7⟩⟩
theorem aE {rc : Bs} {sg : Sg} {safe : Nat} (h : Aj σ d b D W τ) (ht : Tb τ) (Ed : D.up = true) (Hn : D.cnt < 67108864) (hd : CG W.dir = true) (Aq : A7 D.files D.cnt W rc sg safe)
   (hR : ∀ σ' D', Aj σ' d b D' W τ → D'.up = true → D'.armed = D.armed → D'.cnt = D.cnt → A7 D'.files D'.cnt W rc sg (rc ++ Ao sg).length → Out W.dir D.files D'.files → D'.files (BC W.dir) = D.files (BC W.dir) → ((hasB W = true → ∃ f, D.files (AF W.dir ks W.opn) = some f ∧ D'.files = BE D.files (AF W.dir ks W.opn) (some ⟨f.data, f.data.length⟩)) ∧ ∀ s, (D'.files s).isSome = true → (D.files s).isSome = true) → R (.returned (.int .i64 0)) σ')
   (KF : D.armed = true → ∀ σ' D' told, Ai σ' d D' τ → D'.up = false → D'.armed = false → (D'.cnt = D.cnt ∧ ∀ s, (D'.files s).isSome = true → (D.files s).isSome = true) → G6 D'.files W.dir D'.cnt told → told <+: rc ++ Ao sg → safe ≤ told.length → R (.returned (.int .i64 60)) σ') : Spec prog 65 #[.pointer (some ⟨b, 0, none⟩)] σ R := by
 have r := h.rd
 have Nz : W.dir.size ≤ 32 := by simp [CG] at hd; exact hd.2
 have yM := Aq.opn.2.1
 refine MV.start (Qh h ⟨_, rfl, fun hb => ?_, fun hb => ⟨b, 0, rfl, _, r.ptr, W.opn, r.opn, ?_⟩⟩)
 · have BX := (EL Aq).2 hb
   exact hR σ D h Ed rfl rfl { Aq with dur := fun x hx he => absurd he (BX x hx), fx := fun _ => Nat.le_refl _ } Out.refl rfl ⟨fun hh => (by rw [hb] at hh; cases hh), fun _ hs => hs⟩
 · obtain ⟨s0, x, rfl, he⟩ := (EL Aq).1 hb
   obtain ⟨f, hf, Z0⟩ := Aq.size_le he
   have Ji : Ah (AF W.dir ks W.opn) = true := E3 hd (.inr rfl) (by omega)
   refine DG (kind := ks) r.dir Nz (.inr rfl) (by omega) (ht.mono h.ext) fun σ1 BM => ⟨_, rfl, Kp.CA BM, ?_⟩
   refine uT (h.mono BM) Ed Ji hf ⟨fun σ2 h2 => ⟨_, rfl, ?_⟩, fun ha σ2 gs hg Mp => ⟨_, rfl, ?_⟩⟩
   · exact hR σ2 _ h2 rfl rfl rfl (Aq.synced (by omega) he hf) (Out.put (.inr rfl) (by have := Aq.opn.1; omega) (by omega)) (Aw (Bj (.inr rfl))) ⟨fun _ => ⟨f, hf, rfl⟩, fun s hs => by
       by_cases Hy : s = AF W.dir ks W.opn
       · rw [Hy, hf]; rfl
       · have aC : (TwW.BE D.files (AF W.dir ks W.opn) (some ⟨f.data, f.data.length⟩) s).isSome = true := hs
         rwa [Aw Hy] at aC⟩
   · obtain ⟨told, g1, g2, g3⟩ := Aq.dJ hg
     exact KF ha σ2 _ told Mp rfl rfl ⟨rfl, fun s hs => hg.Uu hs⟩ g1 g2 g3
end
end TwW
end
section
namespace TwW
open Go Tw Go.RowKit Go.Proofs.Tryz
theorem TL : ∀ (c l m : List UInt8), c ++ l ≤ c ++ m → l ≤ m
 | [], _, _, h => h
 | a :: c, l, m, h => by
   rcases List.cons_le_cons_iff.1 (show a :: (c ++ l) ≤ a :: (c ++ m) from h) with h1 | ⟨_, h2⟩
   · exact absurd h1 (by simp [UInt8.lt_irrefl])
   · exact TL c l m h2
theorem XM : ∀ {l m : List Nat}, l.Pairwise (· < ·) → m.Pairwise (· < ·) → (∀ x, x ∈ l ↔ x ∈ m) → l = m
 | [], [], _, _, _ => rfl
 | [], b :: m, _, _, h => by have := (h b).2 (by simp); cases this
 | a :: l, [], _, _, h => by have := (h a).1 (by simp); cases this
 | a :: l, b :: m, hl, hm, h => by
   rw [List.pairwise_cons] at hl hm
   have fz : a = b := by
     rcases List.mem_cons.1 ((h a).1 (by simp)) with e | e
     · exact e
     · rcases List.mem_cons.1 ((h b).2 (by simp)) with e2 | e2
       · exact e2.symm
       · have h1 := hm.1 a e; have h2 := hl.1 b e2; omega
   subst fz
   rw [XM hl.2 hm.2 fun x => ⟨fun hx => ?_, fun hx => ?_⟩]
   · rcases List.mem_cons.1 ((h x).1 (by simp [hx])) with e | e
     · have := hl.1 x hx; omega
     · exact e
   · rcases List.mem_cons.1 ((h x).2 (by simp [hx])) with e | e
     · have := hm.1 x hx; omega
     · exact e
theorem lP {dir s t : ByteArray} (hs : 0 < numOf dir ks s) (ht : 0 < numOf dir ks t) (h : s.data.toList ≤ t.data.toList) : numOf dir ks s ≤ numOf dir ks t := by
 obtain ⟨e1, l1⟩ := Dz hs
 obtain ⟨e2, l2⟩ := Dz ht
 rw [e1, e2, Cc, Cc] at h
 have h2 := uN _ _ (by rw [Ie l1, Ie l2]) (KG _) (KG _) (TL _ _ _ h)
 rwa [Mm, Mm] at h2
def ER (dir : ByteArray) (check : Nat) (L : List ByteArray) : List Nat := (L.map (numOf dir ks)).filter fun n => decide (check < n)
theorem Mq {fs : Fs} {dir pre : ByteArray} {check : Nat} : ∀ {L : List ByteArray}, L.Pairwise (fun a b => a.data.toList ≤ b.data.toList) → L.Nodup → (ER dir check L).Pairwise (· < ·)
 | [], _, _ => by simp [ER]
 | s :: L, hs, hn => by
   rw [List.pairwise_cons] at hs
   rw [List.nodup_cons] at hn
   have ih := Mq (fs := fs) (pre := pre) (dir := dir) (check := check) hs.2 hn.2
   unfold ER at ih ⊢
   rw [List.map_cons, List.filter_cons]
   split
   · rename_i hc
     rw [List.pairwise_cons]
     refine ⟨fun n Rx => ?_, ih⟩
     obtain ⟨h1, h2⟩ := List.mem_filter.1 Rx
     obtain ⟨t, ht, rfl⟩ := List.mem_map.1 h1
     simp only [decide_eq_true_eq] at hc h2
     have hle := lP (dir := dir) (s := s) (t := t) (by omega) (by omega) (hs.1 t ht)
     rcases Nat.lt_or_ge (numOf dir ks s) (numOf dir ks t) with h | h
     · exact h
     · exfalso
       have e : numOf dir ks s = numOf dir ks t := by omega
       have h3 := (Dz (dir := dir) (kind := ks) (s := s) (by omega)).1
       have h4 := (Dz (dir := dir) (kind := ks) (s := t) (by omega)).1
       rw [e, ← h4] at h3
       exact hn.1 (h3 ▸ ht)
   · exact ih
theorem Qj {dir kind s : ByteArray} (h : 0 < numOf dir kind s) : BR s (dir ++ Ce) = true := by
 rw [(Dz h).1]; exact C8
theorem aF {fs : Fs} {dir : ByteArray} {cnt check : Nat} {rc : Bs} {sg : Sg} {tail : List Int} {L : List ByteArray} (h : Shape fs dir cnt check rc sg tail) (hc : cnt < 99999999) (hL : Names fs (dir ++ Ce) L) : ER dir check L = sg.map (·.1) := by
 refine XM (Mq (fs := fs) (pre := dir) hL.sorted hL.nodup) (by rw [List.pairwise_map]; exact h.Jl) fun n => ⟨fun hn => ?_, fun hn => ?_⟩
 · obtain ⟨h1, h2⟩ := List.mem_filter.1 hn
   obtain ⟨s, hs, rfl⟩ := List.mem_map.1 h1
   obtain ⟨x, hx, e⟩ := h.dH s ((hL.mem s).1 hs).1 (by simpa using h2)
   exact List.mem_map.2 ⟨x, hx, e⟩
 · obtain ⟨x, hx, rfl⟩ := List.mem_map.1 hn
   obtain ⟨k, hk⟩ := List.getElem?_of_mem hx
   have hg := h.gt x hx
   have hf := (h.file k x hk).Uu
   have e : numOf dir ks (AF dir ks x.1) = x.1 := Bq (by omega)
   exact List.mem_filter.2 ⟨List.mem_map.2 ⟨_, (hL.mem _).2 ⟨hf, C8⟩, e⟩, by simpa using hg.1⟩
def Ks (dir : ByteArray) (L : List ByteArray) : Nat := (L.map (numOf dir kc)).foldl max 0
theorem foldl_max : ∀ (l : List Nat) (a m : Nat), a ≤ m → (∀ x ∈ l, x ≤ m) → (a = m ∨ m ∈ l) → l.foldl max a = m
 | [], a, m, h, _, hm => by rcases hm with h | h; exact h; cases h
 | x :: l, a, m, h, hb, hm => by
   rw [List.foldl_cons]
   have hx := hb x (by simp)
   refine foldl_max l (max a x) m (by omega) (fun y hy => hb y (by simp [hy])) ?_
   rcases hm with h1 | h1
   · left; omega
   · rcases List.mem_cons.1 h1 with rfl | h1
     · left; omega
     · exact .inr h1
theorem dN {fs : Fs} {dir : ByteArray} {cnt check : Nat} {rc : Bs} {sg : Sg} {tail : List Int} {L : List ByteArray} (h : Shape fs dir cnt check rc sg tail) (hc : cnt < 99999999) (hL : Names fs (dir ++ Ce) L) : Ks dir L = check := by
 refine foldl_max _ _ _ (Nat.zero_le _) (fun n hn => ?_) ?_
 · obtain ⟨s, hs, rfl⟩ := List.mem_map.1 hn
   exact h.Yf s ((hL.mem s).1 hs).1
 · rcases Nat.eq_zero_or_pos check with h0 | h0
   · exact .inl h0.symm
   · have qz := h.aB
     exact .inr (List.mem_map.2 ⟨AF dir kc check, (hL.mem _).2 ⟨(h.O7 h0).Uu, C8⟩, Bq (by omega)⟩)
theorem gA {dir s : ByteArray} {L : List ByteArray} : Ks dir (L ++ [s]) = max (Ks dir L) (numOf dir kc s) := by simp [Ks, List.foldl_append]
def junk (dir : ByteArray) (check : Nat) (s : ByteArray) : Bool := (decide (0 < numOf dir kc s) && decide (numOf dir kc s < check)) || (decide (0 < numOf dir ks s) && decide (numOf dir ks s ≤ check))
open Classical in
noncomputable def DV (fs : Fs) (p : ByteArray → Bool) (L : List ByteArray) : Fs := fun s => if s ∈ L ∧ p s = true then none else fs s
theorem XN {fs : Fs} {p : ByteArray → Bool} : DV fs p [] = fs := by funext s; simp [DV]
theorem Qk {fs : Fs} {p : ByteArray → Bool} {L : List ByteArray} {s t : ByteArray} (Pf : ¬ t = s) : DV fs p (L ++ [s]) t = DV fs p L t := by
 have e : (t ∈ L ++ [s] ∧ p t = true) ↔ (t ∈ L ∧ p t = true) := by simp [Pf]
 unfold DV
 by_cases hc : t ∈ L ∧ p t = true
 · rw [if_pos (e.2 hc), if_pos hc]
 · rw [if_neg fun h => hc (e.1 h), if_neg hc]
theorem Ik {fs : Fs} {p : ByteArray → Bool} {L : List ByteArray} {s : ByteArray} : DV fs p (L ++ [s]) = if p s = true then BE (DV fs p L) s none else DV fs p L := by
 funext t
 by_cases hp : p s = true
 · rw [if_pos hp]
   by_cases Pf : t = s
   · subst Pf
     unfold DV
     rw [if_pos ⟨by simp, hp⟩, C0]
   · rw [Qk Pf, Aw Pf]
 · rw [if_neg hp]
   by_cases Pf : t = s
   · subst Pf
     unfold DV
     rw [if_neg fun h => hp h.2, if_neg fun h => hp h.2]
   · exact Qk Pf
theorem dO {fs : Fs} {p : ByteArray → Bool} {L : List ByteArray} {s : ByteArray} (h : s ∉ L) : DV fs p L s = fs s := by simp [DV, h]
theorem Shape.del {fs : Fs} {dir : ByteArray} {cnt check : Nat} {rc : Bs} {sg : Sg} {tail : List Int} {p : ByteArray → Bool} {L : List ByteArray} (h : Shape fs dir cnt check rc sg tail) (hc : cnt < 99999999) (hp : ∀ s, p s = true → (numOf dir kc s = 0 ∨ numOf dir kc s < check) ∧ numOf dir ks s ≤ check) : Shape (DV fs p L) dir cnt check rc sg tail := by
 have qz := h.aB
 refine h.congr (Nat.le_refl _) (fun h0 => ?_) (fun x hx => ?_) fun s hs => ?_
 · unfold DV
   rw [if_neg]
   rintro ⟨_, hps⟩
   have := (hp _ hps).1
   rw [Bq (by omega)] at this
   omega
 · have hg := h.gt x hx
   unfold DV
   rw [if_neg]
   rintro ⟨_, hps⟩
   have := (hp _ hps).2
   rw [Bq (by omega)] at this
   omega
 · unfold DV at hs
   split at hs
   · cases hs
   · exact .inl hs
theorem Out.DV {fs : Fs} {dir : ByteArray} {p : ByteArray → Bool} {L : List ByteArray} (hp : ∀ s, p s = true → BR s (dir ++ Ce) = true) : Out dir fs (TwW.DV fs p L) := by
 refine ⟨fun s hs => ?_, fun s hs => ?_⟩
 · unfold TwW.DV
   rw [if_neg]
   rintro ⟨_, h⟩
   rw [hp s h] at hs; cases hs
 · unfold TwW.DV at hs
   split at hs
   · cases hs
   · exact .inl hs
theorem Ux {dir : ByteArray} {check : Nat} {s : ByteArray} (h : junk dir check s = true) : BR s (dir ++ Ce) = true ∧ (numOf dir kc s = 0 ∨ numOf dir kc s < check) ∧ numOf dir ks s ≤ check := by
 simp only [junk, Bool.or_eq_true, Bool.and_eq_true, decide_eq_true_eq] at h
 rcases h with ⟨h1, h2⟩ | ⟨h1, h2⟩
 · have := Ih h1
   exact ⟨Qj h1, .inr h2, by omega⟩
 · refine ⟨Qj h1, .inl ?_, h2⟩
   rcases Nat.eq_zero_or_pos (numOf dir kc s) with h0 | h0
   · exact h0
   · have := Ih h0; omega
abbrev ny (σ : Hp) (p : Option Addr) (n : Nat) (L : List ByteArray) : Prop := GP 1 σ p n (L.map .string)
theorem ny.at {σ : Hp} {p : Option Addr} {n k : Nat} {L : List ByteArray} {s : ByteArray} (h : ny σ p n L) (hk : L[k]? = some s) : ∃ b o, p = some ⟨b, o, none⟩ ∧ σ.ld ⟨b, o + k * 1, none⟩ = some (.string s) := by
 obtain ⟨h1, _, h2⟩ := h
 have Ag := (List.getElem?_eq_some_iff.1 hk).1
 rcases h2 with h2 | ⟨b, o, hp, hl⟩
 · simp at h1; omega
 · refine ⟨b, o, hp, ?_⟩
   rw [Nat.mul_one]
   exact hl.get (by rw [List.getElem?_map, hk]; rfl)
theorem ny.len {σ : Hp} {p : Option Addr} {n : Nat} {L : List ByteArray} (h : ny σ p n L) : L.length = n := by have := h.1; simpa using this
theorem ny.mono {σ σ' : Hp} {p : Option Addr} {n : Nat} {L : List ByteArray} (h : ny σ p n L) (hx : Ext σ σ') : ny σ' p n L := GP.mono hx h
section
variable {σ τ : Hp} {d b : Nat} {D : Dk} {W : Wl} {R : Rr} {p1 : Option Addr} {n1 c1 : Nat} {L : List ByteArray} {fs0 : Fs} {cnt : Nat}
abbrev dk (fs : Fs) (cnt : Nat) : Dk := ⟨fs, true, false, cnt⟩
theorem yN {check : Nat} (hL : Names fs0 (W.dir ++ Ce) L) {fs : Fs} (JY : ∀ s ∈ L, junk W.dir check s = true → fs s = fs0 s) (Rx : ∀ s, (fs0 s).isSome = true → Ah s = true) (hd : W.dir.size ≤ 32) (ht : ny τ p1 n1 L) (Ql : n1 ≤ 67108864)
   (hR : ∀ σ', Aj σ' d b (dk (DV fs (junk W.dir check) L) cnt) { W with check := check, AP := ER W.dir check L } τ → R (.returned (.tuple #[])) σ') :
   ∀ (m k : Nat) (σ : Hp), n1 - k = m → k ≤ n1 → Aj σ d b (dk (DV fs (junk W.dir check) (L.take k)) cnt) { W with check := check, AP := ER W.dir check (L.take k) } τ → An.Ru R (some ⟨b, 0, none⟩) p1 n1 c1 n1 k σ := by
 intro m
 have hlen := ht.len
 induction m with
 | zero =>
   intro k σ hm hk h
   rw [List.take_of_length_le (by omega)] at h
   exact An.MX ⟨fun hh => by omega, fun _ => hR σ h⟩
 | succ m ih =>
   intro k σ hm hk h
   have hr := h.rd
   obtain ⟨s, hs⟩ : ∃ s, L[k]? = some s := ⟨_, List.getElem?_eq_getElem (by omega)⟩
   obtain ⟨F9, PO, rfl, hl⟩ := (ht.mono h.ext).at hs
   have hsL : s ∈ L := List.mem_of_getElem? hs
   have kk := (hL.mem s).1 hsL
   have Mr := AO hs
   have MA : s ∉ L.take k := by
     have := hL.nodup.sublist (List.take_sublist (k + 1) L)
     rw [Mr, List.nodup_append] at this
     exact fun hm => this.2.2 s hm s (by simp) rfl
   have Kr : ER W.dir check (L.take (k + 1)) = ER W.dir check (L.take k) ++ (if check < numOf W.dir ks s then [numOf W.dir ks s] else []) := by
     rw [Mr]; unfold ER
     rw [List.map_append, List.filter_append]
     simp only [List.map_cons, List.map_nil, List.filter_cons, List.filter_nil]
     congr 1
     split <;> simp_all
   have next : ∀ σ', Aj σ' d b (dk (DV fs (junk W.dir check) (L.take (k + 1))) cnt) { W with check := check, AP := ER W.dir check (L.take (k + 1)) } τ → An.G0 R (some ⟨b, 0, none⟩) (some ⟨F9, PO, none⟩) n1 c1 n1 k σ' := fun σ' h' =>
     An.PT ⟨by unfold AN; omega, ih (k + 1) σ' (by omega) (by omega) h'⟩
   have rA : (ER W.dir check (L.take k)).length ≤ 67108864 := by
     refine Nat.le_trans (List.length_filter_le _ _) ?_
     rw [List.length_map, List.length_take]; omega
   have lQ : junk W.dir check s = true → ∃ tT : Option Addr, Hp.ld σ ⟨b, 0, none⟩ = some (.pointer tT) ∧ Spec prog 138 #[(.pointer tT), (.string s)] σ (AB R (fun Ze A0 => ∃ tU : Int, Ze = (.int .i64 tU) ∧ Spec prog 132 #[(.int .i64 tU)] A0 (AB R (fun v_4 OB => v_4 = (.tuple #[]) ∧ An.G0 R (some ⟨b, 0, none⟩) (some ⟨F9, PO, none⟩) n1 c1 n1 k OB)))) := fun hj => by
     obtain ⟨f, hf⟩ := Option.isSome_iff_exists.1 kk.1
     have nG := Ux hj
     refine ⟨_, hr.ptr, PU h rfl (Rx s kk.1) (f := f) (by show DV fs (junk W.dir check) (L.take k) s = some f; rw [dO MA, JY s hsL hj, hf]) ⟨fun σ2 h2 => ⟨0, rfl, Ij (next σ2 ?_)⟩, fun ha => by cases ha⟩⟩
     rw [Mr, Ik, if_pos hj, ← Mr, Kr, if_neg (by omega), List.append_nil]
     exact h2
   have uX : junk W.dir check s = false → numOf W.dir ks s ≤ check → An.G0 R (some ⟨b, 0, none⟩) (some ⟨F9, PO, none⟩) n1 c1 n1 k σ := fun hj hle => next σ (by
     rw [Mr, Ik, if_neg (by rw [hj]; simp), ← Mr, Kr, if_neg (by omega), List.append_nil]
     exact h)
   have AKf : numOf W.dir kc s = 0 ∨ ¬ numOf W.dir kc s < check → check < numOf W.dir ks s → ∃ iS : Option Addr, ∃ ng : Nat, ∃ iT : Nat, Hp.ld σ ⟨b, (0 + 3), none⟩ = some (.slice iS ng iT) ∧ ∀ YZ : Nat, σ YZ = none → AJ prog (Builtin.append_ #[26, 26] 26 #[(.slice iS ng iT), (.slice (some ⟨YZ, 0, none⟩) 1 1)]) (Hp.set σ YZ (.cells #[(.int .i64 (numOf W.dir ks s))] 3 (0, 0))) (fun Ze A0 => ∃ nh : Option Addr, ∃ ni : Nat, ∃ c91 : Nat, Ze = (.slice nh ni c91) ∧ AJ prog (Instr.storeAt 26 (.pointer (some ⟨b, (0 + 3), none⟩)) (.slice nh ni c91)) A0 (fun _ OB => An.G0 R (some ⟨b, 0, none⟩) (some ⟨F9, PO, none⟩) n1 c1 n1 k OB)) := fun hc hs => by
     obtain ⟨iS, iT, ARU, AER, _⟩ := hr.AP
     refine ⟨iS, _, iT, AER, fun YZ AKg => ?_⟩
     refine (h.app (Φ := fun _ σ' => An.G0 R (some ⟨b, 0, none⟩) (some ⟨F9, PO, none⟩) n1 c1 n1 k σ') AER rA AKg (K := fun _ _ => True) (fun _ _ => trivial) fun σ3 h3 => next σ3 ?_).mono fun v σ3 ⟨p', n', c', e1, _, e3⟩ => ⟨p', n', c', e1, e3⟩
     have hj : ¬ junk W.dir check s = true := by
       simp only [junk, Bool.or_eq_true, Bool.and_eq_true, decide_eq_true_eq]; omega
     rw [Mr, Ik, if_neg hj, ← Mr, Kr, if_pos hs]
     exact h3
   refine An.MX ⟨fun _ => ⟨F9, PO, rfl, by omega, s, by simpa using hl, KI (dir := W.dir) (kind := kc) hr.dir hd (.inl rfl) ⟨_, rfl, KI (dir := W.dir) (kind := ks) hr.dir hd (.inr rfl) ⟨_, rfl, ?_⟩⟩⟩, fun hh => by omega⟩
   have hk0 : 0 < numOf W.dir kc s → numOf W.dir ks s = 0 := Ih
   have AES : σ.ld ⟨b, 0 + 2, none⟩ = some (.int .i64 (check : Nat)) := hr.check
   refine ⟨fun hc => ⟨b, 0, rfl, _, AES, fun Ag => lQ (by simp only [junk, Bool.or_eq_true, Bool.and_eq_true, decide_eq_true_eq]; left; omega), fun FB => ⟨fun hs => ?_, fun hs => ⟨fun aC => absurd aC hs, fun _ => uX ?_ ?_⟩⟩⟩, fun hc => ⟨fun hs => ⟨b, 0, rfl, _, AES, fun hle => lQ (by simp only [junk, Bool.or_eq_true, Bool.and_eq_true, decide_eq_true_eq]; right; omega), fun hgt => ⟨fun _ => AKf (by omega) (by omega), fun hn => absurd hs hn⟩⟩, fun hs => ⟨fun aC => absurd aC hs, fun _ => uX ?_ ?_⟩⟩⟩
   · have := hk0 (by omega); omega
   · simp only [junk, Bool.or_eq_false_iff, Bool.and_eq_false_iff, decide_eq_false_iff_not]; omega
   · omega
   · simp only [junk, Bool.or_eq_false_iff, Bool.and_eq_false_iff, decide_eq_false_iff_not]; omega
   · omega
end
end TwW
end
section
namespace TwW
open Go Tw Go.RowKit Go.Proofs.Tryz
def Jb (dir s : ByteArray) : Bool := decide (s = BC dir)
section
variable {σ τ : Hp} {d b : Nat} {D : Dk} {W : Wl} {R : Rr} {p1 : Option Addr} {n1 c1 : Nat} {L : List ByteArray} {fs0 : Fs} {cnt : Nat}
theorem XO {dir : ByteArray} {check : Nat} : junk dir check (BC dir) = false := by simp [junk, Kc (.inl rfl), Kc (.inr rfl)]
noncomputable def OY (fs0 : Fs) (dir : ByteArray) (L : List ByteArray) : Fs := DV (DV fs0 (Jb dir) L) (junk dir (Ks dir L)) L
theorem aG (h : Aj σ d b (dk fs0 cnt) W τ) (hW : W.check = 0 ∧ W.AP = []) (hL : Names fs0 (W.dir ++ Ce) L) (Rx : ∀ s, (fs0 s).isSome = true → Ah s = true) (hd : W.dir.size ≤ 32) (ht : ny τ p1 n1 L) (Ql : n1 ≤ 67108864)
   (hR : ∀ σ', Aj σ' d b (dk (OY fs0 W.dir L) cnt) { W with check := Ks W.dir L, AP := ER W.dir (Ks W.dir L) L } τ → R (.returned (.tuple #[])) σ') :
   Spec prog 173 #[.pointer (some ⟨b, 0, none⟩), .slice p1 n1 c1] σ R := by
 refine An.start ?_
 have hlen := ht.len
 suffices H : ∀ (m k : Nat) (σ : Hp), n1 - k = m → k ≤ n1 → Aj σ d b (dk (DV fs0 (Jb W.dir) (L.take k)) cnt) { W with check := Ks W.dir (L.take k), AP := [] } τ → An.ZW R (some ⟨b, 0, none⟩) p1 n1 c1 p1 n1 c1 n1 k σ from
   H n1 0 σ rfl (Nat.zero_le _) (by
     rw [List.take_zero, XN]
     have : ({ W with check := Ks W.dir [], AP := [] } : Wl) = W := by
       cases W; simp only at hW; simp [Ks, hW.1, hW.2]
     rw [this]; exact h)
 intro m
 induction m with
 | zero =>
   intro k σ hm hk h
   rw [List.take_of_length_le (by omega)] at h
   refine An.Ln ⟨fun hh => by omega, fun _ => ?_⟩
   refine yN (W := W) (fs := DV fs0 (Jb W.dir) L) (fs0 := fs0) hL (fun s hs hj => ?_) Rx hd ht Ql hR n1 0 σ rfl (Nat.zero_le _) ?_
   · unfold DV
     rw [if_neg]
     rintro ⟨_, hn⟩
     simp only [Jb, decide_eq_true_eq] at hn
     rw [hn, XO] at hj; cases hj
   · rw [List.take_zero, XN]; exact h
 | succ m ih =>
   intro k σ hm hk h
   have hr := h.rd
   obtain ⟨s, hs⟩ : ∃ s, L[k]? = some s := ⟨_, List.getElem?_eq_getElem (by omega)⟩
   obtain ⟨F9, PO, hp1, hl⟩ := (ht.mono h.ext).at hs
   have hsL : s ∈ L := List.mem_of_getElem? hs
   have kk := (hL.mem s).1 hsL
   have Mr := AO hs
   have MA : s ∉ L.take k := by
     have := hL.nodup.sublist (List.take_sublist (k + 1) L)
     rw [Mr, List.nodup_append] at this
     exact fun hm => this.2.2 s hm s (by simp) rfl
   have next : ∀ σ', Aj σ' d b (dk (DV fs0 (Jb W.dir) (L.take (k + 1))) cnt) { W with check := Ks W.dir (L.take k), AP := [] } τ → An.WW R (some ⟨b, 0, none⟩) p1 n1 c1 s p1 n1 c1 n1 k σ' := fun σ' h' => by
     have Is := h'.rd
     refine An.Uc ⟨b, 0, rfl, (Ks W.dir (L.take k) : Nat), Is.check, KI (dir := W.dir) (kind := kc) Is.dir hd (.inl rfl) ⟨_, rfl, fun _ _ _ hb => hb, ?_⟩⟩
     have e : (if ((Ks W.dir (L.take k) : Nat) : Int) < (numOf W.dir kc s : Int) then (numOf W.dir kc s : Int) else ((Ks W.dir (L.take k) : Nat) : Int)) = ((Ks W.dir (L.take (k + 1)) : Nat) : Int) := by
       rw [Mr, gA]; split <;> omega
     rw [e]
     refine h'.st (i := 0 + 2) (W' := { W with check := Ks W.dir (L.take (k + 1)), AP := [] }) (by omega) rfl (fun p n c => rfl) fun σ2 h2 => ⟨by unfold AN; omega, ih (k + 1) σ2 (by omega) (by omega) h2⟩
   refine An.Ln ⟨fun _ => ⟨F9, PO, hp1, by omega, s, by simpa using hl, Qf (dir := W.dir) hr.dir hd ⟨_, rfl, fun he => ?_, fun Ae => ?_⟩⟩, fun hh => by omega⟩
   · rw [QW, decide_eq_true_eq] at he
     have Hy : s = BC W.dir := lF he
     obtain ⟨f, hf⟩ := Option.isSome_iff_exists.1 kk.1
     refine ⟨b, 0, rfl, _, hr.ptr, PU h rfl (Rx s kk.1) (f := f) (by show DV fs0 (Jb W.dir) (L.take k) s = some f; rw [dO MA, hf]) ⟨fun σ2 h2 => ⟨0, rfl, Ij ?_⟩, fun ha => by cases ha⟩⟩
     rw [MI hp1]
     refine next σ2 ?_
     rw [Mr, Ik, if_pos (by simp [Jb, Hy])]
     exact h2
   · rw [QW, decide_eq_false_iff_not] at Ae
     have Hy : ¬ s = BC W.dir := fun e => Ae (by rw [e])
     rw [MI hp1]
     refine next σ ?_
     rw [Mr, Ik, if_neg (by simp [Jb, Hy])]
     exact h
theorem XP {fs : Fs} {dir : ByteArray} {check : Nat} {rc : Bs} {sg : Sg} {tail : List Int} (h : Shape fs dir cnt check rc sg tail) (hc : cnt < 99999999) (hL : Names fs (dir ++ Ce) L) :
   Shape (OY fs dir L) dir cnt check rc sg tail ∧ Out dir fs (OY fs dir L) ∧ OY fs dir L (BC dir) = none ∧ ∀ s f, OY fs dir L s = some f → fs s = some f := by
 have hm := dN h hc hL
 have hn : ∀ s, Jb dir s = true → BR s (dir ++ Ce) = true ∧ (numOf dir kc s = 0 ∨ numOf dir kc s < check) ∧ numOf dir ks s ≤ check := fun s hs => by
   simp only [Jb, decide_eq_true_eq] at hs
   subst hs
   exact ⟨Lu, .inl (Kc (.inl rfl)), by rw [Kc (.inr rfl)]; omega⟩
 unfold OY
 rw [hm]
 refine ⟨(h.del hc fun s hs => (hn s hs).2).del hc fun s hs => (Ux hs).2, (Out.DV fun s hs => (hn s hs).1).trans (Out.DV fun s hs => (Ux hs).1), ?_, fun s f hs => ?_⟩
 · have e : DV fs (Jb dir) L (BC dir) = none := by
     unfold DV
     by_cases Ck : BC dir ∈ L
     · rw [if_pos ⟨Ck, by simp [Jb]⟩]
     · rw [if_neg fun hh => Ck hh.1]
       cases hf : fs (BC dir) with
       | none => rfl
       | some f => exact absurd ((hL.mem _).2 ⟨by rw [hf]; rfl, Lu⟩) Ck
   unfold DV at e ⊢
   rw [if_neg (by rw [XO]; simp), e]
 · unfold DV at hs
   split at hs
   · cases hs
   · split at hs
     · cases hs
     · exact hs
end
end TwW
end
section
namespace TwW
open Go Tw Go.RowKit Go.Proofs.Tryz
section
variable {σ τ : Hp} {d b : Nat} {D : Dk} {W : Wl} {R : Rr} {dir : ByteArray}
def laid (fs : Fs) (dir name : ByteArray) (x : List Int) : Fs := fun s => if s = name then some ⟨x, x.length⟩ else if s = BC dir then none else fs s
structure aH (τ : Hp) (d b : Nat) (dir : ByteArray) : Prop where
 ptr : τ.ld ⟨b, 0, none⟩ = some (.pointer (some ⟨d, 0, none⟩))
 dir : τ.ld ⟨b, 0 + 1, none⟩ = some (.string dir)
theorem aH.mono {τ τ' : Hp} {d b : Nat} {dir : ByteArray} (h : aH τ d b dir) (hx : Ext τ τ') : aH τ' d b dir := ⟨hx.ld h.ptr, hx.ld h.dir⟩
theorem FG.rB {b : Nat} {S : List Nat} {p : Option Addr} {c : Nat} {T : TypeId} (h : FG τ b d W S p c T) : aH τ d b W.dir := ⟨AD h.obj rfl, AD h.obj rfl⟩
theorem Aj.opened (h : Aj σ d b D W τ) : ∃ τ' S p c T, Ai σ d D τ' ∧ FG τ' b d W S p c T ∧ Ext τ (τ'.off S) := by
 obtain ⟨Sd, S, p, c, T, h1, h2, h3⟩ := h
 exact ⟨σ.off Sd, S, p, c, T, ⟨Sd, h1, Ext.refl _⟩, h2, h3⟩
theorem Aj.close {τ' : Hp} {S : List Nat} {p : Option Addr} {c : Nat} {T : TypeId} (h : Ai σ d D τ') (hw : FG τ' b d W S p c T) : Aj σ d b D W (τ'.off S) := by
 obtain ⟨Sd, h1, h2⟩ := h
 exact ⟨Sd, S, p, c, T, h1, hw.mono h2, h2.off S⟩
theorem rC {s : ByteArray} {p : Option Addr} {n c : Nat} {xs : List Int} (h : Ai σ d D τ) (Ed : D.up = true) (hn : Ah s = true) (hc : ON D) (hx : B9 .u8 τ p n xs) (hlen : ((D.files s).getD ⟨[], 0⟩).data.length + n ≤ 4194304)
   (hw : lL σ d D τ (fun σ' D' => Ai σ' d D' τ) (EV D.files s xs) (EV D.files s xs) (D.cnt + 1) R) : Spec prog 135 #[.pointer (some ⟨d, 0, none⟩), .string s, .slice p n c] σ R := by
 obtain ⟨Sd, h1, h3⟩ := h
 exact OO h1 Ed hn hc (hx.mono h3) hlen (hw.wrd h3)
theorem AET {s : ByteArray} {f : Fl} (h : Ai σ d D τ) (Ed : D.up = true) (hn : Ah s = true) (hf : D.files s = some f)
   (hw : lL σ d D τ (fun σ' D' => Ai σ' d D' τ) (BE D.files s (some ⟨f.data, f.data.length⟩)) D.files D.cnt R) : Spec prog 133 #[.pointer (some ⟨d, 0, none⟩), .string s] σ R := by
 obtain ⟨Sd, h1, h3⟩ := h
 exact TE h1 Ed hn hf (hw.wrd h3)
theorem rD {s t : ByteArray} {f : Fl} (h : Ai σ d D τ) (Ed : D.up = true) (hn : Ah s = true) (Jn : Ah t = true) (hf : D.files s = some f)
   (hw : lL σ d D τ (fun σ' D' => Ai σ' d D' τ) (BE (BE D.files s none) t (some f)) D.files D.cnt R) : Spec prog 231 #[.pointer (some ⟨d, 0, none⟩), .string s, .string t] σ R := by
 obtain ⟨Sd, h1, h3⟩ := h
 exact Wv h1 Ed hn Jn hf (hw.wrd h3)
theorem rE {s : ByteArray} {f : Fl} (h : Ai σ d D τ) (Ed : D.up = true) (hn : Ah s = true) (hf : D.files s = some f)
   (hw : lL σ d D τ (fun σ' D' => Ai σ' d D' τ) (BE D.files s none) D.files D.cnt R) : Spec prog 138 #[.pointer (some ⟨d, 0, none⟩), .string s] σ R := by
 obtain ⟨Sd, h1, h3⟩ := h
 exact OP h1 Ed hn hf (hw.wrd h3)
theorem Out.laid {fs : Fs} {kind : ByteArray} {k : Nat} {x : List Int} (hk : kind = kc ∨ kind = ks) (h0 : 0 < k) (h1 : k < 100000000) : Out dir fs (TwW.laid fs dir (AF dir kind k) x) := by
 refine ⟨fun s hs => ?_, fun s hs => ?_⟩
 · have e1 : ¬ s = AF dir kind k := fun e => by rw [e, C8] at hs; cases hs
   have e2 : ¬ s = BC dir := fun e => by rw [e, Lu] at hs; cases hs
   simp [TwW.laid, e1, e2]
 · by_cases e : s = AF dir kind k
   · subst e
     have := Bq (dir := dir) (kind := kind) h1
     rcases hk with rfl | rfl
     · exact .inr (.inl (by omega))
     · exact .inr (.inr (.inl (by omega)))
   · by_cases e2 : s = BC dir
     · exact .inr (.inr (.inr e2))
     · simp only [TwW.laid, e, e2, if_false] at hs; exact .inl hs
structure AKh (d : Nat) (D : Dk) (dir : ByteArray) (τ : Hp) (name : ByteArray) (x : List Int) (rok : Hp → Prop) (lM : Hp → Prop) : Prop where
 ok : ∀ σ', Ai σ' d ⟨laid D.files dir name x, true, D.armed, D.cnt + 1⟩ τ → rok σ'
 bad : D.armed = true → ∀ σ' gs' gs, (∀ s, s ≠ BC dir → gs' s = D.files s) → GN gs' gs → Ai σ' d ⟨gs, false, false, D.cnt + 1⟩ τ → lM σ'
theorem Ms {name : ByteArray} {p : Option Addr} {n c : Nat} {Bi : Bs} (h : Ai σ d D τ) (hw : aH τ d b dir) (Ed : D.up = true) (Hn : D.cnt < 67108864) (hfew : ON D) (hd : CG dir = true) (Ez : Ah name = true) (hx : Jj τ p n Bi) (hs : Good Bi) (hlen : (AU Bi).length ≤ 4194304) (C3 : D.files (BC dir) = none) (Ae : name ≠ BC dir)
   (hR : AKh d D dir τ name (AU Bi) (fun σ' => R (.returned (.tuple #[])) σ') (fun σ' => R (.panicked (bI 60)) σ')) : Spec prog 137 #[.pointer (some ⟨b, 0, none⟩), .string name, .slice p n c] σ R := by
 have Nz : dir.size ≤ 32 := by simp [CG] at hd; exact hd.2
 have Ji := qn hd
 have fr : ∀ {σ' : Hp} {K : Rr}, Ext τ σ' → K (.returned (.string (BC dir))) σ' → Spec prog 229 #[.pointer (some ⟨b, 0, none⟩)] σ' K := fun hl hk => Qf (dir := dir) (hl.ld hw.dir) Nz hk
 refine JV.start ⟨b, 0, rfl, _, h.ext.ld hw.ptr, fr h.ext ⟨_, rfl, fun _ _ _ hb => hb, fm (hx.mono h.ext) hs.short (by omega) fun p' n' c' σ1 ho BM => ⟨p', n', c', rfl, Kp.CA BM, ?_⟩⟩⟩
 obtain ⟨τ1, h1, x1, x1n⟩ := h.grow BM
 have Z0 : (AU Bi).length = n' := by have := ho.1; simpa using this
 subst Z0
 have Vb : B9 .u8 τ1 p' (AU Bi).length (AU Bi) := (AR.rd ho).mono x1n
 have zl : (D.files (BC dir)).getD ⟨[], 0⟩ = ⟨[], 0⟩ := by rw [C3]; rfl
 refine rC h1 Ed Ji hfew Vb (by rw [zl]; simpa using hlen) ⟨fun σ2 h2 => ⟨0, rfl, Ij ?_⟩, fun ha σ2 gs hg Mp => ⟨60, rfl, Lv ?_⟩⟩
 · have e1 : EV D.files (BC dir) (AU Bi) (BC dir) = some ⟨AU Bi, 0⟩ := by simp [EV, BE, C3]
   refine ⟨_, (x1.trans h2.ext).ld hw.ptr, fr (x1.trans h2.ext) ⟨_, rfl, fun _ _ _ hb => hb, AET h2 rfl Ji (f := ⟨AU Bi, 0⟩) e1 ⟨fun σ3 h3 => ⟨0, rfl, Ij ?_⟩, fun ha σ3 gs hg Mp => ⟨60, rfl, Lv ?_⟩⟩⟩⟩
   · refine ⟨_, (x1.trans h3.ext).ld hw.ptr, fr (x1.trans h3.ext) ⟨_, rfl, fun _ _ _ hb => hb, rD h3 rfl Ji Ez (f := ⟨AU Bi, (AU Bi).length⟩) C0 ⟨fun σ4 h4 => ⟨0, rfl, Ij ?_⟩, fun ha σ4 gs hg Mp => ⟨60, rfl, Lv ?_⟩⟩⟩⟩
     · have e : BE (BE (BE (EV D.files (BC dir) (AU Bi)) (BC dir) (some ⟨AU Bi, (AU Bi).length⟩)) (BC dir) none) name (some ⟨AU Bi, (AU Bi).length⟩) = laid D.files dir name (AU Bi) := by
         funext s
         by_cases h1 : s = name
         · subst h1; simp [BE, laid]
         · by_cases h2 : s = BC dir
           · subst h2; simp [BE, laid, h1]
           · simp [BE, laid, h1, h2, EV]
       have := hR.ok σ4
       rw [← e] at this
       exact this (h4.FX x1)
     · exact hR.bad ha σ4 _ gs (fun s hs => (Aw hs).trans (Ca hs)) hg (Mp.FX x1)
   · exact hR.bad ha σ3 _ gs (fun s hs => Ca hs) hg (Mp.FX x1)
 · exact hR.bad ha σ2 _ gs (fun s hs => Ca hs) hg (Mp.FX x1)
theorem lR {s : ByteArray} {f : Fl} (h : Ai σ d D τ) (Ed : D.up = true) (hn : Ah s = true) (hf : D.files s = some f)
   (hR : ∀ p c σ' τ', Ai σ' d D τ' → Ext τ τ' → f.data.length ≤ c → f.data.length ≤ 4194304 → B9 .u8 τ' p f.data.length f.data → R (.returned (.tuple #[.slice p f.data.length c, .int .i64 0])) σ') : Spec prog 176 #[.pointer (some ⟨d, 0, none⟩), .string s] σ R := by
 have h' := h
 obtain ⟨Sd, h1, h3⟩ := h'
 have Ky : f.data.length ≤ 4194304 := by
   obtain ⟨m, cl, rows, T, a, b, e, hd⟩ := h1
   rw [hd.files, Row.look] at hf
   cases iV : rows.find? (fun r => decide (r.name = s)) with
   | none => rw [iV] at hf; cases hf
   | some r =>
     rw [iV] at hf
     cases hf
     exact (hd.row r (List.mem_of_find?_eq_some iV)).small
 refine fW h1 Ed hn hf fun p c σ' ho hx => ?_
 obtain ⟨τ', g1, g2, g3⟩ := h.grow hx
 exact hR p c σ' τ' g1 g2 (Own.cap ho) Ky ((AR.rd ho).mono g3)
def iY (τ ν : Hp) : Prop := ∀ j o, ν j = some o → τ j = none
theorem iY.of {τ σ σ' : Hp} (h : Ext τ σ) : iY τ (σ.new σ') := fun j o hj => by
 cases ht : τ j with
 | none => rfl
 | some u => have h1 := (AS.1 hj).1; rw [h _ _ ht] at h1; cases h1
theorem iY.del {τ ν τ' : Hp} (h : iY τ ν) (hx : Ext ν τ') {p : Option Addr} (hp : ∀ a, p = some a → τ a.block ≠ none) : Ext ν (τ'.del p) := fun j o hj => A9.2 ⟨fun a ha e => hp a ha (by rw [← e]; exact h j o hj), hx j o hj⟩
theorem iY.own {τ ν τ' : Hp} (h : iY τ ν) (hx : Ext τ τ') {p : Option Addr} (hp : ∀ a, p = some a → ν a.block ≠ none) : Ext τ (τ'.del p) := fun j o hj => by
 refine A9.2 ⟨fun a ha e => ?_, hx j o hj⟩
 cases hn : ν a.block with
 | none => exact hp a ha hn
 | some u => have := h _ _ hn; rw [← e, hj] at this; cases this
theorem Qm {name : ByteArray} {p2 : Option Addr} {n2 c2 : Nat} {Bi : Bs} (h : Ai σ d D τ) (hw : aH τ d b dir) (Ed : D.up = true) (Ez : Ah name = true) (hf : Has D.files name (AU Bi)) (hg : Good Bi)
   (hR : ∀ σ' τ' ν p n c, Ai σ' d D τ' → Ext τ τ' → Ic ν p n c Bi → Ext ν τ' → iY τ ν → R (.returned (.tuple #[.slice p n c, .bool true])) σ') : Spec prog 258 #[.pointer (some ⟨b, 0, none⟩), .string name, .slice p2 n2 c2] σ R := by
 obtain ⟨f, hf, uY⟩ := hf
 refine Dy.start ⟨b, 0, rfl, _, h.ext.ld hw.ptr, lR h Ed Ez hf fun p c σ1 τ1 h1 x1 hc Ky HJ => ⟨_, _, _, _, rfl, Ij ?_⟩⟩
 rw [uY] at HJ hc Ky
 rw [uY]
 refine OT (t := []) (HJ.mono h1.ext) (Mn hg) hc Ky (by simp) hg.short EK fun p' n' c' σ2 ho Ay => ⟨_, _, _, _, rfl, fun _ => ?_, fun hh => by simp at hh⟩
 obtain ⟨τ2, h2, x2, qy⟩ := h1.grow Ay
 exact hR σ2 τ2 _ p' n' c' h2 (x1.trans x2) ho qy (iY.of (x1.trans h1.ext))
theorem gB {name : ByteArray} {p2 : Option Addr} {c2 : Nat} {Bi : Bs} {tail : List Int} (h : Ai σ d D τ) (hw : aH τ d b dir) (Ed : D.up = true) (Kt : D.armed = false) (Hn : D.cnt < 67108864) (hfew : ON D) (hd : CG dir = true) (Ez : Ah name = true) (hf : Has D.files name (AU Bi ++ tail)) (hg : Good Bi) (ht : fk tail) (h8 : E6 tail) (Ae : tail ≠ []) (C3 : D.files (BC dir) = none) (hnn : name ≠ BC dir)
   (hR : ∀ σ' τ' ν p n c fs c', Ai σ' d (dk fs c') τ' → Ext τ τ' → Ic ν p n c Bi → Ext ν τ' → iY τ ν → c' ≤ D.cnt + 1 → D.cnt ≤ c' → fs = (if Bi = [] then BE D.files name none else laid D.files dir name (AU Bi)) → R (.returned (.tuple #[.slice p n c, .bool false])) σ') : Spec prog 258 #[.pointer (some ⟨b, 0, none⟩), .string name, .slice p2 0 c2] σ R := by
 obtain ⟨f, hf, uY⟩ := hf
 refine Dy.start ⟨b, 0, rfl, _, h.ext.ld hw.ptr, lR h Ed Ez hf fun p c σ1 τ1 h1 x1 hc Ky HJ => ⟨_, _, _, _, rfl, Ij ?_⟩⟩
 rw [uY] at HJ hc Ky
 rw [uY]
 refine OT (t := tail) (HJ.mono h1.ext) (Be (Mn hg) h8) hc Ky rfl hg.short ht fun p' n' c' σ2 ho Ay => ⟨_, _, _, _, rfl, fun hh => by simp [Ae] at hh, fun _ => ⟨by unfold AN; omega, ?_⟩⟩
 obtain ⟨τ2, h2, x2, qy⟩ := h1.grow Ay
 have dA : Jj τ2 p' n' Bi := Jj.mono qy (A3.rd Rf.mono ho)
 have L0 : Bi.length = n' := dA.1
 have hjl : (AU Bi).length ≤ 4194304 := by
   rw [List.length_append] at Ky; omega
 refine Dy.Ub ⟨fun hh => by omega, fun _ => ⟨fun Ix => ?_, fun hz => ?_⟩⟩
 · have AKl : Bi ≠ [] := fun e => by subst e; simp at L0; omega
   refine Ms h2 (hw.mono (x1.trans x2)) Ed Hn hfew hd Ez dA hg hjl C3 hnn ⟨fun σ3 h3 => ⟨rfl, Dy.MT (hR σ3 τ2 _ p' n' c' _ _ (by rw [Kt] at h3; exact h3) (x1.trans x2) ho qy (iY.of (x1.trans h1.ext)) (Nat.le_refl _) (by omega) (by rw [if_neg AKl]))⟩, fun ha => by rw [Kt] at ha; cases ha⟩
 · have cN : Bi = [] := List.eq_nil_of_length_eq_zero (by omega)
   refine ⟨b, 0, rfl, _, (x1.trans (x2.trans h2.ext)).ld hw.ptr, rE h2 Ed Ez hf ⟨fun σ3 h3 => ⟨0, rfl, Ij (Dy.MT (hR σ3 τ2 _ p' n' c' _ _ (by rw [Kt] at h3; exact h3) (x1.trans x2) ho qy (iY.of (x1.trans h1.ext)) (by omega) (Nat.le_refl _) (by rw [if_pos cN])))⟩, fun ha => by rw [Kt] at ha; cases ha⟩⟩
end
end TwW
end
section
namespace TwW
open Go Tw Go.RowKit Go.Proofs.Tryz
section
variable {fs : Fs} {dir : ByteArray} {cnt cnt' check : Nat} {rc : Bs} {s0 : Sg} {x : Nat × Bs} {tail : List Int}
theorem PW (h : (s0 ++ [x]).Pairwise fun y z => y.1 < z.1) : ∀ y ∈ s0, y.1 < x.1 := fun y hy => by
 rw [List.pairwise_append] at h
 exact h.2.2 y hy x (by simp)
theorem Shape.lS (h : Shape fs dir cnt check rc (s0 ++ [x]) tail) (hc : cnt < 99999999) (hx : x.2 = []) (iZ : cnt ≤ cnt') : Shape (BE fs (AF dir ks x.1) none) dir cnt' check rc s0 [] := by
 have Ag := PW h.Jl
 have hgx := h.gt x (by simp)
 have Ae : ∀ y ∈ s0, AF dir ks y.1 ≠ AF dir ks x.1 := fun y hy e => by
   have := Ag y hy
   have := h.gt y (by simp [hy])
   have := Ef (by omega) (by omega) e; omega
 have hold : ∀ s, (BE fs (AF dir ks x.1) none s).isSome = true → (fs s).isSome = true ∧ s ≠ AF dir ks x.1 := fun s hs => by
   by_cases Hy : s = AF dir ks x.1
   · subst Hy; rw [C0] at hs; cases hs
   · rw [Aw Hy] at hs; exact ⟨hs, Hy⟩
 refine ⟨fun h0 => ?_, h.XJ, fun s hs => h.Yf s (hold s hs).1, Nat.le_trans h.aB iZ, fun y hy => ⟨(h.gt y (by simp [hy])).1, Nat.le_trans (h.gt y (by simp [hy])).2 iZ⟩, (List.pairwise_append.1 h.Jl).1, fun s hs Qe => ?_, fun k y hy => ?_, fun _ => rfl, EK, h.OW, fun y hy => h.LX y (by simp [hy]), fun a ha => by cases ha⟩
 · obtain ⟨f, hf, e⟩ := h.O7 h0
   exact ⟨f, by rw [Aw BH]; exact hf, e⟩
 · obtain ⟨y, hy, e⟩ := h.dH s (hold s hs).1 Qe
   rcases List.mem_append.1 hy with hy | hy
   · exact ⟨y, hy, e⟩
   · simp at hy
     subst hy
     have := (Dz (dir := dir) (kind := ks) (s := s) (by omega)).1
     rw [← e] at this
     exact absurd this (hold s hs).2
 · have hk := (List.getElem?_eq_some_iff.1 hy).1
   have Ht := List.mem_of_getElem? hy
   obtain ⟨f, hf, e⟩ := h.file k y (by rw [List.getElem?_append_left hk]; exact hy)
   rw [if_neg (by simp; omega)] at e
   exact ⟨f, by rw [Aw (Ae y Ht)]; exact hf, by rw [e]; simp⟩
theorem Shape.lT (h : Shape fs dir cnt check rc (s0 ++ [x]) tail) (hc : cnt < 99999999) (iZ : cnt ≤ cnt') : Shape (laid fs dir (AF dir ks x.1) (AU x.2)) dir cnt' check rc (s0 ++ [x]) [] := by
 have Ag := PW h.Jl
 have hgx := h.gt x (by simp)
 have Ae : ∀ y ∈ s0, AF dir ks y.1 ≠ AF dir ks x.1 := fun y hy e => by
   have := Ag y hy
   have := h.gt y (by simp [hy])
   have := Ef (by omega) (by omega) e; omega
 have hk : ∀ s, s ≠ AF dir ks x.1 → s ≠ BC dir → laid fs dir (AF dir ks x.1) (AU x.2) s = fs s := fun s h1 h2 => by simp [laid, h1, h2]
 have hl : laid fs dir (AF dir ks x.1) (AU x.2) (AF dir ks x.1) = some ⟨AU x.2, (AU x.2).length⟩ := by simp [laid]
 have hold : ∀ s, (laid fs dir (AF dir ks x.1) (AU x.2) s).isSome = true → (fs s).isSome = true := fun s hs => by
   by_cases h1 : s = AF dir ks x.1
   · subst h1
     exact (h.file s0.length x (by simp)).Uu
   · by_cases h2 : s = BC dir
     · subst h2; simp [laid, h1] at hs
     · rw [hk s h1 h2] at hs; exact hs
 refine ⟨fun h0 => ?_, h.XJ, fun s hs => h.Yf s (hold s hs), Nat.le_trans h.aB iZ, fun y hy => ⟨(h.gt y hy).1, Nat.le_trans (h.gt y hy).2 iZ⟩, h.Jl, fun s hs => h.dH s (hold s hs), fun k y hy => ?_, fun e => by simp at e, EK, h.OW, h.LX, fun a ha => by cases ha⟩
 · obtain ⟨f, hf, e⟩ := h.O7 h0
   exact ⟨f, by rw [hk _ BH (Bj (.inl rfl)).symm]; exact hf, e⟩
 · rcases Nat.lt_or_ge k s0.length with hi | hi
   · obtain ⟨f, hf, e⟩ := h.file k y hy
     rw [List.getElem?_append_left hi] at hy
     have Ht := List.mem_of_getElem? hy
     rw [if_neg (by simp; omega)] at e
     exact ⟨f, by rw [hk _ (Ae y Ht) (Bj (.inr rfl)).symm]; exact hf, by rw [e]; simp⟩
   · have nw : k = s0.length := by
       have := (List.getElem?_eq_some_iff.1 hy).1
       simp at this; omega
     subst nw
     simp at hy
     subst hy
     exact ⟨_, hl, by simp⟩
theorem Kept.lS (h : Kept fs dir check (s0 ++ [x])) (Ae : ∀ y ∈ s0, AF dir ks y.1 ≠ AF dir ks x.1) : Kept (BE fs (AF dir ks x.1) none) dir check s0 :=
 ⟨fun f h0 hf => h.1 f h0 (by rw [Aw BH] at hf; exact hf), fun k y hy hk f hf => by
   have Ht := List.mem_of_getElem? hy
   refine h.2 k y (by rw [List.getElem?_append_left (by omega)]; exact hy) (by simp; omega) f ?_
   rw [Aw (Ae y Ht)] at hf; exact hf⟩
theorem Kept.lT (h : Kept fs dir check (s0 ++ [x])) (Ae : ∀ y ∈ s0, AF dir ks y.1 ≠ AF dir ks x.1) : Kept (laid fs dir (AF dir ks x.1) (AU x.2)) dir check (s0 ++ [x]) :=
 ⟨fun f h0 hf => h.1 f h0 (by simpa [laid, BH, (Bj (dir := dir) (kind := kc) (a := check) (.inl rfl)).symm] using hf), fun k y hy hk f hf => by
   have nw : k < s0.length := by simp at hk; omega
   have Ht : y ∈ s0 := by rw [List.getElem?_append_left nw] at hy; exact List.mem_of_getElem? hy
   refine h.2 k y hy hk f ?_
   simpa [laid, Ae y Ht, (Bj (dir := dir) (kind := ks) (a := y.1) (.inr rfl)).symm] using hf⟩
end
section
variable {σ ρ τ : Hp} {d b : Nat} {D : Dk} {W : Wl} {R : Rr}
theorem Ai.rF {T E ty : TypeId} {s bs : Nat} [Jo prog T E s bs] {p q : Option Addr} {n c m d' : Nat} {cs ys : List Value} {Φ : Value → Hp → Prop} (h : Ai σ d D ρ) (ho : Own s ρ p n c cs) (hy : GP s ρ q m ys) (h1 : CR ys) (hb : (n + m) * bs ≤ 140737488355328)
   (hΦ : ∀ p' c' σ' ρ', Ai σ' d D ρ' → Own s ρ' p' (n + m) c' (cs ++ ys) → Ext (ρ.del p) (ρ'.del p') → Φ (.slice p' (n + m) c') σ') : AJ prog (Builtin.append_ #[T, T] ty #[.slice p n c, .slice q m d']) σ Φ := by
 have hx := h.ext
 obtain ⟨Sd, g1, g3⟩ := h
 refine MB (ho.mono hx) (hy.mono hx) h1 hb fun p' c' σ' Bt Ay _ => ?_
 rw [Hp.DY, Hp.DY] at Ay
 have keep : ∀ j o, j ∉ DL p → σ j = some o → σ' j = some o ∧ j ∉ DL p' := fun j o h4 h5 => by
   have := Hp.AG.1 (Ay j o (Hp.AG.2 ⟨h4, h5⟩)); exact ⟨this.2, this.1⟩
 have hp : ∀ j ∈ DL p, j ∉ Sd := fun j hj => by
   cases p with
   | none => cases hj
   | some a =>
     simp [DL] at hj
     subst hj
     cases hr : ρ a.block with
     | none => exact absurd hr (ho.block a rfl)
     | some o => exact (Hp.AG.1 (g3 _ _ hr)).1
 have hSd : ∀ j ∈ Sd, σ' j = σ j ∧ j ∉ DL p' := fun j hj => by
   cases hs : σ j with
   | none => exact absurd hs (g1.known j hj)
   | some o => exact keep j o (fun hb => hp j hb hj) hs
 refine hΦ p' c' σ' (σ'.off Sd) ⟨Sd, g1.loc fun j hj => (hSd j hj).1, Ext.refl _⟩ ?_ ?_
 · exact TwW.Own.loc Bt fun j hj => Hp.EP fun hs => (hSd j hs).2 hj
 · rw [Hp.DY, Hp.DY]
   intro j o hj
   have h4 := Hp.AG.1 hj
   have h6 := Hp.AG.1 (g3 _ _ h4.2)
   have h7 := keep j o h4.1 h6.2
   exact Hp.AG.2 ⟨h7.2, Hp.AG.2 ⟨h6.1, h7.1⟩⟩
theorem A3.apart {α : Type} {s : Nat} {E : Hp → List Value → α → Prop} {S : List Nat} {p : Option Addr} {n c : Nat} {xs : List α} (h : A3 s E (ρ.off S) p n c xs) : ∀ j ∈ S, j ∉ DL p := fun j hj hb => by
 cases p with
 | none => cases hb
 | some a =>
   simp [DL] at hb
   exact h.block a rfl (by rw [← hb]; exact Hp.T6 hj)
theorem Ai.AEU {ty : TypeId} {S : List Nat} {p q : Option Addr} {n c m d' : Nat} {xs ys : Bs} {Φ : Value → Hp → Prop} (h : Ai σ d D ρ) (hS : ∀ j ∈ S, ρ j ≠ none) (hx : Ext τ (ρ.del p)) (ho : Ic (ρ.off S) p n c xs) (hy : Jj ((ρ.off S).del p) q m ys) (hb : n + m ≤ 4194304)
   (hΦ : ∀ p' c' σ' ρ', Ai σ' d D ρ' → (∀ j ∈ S, ρ' j ≠ none) → Ic (ρ'.off S) p' (n + m) c' (xs ++ ys) → Ext τ (ρ'.del p') → Φ (.slice p' (n + m) c') σ') : AJ prog (Builtin.append_ #[165, 165] ty #[.slice p n c, .slice q m d']) σ Φ := by
 have hap := A3.apart ho
 obtain ⟨Rg, cs, Fm, fi⟩ := ho
 obtain ⟨Uv, ds, hy1, T4⟩ := hy
 refine h.rF (T := 165) (Fm.mono (Ext.Cn _ _)) ((hy1.mono (Ext.GA _ _)).mono (Ext.Cn _ _)) ?_ (by omega) fun p' c' σ' ρ' h' Em Ci => ?_
 · exact Ch.jB (fun _ vs x ⟨p, n, c, e, _⟩ => by subst e; exact fun u hu => by simp at hu; subst hu; rfl) T4 (by decide)
 · have hk : ∀ j ∈ S, ρ' j ≠ none ∧ j ∉ DL p' := fun j hj => by
     cases hr : ρ j with
     | none => exact absurd hr (hS j hj)
     | some o =>
       rw [Hp.DY, Hp.DY] at Ci
       have := Hp.AG.1 (Ci j o (Hp.AG.2 ⟨hap j hj, hr⟩))
       exact ⟨by rw [this.2]; simp, this.1⟩
   have Ay : Ext ((ρ.off S).del p) ((ρ'.off S).del p') := by
     have := Ci.off S
     rw [Hp.DY, Hp.DY] at this ⊢
     rw [Hp.Jx, Hp.Jx (σ := ρ')]
     exact this
   exact hΦ p' c' σ' ρ' h' (fun j hj => (hk j hj).1) ⟨by rw [List.length_append]; omega, _, TwW.Own.loc Em fun j hj => Hp.EP fun hs => (hk j hs).2 hj, (fi.mono Rf.mono Ay).append (T4.mono Rf.mono Ay)⟩ (hx.trans Ci)
end
end TwW
end
section
namespace TwW
open Go Tw Go.RowKit Go.Proofs.Tryz
section
variable {σ ρ τ : Hp} {d b : Nat} {W : Wl} {R : Rr} {fs : Fs} {cnt : Nat} {rc : Bs} {sg : Sg} {tail : List Int}
def Sub (fs gs : Fs) : Prop := ∀ s, (gs s).isSome = true → (fs s).isSome = true
theorem Sub.trans {fs gs hs : Fs} (h : Sub fs gs) (g : Sub gs hs) : Sub fs hs := fun s hh => h s (g s hh)
def yO (d b : Nat) (W : Wl) (τ : Hp) (fs : Fs) (cnt : Nat) (rc : Bs) (sg : Sg) (tail : List Int) (R : Rr) : Prop :=
 ∀ σ' ρ p n c FF cnt' KK, Aj σ' d b (dk FF cnt') { W with AP := KK.map (·.1) } ρ → Ext τ ρ → Jj ρ p n (rc ++ Ao KK) → Ao KK = Ao sg → Shape FF W.dir cnt' W.check rc KK [] → Kept FF W.dir W.check KK → Out W.dir fs FF → Sub fs FF → FF (BC W.dir) = none →
   cnt ≤ cnt' → cnt' ≤ cnt + 1 → (tail = [] → cnt' = cnt ∧ FF = fs) → R (.returned (.slice p n c)) σ'
theorem gC {sg : Sg} {k : Nat} {x : Nat × Bs} (hx : sg[k]? = some x) : Ao (sg.take (k + 1)) = Ao (sg.take k) ++ x.2 := by
 rw [AO hx, B8, Eg]
theorem gD {τw : Hp} {S : List Nat} {cU : Option Addr} {c46 : Nat} {T : TypeId} (hd : CG W.dir = true) (hc : cnt < 67108864) (hfew : ON (dk fs cnt)) (ht : Tb τw) (Jc : Shape fs W.dir cnt W.check rc sg tail) (KV : Kept fs W.dir W.check sg) (HY : W.AP = sg.map (·.1)) (C3 : fs (BC W.dir) = none) (FV : (rc ++ Ao sg).length ≤ 4194304)
   (Nk : FG τw b d W S cU c46 T) (hR : yO d b W (τw.off S) fs cnt rc sg tail R) :
   ∀ (m k : Nat) (σ ρ : Hp) (p3 : Option Addr) (n3 c3 : Nat), sg.length - k = m → k ≤ sg.length → Ai σ d (dk fs cnt) ρ → Ext τw (ρ.del p3) → Ic (ρ.off S) p3 n3 c3 (rc ++ Ao (sg.take k)) → (k < sg.length ∨ tail = []) →
     BJ.QE R (some ⟨b, 0, none⟩) p3 n3 c3 cU W.AP.length c46 ((W.AP.length : Nat) : Int) k σ := by
 intro m
 have dM : W.AP.length = sg.length := by rw [HY, List.length_map]
 have Nz : W.dir.size ≤ 32 := by simp [CG] at hd; exact hd.2
 have hwn := Own.cap Nk.own
 have hsb := Nk.own.2.1
 have cl : ∀ {σ ρ : Hp} {p3 : Option Addr} {fs : Fs} {cnt : Nat}, Ai σ d (dk fs cnt) ρ → Ext τw (ρ.del p3) → Aj σ d b (dk fs cnt) W (ρ.off S) ∧ Ext (τw.off S) (ρ.off S) := fun h hx => by
   have BM := hx.trans (Ext.GA _ _)
   exact ⟨Aj.close h (Nk.mono BM), BM.off S⟩
 induction m with
 | zero =>
   intro k σ ρ p3 n3 c3 hm hk h hx ho Rj
   refine BJ.PL ⟨fun hh => by omega, fun _ => BJ.UX ?_⟩
   rw [List.take_of_length_le (by omega)] at ho
   have htn : tail = [] := Rj.resolve_left (by omega)
   subst htn
   obtain ⟨qu, Uy⟩ := cl h hx
   refine hR σ _ p3 n3 c3 fs cnt sg ?_ Uy (A3.rd Rf.mono ho) rfl Jc KV Out.refl (fun s h => h) C3 (Nat.le_refl _) (by omega) (fun _ => ⟨rfl, rfl⟩)
   rw [← HY]; exact qu
 | succ m ih =>
   intro k σ ρ p3 n3 c3 hm hk h hx ho Rj
   obtain ⟨x, R0⟩ : ∃ x, sg[k]? = some x := ⟨_, List.getElem?_eq_getElem (by omega)⟩
   have uZ := List.mem_of_getElem? R0
   have hgx := Jc.gt x uZ
   have TJ := Jc.LX x uZ
   have XQ := Jc.file k x R0
   have Ji : Ah (AF W.dir ks x.1) = true := E3 hd (.inr rfl) (by omega)
   have aI := hx.trans (Ext.GA _ _)
   have gE := Nk.mono aI
   have XR := gE.mono h.ext
   have FB : (I1 W.AP)[k]? = some ((x.1 : Nat) : Int) := by rw [I1, HY, List.map_map, List.getElem?_map, R0]; rfl
   obtain ⟨Zc, Zd, AEV, AKm⟩ := (AR.rd XR.own).at FB
   have e1 : Int.toNat ((k : Int) + 1) = k + 1 := by omega
   have Mt := gC R0
   have AEW : (rc ++ Ao (sg.take k)).length = n3 := ho.1
   have AEX : n3 + x.2.length ≤ 4194304 := by
     have h1 : (rc ++ Ao (sg.take (k + 1))).length ≤ (rc ++ Ao sg).length := by
       have : Ao sg = Ao (sg.take (k + 1)) ++ Ao (sg.drop (k + 1)) := by rw [← B8, List.take_append_drop]
       rw [this]; simp
     rw [Mt, ← List.append_assoc, List.length_append, AEW] at h1
     omega
   have AKn : ∀ j ∈ S, ρ j ≠ none := gE.known
   have nz : ∀ a, p3 = some a → ρ a.block ≠ none := fun a ha hn => ho.block a ha (Hp.ME hn)
   have new : ∀ {ρ2 ν : Hp} {p : Option Addr} {n c : Nat} {xs : Bs}, Ext ρ ρ2 → Ic ν p n c xs → Ext ν ρ2 → iY ρ ν → Jj ((ρ2.off S).del p3) p n xs := fun x2 hν x3 hb => by
     refine Jj.mono ?_ (A3.rd Rf.mono hν)
     exact hb.del (fun j o hj => Hp.AG.2 ⟨fun hs => AKn j hs (hb j o hj), x3 j o hj⟩) nz
   refine BJ.PL ⟨fun _ => ⟨Zc, Zd, AEV, by omega, x.1, by simpa using AKm, b, 0, rfl, _, _, c46, AD XR.obj rfl, by unfold AN; omega, by omega, ?_⟩, fun hh => by omega⟩
   rw [MI AEV]
   refine DG (kind := ks) (dir := W.dir) (AD XR.obj rfl) Nz (.inr rfl) (by omega) ((ht.mono aI).mono h.ext) fun σ1 BM => ⟨_, rfl, Kp.CA BM, ?_⟩
   have h1 := h.mono BM
   by_cases hw : (if k + 1 = sg.length then tail else []) = []
   · rw [hw, List.append_nil] at XQ
     refine Qm h1 gE.rB rfl Ji XQ TJ fun σ2 ρ2 ν p n c h2 x2 hν x3 hb => ⟨_, _, _, _, rfl, ?_⟩
     have hn : x.2.length = n := hν.1
     refine h2.AEU (τ := τw) (S := S) (xs := rc ++ Ao (sg.take k)) (ys := x.2) (fun j hj => (gE.mono x2).known j hj) (hx.trans (x2.del p3)) (A3.mono Rf.mono (x2.off S) ho) (new x2 hν x3 hb) (by omega) fun p' c' σ3 ρ3 h3 hS3 Dq C6 => ⟨p', _, c', rfl, fun _ => ⟨by unfold AN; omega, ?_⟩, fun hh => (by cases hh)⟩
     rw [List.append_assoc, ← Mt] at Dq
     refine ih (k + 1) σ3 ρ3 p' _ c' (by omega) (by omega) h3 C6 Dq ?_
     by_cases hl : k + 1 = sg.length
     · rw [if_pos hl] at hw; exact .inr hw
     · exact .inl (by omega)
   · have Ja : k + 1 = sg.length := by
       by_cases hh : k + 1 = sg.length
       · exact hh
       · rw [if_neg hh] at hw; exact absurd rfl hw
     rw [if_pos Ja] at hw XQ
     obtain ⟨s0, x', VX⟩ : ∃ s0 x', sg = s0 ++ [x'] := by
       rcases List.eq_nil_or_concat sg with e | ⟨s0, x', e⟩
       · rw [e] at Ja; simp at Ja
       · exact ⟨s0, x', by rw [e]; simp⟩
     have XH : k = s0.length := by rw [VX] at Ja; simp at Ja; exact Ja
     have Ni : x' = x := by rw [VX, XH] at R0; simpa using R0
     subst Ni
     have e2 : W.AP.length - Int.toNat ((k : Int) + 1) = 0 := by omega
     rw [e2]
     have Ae : ∀ y ∈ s0, AF W.dir ks y.1 ≠ AF W.dir ks x'.1 := fun y hy e => by
       have Ag := PW (VX ▸ Jc.Jl) y hy
       have := Jc.gt y (by rw [VX]; simp [hy])
       have := Ef (by omega) (by omega) e; omega
     refine gB h1 gE.rB rfl rfl (by show cnt < _; omega) hfew hd Ji XQ TJ Jc.AKa Jc.uQ hw C3 (Bj (.inr rfl)).symm fun σ2 ρ2 ν p n c fs2 AEY h2 x2 hν x3 hb fi T4 O9 => ⟨_, _, _, _, rfl, ?_⟩
     have hn : x'.2.length = n := hν.1
     refine h2.AEU (τ := τw) (S := S) (xs := rc ++ Ao (sg.take k)) (ys := x'.2) (fun j hj => (gE.mono x2).known j hj) (hx.trans (x2.del p3)) (A3.mono Rf.mono (x2.off S) ho) (new x2 hν x3 hb) (by omega) fun p' c' σ3 ρ3 h3 hS3 Dq C6 => ⟨p', _, c', rfl, fun hh => (by cases hh), fun _ => ?_⟩
     rw [List.append_assoc, ← Mt, List.take_of_length_le (by omega)] at Dq
     obtain ⟨qu, Uy⟩ := cl h3 C6
     obtain ⟨pq, cq, hcq, hlq, hrq⟩ := qu.rd.AP
     refine ⟨pq, _, cq, hlq, by unfold AN; omega, by omega, ?_⟩
     have e3 : Int.toNat ((k : Int) + 1) = W.AP.length := by omega
     rw [e3]
     refine qu.cut (l := W.AP) rfl (fun p c ua => by rw [hlq] at ua; cases ua; exact ⟨rfl, fun ρ h => h⟩) fun σ4 h4 => ?_
     have AEa := VX ▸ Jc
     have yP := VX ▸ KV
     refine ⟨fun ub => ?_, fun ub => BJ.UX ?_⟩
     · have Z8 : x'.2 = [] := List.eq_nil_of_length_eq_zero (by omega)
       obtain ⟨pr, cr, hcr, hlr, hrr⟩ := h4.rd.AP
       refine ⟨pr, _, cr, hlr, by simp only at hcr ⊢; omega, ?_⟩
       have e4 : Int.toNat (k : Int) = k := by omega
       rw [e4]
       refine h4.cut (l := W.AP.take k) (by rw [List.length_take]; omega) (fun p c ua => by rw [hlr] at ua; cases ua; exact ⟨rfl, fun ρ h => by have := Own.shrink (k := k) h (by simp only; omega); rw [I1, List.map_take]; exact this⟩) fun σ5 h5 => BJ.UX ?_
       rw [if_pos Z8] at O9
       have ht0 : Ao s0 = Ao sg := by rw [VX, B8, Eg, Z8, List.append_nil]
       refine hR σ5 _ p' _ c' fs2 AEY s0 ?_ Uy (A3.rd Rf.mono (by rw [ht0]; exact Dq)) ht0 (by rw [O9]; exact AEa.lS (by omega) Z8 T4) (by rw [O9]; exact yP.lS Ae) (by rw [O9]; exact Out.del C8) (by
         rw [O9]; intro s hs
         by_cases e : s = AF W.dir ks x'.1
         · subst e; rw [C0] at hs; cases hs
         · rw [Aw e] at hs; exact hs) (by rw [O9, Aw (Bj (.inr rfl))]; exact C3) T4 fi (fun e => absurd e hw)
       have : W.AP.take k = s0.map (·.1) := by rw [HY, VX, List.map_append, XH, List.take_left' (by simp)]
       rw [← this]; exact h5
     · have Z8 : x'.2 ≠ [] := fun e => ub (by rw [← hn, e]; rfl)
       rw [if_neg Z8] at O9
       refine hR σ4 _ p' _ c' fs2 AEY sg ?_ Uy (A3.rd Rf.mono Dq) rfl (by rw [O9, VX]; exact AEa.lT (by omega) T4) (by rw [O9, VX]; exact yP.lT Ae) (by rw [O9]; exact Out.laid (.inr rfl) (by omega) (by omega)) (by
         rw [O9]; intro s hs
         by_cases e : s = AF W.dir ks x'.1
         · subst e; exact XQ.Uu
         · by_cases e2 : s = BC W.dir
           · simp only [laid, e, if_false, e2, if_true] at hs
             rw [if_neg (Bj (.inr rfl))] at hs; cases hs
           · simp only [laid, e, e2, if_false] at hs; exact hs) (by rw [O9]; simp [laid, (Bj (dir := W.dir) (kind := ks) (a := x'.1) (.inr rfl))]) T4 fi (fun e => absurd e hw)
       rw [← HY]; exact h4
end
end TwW
end
section
namespace TwW
open Go Tw Go.RowKit Go.Proofs.Tryz
section
variable {σ ρ τ : Hp} {d b : Nat} {D : Dk} {W : Wl} {R : Rr} {fs : Fs} {cnt : Nat} {rc : Bs} {sg : Sg} {tail : List Int}
theorem Aj.names (h : Aj σ d b D W τ) : ∀ s, (D.files s).isSome = true → Ah s = true := h.fu.names
theorem Aj.make {b : Nat} (h : Ai σ d D τ) (hb : σ b = none) (hs : W.AP = []) : Aj (σ.set b (.cells (qq d W none 0 0) 225 (0, 0))) d b D W τ := by
 obtain ⟨Sd, h1, h2⟩ := h
 have iX : b ∉ Sd := fun hh => h1.known b hh hb
 refine ⟨Sd, [b], none, 0, 225, h1.mono (.set hb), ?_, ?_⟩
 · rw [Hp.Er iX]
   exact ⟨rfl, by simp [DL], by rw [Hp.AA, hs]; rfl, by rw [hs]; exact Own.nil⟩
 · rw [Hp.Er iX, Hp.GQ (by simp)]
   exact h2.jD (by simpa using A6 h2 (Hp.ME hb))
theorem Aj.stB {k n : Nat} {E : TypeId} {c : Array Value} {t : TypeId} {v : Value} {Φ : Unit → Hp → Prop} (h : Aj σ d b D W τ) (hk : τ k = some (.cells c t (0, 0))) (hz : ∀ w, (Go.sizeOf E).run prog w = .ok n w) (hn : v.cells.size = n) (hl : 0 + n ≤ c.size) (h1 : ∀ u ∈ v.cells.toList, u.oneCell' = true)
   (hΦ : ∀ σ', Aj σ' d b D W (τ.set k (.cells (DT c 0 v.cells.toList) t (0, 0))) → Φ () σ') : AJ prog (Instr.storeAt E (.pointer (some ⟨k, 0, none⟩)) v) σ Φ := by
 obtain ⟨Sd, S, p, cc, T, g1, g2, g3⟩ := h
 have XH := Hp.AG.1 (g3 _ _ hk)
 have gF := Hp.AG.1 XH.2
 refine AJ.store hz gF.2 hn hl h1 (hΦ _ ⟨Sd, S, p, cc, T, g1.loc fun j hj => Hp.AH fun e => gF.1 (e ▸ hj), ?_, ?_⟩)
 · rw [Hp.Er gF.1]
   exact g2.loc fun j hj => Hp.AH fun e => XH.1 (e ▸ hj)
 · rw [Hp.Er gF.1, Hp.Er XH.1]
   intro j o hj
   by_cases nF : j = k
   · subst nF; rw [Hp.AA] at hj ⊢; exact hj
   · rw [Hp.AH nF] at hj ⊢; exact g3 _ _ hj
theorem Hp.gG {k : Nat} {o : Obj} (h : σ k = some o) : (σ.off [k]).set k o = σ := by
 funext j
 by_cases hj : j = k
 · subst hj; rw [Hp.AA, h]
 · rw [Hp.AH hj, Hp.EP (by simpa using hj)]
theorem Spec.gG {P : Program} {f : FuncId} {args : Array Value} {k : Nat} {o : Obj} {R : Rr} (hk : σ k = some o) (h : Spec P f args (σ.off [k]) (fun e τ' => τ' k = none → R e (τ'.set k o))) : Spec P f args σ R := by
 have := Spec.B6 (o := o) (Hp.T6 (by simp)) h
 rwa [Hp.gG hk] at this
theorem Aj.gG {k : Nat} {o : Obj} (h : Aj σ d b D W τ) (hk : τ k = some o) : Aj (σ.off [k]) d b D W (τ.off [k]) := by
 obtain ⟨Sd, S, p, cc, T, g1, g2, g3⟩ := h
 have XH := Hp.AG.1 (g3 _ _ hk)
 have gF := Hp.AG.1 XH.2
 refine ⟨Sd, S, p, cc, T, g1.loc fun j hj => Hp.EP fun e => gF.1 (List.mem_singleton.1 e ▸ hj), ?_, ?_⟩
 · rw [Hp.Jx]
   exact g2.loc fun j hj => Hp.EP fun e => XH.1 (List.mem_singleton.1 e ▸ hj)
 · rw [Hp.Jx (σ := σ), Hp.Jx (σ := σ.off Sd)]
   exact g3.off [k]
theorem Aj.lU {k : Nat} {o : Obj} (h : Aj σ d b D W τ) (hk : σ k = none) : Aj (σ.set k o) d b D W (τ.set k o) := by
 obtain ⟨τ', h1, h2, h3⟩ := h.box (o := o) hk
 refine h1.FX fun j u hj => ?_
 by_cases nF : j = k
 · subst nF; rw [Hp.AA] at hj; cases hj; exact h3
 · rw [Hp.AH nF] at hj; exact h2 _ _ hj
theorem XS (h : Aj σ d b (dk fs cnt) W τ) (ht : Tb τ) (hd : CG W.dir = true) (hc : cnt < 67108864) (hfew : ON (dk fs cnt)) (Jc : Shape fs W.dir cnt W.check rc sg tail) (KV : Kept fs W.dir W.check sg) (HY : W.AP = sg.map (·.1)) (C3 : fs (BC W.dir) = none) (FV : (rc ++ Ao sg).length ≤ 4194304)
   (hR : yO d b W τ fs cnt rc sg tail R) : Spec prog 175 #[.pointer (some ⟨b, 0, none⟩)] σ R := by
 obtain ⟨τw, S, p, c, T, Mp, Nk, Uy⟩ := h.opened
 have lV : Tb τw := ht.mono (Uy.trans (Ext.Cn _ _))
 have Nz : W.dir.size ≤ 32 := by simp [CG] at hd; exact hd.2
 have hR' : yO d b W (τw.off S) fs cnt rc sg tail R := fun σ' ρ p n c FF cnt' KK a1 a2 a3 a4 a5 a6 a7 a8 a9 a10 a11 a12 => hR σ' ρ p n c FF cnt' KK a1 (Uy.trans a2) a3 a4 a5 a6 a7 a8 a9 a10 a11 a12
 have Kr : W.AP.length = sg.length := by rw [HY, List.length_map]
 have loop : ∀ (σ ρ : Hp) (p3 : Option Addr) (n3 c3 : Nat), Ai σ d (dk fs cnt) ρ → Ext τw (ρ.del p3) → Ic (ρ.off S) p3 n3 c3 rc → BJ.MQ R (some ⟨b, 0, none⟩) p3 n3 c3 σ := fun σ ρ p3 n3 c3 h1 hx ho => by
   have aI := hx.trans (Ext.GA _ _)
   refine BJ.I8 ⟨b, 0, rfl, p, _, c, AD ((Nk.mono aI).mono h1.ext).obj rfl, ?_⟩
   refine gD hd hc hfew lV Jc KV HY C3 FV Nk hR' sg.length 0 σ ρ p3 n3 c3 rfl (Nat.zero_le _) h1 hx (by simpa [Ao] using ho) ?_
   rcases Nat.eq_zero_or_pos sg.length with h0 | h0
   · exact .inr (Jc.uP (List.eq_nil_of_length_eq_zero h0))
   · exact .inl h0
 have XR := Nk.mono Mp.ext
 refine BJ.start ⟨b, 0, rfl, W.check, AD XR.obj rfl, fun Ix => ⟨W.check, AD XR.obj rfl, p, _, c, AD XR.obj rfl, ?_⟩, fun hz => ?_⟩
 · have qz := Jc.aB
   refine DG (kind := kc) (dir := W.dir) (AD XR.obj rfl) Nz (.inl rfl) (by omega) (lV.mono Mp.ext) fun σ1 BM => ⟨_, rfl, Kp.CA BM, ?_⟩
   refine Qm (Mp.mono BM) Nk.rB rfl (E3 hd (.inl rfl) (by omega)) (Jc.O7 (by omega)) Jc.OW fun σ2 ρ2 ν p' n' c' h2 x2 hν x3 hb => ⟨_, _, _, _, rfl, fun hh => (by cases hh), fun _ => ?_⟩
   refine loop σ2 ρ2 p' n' c' h2 (hb.own x2 hν.block) (A3.mono Rf.mono (fun j o hj => Hp.AG.2 ⟨fun hs => Nk.known j hs (hb j o hj), x3 j o hj⟩) hν)
 · have h0 : W.check = 0 := by omega
   have hrc := Jc.XJ h0
   subst hrc
   exact loop σ τw none 0 0 Mp (Ext.refl _) A3.nil
def uc (d b : Nat) (dir : ByteArray) (D : Dk) (τ : Hp) (told : Bs) (w : Bool) (K : Hp → Hp → Option Addr → Nat → Nat → Prop) : Prop :=
 ∀ σ' W rc sg ρ p n c FF cnt', Aj σ' d b (dk FF cnt') W ρ → Ext τ ρ → Jj ρ p n told → W.dir = dir → A7 FF cnt' W rc sg 0 → rc ++ Ao sg = told → Out dir D.files FF → Sub D.files FF → FF (BC dir) = none → D.cnt ≤ cnt' → cnt' ≤ D.cnt + 1 → (w = true → cnt' = D.cnt ∧ ∃ L, Names D.files (dir ++ Ce) L ∧ FF = OY D.files dir L) → K σ' ρ p n c
theorem A7.made {opn size : Nat} (Jc : Shape fs W.dir cnt W.check rc sg []) (KV : Kept fs W.dir W.check sg) (HY : W.AP = sg.map (·.1)) (h0 : sg = [] → W.opn = W.check + 1 ∧ W.size = 0) (h1 : ∀ s0 x, sg = s0 ++ [x] → W.opn = x.1 ∧ W.size = (AU x.2).length) : A7 fs cnt W rc sg 0 := by
 rcases List.eq_nil_or_concat sg with e | ⟨s0, x, e⟩
 · subst e
   obtain ⟨e1, e2⟩ := h0 rfl
   exact ⟨Jc, HY, ⟨by omega, by have := Jc.aB; omega, fun x hx => by cases hx⟩, fun x hx => (by cases hx), fun _ => e2, fun f h hf => KV.1 f h hf, fun x hx => (by cases hx), fun x hx => (by cases hx), fun _ => Nat.zero_le _⟩
 · have e' : sg = s0 ++ [x] := by rw [e]; simp
   subst e'
   obtain ⟨e1, e2⟩ := h1 s0 x rfl
   have hgx := Jc.gt x (by simp)
   have Ag := PW Jc.Jl
   refine ⟨Jc, HY, ⟨by omega, by omega, fun y hy => ?_⟩, fun y hy dL => ?_, fun BX => absurd e1.symm (BX x (by simp)), fun f h hf => KV.1 f h hf, fun y hy Uv f hf => ?_, fun y hy dL => ?_, fun _ => Nat.zero_le _⟩
   · rcases List.mem_append.1 hy with hy | hy
     · have := Ag y hy; omega
     · simp at hy; subst hy; omega
   · rcases List.mem_append.1 hy with hy | hy
     · have := Ag y hy; omega
     · simp at hy; subst hy; exact e2
   · rcases List.mem_append.1 hy with hy | hy
     · obtain ⟨k, hk⟩ := List.getElem?_of_mem hy
       have iC := (List.getElem?_eq_some_iff.1 hk).1
       exact KV.2 k y (by rw [List.getElem?_append_left iC]; exact hk) (by simp; omega) f hf
     · simp at hy; subst hy; omega
   · rcases List.mem_append.1 hy with hy | hy
     · have := Ag y hy; omega
     · simp at hy
       subst hy
       obtain ⟨f, hf, _⟩ := Jc.file s0.length y (by simp)
       exact ⟨0, f, Nat.zero_le _, hf, by simp [AU], by rw [B8, Eg, List.length_append, List.length_append]; omega⟩
theorem Tb.Uz {k : Nat} (h : Tb τ) (hk : τ k = some (.cells #[.slice none 0 0] 165 (0, 0))) : Tb (τ.off [k]) := by
 obtain ⟨g, T, fr, h1, h2⟩ := h
 refine ⟨g, T, fr, h1, ?_⟩
 rw [Hp.EP]
 · exact h2
 · intro hg
   simp only [List.mem_singleton] at hg
   subst hg
   rw [hk] at h2
   simp only [Option.some.injEq, Obj.cells.injEq] at h2
   have := congrArg Array.size h2.1
   simp [Lib.pow10Tab] at this
theorem aJ {dir : ByteArray} {told : Bs} {w : Bool} {b0 b1 b2 b3 : Nat} (h : Aj σ d b (dk fs cnt) ⟨dir, 0, [], 0, 0⟩ τ) (ht : Tb τ) (hd : CG dir = true) (hc : cnt < 67108864) (hfew : ON (dk fs cnt)) (ho : XK fs dir cnt told w) (FV : told.length ≤ 4194304)
   (t0 : τ b0 = some (.cells #[.pointer (some ⟨b, 0, none⟩)] 158 (0, 0))) (t1 : τ b1 = some (.cells #[.pointer (some ⟨d, 0, none⟩)] 106 (0, 0))) (t2 : τ b2 = some (.cells #[.string dir] 9 (0, 0))) (t3 : τ b3 = some (.cells #[.slice none 0 0] 165 (0, 0)))
   (hR : uc d b dir (dk fs cnt) (τ.off [b3]) told w fun σ' ρ p n c => ρ b3 = some (.cells #[.slice p n c] 165 (0, 0)) → R (.returned (.tuple #[])) σ') :
   Spec prog 172 #[.pointer (some ⟨b0, 0, none⟩), .pointer (some ⟨b1, 0, none⟩), .pointer (some ⟨b2, 0, none⟩), .pointer (some ⟨b3, 0, none⟩)] σ R := by
 obtain ⟨check, rc, sg, tail, Jc, rfl, KV, yQ⟩ := ho
 have Nz : dir.size ≤ 32 := by simp [CG] at hd; exact hd.2
 have O8 := h.ext
 have Rx := h.names
 have gH : b0 ≠ b3 := fun e => by rw [e, t3] at t0; cases t0
 have AKp : b1 ≠ b3 := fun e => by rw [e, t3] at t1; cases t1
 refine QK.start ⟨_, AD (O8 _ _ t0) rfl, _, AD (O8 _ _ t1) rfl, dir, AD (O8 _ _ t2) rfl, ?_, ?_⟩
 · show dir.size + Ce.size ≤ _
   have : Ce.size = 1 := rfl
   rw [this]; omega
 have h' := h
 obtain ⟨Sd, S, q, cc, T, g1, _, _⟩ := h'
 refine fc (pre := dir ++ Ce) g1 rfl (by show cnt ≤ _; omega) fun WE n11 ZU L σ1 hoL hL BM AKq => ⟨WE, n11, ZU, rfl, Kp.CA BM, ?_⟩
 obtain ⟨τ1, h1, x1, x1n⟩ := h.grow BM
 have hrT : ny τ1 WE n11 L := (Own.rd hoL).mono x1n
 have ADy : n11 ≤ 67108864 := Nat.le_trans AKq (by show cnt ≤ _; omega)
 refine aG (W := ⟨dir, 0, [], 0, 0⟩) h1 ⟨rfl, rfl⟩ hL Rx Nz hrT ADy fun σ2 h2 => ⟨rfl, ?_⟩
 have hmc := dN Jc (by omega) hL
 have Hy := aF Jc (by omega) hL
 obtain ⟨AKr, AEb, XT, dP⟩ := XP Jc (by omega) hL
 rw [hmc] at h2
 simp only at h2
 rw [Hy] at h2
 have AKs : Kept (OY fs dir L) dir check sg := ⟨fun f h0 hf => KV.1 f h0 (dP _ _ hf), fun k x hx hk f hf => KV.2 k x hx hk f (dP _ _ hf)⟩
 have Ay := h2.ext
 have qz := Jc.aB
 refine ⟨_, AD (Ay _ _ (x1 _ _ t0)) rfl, _, AD (Ay _ _ (x1 _ _ t0)) rfl, b, 0, rfl, check, h2.rd.check, by unfold AN; omega, b, 0, rfl, ?_⟩
 have e1 : ((check : Int) + 1) = ((check + 1 : Nat) : Int) := by omega
 rw [e1]
 refine h2.st (i := 0 + 4) (W' := ⟨dir, check, sg.map (·.1), check + 1, 0⟩) (by omega) rfl (fun p n c => rfl) fun σ3 h3 => ?_
 have t31 := x1 _ _ t3
 refine ⟨_, AD (h3.ext _ _ (x1 _ _ t0)) rfl, Spec.gG (h3.ext _ _ t31) (XS (W := ⟨dir, check, sg.map (·.1), check + 1, 0⟩) (h3.gG t31) ((ht.Uz t3).mono (x1.off [b3])) hd (by omega) (hfew.sub (Nat.le_refl _) fun s hs => by obtain ⟨f, hf⟩ := Option.isSome_iff_exists.1 hs; exact Option.isSome_iff_exists.2 ⟨f, dP _ _ hf⟩) AKr AKs rfl XT FV fun σ4 ρ p n c FF cnt' KK h4 aI HJ Mt yR AKt AEc AEd AEe fi T4 hc3 BX => ⟨p, n, c, rfl, ?_⟩)⟩
 have AKv : ρ b3 = none := A6 h4.ext BX
 refine (h4.lU (o := .cells #[.slice none 0 0] 165 (0, 0)) BX).stB (v := .slice p n c) (Hp.AA _ _ _) (E := 165) (n := 1) ?_ rfl (by simp) (by simp [Value.cells, Value.oneCell']) fun σ5 h5 => ?_
 · intro w
   have hi : prog.info? 165 = some t165 := by kernel_rfl
   simp [Go.sizeOf, typeInfo, hi, show t165.size = 1 from rfl]
 rw [Hp.set_set] at h5
 have yS : Ext ρ (ρ.set b3 (.cells (DT #[.slice none 0 0] 0 (Value.slice p n c).cells.toList) 165 (0, 0))) := .set AKv
 have XU : ∀ j o, j ≠ b3 → τ j = some o → (ρ.set b3 (.cells (DT #[.slice none 0 0] 0 (Value.slice p n c).cells.toList) 165 (0, 0))) j = some o := fun j o hj hjo => yS _ _ (aI _ _ (Hp.AG.2 ⟨by simpa using hj, x1 _ _ hjo⟩))
 have OU := h5.ext
 have hτ : Ext (τ.off [b3]) (ρ.set b3 (.cells (DT #[.slice none 0 0] 0 (Value.slice p n c).cells.toList) 165 (0, 0))) := fun j o hj => by
   have := Hp.AG.1 hj
   exact XU j o (by simpa using this.1) this.2
 have AKw : Jj (ρ.set b3 (.cells (DT #[.slice none 0 0] 0 (Value.slice p n c).cells.toList) 165 (0, 0))) p n (rc ++ Ao sg) := by
   rw [← Mt]; exact HJ.mono yS
 have htb : Tb (ρ.set b3 (.cells (DT #[.slice none 0 0] 0 (Value.slice p n c).cells.toList) 165 (0, 0))) := (((ht.Uz t3).mono (x1.off [b3])).mono aI).mono yS
 have fin : ∀ σ' W', Aj σ' d b (dk FF cnt') W' (ρ.set b3 (.cells (DT #[.slice none 0 0] 0 (Value.slice p n c).cells.toList) 165 (0, 0))) → W'.dir = dir → W'.check = check → W'.AP = KK.map (·.1) → (KK = [] → W'.opn = W'.check + 1 ∧ W'.size = 0) → (∀ s0 x, KK = s0 ++ [x] → W'.opn = x.1 ∧ W'.size = (AU x.2).length) → R (.returned (.tuple #[])) σ' := by
   intro σ' W' hl e1 e2 e3 e4 e5
   subst e1 e2
   refine hR σ' W' rc KK _ p n c FF cnt' hl hτ AKw rfl (A7.made (opn := 0) (size := 0) yR AKt e3 e4 e5) (by rw [Mt]) (AEb.trans AEc) (Sub.trans (fs := fs) (fun s hs => by obtain ⟨f, hf⟩ := Option.isSome_iff_exists.1 hs; rw [dP s f hf]; rfl) AEd) AEe fi T4 (fun hw => ⟨(hc3 (yQ hw)).1, L, hL, (hc3 (yQ hw)).2⟩) ?_
   rw [Hp.AA]; rfl
 obtain ⟨pq, cq, hcq, hlq, hrq⟩ := h5.rd.AP
 refine ⟨_, AD (OU _ _ (XU _ _ gH t0)) rfl, b, 0, rfl, pq, _, cq, hlq, fun Ix => ?_, fun hz => ?_⟩
 · rcases List.eq_nil_or_concat KK with e | ⟨s0, x, e⟩
   · subst e; simp at Ix
   have e' : KK = s0 ++ [x] := by rw [e]; simp
   subst e'
   have hgx := yR.gt x (by simp)
   have FB : (I1 ((s0 ++ [x]).map (·.1)))[s0.length]? = some ((x.1 : Nat) : Int) := by simp [I1]
   obtain ⟨Hx, j8, hpq, AKy⟩ := hrq.at FB
   have el : ((s0 ++ [x]).map (·.1)).length = s0.length + 1 := by simp
   have e3 : Int.toNat ((((s0 ++ [x]).map (·.1)).length : Int) - 1) = s0.length := by rw [el]; omega
   refine ⟨_, AD (OU _ _ (XU _ _ gH t0)) rfl, _, AD (OU _ _ (XU _ _ gH t0)) rfl, b, 0, rfl, pq, _, cq, hlq, ?_, Hx, j8, hpq, ?_, x.1, by rw [e3]; exact AKy, b, 0, rfl, ?_⟩
   · have := T4; have := h5.rd.AP; unfold AN; rw [el]; have := hrq.big; rw [el] at this; omega
   · rw [el]; omega
   refine h5.st (i := 0 + 4) (W' := ⟨dir, check, (s0 ++ [x]).map (·.1), x.1, 0⟩) (by omega) rfl (fun p n c => rfl) fun σ6 h6 => ?_
   have L8 := h6.ext
   obtain ⟨f, hf, uY⟩ := yR.file s0.length x (by simp)
   simp at uY
   refine ⟨_, AD (L8 _ _ (XU _ _ AKp t1)) rfl, _, AD (L8 _ _ (XU _ _ gH t0)) rfl, _, AD (L8 _ _ (XU _ _ gH t0)) rfl, b, 0, rfl, x.1, h6.rd.opn, ?_⟩
   refine DG (kind := ks) (dir := dir) h6.rd.dir Nz (.inr rfl) (by omega) (htb.mono L8) fun σ7 L9 => ⟨_, rfl, Kp.CA L9, ?_⟩
   obtain ⟨τ8, S8, p8, c8, T8, AKz, AEf, AK0⟩ := (h6.mono L9).opened
   refine lR AKz rfl (E3 hd (.inr rfl) (by omega)) hf fun p9 c9 σ9 τ9 h9 x9 _ _ _ => ⟨_, _, _, _, rfl, Ij ?_⟩
   have lW : Aj σ9 d b (dk FF cnt') ⟨dir, check, (s0 ++ [x]).map (·.1), x.1, 0⟩ (ρ.set b3 (.cells (DT #[.slice none 0 0] 0 (Value.slice p n c).cells.toList) 165 (0, 0))) := (Aj.close h9 (AEf.mono x9)).FX (AK0.trans (x9.off _))
   refine ⟨_, AD (lW.ext _ _ (XU _ _ gH t0)) rfl, b, 0, rfl, ?_⟩
   refine lW.st (i := 0 + 5) (x := (f.data.length : Nat)) (W' := ⟨dir, check, (s0 ++ [x]).map (·.1), x.1, f.data.length⟩) (by omega) rfl (fun p n c => rfl) fun AK1 oA => ?_
   refine fin AK1 _ oA rfl rfl rfl (fun e => by simp at e) fun s1 y e => ?_
   have := List.append_inj' e rfl
   simp only [List.cons.injEq, and_true] at this
   rw [← this.2]
   exact ⟨rfl, congrArg List.length uY⟩
 · have e0 : KK = [] := by
     cases KK with
     | nil => rfl
     | cons y l => simp at hz
   exact fin σ5 _ h5 rfl rfl rfl (fun _ => ⟨rfl, rfl⟩) fun s0 x e => by rw [e0] at e; simp at e
theorem AK2 : Enters prog 172 := fun args w => call172 args w
theorem gI {dir : ByteArray} {told : Bs} {w : Bool} (h : Ai σ d D τ) (ht : Tb τ) (Ed : D.up = true) (Kt : D.armed = false) (hd : CG dir = true) (hc : D.cnt < 67108864) (ho : XK D.files dir D.cnt told w) (FV : told.length ≤ 4194304)
   (hR : ∀ b, uc d b dir D τ told w fun σ' ρ p n c => R (.returned (.tuple #[.pointer (some ⟨b, 0, none⟩), .slice p n c, .int .i64 0])) σ') (hfew : ON D := by refine .inl ?_; first | omega | (dsimp only [dk]; omega) | (dsimp only; omega)) : Spec prog 95 #[.pointer (some ⟨d, 0, none⟩), .string dir] σ R := by
 obtain ⟨fs, up, armed, cnt⟩ := D
 simp only at Ed Kt
 subst Ed Kt
 have Nz : dir.size ≤ 32 := by simp [CG] at hd; exact hd.2
 have hdn : Ah dir = true := by simp only [CG, Bool.and_eq_true] at hd; exact hd.1
 refine WX.start fun b2 HD b3 Ul => ?_
 obtain ⟨τ2, h2, x2, t2⟩ := h.box (o := .cells #[.pointer (some ⟨d, 0, none⟩)] 106 (0, 0)) HD
 obtain ⟨τ3, h3, x3, t3⟩ := h2.box (o := .cells #[.string dir] 9 (0, 0)) Ul
 refine ⟨dir, AD (h3.ext _ _ t3) rfl, fun hh => by omega, fun _ => ⟨dir, AD (h3.ext _ _ t3) rfl, KZ ⟨_, rfl, fun hf => (by rw [hdn] at hf; cases hf), fun _ => ⟨_, AD (h3.ext _ _ (x3 _ _ t2)) rfl, ?_⟩⟩⟩⟩
 have h3' := h3
 obtain ⟨Sd, g1, _⟩ := h3'
 refine cw g1 ⟨_, rfl, fun hh => (by cases hh), fun _ => ⟨_, AD (h3.ext _ _ (x3 _ _ t2)) rfl, dir, AD (h3.ext _ _ t3) rfl, fun M5 AK3 b7 hb7 => ?_⟩⟩
 have hl := Aj.make (W := ⟨dir, 0, [], 0, 0⟩) h3 AK3 rfl
 refine AJ.store (v := .pointer (some ⟨M5, 0, none⟩)) ?_ (Hp.AA _ _ _) (n := 1) rfl (by simp) (by simp [Value.cells, Value.oneCell']) ?_
 · intro w
   have hi : prog.info? 158 = some t158 := by kernel_rfl
   simp [Go.sizeOf, typeInfo, hi, show t158.size = 1 from rfl]
 rw [Hp.set_set]
 have hw : DT #[Value.pointer none] 0 (Value.pointer (some ⟨M5, 0, none⟩)).cells.toList = #[.pointer (some ⟨M5, 0, none⟩)] := rfl
 rw [hw]
 intro b8 hb8
 obtain ⟨τ7, h7, x7, t7⟩ := hl.box (o := .cells #[.pointer (some ⟨M5, 0, none⟩)] 158 (0, 0)) hb7
 obtain ⟨τ8, h8, x8, t8⟩ := h7.box (o := .cells #[.slice none 0 0] 165 (0, 0)) hb8
 have Ni : Ext τ τ8 := x2.trans (x3.trans (x7.trans x8))
 have rG : Ext τ (τ8.off [b8]) := fun j o hj => by
   refine Hp.AG.2 ⟨fun e => ?_, Ni _ _ hj⟩
   simp only [List.mem_singleton] at e
   subst e
   have h9 := h7.ext _ _ (x7 _ _ (x3 _ _ (x2 _ _ hj)))
   have lW := hb8.symm.trans h9
   cases lW
 have t78 : τ8 b7 = some (.cells #[.pointer (some ⟨M5, 0, none⟩)] 158 (0, 0)) := x8 _ _ t7
 have AK4 : b7 ≠ b8 := fun e => by rw [e, t8] at t78; cases t78
 refine KJ AK2 (aJ h8 (ht.mono Ni) hd hc hfew ho FV t78 (x8 _ _ (x7 _ _ (x3 _ _ t2))) (x8 _ _ (x7 _ _ t3)) t8 fun σ' W rc sg ρ p n c FF cnt' a1 a2 a3 a4 a5 a6 a7 a8 a9 a10 AK5 AEh a11 => .inl ⟨rfl, _, rfl, fun hh => absurd rfl hh, fun _ => ⟨_, AD (a1.ext _ _ (a2 _ _ (Hp.AG.2 ⟨by simpa using AK4, t78⟩))) rfl, p, n, c, AD (a1.ext _ _ a11) rfl, ?_⟩⟩)
 exact hR M5 σ' W rc sg ρ p n c FF cnt' a1 (rG.trans a2) a3 a4 a5 a6 a7 a8 a9 a10 AK5 AEh
end
end TwW
end
