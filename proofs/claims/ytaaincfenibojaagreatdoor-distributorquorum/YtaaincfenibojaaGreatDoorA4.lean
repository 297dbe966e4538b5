/-
  Part 4 of the proof that the law DistributorQuorumCardSaid of the given program answers true for every input of the given statement; the input reads behind the call as it did. (The texts: packed from 20 texts. Names are shortened by the packing program, for the bound on size.)
-/
import Derived.Test.YtaaincfenibojaaGreatDoorA3
import Derived.Shelf.Strings.Builder1
import Derived.Shelf.Strings.Builder2
import Derived.Shelf.Small.Bits
import Derived.Shelf.Small.Wraps
import Derived.Shelf.Strings.BuilderF
import Derived.Shelf.Strings.BuilderK
import Derived.Shelf.Strings.Builder2Cap
import Derived.Shelf.Strconv.Atoi
import Derived.Shelf.Strconv.Itoa0
import Derived.Shelf.Strconv.Itoa1
import Derived.Shelf.LaysM
import Derived.Shelf.Strconv.Itoa2
import Derived.Shelf.Strconv.Itoa3
import Derived.Shelf.Strconv.AtoiErrFast
import Derived.Shelf.Strconv.ParseIntEmpty
import Derived.Shelf.Strconv.AtoiFail
import Derived.Shelf.Strconv.Clone
import Derived.Shelf.Strconv.SyntaxError
import Derived.Shelf.LaysC
import Derived.Shelf.Strconv.ToError
import Derived.Shelf.Strconv.AtoiErr
import Derived.Shelf.Strconv.Lower
import Derived.Shelf.Strconv.ParseUint10
import Derived.Shelf.Strconv.ParseUint10Empty
import Derived.Shelf.Strconv.ParseUint10Any
import Derived.Shelf.Strconv.ParseInt10
import Derived.Shelf.Strconv.RangeError
import Derived.Shelf.Strconv.ToErrorRange
import Derived.Shelf.Strconv.ParseUintEmpty
import Derived.Shelf.Strconv.ParseUint10b64
import Derived.Shelf.Strconv.ParseUint10b32
import Derived.Shelf.Strconv.ParseUint10b16
import Derived.Shelf.Strconv.ParseUint10b8
import Derived.Shelf.Strconv.ParseUint10At
import Derived.Shelf.Strconv.ParseInt10At64
import Derived.Shelf.Strconv.ParseInt10At32
import Derived.Shelf.Strconv.ParseInt10At16
import Derived.Shelf.Strconv.ParseInt10At8
import Derived.Shelf.Sort.Plain
import Derived.Shelf.Strings.Prefix
import Derived.Shelf.Bits.Mul64
import Derived.Shelf.Strings.Repeat
import Derived.Shelf.Strings.BuilderCap
import Derived.Shelf.Slices.Turned
import Derived.Ground.Names2Prog
import Derived.Shelf.Slices.CompactI
import Derived.Shelf.Slices.SearchI
import Derived.Shelf.Slices.Cells
import Derived.Shelf.Slices.In.SortNone
import Derived.Shelf.Bytes.SlSearch0
import Derived.Shelf.Bytes.SlEqualAll
import Derived.Shelf.Bytes.Small
import Derived.Test.YtaaincfenibojaaGreatDoorProg
import Derived.Laws.Bits64b
import Derived.Lib.SmallJoins
import Derived.Lib.ItoaLen
import Derived.Lib.ItoaMem
import Derived.WalkKit
import Derived.Defers
import Derived.Recover
set_option linter.all false
section
namespace Go.Proofs
open Go.Shelf
def Tryz.XM : Go.Shelf.Ren := ⟨fun | 172 => 301 | 244 => 318 | 245 => 319 | 247 => 337 | 279 => 338 | 280 => 339 | 281 => 340 | 282 => 341 | 287 => 352 | 316 => 353 | 171 => 355 | 205 => 354 | 321 => 359 | 322 => 360 | 243 => 361 | 246 => 362 | 283 => 215 | 284 => 216 | 285 => 217 | 286 => 218 | 129 => 211 | 317 => 285 | 318 => 286 | 319 => 287 | 320 => 288 | 337 => 313 | 338 => 314 | n => n, fun | 9 => 9 | 3 => 3 | 75 => 346 | 76 => 347 | 4 => 4 | 5 => 5 | 167 => 373 | 37 => 84 | 0 => 0 | 85 => 374 | 2 => 2 | 168 => 376 | 53 => 23 | 175 => 392 | 46 => 205 | 210 => 396 | 127 => 391 | 145 => 405 | 143 => 403 | 21 => 21 | 171 => 290 | 173 => 292 | 212 => 336 | 51 => 70 | 20 => 20 | 213 => 337 | 232 => 366 | 233 => 367 | 80 => 301 | n => n, fun | 15 => 4 | 16 => 5 | 17 => 1 | 18 => 2 | 19 => 3 | n => n⟩
theorem Tryz.qR : Go.Proofs.Lays.n172 Tryz.prog Tryz.XM := {
 mixed := by kernel_rfl
 f129 := Tryz.func211.trans (congrArg some (by kernel_rfl))
 f171 := Tryz.func355.trans (congrArg some (by kernel_rfl))
 f172 := Tryz.func301.trans (congrArg some (by kernel_rfl))
 f205 := Tryz.func354.trans (congrArg some (by kernel_rfl))
 f243 := Tryz.func361.trans (congrArg some (by kernel_rfl))
 f244 := Tryz.func318.trans (congrArg some (by kernel_rfl))
 f245 := Tryz.func319.trans (congrArg some (by kernel_rfl))
 f246 := Tryz.func362.trans (congrArg some (by kernel_rfl))
 f247 := Tryz.func337.trans (congrArg some (by kernel_rfl))
 f279 := Tryz.func338.trans (congrArg some (by kernel_rfl))
 f280 := Tryz.func339.trans (congrArg some (by kernel_rfl))
 f281 := Tryz.func340.trans (congrArg some (by kernel_rfl))
 f282 := Tryz.func341.trans (congrArg some (by kernel_rfl))
 f283 := Tryz.func215.trans (congrArg some (by kernel_rfl))
 f284 := Tryz.func216.trans (congrArg some (by kernel_rfl))
 f285 := Tryz.func217.trans (congrArg some (by kernel_rfl))
 f286 := Tryz.func218.trans (congrArg some (by kernel_rfl))
 f287 := Tryz.func352.trans (congrArg some (by kernel_rfl))
 f316 := Tryz.func353.trans (congrArg some (by kernel_rfl))
 f317 := Tryz.func285.trans (congrArg some (by kernel_rfl))
 f318 := Tryz.func286.trans (congrArg some (by kernel_rfl))
 f319 := Tryz.func287.trans (congrArg some (by kernel_rfl))
 f320 := Tryz.func288.trans (congrArg some (by kernel_rfl))
 f321 := Tryz.func359.trans (congrArg some (by kernel_rfl))
 f322 := Tryz.func360.trans (congrArg some (by kernel_rfl))
 f337 := Tryz.func313.trans (congrArg some (by kernel_rfl))
 f338 := Tryz.func314.trans (congrArg some (by kernel_rfl))
 t0 := Tryz.underlying0
 a0 := Tryz.isAgg0
 z0 := Tryz.sizeOf0
 v0 := Tryz.zeroValue0
 t2 := Tryz.underlying2
 a2 := Tryz.isAgg2
 z2 := Tryz.sizeOf2
 v2 := Tryz.zeroValue2
 t3 := Tryz.underlying3
 a3 := Tryz.isAgg3
 z3 := Tryz.sizeOf3
 v3 := Tryz.zeroValue3
 t4 := Tryz.underlying4
 a4 := Tryz.isAgg4
 z4 := Tryz.sizeOf4
 v4 := Tryz.zeroValue4
 t5 := Tryz.underlying5
 a5 := Tryz.isAgg5
 z5 := Tryz.sizeOf5
 v5 := Tryz.zeroValue5
 t9 := Tryz.underlying9
 a9 := Tryz.isAgg9
 z9 := Tryz.sizeOf9
 v9 := Tryz.zeroValue9
 t20 := Tryz.underlying20
 a20 := Tryz.isAgg20
 z20 := Tryz.sizeOf20
 v20 := Tryz.zeroValue20
 t21 := Tryz.underlying21
 a21 := Tryz.isAgg21
 z21 := Tryz.sizeOf21
 v21 := Tryz.zeroValue21
 t37 := Tryz.underlying84
 a37 := Tryz.isAgg84
 z37 := Tryz.sizeOf84
 v37 := Tryz.zeroValue84
 t46 := Tryz.underlying205
 a46 := Tryz.isAgg205
 z46 := Tryz.sizeOf205
 v46 := Tryz.zeroValue205
 t51 := Tryz.underlying70
 a51 := Tryz.isAgg70
 z51 := Tryz.sizeOf70
 v51 := Tryz.zeroValue70
 t53 := Tryz.underlying23
 a53 := Tryz.isAgg23
 z53 := Tryz.sizeOf23
 v53 := Tryz.zeroValue23
 t75 := Tryz.underlying346
 a75 := Tryz.isAgg346
 z75 := Tryz.sizeOf346
 v75 := Tryz.zeroValue346
 t76 := Tryz.underlying347
 a76 := Tryz.isAgg347
 z76 := Tryz.sizeOf347
 v76 := Tryz.zeroValue347
 t85 := Tryz.underlying374
 a85 := Tryz.isAgg374
 z85 := Tryz.sizeOf374
 v85 := Tryz.zeroValue374
 t127 := Tryz.underlying391
 a127 := Tryz.isAgg391
 z127 := Tryz.sizeOf391
 v127 := Tryz.zeroValue391
 t143 := Tryz.underlying403
 a143 := Tryz.isAgg403
 z143 := Tryz.sizeOf403
 v143 := Tryz.zeroValue403
 t145 := Tryz.underlying405
 a145 := Tryz.isAgg405
 z145 := Tryz.sizeOf405
 v145 := Tryz.zeroValue405
 t167 := Tryz.underlying373
 a167 := Tryz.isAgg373
 z167 := Tryz.sizeOf373
 v167 := Tryz.zeroValue373
 t168 := Tryz.underlying376
 a168 := Tryz.isAgg376
 z168 := Tryz.sizeOf376
 v168 := Tryz.zeroValue376
 t171 := Tryz.underlying290
 a171 := Tryz.isAgg290
 z171 := Tryz.sizeOf290
 v171 := Tryz.zeroValue290
 t173 := Tryz.underlying292
 a173 := Tryz.isAgg292
 z173 := Tryz.sizeOf292
 v173 := Tryz.zeroValue292
 t175 := Tryz.underlying392
 a175 := Tryz.isAgg392
 z175 := Tryz.sizeOf392
 v175 := Tryz.zeroValue392
 t210 := Tryz.underlying396
 a210 := Tryz.isAgg396
 z210 := Tryz.sizeOf396
 v210 := Tryz.zeroValue396
 t212 := Tryz.underlying336
 a212 := Tryz.isAgg336
 z212 := Tryz.sizeOf336
 v212 := Tryz.zeroValue336
 t213 := Tryz.underlying337
 a213 := Tryz.isAgg337
 z213 := Tryz.sizeOf337
 t232 := Tryz.underlying366
 a232 := Tryz.isAgg366
 z232 := Tryz.sizeOf366
 v232 := Tryz.zeroValue366
 t233 := Tryz.underlying367
 a233 := Tryz.isAgg367
 z233 := Tryz.sizeOf367
 v233 := Tryz.zeroValue367
 g15 := by kernel_rfl
 g16 := by kernel_rfl
 g17 := by kernel_rfl
 g18 := by kernel_rfl
 g19 := by kernel_rfl }
open Go.RowKit in
theorem Tryz.strconv_Atoi (s : ByteArray) (n : Int) (hl : s.size ≤ 18) (h : Lib.atoi s.data.toList = some n) (w : World) :
   Calls Tryz.prog 301 #[.string s] w fun e w' => e = .returned (.tuple #[.int .i64 n, .nilIface]) ∧ ∃ t, w' = Lib.bytesWorld w 5 t := Any.strconv_Atoi Tryz.qR s n hl h w
def Tryz.XN : Go.Shelf.Ren := ⟨fun | 283 => 215 | n => n, fun | 3 => 3 | 9 => 9 | 4 => 4 | n => n, fun | n => n⟩
theorem Tryz.qS : Go.Proofs.Lays.n283 Tryz.prog Tryz.XN := {
 mixed := by kernel_rfl
 f283 := Tryz.func215.trans (congrArg some (by kernel_rfl))
 t3 := Tryz.underlying3
 a3 := Tryz.isAgg3
 z3 := Tryz.sizeOf3
 v3 := Tryz.zeroValue3
 t4 := Tryz.underlying4
 a4 := Tryz.isAgg4
 z4 := Tryz.sizeOf4
 v4 := Tryz.zeroValue4
 t9 := Tryz.underlying9
 a9 := Tryz.isAgg9
 z9 := Tryz.sizeOf9
 v9 := Tryz.zeroValue9 }
open Go.Lib in
theorem Tryz.internal_strconv_small (i : Nat) (h : i < 100) (w : World) :
   Calls Tryz.prog 215 #[.int .i64 i] w fun e w' => e = .returned (.string ⟨(Lib.decDigits i).toArray⟩) ∧ w' = w := Any.internal_strconv_small Tryz.qS i h w
def Tryz.Uu : Go.Shelf.Ren := ⟨fun | 284 => 216 | 129 => 211 | 317 => 285 | 318 => 286 | n => n, fun | 53 => 23 | 3 => 3 | 212 => 336 | 0 => 0 | 4 => 4 | 46 => 205 | 5 => 5 | 9 => 9 | n => n, fun | 17 => 1 | n => n⟩
theorem Tryz.kg : Go.Proofs.LaysM.n284 Tryz.prog Tryz.Uu := {
 mixed := by kernel_rfl
 f129 := Tryz.func211.trans (congrArg some (by kernel_rfl))
 f284 := Tryz.func216.trans (congrArg some (by kernel_rfl))
 f317 := Tryz.func285.trans (congrArg some (by kernel_rfl))
 f318 := Tryz.func286.trans (congrArg some (by kernel_rfl))
 t0 := Tryz.underlying0
 a0 := Tryz.isAgg0
 z0 := Tryz.sizeOf0
 v0 := Tryz.zeroValue0
 t3 := Tryz.underlying3
 a3 := Tryz.isAgg3
 z3 := Tryz.sizeOf3
 v3 := Tryz.zeroValue3
 t4 := Tryz.underlying4
 a4 := Tryz.isAgg4
 z4 := Tryz.sizeOf4
 v4 := Tryz.zeroValue4
 t5 := Tryz.underlying5
 a5 := Tryz.isAgg5
 z5 := Tryz.sizeOf5
 v5 := Tryz.zeroValue5
 t9 := Tryz.underlying9
 a9 := Tryz.isAgg9
 z9 := Tryz.sizeOf9
 v9 := Tryz.zeroValue9
 t46 := Tryz.underlying205
 a46 := Tryz.isAgg205
 z46 := Tryz.sizeOf205
 v46 := Tryz.zeroValue205
 t53 := Tryz.underlying23
 a53 := Tryz.isAgg23
 z53 := Tryz.sizeOf23
 v53 := Tryz.zeroValue23
 t212 := Tryz.underlying336
 a212 := Tryz.isAgg336
 z212 := Tryz.sizeOf336
 v212 := Tryz.zeroValue336
 g17 := by kernel_rfl
 i0 := by kernel_rfl
 i3 := by kernel_rfl
 i4 := by kernel_rfl
 i5 := by kernel_rfl
 i9 := by kernel_rfl
 i46 := by kernel_rfl
 i53 := by kernel_rfl
 i212 := by kernel_rfl
 m17 := by kernel_rfl }
open Go.Lib in
theorem Tryz.internal_strconv_numDigits (u : Nat) (h1 : 1 ≤ u) (h2 : u < 18446744073709551616) (w : World) (AKG : Lib.TabIs Tryz.prog w "internal/strconv.uint64pow10" .u64 Lib.pow10Tab) :
   Calls Tryz.prog 216 #[.int .u64 u] w fun e w' => e = .returned (.int .i64 (Lib.nDigits u)) ∧ w' = w := Any.internal_strconv_numDigits Tryz.kg u h1 h2 w AKG
def Tryz.XO : Go.Shelf.Ren := ⟨fun | 285 => 217 | n => n, fun | 37 => 84 | 53 => 23 | 3 => 3 | 4 => 4 | 51 => 70 | 9 => 9 | 5 => 5 | 0 => 0 | n => n, fun | n => n⟩
theorem Tryz.qT : Go.Proofs.Lays.n285 Tryz.prog Tryz.XO := {
 mixed := by kernel_rfl
 f285 := Tryz.func217.trans (congrArg some (by kernel_rfl))
 t0 := Tryz.underlying0
 a0 := Tryz.isAgg0
 z0 := Tryz.sizeOf0
 v0 := Tryz.zeroValue0
 t3 := Tryz.underlying3
 a3 := Tryz.isAgg3
 z3 := Tryz.sizeOf3
 v3 := Tryz.zeroValue3
 t4 := Tryz.underlying4
 a4 := Tryz.isAgg4
 z4 := Tryz.sizeOf4
 v4 := Tryz.zeroValue4
 t5 := Tryz.underlying5
 a5 := Tryz.isAgg5
 z5 := Tryz.sizeOf5
 v5 := Tryz.zeroValue5
 t9 := Tryz.underlying9
 a9 := Tryz.isAgg9
 z9 := Tryz.sizeOf9
 v9 := Tryz.zeroValue9
 t37 := Tryz.underlying84
 a37 := Tryz.isAgg84
 z37 := Tryz.sizeOf84
 v37 := Tryz.zeroValue84
 t51 := Tryz.underlying70
 a51 := Tryz.isAgg70
 z51 := Tryz.sizeOf70
 v51 := Tryz.zeroValue70
 t53 := Tryz.underlying23
 a53 := Tryz.isAgg23
 z53 := Tryz.sizeOf23
 v53 := Tryz.zeroValue23 }
open Go.RowKit Go.Sort Go.Lib in
theorem Tryz.internal_strconv_formatBase10 (DI off cap : Nat) (u : Nat) (d : Array UInt8) (w : World) (hH : Holds (fun (b : UInt8) => Value.int .u8 (b.toNat : Int)) w DI off d) (hu : u < 10 ^ d.size) (AKH : u < 18446744073709551616) (EU : d.size < 4611686018427387904) :
   Calls Tryz.prog 217 #[.slice (some ⟨DI, off, none⟩) d.size cap, .int .u64 u] w fun e w' =>
     e = .returned (.tuple #[]) ∧ ∃ (n v' : Nat) (dk : Array UInt8), w' = (putRow (fun (b : UInt8) => Value.int .u8 (b.toNat : Int)) w DI off dk).drewN n ∧ FmtInv d.size u 0 v' dk := Any.internal_strconv_formatBase10 Tryz.qT DI off cap u d w hH hu AKH EU
def Tryz.XP : Go.Shelf.Ren := ⟨fun | 190 => 93 | 125 => 113 | 258 => 170 | 128 => 210 | 129 => 211 | 302 => 248 | 303 => 249 | 304 => 250 | 305 => 251 | 306 => 252 | 307 => 253 | 308 => 254 | 309 => 255 | 310 => 256 | 333 => 296 | 329 => 273 | 330 => 274 | 334 => 297 | 335 => 298 | 336 => 299 | 344 => 316 | n => n, fun | 31 => 97 | 9 => 9 | 3 => 3 | 46 => 205 | 0 => 0 | 51 => 70 | 53 => 23 | 4 => 4 | 183 => 280 | 182 => 279 | 131 => 151 | 5 => 5 | 218 => 325 | 222 => 328 | 228 => 351 | 229 => 352 | n => n, fun | n => n⟩
theorem Tryz.cp : Go.Proofs.Lays.n190 Tryz.prog Tryz.XP := {
 mixed := by kernel_rfl
 f125 := Tryz.func113.trans (congrArg some (by kernel_rfl))
 f128 := Tryz.func210.trans (congrArg some (by kernel_rfl))
 f129 := Tryz.func211.trans (congrArg some (by kernel_rfl))
 f190 := Tryz.func93.trans (congrArg some (by kernel_rfl))
 f258 := Tryz.func170.trans (congrArg some (by kernel_rfl))
 f302 := Tryz.func248.trans (congrArg some (by kernel_rfl))
 f303 := Tryz.func249.trans (congrArg some (by kernel_rfl))
 f304 := Tryz.func250.trans (congrArg some (by kernel_rfl))
 f305 := Tryz.func251.trans (congrArg some (by kernel_rfl))
 f306 := Tryz.func252.trans (congrArg some (by kernel_rfl))
 f307 := Tryz.func253.trans (congrArg some (by kernel_rfl))
 f308 := Tryz.func254.trans (congrArg some (by kernel_rfl))
 f309 := Tryz.func255.trans (congrArg some (by kernel_rfl))
 f310 := Tryz.func256.trans (congrArg some (by kernel_rfl))
 f329 := Tryz.func273.trans (congrArg some (by kernel_rfl))
 f330 := Tryz.func274.trans (congrArg some (by kernel_rfl))
 f333 := Tryz.func296.trans (congrArg some (by kernel_rfl))
 f334 := Tryz.func297.trans (congrArg some (by kernel_rfl))
 f335 := Tryz.func298.trans (congrArg some (by kernel_rfl))
 f336 := Tryz.func299.trans (congrArg some (by kernel_rfl))
 f344 := Tryz.func316.trans (congrArg some (by kernel_rfl))
 t0 := Tryz.underlying0
 a0 := Tryz.isAgg0
 z0 := Tryz.sizeOf0
 v0 := Tryz.zeroValue0
 t3 := Tryz.underlying3
 a3 := Tryz.isAgg3
 z3 := Tryz.sizeOf3
 v3 := Tryz.zeroValue3
 t4 := Tryz.underlying4
 a4 := Tryz.isAgg4
 z4 := Tryz.sizeOf4
 v4 := Tryz.zeroValue4
 t5 := Tryz.underlying5
 a5 := Tryz.isAgg5
 z5 := Tryz.sizeOf5
 v5 := Tryz.zeroValue5
 t9 := Tryz.underlying9
 a9 := Tryz.isAgg9
 z9 := Tryz.sizeOf9
 v9 := Tryz.zeroValue9
 t31 := Tryz.underlying97
 a31 := Tryz.isAgg97
 z31 := Tryz.sizeOf97
 v31 := Tryz.zeroValue97
 t46 := Tryz.underlying205
 a46 := Tryz.isAgg205
 z46 := Tryz.sizeOf205
 v46 := Tryz.zeroValue205
 t51 := Tryz.underlying70
 a51 := Tryz.isAgg70
 z51 := Tryz.sizeOf70
 v51 := Tryz.zeroValue70
 t53 := Tryz.underlying23
 a53 := Tryz.isAgg23
 z53 := Tryz.sizeOf23
 v53 := Tryz.zeroValue23
 t131 := Tryz.underlying151
 a131 := Tryz.isAgg151
 z131 := Tryz.sizeOf151
 v131 := Tryz.zeroValue151
 t182 := Tryz.underlying279
 a182 := Tryz.isAgg279
 z182 := Tryz.sizeOf279
 v182 := Tryz.zeroValue279
 t183 := Tryz.underlying280
 a183 := Tryz.isAgg280
 z183 := Tryz.sizeOf280
 v183 := Tryz.zeroValue280
 t218 := Tryz.underlying325
 a218 := Tryz.isAgg325
 z218 := Tryz.sizeOf325
 v218 := Tryz.zeroValue325
 t222 := Tryz.underlying328
 a222 := Tryz.isAgg328
 z222 := Tryz.sizeOf328
 v222 := Tryz.zeroValue328
 t228 := Tryz.underlying351
 a228 := Tryz.isAgg351
 z228 := Tryz.sizeOf351
 v228 := Tryz.zeroValue351
 t229 := Tryz.underlying352
 a229 := Tryz.isAgg352
 z229 := Tryz.sizeOf352
 v229 := Tryz.zeroValue352 }
open Go.Sort Go.RowKit in
theorem Tryz.slices_Sort_string (DI off cap : Nat) (ss : List (List UInt8)) (w : World) (hH : Holds encStr w DI off ss.toArray) (hblk : DI < w.heap.size) (EU : ss.length < 4611686018427387904) :
   Calls Tryz.prog 93 #[.slice (some ⟨DI, off, none⟩) ss.length cap] w fun e w' =>
     e = .returned (.tuple #[]) ∧ ∃ n os, w' = grow (putRow encStr (Sort.ahead w n) DI off (ss.mergeSort fun x y => decide (x ≤ y)).toArray) os := Any.slices_Sort_string Tryz.cp DI off cap ss w hH hblk EU
def Tryz.OZ : Go.Shelf.Ren := ⟨fun | 105 => 315 | 212 => 332 | 99 => 92 | 165 => 333 | 166 => 334 | 170 => 335 | 169 => 336 | 263 => 348 | 264 => 349 | 206 => 169 | 240 => 350 | 241 => 351 | 276 => 357 | 277 => 358 | n => n, fun | 9 => 9 | 3 => 3 | 4 => 4 | 20 => 20 | 0 => 0 | 46 => 205 | 109 => 368 | 5 => 5 | 72 => 372 | 76 => 347 | 51 => 70 | 146 => 387 | 53 => 23 | 148 => 389 | 70 => 370 | 37 => 84 | 75 => 346 | 127 => 391 | 164 => 399 | 80 => 301 | n => n, fun | n => n⟩
theorem Tryz.qU : Go.Proofs.Lays.n105 Tryz.prog Tryz.OZ := {
 mixed := by kernel_rfl
 f99 := Tryz.func92.trans (congrArg some (by kernel_rfl))
 f105 := Tryz.func315.trans (congrArg some (by kernel_rfl))
 f165 := Tryz.func333.trans (congrArg some (by kernel_rfl))
 f166 := Tryz.func334.trans (congrArg some (by kernel_rfl))
 f169 := Tryz.func336.trans (congrArg some (by kernel_rfl))
 f170 := Tryz.func335.trans (congrArg some (by kernel_rfl))
 f206 := Tryz.func169.trans (congrArg some (by kernel_rfl))
 f212 := Tryz.func332.trans (congrArg some (by kernel_rfl))
 f240 := Tryz.func350.trans (congrArg some (by kernel_rfl))
 f241 := Tryz.func351.trans (congrArg some (by kernel_rfl))
 f263 := Tryz.func348.trans (congrArg some (by kernel_rfl))
 f264 := Tryz.func349.trans (congrArg some (by kernel_rfl))
 f276 := Tryz.func357.trans (congrArg some (by kernel_rfl))
 f277 := Tryz.func358.trans (congrArg some (by kernel_rfl))
 t0 := Tryz.underlying0
 a0 := Tryz.isAgg0
 z0 := Tryz.sizeOf0
 v0 := Tryz.zeroValue0
 t3 := Tryz.underlying3
 a3 := Tryz.isAgg3
 z3 := Tryz.sizeOf3
 v3 := Tryz.zeroValue3
 t4 := Tryz.underlying4
 a4 := Tryz.isAgg4
 z4 := Tryz.sizeOf4
 v4 := Tryz.zeroValue4
 t5 := Tryz.underlying5
 a5 := Tryz.isAgg5
 z5 := Tryz.sizeOf5
 v5 := Tryz.zeroValue5
 t9 := Tryz.underlying9
 a9 := Tryz.isAgg9
 z9 := Tryz.sizeOf9
 v9 := Tryz.zeroValue9
 t20 := Tryz.underlying20
 a20 := Tryz.isAgg20
 z20 := Tryz.sizeOf20
 v20 := Tryz.zeroValue20
 t37 := Tryz.underlying84
 a37 := Tryz.isAgg84
 z37 := Tryz.sizeOf84
 v37 := Tryz.zeroValue84
 t46 := Tryz.underlying205
 a46 := Tryz.isAgg205
 z46 := Tryz.sizeOf205
 v46 := Tryz.zeroValue205
 t51 := Tryz.underlying70
 a51 := Tryz.isAgg70
 z51 := Tryz.sizeOf70
 v51 := Tryz.zeroValue70
 t53 := Tryz.underlying23
 a53 := Tryz.isAgg23
 z53 := Tryz.sizeOf23
 v53 := Tryz.zeroValue23
 t70 := Tryz.underlying370
 a70 := Tryz.isAgg370
 z70 := Tryz.sizeOf370
 v70 := Tryz.zeroValue370
 t72 := Tryz.underlying372
 a72 := Tryz.isAgg372
 z72 := Tryz.sizeOf372
 v72 := Tryz.zeroValue372
 t75 := Tryz.underlying346
 a75 := Tryz.isAgg346
 z75 := Tryz.sizeOf346
 v75 := Tryz.zeroValue346
 t76 := Tryz.underlying347
 a76 := Tryz.isAgg347
 z76 := Tryz.sizeOf347
 v76 := Tryz.zeroValue347
 t109 := Tryz.underlying368
 a109 := Tryz.isAgg368
 z109 := Tryz.sizeOf368
 v109 := Tryz.zeroValue368
 t127 := Tryz.underlying391
 a127 := Tryz.isAgg391
 z127 := Tryz.sizeOf391
 v127 := Tryz.zeroValue391
 t146 := Tryz.underlying387
 a146 := Tryz.isAgg387
 z146 := Tryz.sizeOf387
 v146 := Tryz.zeroValue387
 t148 := Tryz.underlying389
 a148 := Tryz.isAgg389
 z148 := Tryz.sizeOf389
 v148 := Tryz.zeroValue389
 t164 := Tryz.underlying399
 a164 := Tryz.isAgg399
 z164 := Tryz.sizeOf399
 v164 := Tryz.zeroValue399 }
theorem Tryz.Mj : Builder.Extra Tryz.prog Tryz.OZ := {
 sizeBuilder := by kernel_rfl
 liesBuilder := by kernel_rfl
 t5 := Tryz.underlying5
 a5 := Tryz.isAgg5
 z5 := Tryz.sizeOf5
 v5 := Tryz.zeroValue5
 infoByte := by kernel_rfl
 cellsByte := by kernel_rfl
 sizeByte := by kernel_rfl
 neB5 := by decide }
open Go.RowKit Go.Lib in
theorem Tryz.strings_Repeat (s : ByteArray) (c : Nat) (w : World) (hc : c ≤ 9223372036854775807) (hlen : s.size * c ≤ 140737488355328) :
   Calls Tryz.prog 315 #[.string s, .int .i64 c] w fun e w' => e = .returned (.string ⟨(Lib.repeatL s.data.toList c).toArray⟩) ∧ Below w.heap.size w w' := Any.strings_Repeat Tryz.qU Tryz.Mj s c w hc hlen
open Go.RowKit Go.Sort in
theorem Tryz.slices_Sort_string_none (p : Option Addr) (cap : Nat) (w : World) :
   Calls Tryz.prog 93 #[.slice p 0 cap] w fun e w' => e = .returned (.tuple #[]) ∧ w' = w := Any.slices_Sort_string_none Tryz.cp p cap w
end Go.Proofs
end
section
namespace TwW
open Go Tw Go.Proofs.Tryz
abbrev XQ (l : List UInt8) : Value := .string ⟨l.toArray⟩
def GV (xs : List (List UInt8)) : List (List UInt8) := xs.mergeSort fun x y => decide (x ≤ y)
theorem HU (xs : List (List UInt8)) : (GV xs).length = xs.length := by simp [GV]
theorem E0 {α : Type} [Inhabited α] (enc : α → Value) (F : Array α) (arr : Array Value) (o j : Nat) : (Sort.putCells enc o F arr)[j]? = if o ≤ j ∧ j < o + F.size then (arr[j]?).map fun _ => enc F[j - o]! else arr[j]? := by
 simp only [Sort.putCells, Array.getElem?_mapIdx]
 by_cases h : o ≤ j ∧ j < o + F.size
 · rw [if_pos h]; simp [h]
 · rw [if_neg h]
   cases arr[j]? with
   | none => rfl
   | some v => simp only [Option.map_some]; rw [if_neg h]
section
variable {σ : Hp} {R : Rr}
theorem Mk {q : Option Addr} {m d : Nat} {xs : List (List UInt8)} (ho : Own 1 σ q m d (xs.map XQ)) (hm : xs.length = m) (EU : m < 4611686018427387904)
   (h : ∀ σ', Own 1 σ' q m d ((GV xs).map XQ) → Ext (σ.del q) (σ'.del q) → R (.returned (.tuple #[])) σ') : Spec prog 93 #[.slice q m d] σ R := by
 intro w F hs hF
 by_cases Ml : m = 0
 · subst Ml
   have hx : xs = [] := List.eq_nil_of_length_eq_zero hm
   subst hx
   have Hj := Go.Proofs.Tryz.slices_Sort_string_none q d w
   refine Hj.mono ?_
   rintro e w' ⟨rfl, rfl⟩
   exact ⟨σ, h σ (by simpa [GV] using ho) (Ext.refl _), hs, fun b hb => ⟨(hF b hb).2, rfl⟩, .same rfl rfl rfl, rfl, Nat.le_refl _⟩
 · obtain ⟨b, o, arr, T, rfl, hb, cu, Oy, Hv⟩ : ∃ b o arr T, q = some ⟨b, o, none⟩ ∧ σ b = some (.cells arr T (0, 0)) ∧ m ≤ d ∧ o + d * 1 ≤ arr.size ∧ (arr.toList.drop o).take (m * 1) = xs.map XQ := by
     rcases ho.2.2 with ⟨_, h2, _⟩ | h
     · exact absurd h2 Ml
     · exact h
   have hw := hs _ _ hb
   have O8 : ∀ (j : Nat) (hj : j < xs.length), arr[o + j]? = some (XQ xs[j]) := fun j hj => by
     have h1 : (xs.map XQ)[j]? = some (XQ xs[j]) := by simp [hj]
     rw [← Hv, List.getElem?_take, if_pos (by omega), List.getElem?_drop, Array.getElem?_toList] at h1
     exact h1
   have hH : Sort.Holds Go.Proofs.encStr w b o xs.toArray := fun j hj => by
     have T7 : j < xs.length := by simpa using hj
     refine ⟨?_, by simp [World.frozen?, hw]⟩
     have e1 : xs.toArray[j]! = xs[j] := by simp [T7]
     simp only [World.cell?, hw, e1]
     simpa using O8 j T7
   have hblk : b < w.heap.size := (Array.getElem?_eq_some_iff.1 hw).1
   have Hj := Go.Proofs.Tryz.slices_Sort_string b o d xs w hH hblk (by omega)
   rw [hm] at Hj
   refine Hj.mono ?_
   rintro e w' ⟨rfl, n, os, rfl⟩
   let F2 : Array (List UInt8) := (GV xs).toArray
   have hF2 : F2.size = m := by simp [F2, HU, hm]
   have DL : ∀ k, (Sort.grow (Sort.putRow Go.Proofs.encStr (Sort.ahead w n) b o F2) os).heap[k]? = if k < w.heap.size then (if b = k then (w.heap[k]?).map (Sort.onCells (Sort.putCells Go.Proofs.encStr o F2)) else w.heap[k]?) else os[k - w.heap.size]? := fun k => by
     simp only [Sort.grow, Sort.putRow, Sort.mapBlock, Sort.ahead, Array.getElem?_append, Array.size_modify, Array.getElem?_modify]
   refine ⟨σ.set b (.cells (Sort.putCells Go.Proofs.encStr o F2 arr) T (0, 0)), h _ ⟨by simp [HU, hm], by omega, .inr ⟨b, o, _, T, rfl, Hp.AA _ _ _, cu, by simpa [Sort.putCells] using Oy, ?_⟩⟩ (by rw [Hp.Bg]; exact Ext.refl _), ?_⟩
   · refine List.ext_getElem? fun j => ?_
     rw [List.getElem?_take]
     by_cases hj : j < m * 1
     · have UA : j < (GV xs).length := by rw [HU]; omega
       rw [if_pos hj, List.getElem?_drop, Array.getElem?_toList, E0, if_pos (by omega), O8 j (by omega)]
       simp [F2, UA]
     · rw [if_neg hj, List.getElem?_eq_none (by simp [HU]; omega)]
   · refine ⟨fun k u hk => ?_, fun k hk => ?_, ⟨rfl, rfl, fun _ => ⟨n, rfl⟩⟩, rfl, by simp [Sort.grow, Sort.putRow, Sort.mapBlock, Sort.ahead]⟩
     · rw [show (Sort.grow (Sort.putRow Go.Proofs.encStr (Sort.ahead w n) b o (xs.mergeSort fun x y => decide (x ≤ y)).toArray) os).heap[k]? = _ from DL k]
       by_cases C3 : k = b
       · subst C3
         rw [Hp.AA] at hk; cases hk
         rw [if_pos hblk, if_pos rfl, hw]; rfl
       · rw [Hp.AH C3] at hk
         have := hs k u hk
         rw [if_pos (Array.getElem?_eq_some_iff.1 this).1, if_neg (Ne.symm C3)]; exact this
     · have C3 : k ≠ b := fun e => by have := (hF k hk).2; rw [e, hb] at this; cases this
       refine ⟨by rw [Hp.AH C3]; exact (hF k hk).2, ?_⟩
       rw [show (Sort.grow (Sort.putRow Go.Proofs.encStr (Sort.ahead w n) b o (xs.mergeSort fun x y => decide (x ≤ y)).toArray) os).heap[k]? = _ from DL k, if_pos (hF k hk).1, if_neg (Ne.symm C3)]
theorem Cq.sub {i b clock : Nat} {l L : List MapEntry} (h : Cq σ i b l L clock) : L.Sublist l := by
 obtain ⟨seen, c0, _, _, rfl⟩ := h
 simp only [leftOf, List.filter_toArray]
 exact List.filter_sublist
theorem Kg {e : MapEntry} : ∀ {L : List MapEntry}, (L.map (·.born)).Nodup → e ∈ L → L.Perm (e :: L.filter fun x => x.born != e.born)
 | a :: L, hn, he => by
   simp only [List.map_cons, List.nodup_cons] at hn
   rcases List.mem_cons.1 he with rfl | he
   · have : (e :: L).filter (fun x => x.born != e.born) = L := by
       rw [List.filter_cons_of_neg (by simp)]
       refine List.filter_eq_self.2 fun x hx => ?_
       simp only [bne_iff_ne]
       exact fun h => hn.1 (h ▸ List.mem_map.2 ⟨x, hx, rfl⟩)
     rw [this]
   · have Ad : a.born ≠ e.born := fun h => hn.1 (h ▸ List.mem_map.2 ⟨e, he, rfl⟩)
     rw [List.filter_cons_of_pos (by simpa using Ad)]
     exact ((Kg hn.2 he).cons a).trans (List.Perm.swap ..)
def nm (e : MapEntry) : ByteArray := match e.key with
 | .string s => s
 | _ => ⟨#[]⟩
def O7 (pre : ByteArray) (L : List MapEntry) : List ByteArray := (L.map nm).filter (BP · pre)
structure Names (fs : ByteArray → Option Fl) (pre : ByteArray) (L : List ByteArray) : Prop where
 sorted : L.Pairwise fun a b => a.data.toList ≤ b.data.toList
 nodup : L.Nodup
 mem : ∀ s, s ∈ L ↔ (fs s).isSome = true ∧ BP s pre = true
theorem fK (a b : List UInt8) : (decide (a ≤ b) || decide (b ≤ a)) = true := by
 rcases Std.le_total (a := a) (b := b) with h | h <;> simp [h]
theorem kh {rows : List Row} {pre : ByteArray} {xs : List ByteArray} (hn : (rows.map (·.name)).Nodup) (hp : xs.Perm ((rows.map (·.name)).filter (BP · pre))) :
   Names (Row.look rows) pre ((GV (xs.map (·.data.toList))).map fun l => ⟨l.toArray⟩) := by
 have uB : ((GV (xs.map (·.data.toList))).map fun l => (⟨l.toArray⟩ : ByteArray)).Perm xs := by
   have h1 := (List.mergeSort_perm (xs.map (·.data.toList)) fun x y => decide (x ≤ y)).map fun l => (⟨l.toArray⟩ : ByteArray)
   rw [List.map_map] at h1
   have h2 : xs.map ((fun l => (⟨l.toArray⟩ : ByteArray)) ∘ fun s : ByteArray => s.data.toList) = xs := by
     conv => rhs; rw [← List.map_id xs]
     exact List.map_congr_left fun a _ => rfl
   rw [h2] at h1
   exact h1
 refine ⟨?_, ?_, fun s => ?_⟩
 · rw [List.pairwise_map]
   have := List.pairwise_mergeSort (le := fun x y : List UInt8 => decide (x ≤ y)) (fun a b c h1 h2 => by simp only [decide_eq_true_eq] at h1 h2 ⊢; exact Std.le_trans h1 h2) (fun a b => fK a b) (xs.map (·.data.toList))
   exact this.imp fun h => by simpa using h
 · exact (uB.nodup_iff).2 (hp.nodup_iff.2 (hn.filter _))
 · rw [uB.mem_iff, hp.mem_iff, List.mem_filter, and_congr_left_iff]
   intro _
   unfold Row.look
   cases hf : rows.find? (fun r => decide (r.name = s)) with
   | none =>
     simp only [Option.map_none, Option.isSome_none, Bool.false_eq_true, iff_false]
     intro hm
     obtain ⟨r, hr, rfl⟩ := List.mem_map.1 hm
     have := List.find?_eq_none.1 hf r hr
     simp at this
   | some r =>
     simp only [Option.map_some, Option.isSome_some, iff_true]
     exact List.mem_map.2 ⟨r, List.mem_of_find?_eq_some hf, by simpa using List.find?_some hf⟩
abbrev Qi (σ : Hp) (p : Option Addr) (n c : Nat) (L : List ByteArray) : Prop := Own 1 σ p n c (L.map .string)
theorem qV {σ0 : Hp} {pre : ByteArray} {i m clock : Nat} {rows : List Row} (Ml : A2 σ0 m (rows.map Row.Cj) clock) (cw : rows.length ≤ 67108864)
   (hR : ∀ p n c L σ', Qi (σ0.new σ') p n c L → Names (Row.look rows) pre L → Ext σ0 σ' → n ≤ rows.length → R (.returned (.slice p n c)) σ') :
   ∀ (k : Nat) (σ : Hp) (L : List MapEntry) (xs : List ByteArray) (p : Option Addr) (c : Nat), L.length = k → Ext σ0 σ → Cq (σ0.new σ) i m (rows.map Row.Cj) L clock → Qi (σ0.new σ) p xs.length c xs → (xs ++ O7 pre L).Perm (O7 pre (rows.map Row.Cj)) →
     Ey.GO R pre p xs.length c (.pointer (some ⟨i, 0, none⟩)) σ := by
 intro k
 induction k using Nat.strongRecOn with
 | _ k ih =>
 intro σ L xs p c hL hx hi ho hp
 have AEA : O7 pre (rows.map Row.Cj) = (rows.map (·.name)).filter (BP · pre) := by simp only [O7, List.map_map]; rfl
 have hlen : xs.length ≤ rows.length := by
   have := hp.length_eq
   rw [AEA] at this
   have h2 := List.length_filter_le (BP · pre) (rows.map (·.name))
   simp at this h2; omega
 have hm := Ml.mono hx
 have SB : (rows.map (·.name)).Nodup := by
   have := Ml.nodup
   rw [List.map_map] at this
   have e : (rows.map ((fun e : MapEntry => e.key) ∘ Row.Cj)) = (rows.map (·.name)).map Value.string := by rw [List.map_map]; rfl
   rw [e, List.Nodup, List.pairwise_map] at this
   exact this.imp fun Ad e => Ad (by rw [e])
 refine Ey.GP (Jw hm (hi.mono (Ext.Ah _ _)) (fun h0 => .inl ⟨rfl, ?_⟩) fun e Jr Uo o Z8 Z6 => .inr ?_)
 · subst h0
   simp only [O7, List.map_nil, List.filter_nil, List.append_nil] at hp
   rw [← O7, AEA] at hp
   have Bs : Own 1 σ p xs.length c ((xs.map (·.data.toList)).map XQ) := by
     rw [List.map_map]; exact ho.mono (Ext.Ah _ _)
   refine Mk Bs (by simp) (by omega) fun σ' hs hsx => ⟨rfl, ?_⟩
   refine hR p _ c _ σ' ?_ (kh SB hp) (CX ho.Dh hsx hx) hlen
   have := Own.CO hs (σ := σ0) ho.Dh
   unfold Qi
   rw [List.map_map]
   exact this
 · obtain ⟨seen, c0, yG, _⟩ := hi
   obtain ⟨ka, _⟩ := AO.1 yG
   have hpi : ∀ a, p = some a → a.block ≠ i := fun a ha e => by
     rcases ho.2.2 with ⟨h1, _⟩ | ⟨b, o', arr, T, h1, h2, _⟩
     · rw [h1] at ha; cases ha
     · rw [h1] at ha; cases ha
       simp only at e; subst e
       rw [yG] at h2; cases h2
   have tz : m ≠ i := fun e => by rw [← e, Ml.1] at ka; cases ka
   obtain ⟨l1, l2, hl⟩ := List.append_of_mem Uo
   obtain ⟨r1, r, r2, CL, _, rfl, _⟩ := EX hl
   have Ay : Ext σ0 (σ.set i o) := fun b u hb => by rw [Hp.AH fun e => by rw [e, ka] at hb; cases hb]; exact hx b u hb
   have nc : (σ0.new (σ.set i o)) i = some o := AO.2 ⟨ka, Hp.AA _ _ _⟩
   have Bs : Qi (σ0.new (σ.set i o)) p xs.length c xs := TwW.Own.loc ho fun b hb => by
     cases p with
     | none => cases hb
     | some a =>
       simp only [DI, List.mem_singleton] at hb
       subst hb
       simp only [Hp.new, Hp.AH (hpi a rfl)]
   have XR : (L.map (·.born)).Nodup := Ml.Vm.sublist ((Cq.sub ⟨seen, c0, yG, by assumption⟩).map _)
   have qW := Kg XR Jr
   have ki : (O7 pre L).Perm (O7 pre (r.Cj :: L.filter fun x => x.born != r.Cj.born)) := (qW.map nm).filter _
   have AEC : ∀ M, O7 pre (r.Cj :: M) = if BP r.name pre = true then r.name :: O7 pre M else O7 pre M := fun M => by
     have : nm r.Cj = r.name := rfl
     simp only [O7, List.map_cons, List.filter_cons, this]
   rw [AEC] at ki
   refine ⟨_, _, rfl, Z6 _ (Hp.AA _ _ _) (Hp.AH tz) ⟨_, _, rfl, fI ⟨_, rfl, fun ht PZ Uv => ?_, fun hf => ?_⟩⟩⟩
   · rw [if_pos ht] at ki
     refine Im (T := 97) (ys := [.string r.name]) Ay Bs rfl (fun u hu => by simp at hu; subst hu; rfl) (by omega) (fun p' c' σ' Dd DJ uC => ⟨p', _, c', rfl, ?_⟩) Uv
     have hi3 : (σ0.new σ') i = some o := by
       have := uC i o (A3.2 ⟨fun a ha => Ne.symm (hpi a ha), nc⟩)
       exact (A3.1 this).2
     have := ih _ (hL ▸ KW Jr) σ' _ (xs ++ [r.name]) p' c' rfl DJ (Z8 _ hi3) (by simpa [Qi] using Dd) (by
       rw [List.append_assoc]
       exact (ki.append_left xs).symm.trans hp)
     simpa using this
   · rw [if_neg (by rw [hf]; simp)] at ki
     exact ih _ (hL ▸ KW Jr) _ _ xs p c rfl Ay (Z8 _ nc) Bs ((ki.append_left xs).symm.trans hp)
theorem fL {d : Nat} {D : Dk} {S : List Nat} {pre : ByteArray} (hd : A6 σ d D S) (EB : D.up = true) (hc : D.cnt ≤ 67108864)
   (h : ∀ p n c L σ', Qi (σ.new σ') p n c L → Names D.files pre L → Ext σ σ' → n ≤ D.cnt → R (.returned (.slice p n c)) σ') : Spec prog 174 #[.pointer (some ⟨d, 0, none⟩), .string pre] σ R := by
 obtain ⟨m, cl, rows, T, a, b, e, hd⟩ := hd
 refine Ey.start ⟨d, 0, rfl, _, AD hd.obj rfl, fun hh => (by rw [EB] at hh; cases hh), fun _ => ⟨some m, AD hd.obj rfl, H0 hd.map fun i o hi O7 => ⟨_, rfl, ?_⟩⟩⟩
 have JO := hd.files
 exact qV hd.map (Nat.le_trans hd.cnt hc) (fun p n c L σ' ho hN hx hn => h p n c L σ' ho (JO ▸ hN) hx (Nat.le_trans hn hd.cnt)) _ _ _ [] none 0 rfl (.set hi) (O7.loc (by simp [Hp.new, hi])) Own.nil (by simp)
end
end TwW
end
section
namespace TwW
open Go Tw Go.Proofs.Tryz
def uv (x : Nat) : List Int := if h : 128 ≤ x then ((x % 128 + 128 : Nat) : Int) :: uv (x / 128) else [(x : Int)]
termination_by x
decreasing_by omega
theorem G1 {x : Nat} (h : 128 ≤ x) : uv x = ((x % 128 + 128 : Nat) : Int) :: uv (x / 128) := by rw [uv, dif_pos h]
theorem Cb {x : Nat} (h : ¬ 128 ≤ x) : uv x = [(x : Int)] := by rw [uv, dif_neg h]
theorem Z9 : ∀ (k x : Nat), x < 128 ^ (k + 1) → (uv x).length ≤ k + 1
 | 0, x, h => by rw [Cb (by simpa using h)]; simp
 | k + 1, x, h => by
   by_cases hx : 128 ≤ x
   · rw [G1 hx]
     have := Z9 k (x / 128) (by rw [Nat.div_lt_iff_lt_mul (by decide)]; rw [Nat.pow_succ] at h; exact h)
     simp; omega
   · rw [Cb hx]; simp
theorem BV {x : Nat} (h : x < 18446744073709551616) : (uv x).length ≤ 10 := Z9 9 x (by omega)
set_option maxRecDepth 100000 in
theorem AED : ∀ y : Fin 256, Go.bits .or .u8 (y.1 : Int) 128 = ((y.1 % 128 + 128 : Nat) : Int) := by decide
set_option maxRecDepth 100000 in
theorem yH : ∀ y : Fin 128, (y.1 ||| 128) = y.1 + 128 := by decide
theorem DG {R : Rr} {σ : Hp} {p : Option Addr} {n c x : Nat} {xs : List Int} (hr : By .u8 σ p n xs) (hn : n ≤ 70368744177664) (hx : x < 18446744073709551616)
   (h : ∀ p' n' c' σ', AS .u8 (σ.new σ') p' n' c' (xs ++ uv x) → Ext σ σ' → R (.returned (.slice p' n' c')) σ') : Spec prog 99 #[.slice p n c, .int .u64 x] σ R := by
 refine EG.start fun b hb => ?_
 refine ER Own.empty ((GM.of_map hr).mono (.set hb)) CN.Cn (by omega) fun p' c' σ' AZ EK => ?_
 have hq : ∀ a : Addr, (some (⟨b, 0, none⟩ : Addr)) = some a → σ a.block = none := fun a ha => by cases ha; exact hb
 have ho := Own.CO AZ (Bt hq EK (.set hb))
 have he := CX hq EK (.set hb)
 refine ⟨p', 0 + n, c', rfl, ?_⟩
 rw [Nat.zero_add] at ho ⊢
 have hlen := hr.1
 suffices H : ∀ (k x n' : Nat) p' c' σ' ys, x < 128 ^ (k + 1) → n' + k ≤ n + 9 → AS .u8 (σ.new σ') p' n' c' ys → Ext σ σ' → (∀ p' n' c' σ', AS .u8 (σ.new σ') p' n' c' (ys ++ uv x) → Ext σ σ' → R (.returned (.slice p' n' c')) σ') → EG.JZ R x p' n' c' σ' from
   H 9 x n p' c' σ' xs (by omega) (by omega) ho he h
 intro k
 induction k with
 | zero =>
   intro x n' p' c' σ' ys hx Jj ho he h
   refine EG.CP ⟨fun Ag => by omega, fun _ H9 Uw b2 G8 => ?_⟩
   have Ns : H9 = (x : Int) := by rw [Uw]; simp [IntKind.wrap, IntKind.bits, IntKind.signed]; omega
   subst Ns
   refine AS.Hy he ho (by omega) (fun p2 c2 σ2 Bs XS _ => ⟨p2, n' + 1, c2, rfl, h _ _ _ _ ?_ XS⟩) G8
   rw [Cb (by omega)]; exact Bs
 | succ k ih =>
   intro x n' p' c' σ' ys hx Jj ho he h
   refine EG.CP ⟨fun Ag MQ fM Nc qX b2 G8 => ?_, fun Fb H9 Uw b2 G8 => ?_⟩
   · have h15 : MQ = ((x % 256 : Nat) : Int) := by rw [fM]; simp [IntKind.wrap, IntKind.bits, IntKind.signed]
     have fN : Nc = ((x % 128 + 128 : Nat) : Int) := by
       rw [qX, h15, AED ⟨x % 256, Nat.mod_lt _ (by decide)⟩]
       have : x % 256 % 128 = x % 128 := by omega
       rw [this]
     subst fN
     refine AS.Hy he ho (by omega) (fun p2 c2 σ2 Bs XS _ => ⟨p2, n' + 1, c2, rfl, by simp [IntKind.bits], fun Cd aA => ?_⟩) G8
     have h12 : Cd = ((x / 128 : Nat) : Int) := by rw [aA]; simp
     subst h12
     refine ih (x / 128) (n' + 1) p2 c2 σ2 _ (by rw [Nat.div_lt_iff_lt_mul (by decide)]; rw [Nat.pow_succ] at hx; exact hx) (by omega) Bs XS fun p3 n3 c3 σ3 Dd he3 => h p3 n3 c3 σ3 ?_ he3
     rw [G1 (by omega)]
     simpa using Dd
   · have Ns : H9 = (x : Int) := by rw [Uw]; simp [IntKind.wrap, IntKind.bits, IntKind.signed]; omega
     subst Ns
     refine AS.Hy he ho (by omega) (fun p2 c2 σ2 Bs XS _ => ⟨p2, n' + 1, c2, rfl, h _ _ _ _ ?_ XS⟩) G8
     rw [Cb (by omega)]; exact Bs
def E7 (bs : List Int) : Prop := ∀ x ∈ bs, 0 ≤ x ∧ x < 256
def I6 (bs : List Int) (i w : Nat) : Prop := w < 18446744073709551616 ∧ ∃ rest, bs.drop i = uv w ++ rest
theorem cy (x : Nat) : ∃ c t, uv x = c :: t ∧ (128 ≤ x → c = ((x % 128 + 128 : Nat) : Int) ∧ t = uv (x / 128)) ∧ (x < 128 → c = (x : Int) ∧ t = []) := by
 by_cases h : 128 ≤ x
 · exact ⟨_, _, G1 h, fun _ => ⟨rfl, rfl⟩, fun h2 => by omega⟩
 · exact ⟨_, _, Cb h, fun h2 => by omega, fun _ => ⟨rfl, rfl⟩⟩
theorem Nt : ∀ (k x : Nat), x < 128 ^ (k + 1) → E7 (uv x)
 | 0, x, h => by
   rw [Cb (by simpa using h)]
   intro y hy; simp at hy; subst hy; simp at h; omega
 | k + 1, x, h => by
   by_cases hx : 128 ≤ x
   · rw [G1 hx]
     intro y hy
     rcases List.mem_cons.1 hy with rfl | hy
     · omega
     · exact Nt k (x / 128) (by rw [Nat.div_lt_iff_lt_mul (by decide)]; rw [Nat.pow_succ] at h; exact h) y hy
   · rw [Cb hx]
     intro y hy; simp at hy; subst hy; omega
theorem Qj (x : Nat) : 0 < (uv x).length := by
 obtain ⟨c, t, h, _⟩ := cy x; rw [h]; simp
set_option maxRecDepth 100000 in
theorem yI : ∀ y : Fin 256, Go.bits .and .u8 (y.1 : Int) 127 = ((y.1 % 128 : Nat) : Int) := by decide
theorem kj {acc c k : Nat} (ha : acc < 2 ^ (7 * k)) (hk : k ≤ 9) (hc : c * 2 ^ (7 * k) < 18446744073709551616) : Go.bits .or .u64 (acc : Int) ((c * 2 ^ (7 * k) : Nat) : Int) = ((acc + c * 2 ^ (7 * k) : Nat) : Int) := by
 have hp : 2 ^ (7 * k) ≤ 2 ^ 63 := Nat.pow_le_pow_right (by decide) (by omega)
 rw [bits_or_u64_nat acc _ (by omega) hc]
 congr 1
 rw [Nat.or_comm, Nat.mul_comm, ← Nat.two_pow_add_eq_or_of_lt ha, Nat.add_comm]
def So (bs : List Int) (i k acc : Nat) : Prop := ∀ w, I6 bs i w → acc = w % 2 ^ (7 * k) ∧ (∃ rest, bs.drop (i + k) = uv (w / 2 ^ (7 * k)) ++ rest) ∧ (0 < k → 0 < w / 2 ^ (7 * k)) ∧ (uv w).length = k + (uv (w / 2 ^ (7 * k))).length
theorem So.zero {bs : List Int} {i : Nat} : So bs i 0 0 := fun w ⟨hw, rest, hr⟩ => by
 refine ⟨by simp [Nat.mod_one], ⟨rest, by simpa using hr⟩, fun h => by omega, by simp⟩
theorem So.byte {bs : List Int} {i k acc w : Nat} {c : Int} (h : So bs i k acc) (hw : I6 bs i w) (hc : bs[i + k]? = some c) :
   (128 ≤ w / 2 ^ (7 * k) → c = ((w / 2 ^ (7 * k) % 128 + 128 : Nat) : Int)) ∧ (w / 2 ^ (7 * k) < 128 → c = ((w / 2 ^ (7 * k) : Nat) : Int)) := by
 obtain ⟨_, ⟨rest, hr⟩, _, _⟩ := h w hw
 obtain ⟨c', t, he, h1, h2⟩ := cy (w / 2 ^ (7 * k))
 have : (bs.drop (i + k))[0]? = some c := by rw [List.getElem?_drop]; simpa using hc
 rw [hr, he] at this
 simp at this
 subst this
 exact ⟨fun h => (h1 h).1, fun h => (h2 h).1⟩
theorem So.next {bs : List Int} {i k acc a' : Nat} {c : Nat} (h : So bs i k acc) (hc : bs[i + k]? = some (c : Int)) (Fb : 128 ≤ c) (ha' : acc < 2 ^ (7 * k) → a' = acc + (c % 128) * 2 ^ (7 * k)) : So bs i (k + 1) a' := fun w hw => by
 obtain ⟨h1, ⟨rest, hr⟩, h3, h4⟩ := h w hw
 obtain ⟨g1, g2⟩ := h.byte hw hc
 have hp : 0 < 2 ^ (7 * k) := Nat.two_pow_pos _
 have FW : 128 ≤ w / 2 ^ (7 * k) := by
   rcases Nat.lt_or_ge (w / 2 ^ (7 * k)) 128 with Ag | yJ
   · have := g2 Ag; omega
   · exact yJ
 have hcv : c = w / 2 ^ (7 * k) % 128 + 128 := by have := g1 FW; omega
 have e1 : 2 ^ (7 * (k + 1)) = 2 ^ (7 * k) * 128 := by rw [Nat.mul_succ, Nat.pow_add]
 have e2 : w / 2 ^ (7 * (k + 1)) = w / 2 ^ (7 * k) / 128 := by rw [e1, Nat.div_div_eq_div_mul]
 rw [e2]
 rw [G1 FW] at hr h4
 refine ⟨?_, ⟨rest, ?_⟩, fun _ => by omega, by simp at h4; omega⟩
 · rw [ha' (by rw [h1]; exact Nat.mod_lt _ hp), e1, Nat.mod_mul, ← h1, show c % 128 = w / 2 ^ (7 * k) % 128 by omega, Nat.mul_comm (2 ^ (7 * k))]
 · rw [show i + (k + 1) = (i + k) + 1 by omega, ← List.drop_drop, hr]; rfl
theorem kk : ∀ (v w : Nat) (r s : List Int), uv v ++ r = uv w ++ s → v = w ∧ r = s := by
 intro v
 induction v using Nat.strongRecOn with
 | _ v ih =>
 intro w r s h
 by_cases hv : 128 ≤ v <;> by_cases hw : 128 ≤ w
 · rw [G1 hv, G1 hw] at h
   simp only [List.cons_append, List.cons.injEq] at h
   have := ih (v / 128) (by omega) (w / 128) r s h.2
   exact ⟨by omega, this.2⟩
 · rw [G1 hv, Cb hw] at h
   simp only [List.cons_append, List.cons.injEq] at h
   omega
 · rw [Cb hv, G1 hw] at h
   simp only [List.cons_append, List.cons.injEq] at h
   omega
 · rw [Cb hv, Cb hw] at h
   simp only [List.cons_append, List.nil_append, List.cons.injEq] at h
   exact ⟨by omega, h.2⟩
def kl (bs : List Int) (i k acc : Nat) : Prop := ∀ hi : Nat, (0 < hi ∨ k = 0) → uv (acc + hi * 2 ^ (7 * k)) = (bs.drop i).take k ++ uv hi
theorem kl.zero {bs : List Int} {i : Nat} : kl bs i 0 0 := fun hi _ => by simp
theorem TQ {bs : List Int} {i k : Nat} {c : Int} (hc : bs[i + k]? = some c) : (bs.drop i).take (k + 1) = (bs.drop i).take k ++ [c] := AQ (by rw [List.getElem?_drop]; exact hc)
theorem kl.next {bs : List Int} {i k acc c : Nat} (h : kl bs i k acc) (hc : bs[i + k]? = some (c : Int)) (Fb : 128 ≤ c) (ARG : c < 256) : kl bs i (k + 1) (acc + c % 128 * 2 ^ (7 * k)) := fun hi hh => by
 have JY : 0 < hi := hh.resolve_right (by omega)
 have h1 := h (c % 128 + hi * 128) (.inl (by omega))
 have e1 : acc + c % 128 * 2 ^ (7 * k) + hi * 2 ^ (7 * (k + 1)) = acc + (c % 128 + hi * 128) * 2 ^ (7 * k) := by
   rw [show 2 ^ (7 * (k + 1)) = 128 * 2 ^ (7 * k) by rw [Nat.mul_succ, Nat.pow_add, Nat.mul_comm], Nat.add_mul, Nat.mul_assoc, Nat.add_assoc]
 rw [e1, h1, G1 (by omega), TQ hc]
 have e2 : (c % 128 + hi * 128) % 128 + 128 = c := by omega
 have e3 : (c % 128 + hi * 128) / 128 = hi := by omega
 rw [e2, e3]; simp
theorem kl.last {bs : List Int} {i k acc c : Nat} (h : kl bs i k acc) (hc : bs[i + k]? = some (c : Int)) (Ag : c < 128) (JY : 0 < c ∨ k = 0) : uv (acc + c * 2 ^ (7 * k)) = (bs.drop i).take (k + 1) := by
 rw [h c JY, Cb (by omega), TQ hc]
structure La (bs : List Int) (i : Nat) (Φ : Int → Int → Int → Prop) : Prop where
 err : (∀ w, ¬ I6 bs i w) → ∀ code : Int, code ≠ 0 → Φ 0 0 code
 ok : ∀ v : Nat, I6 bs i v → Φ v ((i + (uv v).length : Nat)) 0
theorem La.no9 {bs : List Int} {i acc : Nat} {c : Int} (h : So bs i 9 acc) (hc : bs[i + 9]? = some c) (h1 : 1 < c) : ∀ w, ¬ I6 bs i w := fun w hw => by
 obtain ⟨g1, g2⟩ := h.byte hw hc
 have : w / 2 ^ (7 * 9) < 2 := by have := hw.1; omega
 have := g2 (by omega)
 omega
theorem La.no0 {bs : List Int} {i k acc : Nat} {c : Int} (h : So bs i k acc) (hk : 0 < k) (hc : bs[i + k]? = some c) (h0 : c = 0) : ∀ w, ¬ I6 bs i w := fun w hw => by
 obtain ⟨g1, g2⟩ := h.byte hw hc
 have := (h w hw).2.2.1 hk
 rcases Nat.lt_or_ge (w / 2 ^ (7 * k)) 128 with Ag | yJ
 · have := g2 Ag; omega
 · have := g1 yJ; omega
theorem La.AEG {bs : List Int} {i k acc : Nat} (h : So bs i k acc) (he : bs.length ≤ i + k) : ∀ w, ¬ I6 bs i w := fun w hw => by
 obtain ⟨_, ⟨rest, hr⟩, _, _⟩ := h w hw
 rw [List.drop_eq_nil_of_le he] at hr
 have := Qj (w / 2 ^ (7 * k))
 have := congrArg List.length hr
 simp at this; omega
theorem fO {bs : List Int} {n i k acc c : Nat} (hk : k ≤ 9) (AEH : c < 256) (h9 : k = 9 → c ≤ 1) (O9 : acc < 2 ^ (7 * k)) :
   IntKind.u64.wrap (IntKind.u64.wrap (Go.bits .and .u8 (c : Int) 127) * 2 ^ Int.toNat (7 * (k : Int))) = ((c % 128 * 2 ^ (7 * k) : Nat) : Int) ∧ c % 128 * 2 ^ (7 * k) < 18446744073709551616 ∧ acc + c % 128 * 2 ^ (7 * k) < 2 ^ (7 * (k + 1)) ∧ acc + c % 128 * 2 ^ (7 * k) < 18446744073709551616 := by
 have e0 : IntKind.u64.wrap (Go.bits .and .u8 (c : Int) 127) = ((c % 128 : Nat) : Int) := by
   rw [yI ⟨c, AEH⟩]; simp [IntKind.wrap, IntKind.bits, IntKind.signed]; omega
 have e1 : Int.toNat (7 * (k : Int)) = 7 * k := by omega
 have hm : c % 128 < 128 := Nat.mod_lt _ (by decide)
 have Ag : c % 128 * 2 ^ (7 * k) < 18446744073709551616 := by
   by_cases h : k = 9
   · subst h
     have := h9 rfl
     have : c % 128 ≤ 1 := by omega
     exact Nat.lt_of_le_of_lt (Nat.mul_le_mul_right (2 ^ (7 * 9)) this) (by decide)
   · have hp : 2 ^ (7 * k) ≤ 2 ^ 56 := Nat.pow_le_pow_right (by decide) (by omega)
     exact Nat.lt_of_le_of_lt (Nat.mul_le_mul (show c % 128 ≤ 127 by omega) hp) (by decide)
 refine ⟨?_, Ag, ?_, ?_⟩
 · rw [e0, e1, show (((c % 128 : Nat) : Int) * 2 ^ (7 * k)) = ((c % 128 * 2 ^ (7 * k) : Nat) : Int) by rw [Int.natCast_mul, Int.natCast_pow]; rfl]
   generalize c % 128 * 2 ^ (7 * k) = y at Ag
   simp [IntKind.wrap, IntKind.bits, IntKind.signed]; omega
 · rw [show 2 ^ (7 * (k + 1)) = 2 ^ (7 * k) * 128 by rw [Nat.mul_succ, Nat.pow_add]]
   have : c % 128 * 2 ^ (7 * k) ≤ 127 * 2 ^ (7 * k) := Nat.mul_le_mul_right _ (by omega)
   omega
 · by_cases h : k = 9
   · subst h
     have := h9 rfl
     have h1 : c % 128 ≤ 1 := by omega
     have h2 : c % 128 * 2 ^ (7 * 9) ≤ 1 * 2 ^ (7 * 9) := Nat.mul_le_mul_right _ h1
     have h3 : acc < 9223372036854775808 := O9
     have h4 : 1 * 2 ^ (7 * 9) = 9223372036854775808 := by decide
     omega
   · have hp : 2 ^ (7 * k) ≤ 2 ^ 56 := Nat.pow_le_pow_right (by decide) (by omega)
     have h2 : c % 128 * 2 ^ (7 * k) ≤ 127 * 2 ^ 56 := Nat.mul_le_mul (by omega) hp
     have h3 : (2 : Nat) ^ 56 = 72057594037927936 := by decide
     omega
theorem Kh {R : Rr} {σ : Hp} {p : Option Addr} {n c0 i : Nat} {bs : List Int} (hr : By .u8 σ p n bs) (h8 : E7 bs) (hi : i ≤ n)
   (h : La bs i fun v t code => R (.returned (.tuple #[.int .u64 v, .int .i64 t, .int .i64 code])) σ) : Spec prog 177 #[.slice p n c0, .int .i64 i] σ R := by
 have e7 : bs.length = n := hr.1
 have FW := hr.big
 refine EV.start ⟨fun h0 => by omega, fun _ => ⟨fun h0 => by omega, fun _ => ?_⟩⟩
 suffices H : ∀ d k acc : Nat, 9 - k = d → k ≤ 9 → i + k ≤ n → acc < 2 ^ (7 * k) → So bs i k acc → kl bs i k acc → EV.Kv R p n c0 i acc k σ from H 9 0 0 rfl (by omega) (by omega) (by decide) So.zero kl.zero
 intro d
 have body : ∀ k acc : Nat, (∀ a', k < 9 → i + (k + 1) ≤ n → a' < 2 ^ (7 * (k + 1)) → So bs i (k + 1) a' → kl bs i (k + 1) a' → EV.Kv R p n c0 i a' (k + 1 : Nat) σ) → k ≤ 9 → i + k ≤ n → acc < 2 ^ (7 * k) → So bs i k acc → kl bs i k acc → EV.Kv R p n c0 i acc k σ := by
   intro k acc rec hk CV O9 uD fP
   have ARJ : 2 ^ (7 * k) ≤ 2 ^ 63 := Nat.pow_le_pow_right (by decide) (by omega)
   refine EV.Pa ⟨by unfold AN; omega, fun Ag => ?_, fun Fb => h.err (La.AEG uD (by omega)) 20 (by decide)⟩
   obtain ⟨x, hx⟩ := hr.ex (k := i + k) (by omega)
   obtain ⟨b, o, rfl, hl⟩ := hr.at hx
   have Rp := h8 x (List.mem_of_getElem? hx)
   obtain ⟨c, rfl⟩ : ∃ c : Nat, x = c := ⟨x.toNat, by omega⟩
   have e0 : Int.toNat ((i : Int) + (k : Int)) = i + k := by omega
   have core : (k = 9 → c ≤ 1) → ((0 : Int) < (k : Int) → ¬ ((c : Int) = 0)) → ∀ JF : Int, JF = Go.bits .and .u8 (c : Int) 127 → ∀ Wf : Int, Wf = IntKind.u64.wrap JF → AN (7 * (k : Int)) ∧ ((0 : Int) ≤ (7 * (k : Int)) ∧ (7 * (k : Int)) ≤ ((IntKind.bits .u64 : Nat) : Int)) ∧ ∀ TK : Int, TK = IntKind.u64.wrap (Wf * 2 ^ Int.toNat (7 * (k : Int))) → ∀ O4 : Int, O4 = Go.bits .or .u64 (acc : Int) TK → (((c : Int) : Int) < 128 → AN ((i : Int) + (k : Int)) ∧ AN (((i : Int) + (k : Int)) + 1) ∧ R (.returned (.tuple #[(.int .u64 O4), (.int .i64 (((i : Int) + (k : Int)) + 1)), (.int .i64 0)])) σ) ∧ (¬ (((c : Int) : Int) < 128) → AN ((k : Int) + 1) ∧ EV.Kv R (some ⟨b, o, none⟩) n c0 i O4 ((k : Int) + 1) σ) := by
     intro h9 hnz JF yK Wf AKL
     refine ⟨by unfold AN; omega, ⟨by omega, by simp [IntKind.bits]; omega⟩, fun TK AEI O4 AEJ => ?_⟩
     obtain ⟨f1, f2, f3, f4⟩ := fO (bs := bs) (n := n) (i := i) hk (by omega) h9 O9
     rw [AKL, yK, f1] at AEI
     subst AEI
     rw [kj O9 hk f2] at AEJ
     subst AEJ
     refine ⟨fun hc => ⟨by unfold AN; omega, by unfold AN; omega, ?_⟩, fun hc => ⟨by unfold AN; omega, ?_⟩⟩
     · have hc' : c < 128 := by omega
       have e5 : c % 128 = c := Nat.mod_eq_of_lt hc'
       have hz : 0 < c ∨ k = 0 := by
         rcases Nat.eq_zero_or_pos k with h1 | h1
         · exact .inr h1
         · exact .inl (Nat.pos_of_ne_zero fun h2 => hnz (by omega) (by omega))
       have hu := fP.last hx hc' hz
       have hlk : ((bs.drop i).take (k + 1)).length = k + 1 := by rw [List.length_take, List.length_drop]; omega
       have := h.ok (acc + c * 2 ^ (7 * k)) ⟨by rw [← e5]; omega, (bs.drop i).drop (k + 1), by rw [hu, List.take_append_drop]⟩
       rw [hu, hlk] at this
       have e4 : (((i + (k + 1) : Nat)) : Int) = (i : Int) + k + 1 := by omega
       rw [e4] at this
       rw [e5]; exact this
     · exact rec _ (by rcases Nat.lt_or_ge k 9 with h1 | h1; · exact h1
                       · have := h9 (by omega); omega) (by omega) f3 (uD.next hx (by omega) fun _ => rfl) (fP.next hx (by omega) (by omega))
   have rest : (k = 9 → c ≤ 1) → ((0 : Int) < (k : Int) → (((c : Int)) = 0 → R (.returned (.tuple #[(.int .u64 0), (.int .i64 0), (.int .i64 21)])) σ) ∧ (¬ (((c : Int)) = 0) → _)) ∧ (¬ ((0 : Int) < (k : Int)) → _) := fun h9 =>
     ⟨fun hk0 => ⟨fun hc0 => h.err (La.no0 uD (by omega) hx hc0) 21 (by decide), fun hc0 => core h9 fun _ => hc0⟩, fun hk0 => core h9 fun hk1 => absurd hk1 hk0⟩
   refine ⟨by unfold AN; omega, b, o, rfl, by omega, c, by rw [e0]; simpa using hl, fun hk9 => ⟨fun fQ => ?_, fun fQ => rest fun _ => by omega⟩, fun hk9 => rest fun h => by omega⟩
   have : k = 9 := by omega
   subst this
   exact h.err (La.no9 uD hx fQ) 21 (by decide)
 induction d with
 | zero =>
   intro k acc hd hk CV O9 uD fP
   exact body k acc (fun a' h1 => by omega) hk CV O9 uD fP
 | succ d ih =>
   intro k acc hd hk CV O9 uD fP
   exact body k acc (fun a' h1 h2 h3 h4 h5 => ih (k + 1) a' (by omega) (by omega) h2 h3 h4 h5) hk CV O9 uD fP
end TwW
end
section
namespace TwW
open Go Tw Go.Proofs.Tryz
def E1 (x : Int) : Int := if Go.bits .and .u32 x 1 = 0 then x / 2 else Go.bits .xor .u32 (x / 2) 3988292384
def IT (i : Nat) : Int := E1 (E1 (E1 (E1 i)))
def uE (c : Int) (t : Int) : Int := Go.bits .xor .u32 (c / 16) t
def qY (c : Int) : Nat := (Go.bits .and .u32 c 15).toNat
def uF (c x : Int) : Int := let a := Go.bits .xor .u32 c (IntKind.u32.wrap x); let b := uE a (IT (qY a)); uE b (IT (qY b))
def XT (xs : List Int) : Int := Go.bits .xor .u32 4294967295 (xs.foldl uF 4294967295)
theorem km (op : BinOp) (a b : Int) : 0 ≤ Go.bits op .u32 a b ∧ Go.bits op .u32 a b < 4294967296 := by
 have h := bits_within op .u32 a b
 have e1 : IntKind.min .u32 = 0 := rfl
 have e2 : IntKind.max .u32 = 4294967295 := rfl
 rw [e1, e2] at h; omega
theorem TR (xs : List Int) : 0 ≤ XT xs ∧ XT xs < 4294967296 := km _ _ _
theorem aB (c : Int) : (0 : Int) ≤ Go.bits .and .u32 c 15 ∧ Go.bits .and .u32 c 15 < 16 := by
 refine ⟨(km _ _ _).1, ?_⟩
 have h2 : (BitVec.ofInt 32 15).toNat = 15 := rfl
 have : Go.bits .and .u32 c 15 = IntKind.u32.wrap (((BitVec.ofInt 32 c) &&& (BitVec.ofInt 32 15)).toNat : Int) := rfl
 rw [this, BitVec.toNat_and, h2]
 have hle : (BitVec.ofInt 32 c).toNat &&& 15 ≤ 15 := Nat.and_le_right
 generalize (BitVec.ofInt 32 c).toNat &&& 15 = y at hle
 simp [IntKind.wrap, IntKind.bits, IntKind.signed]; omega
theorem cz (c : Int) : qY c < 16 := by have := aB c; unfold qY; omega
def Mm : List Value := (List.range 16).map fun j => .int .u32 (IT j)
section
variable {σ : Hp} {R : Rr}
theorem yL : ∀ w, (Go.sizeOf 70).run prog w = .ok 1 w := fun w => by
 have h : prog.info? 70 = some t70 := by kernel_rfl
 simp [Go.sizeOf, typeInfo, h, show t70.size = 1 from rfl]
theorem qZ : ∀ w, (Go.sizeOf 338).run prog w = .ok 16 w := fun w => by
 have h : prog.info? 338 = some t338 := by kernel_rfl
 simp [Go.sizeOf, typeInfo, h, show t338.size = 16 from rfl]
theorem XU : ∀ (n : Nat) (x : Int), Nat.repeat E1 n (E1 x) = Nat.repeat E1 (n + 1) x
 | 0, _ => rfl
 | n + 1, x => by
   show E1 (Nat.repeat E1 n (E1 x)) = E1 (Nat.repeat E1 (n + 1) x)
   rw [XU n x]
theorem XV {b1 : Nat} {i : Nat} {x5 : Int} : ∀ (n : Nat) (x3 : Int) (j : Int), j = 4 - (n : Int) → n ≤ 4 → (∀ y, y = (Nat.repeat E1 n x3) → Bl.R7 R 0 0 0 0 0 0 0 0 0 0 0 0 0 0 0 0 b1 i y 4 x5 σ) → Bl.R7 R 0 0 0 0 0 0 0 0 0 0 0 0 0 0 0 0 b1 i x3 j x5 σ
 | 0, x3, j, hj, _, h => by
   have : j = 4 := by simpa using hj
   subst this; exact h x3 rfl
 | n + 1, x3, j, hj, hn, h => by
   have step : Bl.No R 0 0 0 0 0 0 0 0 0 0 0 0 0 0 0 0 b1 i (E1 x3) j x5 σ := by
     refine Bl.I1 ⟨by unfold AN; omega, XV n (E1 x3) (j + 1) (by omega) (by omega) fun y hy => h y ?_⟩
     rw [hy, XU]
   refine Bl.Md ⟨fun _ MQ fM => ⟨fun h0 => ⟨by simp [IntKind.bits], fun Fe AKM => ?_⟩, fun h0 => ⟨by simp [IntKind.bits], fun Ja Ux H9 Uw => ?_⟩⟩, fun hh => by omega⟩
   · have : Fe = E1 x3 := by rw [E1, if_pos (by rw [← fM]; exact h0), AKM]; rfl
     rw [this]; exact step
   · have : H9 = E1 x3 := by rw [E1, if_neg (by rw [← fM]; exact h0), Uw, Ux]; rfl
     rw [this]; exact step
theorem AKN {A : Array Value} {i j : Nat} {v : Value} (hi : i < A.size) : (DU A i [v])[j]? = if j = i then some v else A[j]? := by
 simp only [DU]
 by_cases h : j = i
 · subst h; simp [hi]
 · simp [h, Ne.symm h]
theorem aC (h : ∀ σ', Ext σ σ' → R (.returned (.agg Mm.toArray)) σ') : Spec prog 289 #[] σ R := by
 refine Bl.start fun _ b1 PA => ?_
 suffices H : ∀ (d i : Nat) (A : Array Value), 16 - i = d → i ≤ 16 → A.size = 16 → (∀ j, j < i → A[j]? = some (.int .u32 (IT j))) → Bl.A5 R 0 0 0 0 0 0 0 0 0 0 0 0 0 0 0 0 b1 i (σ.set b1 (.cells A 338 (0, 0))) from
   H 16 0 _ rfl (by omega) rfl (fun j hj => by omega)
 intro d
 induction d with
 | zero =>
   intro i A hd hi hA hj
   have : i = 16 := by omega
   subst this
   refine Bl.AW ⟨fun hh => by omega, fun _ => ⟨IT 0, IT 1, IT 2, IT 3, IT 4, IT 5, IT 6, IT 7, IT 8, IT 9, IT 10, IT 11, IT 12, IT 13, IT 14, IT 15, Dz.of fun j v hv => ?_, h _ (.set PA)⟩⟩
   have oD : Mm[j]? = some v := hv
   have Ag : j < 16 := by
     have := (List.getElem?_eq_some_iff.1 oD).1
     simpa [Mm] using this
   have : Mm[j]? = some (.int .u32 (IT j)) := by simp [Mm, Ag]
   rw [this] at oD
   cases oD
   rw [Nat.zero_add]
   exact AD (Hp.AA _ _ _) (hj j Ag)
 | succ d ih =>
   intro i A hd hi hA hj
   refine Bl.AW ⟨fun _ x9 yM => ?_, fun hh => by omega⟩
   have h9 : x9 = (i : Int) := by rw [yM]; simp [IntKind.wrap, IntKind.bits, IntKind.signed]; omega
   subst h9
   refine XV 4 (i : Int) 0 rfl (Nat.le_refl _) fun y hy => ?_
   refine Bl.Md ⟨fun hh => by omega, fun _ => ⟨by omega, ?_⟩⟩
   refine AJ.store (v := .int .u32 y) yL (Hp.AA _ _ _) rfl (by omega) (by simp [Value.cells, Value.oneCell']) ⟨by unfold AN; omega, ?_⟩
   rw [Hp.set_set]
   have e0 : 0 + Int.toNat (i : Int) * 1 = i := by omega
   rw [e0]
   have e1 : (Value.int .u32 y).cells.toList = [.int .u32 y] := rfl
   rw [e1]
   refine ih (i + 1) _ (by omega) (by omega) (by rw [De]; exact hA) fun j T7 => ?_
   rw [AKN (by omega)]
   by_cases YZ : j = i
   · subst YZ; rw [if_pos rfl, hy]; rfl
   · rw [if_neg YZ]; exact hj j (by omega)
theorem XW {p : Option Addr} {n c : Nat} {xs : List Int} (hr : By .u8 σ p n xs) (h : ∀ σ', Ext σ σ' → R (.returned (.int .u32 (XT xs))) σ') : Spec prog 219 #[.slice p n c] σ R := by
 refine IB.start (aC fun σ1 hx => ⟨IT 0, IT 1, IT 2, IT 3, IT 4, IT 5, IT 6, IT 7, IT 8, IT 9, IT 10, IT 11, IT 12, IT 13, IT 14, IT 15, rfl, fun b3 Ur => ?_⟩)
 refine AJ.store (v := .agg Mm.toArray) (c := (List.replicate 16 (Value.int .u32 0)).toArray) qZ (Hp.AA _ _ _) (by simp [Value.cells, Mm]) (by simp) (by simp [Value.cells, Mm, Value.oneCell']) ?_
 rw [Hp.set_set]
 have hw : DU (List.replicate 16 (Value.int .u32 0)).toArray 0 (Value.agg Mm.toArray).cells.toList = Mm.toArray := by kernel_rfl
 rw [hw]
 have Ay : Ext σ (σ1.set b3 (.cells Mm.toArray 338 (0, 0))) := hx.trans (.set Ur)
 have UB := hr.mono Ay
 have ht : ∀ k : Nat, k < 16 → (σ1.set b3 (.cells Mm.toArray 338 (0, 0))).ld ⟨b3, k, none⟩ = some (.int .u32 (IT k)) := fun k hk => AD (Hp.AA _ _ _) (by simp [Mm, hk])
 generalize (σ1.set b3 (.cells Mm.toArray 338 (0, 0))) = τ at Ay UB ht
 suffices H : ∀ (d k : Nat) (acc : Int), n - k = d → k ≤ n → acc = (xs.take k).foldl uF 4294967295 → IB.Gk R b3 acc p n c n k τ from H n 0 _ rfl (by omega) rfl
 intro d
 induction d with
 | zero =>
   intro k acc hd hk ha
   refine IB.Fc ⟨fun hh => by omega, fun _ => ⟨XT xs, fun w _ => ?_, h τ Ay⟩⟩
   rw [List.take_of_length_le (by rw [hr.1]; omega)] at ha
   subst ha
   simp [Op.unary, intBits_xor, XT, IntKind.signed, IntKind.max, IntKind.bits]
 | succ d ih =>
   intro k acc hd hk ha
   refine IB.Fc ⟨fun _ => ?_, fun hh => by omega⟩
   obtain ⟨y, hy⟩ := UB.ex (k := k) (by omega)
   obtain ⟨b, o, rfl, hl⟩ := UB.at hy
   refine ⟨b, o, rfl, by omega, y, by simpa using hl, fun Nc fN Ix h17 => ⟨by simp [IntKind.bits], fun OD h19 H9 h21 => ?_⟩⟩
   subst fN h17 h19 h21
   refine ⟨aB _, IT (qY (Go.bits .xor .u32 acc (IntKind.u32.wrap y))), ?_, fun Ks h24 => ⟨by simp [IntKind.bits], fun HA h26 Gm h28 => ?_⟩⟩
   · rw [Nat.zero_add, Nat.mul_one]; exact ht (qY _) (cz _)
   subst h24 h26 h28
   refine ⟨aB _, IT (qY (Go.bits .xor .u32 (Go.bits .xor .u32 acc (IntKind.u32.wrap y) / 2 ^ Int.toNat 4) (IT (qY (Go.bits .xor .u32 acc (IntKind.u32.wrap y)))))), ?_, fun HP h31 => ⟨Af (by omega) hr.big, ?_⟩⟩
   · rw [Nat.zero_add, Nat.mul_one]; exact ht (qY _) (cz _)
   subst h31
   refine ih (k + 1) _ (by omega) (by omega) ?_
   rw [AQ hy, List.foldl_append, ← ha]
   rfl
def Yv (x : Int) : List Int := [x / 16777216 % 256, x / 65536 % 256, x / 256 % 256, x % 256]
def frame (r : List Int) : List Int := uv r.length ++ Yv (XT r) ++ r
theorem Ef (r : List Int) : (frame r).length = (uv r.length).length + 4 + r.length := by simp [frame, Yv]; omega
theorem Oa {r : List Int} (h : r.length ≤ 65536) : (frame r).length ≤ r.length + 7 := by
 have := Z9 2 r.length (by omega)
 rw [Ef]; omega
theorem Qk {p : Option Addr} {n c : Nat} {xs : List Int} (hr : By .u8 σ p n xs) (h0 : 65536 < n → R (.returned (.tuple #[.slice none 0 0, .int .i64 23])) σ)
   (h1 : n ≤ 65536 → ∀ p' n' c' σ', AS .u8 (σ.new σ') p' n' c' (frame xs) → Ext σ σ' → R (.returned (.tuple #[.slice p' n' c', .int .i64 0])) σ') : Spec prog 128 #[.slice p n c] σ R := by
 have hn : xs.length = n := hr.1
 refine OL.start ⟨fun h => h0 (by omega), fun hle => XW hr fun σ1 BJ => ⟨_, rfl, fun E8 h13 => ?_⟩⟩
 have e13 : E8 = (n : Int) := by rw [h13]; simp [IntKind.wrap, IntKind.bits, IntKind.signed]; omega
 subst e13
 have aE : By .u8 σ1 none 0 [] := Fj.nil
 refine DG aE (by omega) (by omega) fun p' n' c' σ2 ho Ay => ⟨p', n', c', rfl, by simp [IntKind.bits], fun Nc fN Ix h17 => ⟨by simp [IntKind.bits], fun OD h19 Ja iL => ⟨by simp [IntKind.bits], fun oy h22 QL h23 NA h25 PZ Uv => ?_⟩⟩⟩
 rw [List.nil_append] at ho
 have hcr := TR xs
 have ec : [Value.int .u8 Ix, .int .u8 Ja, .int .u8 QL, .int .u8 NA] = (Yv (XT xs)).map (.int .u8) := by
   subst fN h17 h19 iL h22 h23 h25
   simp [Yv, IntKind.wrap, IntKind.bits, IntKind.signed]
 have hnl : n' ≤ 10 := by have := ho.1; have h2 := BV (x := n) (by omega); simp at this; omega
 have aA := BJ.trans Ay
 have Bs : Own 1 (σ.new σ2) p' n' c' ((uv n).map (.int .u8)) := ho.mono (Ext.CR BJ)
 refine Im (T := 84) aA Bs (m := 4) rfl (fun u hu => by simp at hu; rcases hu with rfl | rfl | rfl | rfl <;> rfl) (by omega) (fun p3 c3 σ3 Dd DJ _ => ⟨p3, _, c3, rfl, ?_⟩) Uv
 refine Dq (T := 84) DJ Dd (GM.of_map (hr.mono DJ)) CN.Cn (by omega) fun p4 c4 σ4 Pc Lc _ => ⟨p4, _, c4, rfl, h1 (by omega) p4 _ c4 σ4 ?_ Lc⟩
 rw [ec] at Pc
 unfold AS frame
 rw [List.map_append, List.map_append, hn]
 exact Pc
end
end TwW
end
section
namespace TwW
open Go Tw Go.Proofs.Tryz
theorem By.sub {k : IntKind} {σ : Hp} {p : Option Addr} {n c i m : Nat} {xs : List Int} (h : By k σ p n xs) (him : i + m ≤ n) (hc : n ≤ c) : By k σ (Dp p i c 1) m ((xs.drop i).take m) := by
 have hl : xs.length = n := h.1
 obtain ⟨_, cs, ⟨h2, h3, h4⟩, h5⟩ := h
 rw [Y8.1 h5] at h4
 refine By.Jt ⟨by simp; omega, by omega, ?_⟩
 rcases Nat.eq_zero_or_pos m with hm | hm
 · exact .inl hm
 · rcases h4 with h4 | ⟨b, o, rfl, h4⟩
   · omega
   · refine .inr ⟨b, o + i, ?_, ?_⟩
     · unfold Dp
       rw [if_neg (by omega)]
       simp [DB]
     · rw [List.map_take, List.map_drop]
       exact h4.part
theorem PC (a b : Nat) (ha : a < 4294967296) (hb : b < 4294967296) : Go.bits .or .u32 (a : Int) (b : Int) = ((a ||| b : Nat) : Int) := by
 have hx : a ||| b < 2 ^ 32 := Nat.or_lt_two_pow (by omega) (by omega)
 have h1 : (BitVec.ofInt 32 (a : Int)).toNat = a := by
   rw [BitVec.ofInt_natCast, BitVec.toNat_ofNat]; exact Nat.mod_eq_of_lt (by omega)
 have h2 : (BitVec.ofInt 32 (b : Int)).toNat = b := by
   rw [BitVec.ofInt_natCast, BitVec.toNat_ofNat]; exact Nat.mod_eq_of_lt (by omega)
 show IntKind.u32.wrap ((BitVec.ofInt 32 (a : Int) ||| BitVec.ofInt 32 (b : Int)).toNat : Int) = _
 rw [BitVec.toNat_or, h1, h2]
 generalize a ||| b = y at hx
 simp [IntKind.wrap, IntKind.bits, IntKind.signed]; omega
theorem qa {a c : Nat} (ha : a < 16777216) (hc : c < 256) : Go.bits .or .u32 (IntKind.u32.wrap ((a : Int) * 2 ^ Int.toNat 8)) (IntKind.u32.wrap (c : Int)) = ((a * 256 + c : Nat) : Int) := by
 have e1 : IntKind.u32.wrap ((a : Int) * 2 ^ Int.toNat 8) = ((a * 256 : Nat) : Int) := by
   simp [IntKind.wrap, IntKind.bits, IntKind.signed]; omega
 have e2 : IntKind.u32.wrap (c : Int) = (c : Int) := by simp [IntKind.wrap, IntKind.bits, IntKind.signed]; omega
 rw [e1, e2, PC _ _ (by omega) (by omega), show a * 256 = 2 ^ 8 * a by omega, ← Nat.two_pow_add_eq_or_of_lt (show c < 2 ^ 8 from hc)]
def kn (l : List Int) : Int := l.foldl (fun a c => a * 256 + c) 0
theorem qb {x : Int} (h : 0 ≤ x ∧ x < 4294967296) : kn (Yv x) = x := by simp [kn, Yv]; omega
theorem qc {l : List Int} (h : l.length = 4) (h8 : E7 l) : Yv (kn l) = l := by
 match l, h with
 | [a, b, c, d], _ =>
   have ha := h8 a (by simp)
   have hb := h8 b (by simp)
   have hc := h8 c (by simp)
   have hd := h8 d (by simp)
   simp [kn, Yv]; omega
theorem I6.uniq {bs : List Int} {i v w : Nat} (h : I6 bs i v) (g : I6 bs i w) : v = w := by
 obtain ⟨_, r, hr⟩ := h
 obtain ⟨_, s, hs⟩ := g
 exact (kk v w r s (hr.symm.trans hs)).1
def IU (bs : List Int) (i : Nat) (r : List Int) : Prop := r.length ≤ 65536 ∧ ∃ rest, bs.drop i = frame r ++ rest
theorem IU.uv {bs : List Int} {i : Nat} {r : List Int} (h : IU bs i r) : I6 bs i r.length := by
 obtain ⟨h1, rest, h2⟩ := h
 exact ⟨by omega, _, by rw [h2, frame, List.append_assoc, List.append_assoc]⟩
theorem IU.parts {bs : List Int} {i : Nat} {r : List Int} (h : IU bs i r) : ((bs.drop (i + (TwW.uv r.length).length)).take 4 = Yv (XT r)) ∧ (bs.drop (i + (TwW.uv r.length).length + 4)).take r.length = r ∧ i + (TwW.uv r.length).length + 4 + r.length ≤ bs.length ∨ bs.length ≤ i := by
 obtain ⟨h1, rest, h2⟩ := h
 rcases Nat.lt_or_ge i bs.length with hi | hi
 · left
   have e1 : bs.drop (i + (TwW.uv r.length).length) = Yv (XT r) ++ (r ++ rest) := by
     rw [← List.drop_drop, h2, frame, List.append_assoc, List.append_assoc, List.drop_left]
   have e2 : bs.drop (i + (TwW.uv r.length).length + 4) = r ++ rest := by
     rw [← List.drop_drop, e1, show 4 = (Yv (XT r)).length from rfl, List.drop_left]
   refine ⟨by rw [e1, show 4 = (Yv (XT r)).length from rfl, List.take_left], by rw [e2, List.take_left], ?_⟩
   have := congrArg List.length h2
   rw [List.length_append, Ef, List.length_drop] at this
   omega
 · exact .inr hi
theorem IU.lt {bs : List Int} {i : Nat} {r : List Int} (h : IU bs i r) : i < bs.length := by
 obtain ⟨h1, rest, h2⟩ := h
 have := congrArg List.length h2
 have h3 := Ef r
 rw [List.length_append, List.length_drop] at this
 omega
theorem E7.part {bs : List Int} (h : E7 bs) (i m : Nat) : E7 ((bs.drop i).take m) := fun x hx => h x (List.mem_of_mem_drop (List.mem_of_mem_take hx))
theorem IU.of {bs : List Int} {i len : Nat} (h8 : E7 bs) (hu : I6 bs i len) (hle : len ≤ 65536) (DX : i + (TwW.uv len).length + 4 + len ≤ bs.length)
   (hs : XT ((bs.drop (i + (TwW.uv len).length + 4)).take len) = kn ((bs.drop (i + (TwW.uv len).length)).take 4)) : IU bs i ((bs.drop (i + (TwW.uv len).length + 4)).take len) := by
 have hl : ((bs.drop (i + (TwW.uv len).length + 4)).take len).length = len := by rw [List.length_take, List.length_drop]; omega
 refine ⟨by omega, (bs.drop (i + (TwW.uv len).length + 4)).drop len, ?_⟩
 obtain ⟨_, rest, hr⟩ := hu
 have e0 : rest = bs.drop (i + (TwW.uv len).length) := by rw [← List.drop_drop, hr, List.drop_left]
 have e4 : Yv (XT ((bs.drop (i + (TwW.uv len).length + 4)).take len)) = (bs.drop (i + (TwW.uv len).length)).take 4 := by
   rw [hs, qc (by rw [List.length_take, List.length_drop]; omega) (h8.part _ _)]
 rw [frame, hl, e4, hr, e0, List.append_assoc, List.append_assoc, List.take_append_drop, show bs.drop (i + (TwW.uv len).length + 4) = (bs.drop (i + (TwW.uv len).length)).drop 4 from List.drop_drop.symm, List.take_append_drop]
section
variable {σ : Hp} {R : Rr}
theorem AEN : Enters prog 343 := fun args w => call343 args w
theorem AEO : Enters prog 344 := fun args w => call344 args w
theorem XX {b i len : Nat} {p : Option Addr} {n c : Nat} {bs : List Int} (hb : σ b = none) (hr : By .u8 σ p n bs) (h8 : E7 bs) (hc : n ≤ c) (hi : i ≤ n) (hle : len ≤ 65536)
   (yN : n < i + 4 + len → ∀ σ', Ext σ σ' → R (.returned (.tuple #[.slice none 0 0, .int .i64 20])) σ')
   (KH : i + 4 + len ≤ n → XT ((bs.drop (i + 4)).take len) ≠ kn ((bs.drop i).take 4) → ∀ σ', Ext σ σ' → R (.returned (.tuple #[.slice none 0 0, .int .i64 22])) σ')
   (Ap : i + 4 + len ≤ n → XT ((bs.drop (i + 4)).take len) = kn ((bs.drop i).take 4) → ∀ p' c' σ', AS .u8 (σ.new σ') p' len c' ((bs.drop (i + 4)).take len) → Ext (σ.set b (.cells #[.slice p n c, .int .i64 (i + 4 + len : Nat)] 381 (0, 0))) σ' → R (.returned (.tuple #[.slice p' len c', .int .i64 0])) σ') :
   Spec prog 344 #[.pointer (some ⟨b, 0, none⟩), .int .i64 len] (σ.set b (.cells #[.slice p n c, .int .i64 i] 381 (0, 0))) R := by
 have e7 : bs.length = n := hr.1
 have FW := hr.big
 have hx : Ext σ (σ.set b (.cells #[.slice p n c, .int .i64 i] 381 (0, 0))) := .set hb
 have oI : ∀ {τ : Hp} {k : Int} {T : TypeId}, (τ.set b (.cells #[.slice p n c, .int .i64 k] T (0, 0))).ld ⟨b, 0, none⟩ = some (.slice p n c) := fun {τ k T} => AD (Hp.AA _ _ _) rfl
 have fR : ∀ {τ : Hp} {k : Int} {T : TypeId}, (τ.set b (.cells #[.slice p n c, .int .i64 k] T (0, 0))).ld ⟨b, 0 + 1, none⟩ = some (.int .i64 k) := fun {τ k T} => AD (Hp.AA _ _ _) rfl
 refine BW.start ⟨b, 0, rfl, p, n, c, oI, i, fR, by unfold AN; omega, by unfold AN; omega, fun h => yN (by omega) _ hx, fun h => ⟨p, n, c, oI, i, fR, i, fR, by unfold AN; omega, by omega, ?_⟩⟩
 have DX : i + 4 + len ≤ n := by omega
 have e1 : Int.toNat (i : Int) = i := by omega
 have e2 : Int.toNat ((i : Int) + 4) - i = 4 := by omega
 rw [e1, e2]
 have h4 : By .u8 (σ.set b (.cells #[.slice p n c, .int .i64 i] 381 (0, 0))) (Dp p i c 1) 4 ((bs.drop i).take 4) := By.sub (hr.mono hx) (by omega) hc
 have h48 : E7 ((bs.drop i).take 4) := h8.part _ _
 have fin : BW.GO R (some ⟨b, 0, none⟩) len (kn ((bs.drop i).take 4)) (Dp p i c 1) 4 (c - i) ((4 : Nat) : Int) ((4 : Nat) : Int) (σ.set b (.cells #[.slice p n c, .int .i64 i] 381 (0, 0))) := by
   refine BW.GP ⟨fun hh => by omega, fun _ => ⟨b, 0, rfl, p, n, c, oI, i, fR, by unfold AN; omega, i, fR, by unfold AN; omega, by unfold AN; omega, by omega, i, fR, by unfold AN; omega, by unfold AN; omega, ?_⟩⟩
   refine AJ.store (v := .int .i64 ((i : Int) + (4 + (len : Int)))) HT (Hp.AA _ _ _) rfl (by simp) (by simp [Value.cells, Value.oneCell']) ?_
   rw [Hp.set_set]
   have hw : DU #[Value.slice p n c, .int .i64 i] (0 + 1) (Value.int .i64 ((i : Int) + (4 + (len : Int)))).cells.toList = #[.slice p n c, .int .i64 ((i + 4 + len : Nat) : Int)] := by
     rw [show ((i + 4 + len : Nat) : Int) = (i : Int) + (4 + (len : Int)) by omega]; rfl
   rw [hw]
   have e3 : Int.toNat ((i : Int) + 4) = i + 4 := by omega
   have e4 : Int.toNat ((i : Int) + 4 + (len : Int)) - (i + 4) = len := by omega
   rw [e3, e4]
   have Ay : Ext σ (σ.set b (.cells #[.slice p n c, .int .i64 ((i + 4 + len : Nat) : Int)] 381 (0, 0))) := .set hb
   have ko : By .u8 (σ.set b (.cells #[.slice p n c, .int .i64 ((i + 4 + len : Nat) : Int)] 381 (0, 0))) (Dp p (i + 4) c 1) len ((bs.drop (i + 4)).take len) := By.sub (hr.mono Ay) (by omega) hc
   refine XW ko fun σ3 DJ => ⟨_, rfl, fun Ad => KH DX Ad _ (Ay.trans DJ), fun heq => ?_⟩
   intro b78 qe
   have hq : ∀ a : Addr, (some (⟨b78, 0, none⟩ : Addr)) = some a → σ3 a.block = none := fun a ha => by cases ha; exact qe
   refine ER (T := 84) Own.empty ((GM.of_map (ko.mono DJ)).mono (.set qe)) CN.Cn (by omega) fun p' c' σ' AZ EK => ⟨p', _, c', rfl, ?_⟩
   rw [Nat.zero_add] at AZ ⊢
   have ho := Own.CO AZ (Bt hq EK (.set qe))
   have he := CX hq EK (.set qe)
   exact Ap DX (Decidable.byContradiction heq) p' c' σ' (ho.mono (Ext.CR (Ay.trans DJ))) (DJ.trans he)
 have step : ∀ (d k : Nat) (acc : Nat), 4 - k = d → k ≤ 4 → acc < 256 ^ k → (acc : Int) = kn (((bs.drop i).take 4).take k) → BW.GO R (some ⟨b, 0, none⟩) len acc (Dp p i c 1) 4 (c - i) ((4 : Nat) : Int) k (σ.set b (.cells #[.slice p n c, .int .i64 i] 381 (0, 0))) := by
   intro d
   induction d with
   | zero =>
     intro k acc hd hk O9 ha
     have : k = 4 := by omega
     subst this
     rw [List.take_take, Nat.min_self] at ha
     rw [ha]; exact fin
   | succ d ih =>
     intro k acc hd hk O9 ha
     refine BW.GP ⟨fun _ => ?_, fun hh => by omega⟩
     obtain ⟨y, hy⟩ := h4.ex (k := k) (by omega)
     obtain ⟨b2, o2, hp, hl⟩ := h4.at hy
     have hy8 := h48 y (List.mem_of_getElem? hy)
     obtain ⟨cc, rfl⟩ : ∃ cc : Nat, y = cc := ⟨y.toNat, by omega⟩
     refine ⟨b2, o2, hp, by omega, cc, by simpa using hl, by simp [IntKind.bits], fun wy kr Zt h45 eR h46 => ⟨by unfold AN; omega, ?_⟩⟩
     subst kr h45 h46
     have AEP : acc < 16777216 := Nat.lt_of_lt_of_le O9 (Nat.le_trans (Nat.pow_le_pow_right (by decide) (show k ≤ 3 by omega)) (by decide))
     rw [qa AEP (by omega), show aD b2 o2 = _ from hp.symm]
     refine ih (k + 1) (acc * 256 + cc) (by omega) (by omega) (by rw [Nat.pow_succ]; omega) ?_
     rw [AQ hy, kn, List.foldl_append, ← kn, ← ha]
     simp
 exact step 4 0 0 rfl (by omega) (by decide) rfl
theorem Mn {i : Nat} {p : Option Addr} {n c : Nat} {bs : List Int} (hr : By .u8 σ p n bs) (h8 : E7 bs) (hc : n ≤ c) (hi : i ≤ n)
   (Ap : ∀ r, IU bs i r → ∀ p' c' σ', AS .u8 (σ.new σ') p' r.length c' r → Ext σ σ' → R (.returned (.tuple #[.slice p' r.length c', .int .i64 (i + (frame r).length : Nat), .int .i64 0])) σ')
   (Ql : (∀ r, ¬ IU bs i r) → ∀ σ' (code : Int), code ≠ 0 → Ext σ σ' → R (.returned (.tuple #[.slice none 0 0, .int .i64 0, .int .i64 code])) σ') :
   Spec prog 320 #[.slice p n c, .int .i64 i] σ R := by
 have e7 : bs.length = n := hr.1
 refine LU.start fun b hb => ?_
 have hx : ∀ k : Int, Ext σ (σ.set b (.cells #[.slice p n c, .int .i64 k] 381 (0, 0))) := fun k => .set hb
 refine QX.start ⟨_, _, _, rfl, AEN, ?_⟩
 simp only [Array.append_empty]
 refine GJ.start ⟨b, 0, rfl, p, n, c, AD (Hp.AA _ _ _) rfl, i, AD (Hp.AA _ _ _) rfl, Kh (hr.mono (hx i)) h8 hi ⟨fun BQ code TS => ⟨0, 0, code, rfl, ?_⟩, fun v hv => ⟨v, _, 0, rfl, ?_⟩⟩⟩
 · refine AJ.store (v := .int .i64 0) HT (Hp.AA _ _ _) rfl (by simp) (by simp [Value.cells, Value.oneCell']) ?_
   rw [Hp.set_set]
   refine ⟨fun _ => ⟨_, _, rfl, fun _ => ⟨_, _, _, _, rfl, fun _ => Ql (fun r hf => BQ _ hf.uv) _ code TS (hx 0), fun h => absurd TS h⟩, fun h => absurd TS h⟩, fun h => absurd TS h⟩
 · refine AJ.store (v := .int .i64 ((i + (uv v).length : Nat) : Int)) HT (Hp.AA _ _ _) rfl (by simp) (by simp [Value.cells, Value.oneCell']) ?_
   rw [Hp.set_set]
   have hw : DU #[Value.slice p n c, .int .i64 i] (0 + 1) (Value.int .i64 ((i + (uv v).length : Nat) : Int)).cells.toList = #[.slice p n c, .int .i64 ((i + (uv v).length : Nat) : Int)] := rfl
   rw [hw]
   have hto : i + (uv v).length ≤ n := by
     obtain ⟨_, rest, h2⟩ := hv
     have := congrArg List.length h2
     rw [List.length_append, List.length_drop] at this
     rw [← e7]
     rcases Nat.lt_or_ge i bs.length with h | h
     · omega
     · have := Qj v; omega
   refine ⟨fun h => absurd rfl h, fun _ => ⟨fun FW => ⟨_, _, rfl, fun _ => ⟨_, _, _, _, rfl, fun _ => Ql (fun r hf => ?_) _ 23 (by decide) (hx _), fun h => absurd (by decide) h⟩, fun h => absurd (by decide) h⟩, fun MC se h32 => ?_⟩⟩
   · have := hv.uniq hf.uv
     have := hf.1
     omega
   · have e32 : se = (v : Int) := by rw [h32]; simp [IntKind.wrap, IntKind.bits, IntKind.signed]; omega
     subst e32
     refine ⟨_, _, rfl, fun h => absurd rfl h, fun _ => ⟨_, _, _, rfl, AEO, ?_⟩⟩
     have hle : v ≤ 65536 := by omega
     have dA : ∀ r, IU bs i r → r.length = v := fun r hf => (hv.uniq hf.uv).symm
     simp only [Array.append_empty]
     refine XX hb hr h8 hc hto hle (fun hs σ' Cm => ⟨_, _, _, _, rfl, _, _, _, _, rfl, fun _ => Ql (fun r hf => ?_) σ' 20 (by decide) Cm, fun h => absurd (by decide) h⟩) (fun DX Ad σ' Cm => ⟨_, _, _, _, rfl, _, _, _, _, rfl, fun _ => Ql (fun r hf => ?_) σ' 22 (by decide) Cm, fun h => absurd (by decide) h⟩)
       fun DX heq p' c' σ' ho Cm => ⟨_, _, _, _, rfl, _, _, _, _, rfl, fun h => absurd rfl h, fun _ => ⟨_, AD (Cm _ _ (Hp.AA _ _ _)) rfl, ?_⟩⟩
     · have := dA r hf
       rcases hf.parts with ⟨_, _, h3⟩ | h3
       · rw [this] at h3; omega
       · have := hf.lt; omega
     · have := dA r hf
       rcases hf.parts with ⟨h1, h2, h3⟩ | h3
       · rw [this] at h1 h2
         rw [h2, h1, qb (TR r)] at Ad
         exact Ad rfl
       · have := hf.lt; omega
     · have hf := IU.of h8 hv hle (by omega) heq
       have cw : ((bs.drop (i + (uv v).length + 4)).take v).length = v := by rw [List.length_take, List.length_drop]; omega
       have := Ap _ hf p' c' σ' (by rw [cw]; exact ho) ((hx _).trans Cm)
       rw [Ef, cw] at this
       rw [show i + (uv v).length + 4 + v = i + ((uv v).length + 4 + v) by omega]
       exact this
end
end TwW
end
section
namespace TwW
open Go Tw Go.Proofs.Tryz
def Rq (σ : Hp) (vs : List Value) (x : List Int) : Prop := ∃ p n c, vs = [.slice p n c] ∧ n ≤ c ∧ By .u8 σ p n x
theorem Rq.mono : Oz Rq := fun _ _ _ _ h ⟨p, n, c, h1, h2, h3⟩ => ⟨p, n, c, h1, h2, h3.mono h⟩
abbrev Jd := Fj 1 Rq
abbrev IV := BA 1 Rq
theorem Jd.mono {σ σ' : Hp} (h : Ext σ σ') {p : Option Addr} {n : Nat} {xs : List (List Int)} (hr : Jd σ p n xs) : Jd σ' p n xs := Fj.mono Rq.mono h hr
theorem Jd.at {σ : Hp} {p : Option Addr} {n i : Nat} {xs : List (List Int)} {x : List Int} (hr : Jd σ p n xs) (hx : xs[i]? = some x) : ∃ b o p' n' c', p = some ⟨b, o, none⟩ ∧ σ.ld ⟨b, o + i * 1, none⟩ = some (.slice p' n' c') ∧ n' ≤ c' ∧ By .u8 σ p' n' x := by
 obtain ⟨b, o, vs, hp, ⟨p', n', c', rfl, h2, h3⟩, hl⟩ := Fj.idx hr hx
 exact ⟨b, o, p', n', c', hp, hl.1, h2, h3⟩
def AU (rs : List (List Int)) : List Int := rs.flatMap frame
theorem TT : AU [] = [] := rfl
theorem B1 (r : List Int) (rs : List (List Int)) : AU (r :: rs) = frame r ++ AU rs := by simp [AU]
theorem E2 (rs ss : List (List Int)) : AU (rs ++ ss) = AU rs ++ AU ss := by simp [AU]
def fS (t : List Int) : Prop := ∀ r, ¬ IU t 0 r
theorem EL : fS [] := fun r h => by have := h.lt; simp at this
abbrev Mo (rs : List (List Int)) : Prop := ∀ r ∈ rs, r.length ≤ 65536
theorem IU.here {bs : List Int} {i : Nat} {r rest : List Int} (h : r.length ≤ 65536) (hd : bs.drop i = frame r ++ rest) : IU bs i r := ⟨h, rest, hd⟩
theorem IU.uniq {bs : List Int} {i : Nat} {r s : List Int} (h : IU bs i r) (g : IU bs i s) : r = s := by
 have hl := h.uv.uniq g.uv
 rcases h.parts with ⟨_, h2, _⟩ | h3
 · rcases g.parts with ⟨_, g2, _⟩ | g3
   · rw [← hl] at g2; exact h2.symm.trans g2
   · have := h.lt; omega
 · have := h.lt; omega
section
variable {σ : Hp} {R : Rr}
theorem Ob {p : Option Addr} {n c : Nat} {bs t : List Int} {Bh : List (List Int)} (hr : By .u8 σ p n bs) (h8 : E7 bs) (hc : n ≤ c) (hn : n ≤ 4194304) (iM : bs = AU Bh ++ t) (hs : Mo Bh) (ht : fS t)
   (h : ∀ p' n' c' σ', IV (σ.new σ') p' n' c' Bh → Ext σ σ' → R (.returned (.tuple #[.slice p' n' c', .bool (decide (t ≠ []))])) σ') : Spec prog 302 #[.slice p n c] σ R := by
 have e7 : bs.length = n := hr.1
 refine Gw.start ?_
 have hle : ∀ rs : List (List Int), rs.length ≤ (AU rs).length := fun rs => by
   induction rs with
   | nil => simp
   | cons r rs ih => rw [B1, List.length_append, Ef]; simp; omega
 suffices H : ∀ (d : List (List Int)) (k : List (List Int)) (p' : Option Addr) (n' c' : Nat) (σ' : Hp), Bh = k ++ d → IV (σ.new σ') p' n' c' k → Ext σ σ' → Gw.CC R p n c p' n' c' ((AU k).length : Nat) σ' from
   H Bh [] none 0 0 σ rfl BA.nil (Ext.refl _)
 intro d
 induction d with
 | nil =>
   intro k p' n' c' σ' hk ho hx
   rw [List.append_nil] at hk
   subst hk
   refine Gw.BS ⟨fun he => ?_, fun Ad => ?_⟩
   · have : t = [] := by
       have h1 := congrArg List.length iM
       rw [List.length_append] at h1
       exact List.eq_nil_of_length_eq_zero (by omega)
     subst this
     simpa using h p' n' c' σ' ho hx
   · have h1 := congrArg List.length iM
     rw [List.length_append] at h1
     have htn : t ≠ [] := fun e => by subst e; simp at h1; omega
     have hdr : bs.drop (AU Bh).length = t := by rw [iM, List.drop_left]
     refine Mn (hr.mono hx) h8 hc (by omega) (fun r hf => absurd ?_ (ht r)) (fun _ σ2 code TS Ay => ⟨_, _, _, _, _, rfl, fun _ => ?_, fun hh => absurd TS hh⟩)
     · obtain ⟨g1, rest, g2⟩ := hf
       exact ⟨g1, rest, by rw [List.drop_zero, ← hdr, g2]⟩
     · have := h p' n' c' σ2 (BA.mono Rq.mono (Ext.BH Ay) ho) (hx.trans Ay)
       simpa [htn] using this
 | cons r d ih =>
   intro k p' n' c' σ' hk ho hx
   have h1 := congrArg List.length iM
   rw [hk, List.length_append, E2, List.length_append, B1, List.length_append, Ef] at h1
   have cw : r.length ≤ 65536 := hs r (by rw [hk]; simp)
   have Vf : IU bs (AU k).length r := IU.here (rest := AU d ++ t) cw (by rw [iM, hk, E2, B1, List.append_assoc, List.drop_left, List.append_assoc])
   have gw := hle k
   have Pn : k.length = n' := ho.1
   refine Gw.BS ⟨fun he => by omega, fun _ => ?_⟩
   refine Mn (hr.mono hx) h8 hc (by omega) (fun r' hf p2 c2 σ2 Bs Ay => ⟨_, _, _, _, _, rfl, fun hh => absurd rfl hh, fun _ PZ Uv => ?_⟩) (fun BQ => absurd Vf (BQ r))
   have := hf.uniq Vf
   subst this
   have DJ := hx.trans Ay
   have Dd : IV (σ.new σ2) p' n' c' k := BA.mono Rq.mono (Ext.BH Ay) ho
   have G8 : ∀ a, p' = some a → σ' a.block ≠ none := fun a ha e => ho.block a ha (by
     cases hh : (σ.new σ') a.block with
     | none => rfl
     | some o => rw [(AO.1 hh).2] at e; cases e)
   refine BA.Hy (T := 165) Rq.mono DJ Dd rfl (fun u hu => by simp at hu; subst hu; rfl) (x := r') ⟨p2, r'.length, c2, rfl, Own.cap Bs, (AS.rd Bs).mono ?_⟩ (by omega) (fun p3 c3 σ3 Pc Lc => ⟨p3, _, c3, rfl, ?_⟩) Uv
   · exact Ext.Hx hx G8
   · have := ih (k ++ [r']) p3 (n' + 1) c3 σ3 (by rw [hk]; simp) Pc Lc
     rw [E2, B1, TT, List.append_nil, List.length_append] at this
     exact this
theorem fT {p : Option Addr} {n c : Nat} {Bh : List (List Int)} (hr : Jd σ p n Bh) (hs : Mo Bh) (hb : (AU Bh).length ≤ 70368744177664)
   (h : ∀ p' n' c' σ', AS .u8 (σ.new σ') p' n' c' (AU Bh) → Ext σ σ' → R (.returned (.slice p' n' c')) σ') : Spec prog 230 #[.slice p n c] σ R := by
 refine KF.start ?_
 have hln : Bh.length = n := hr.1
 suffices H : ∀ (d k : Nat) (p' : Option Addr) (n' c' : Nat) (σ' : Hp), n - k = d → k ≤ n → AS .u8 (σ.new σ') p' n' c' (AU (Bh.take k)) → Ext σ σ' → KF.A5 R p' n' c' p n c n k σ' from H n 0 none 0 0 σ rfl (by omega) Own.nil (Ext.refl _)
 intro d
 induction d with
 | zero =>
   intro k p' n' c' σ' hd hk ho hx
   rw [List.take_of_length_le (by omega)] at ho
   exact KF.AW ⟨fun hh => by omega, fun _ => h p' n' c' σ' ho hx⟩
 | succ d ih =>
   intro k p' n' c' σ' hd hk ho hx
   refine KF.AW ⟨fun _ => ?_, fun hh => by omega⟩
   obtain ⟨x, SE⟩ := hr.ex (k := k) (by omega)
   obtain ⟨b, o, p2, n2, c2, rfl, hl, UE, HF⟩ := hr.at SE
   have Rs : x.length ≤ 65536 := hs x (List.mem_of_getElem? SE)
   have PD : x.length = n2 := HF.1
   refine ⟨b, o, rfl, by omega, p2, n2, c2, by simpa using hx.ld hl, Qk (HF.mono hx) (fun hh => by omega) fun _ p3 n3 c3 σ3 Dd DJ => ⟨p3, n3, c3, 0, rfl, ?_⟩⟩
   have e1 : AU (Bh.take (k + 1)) = AU (Bh.take k) ++ frame x := by rw [AQ SE, E2, B1, TT, List.append_nil]
   have hlen : (AU (Bh.take (k + 1))).length ≤ 70368744177664 := by
     refine Nat.le_trans ?_ hb
     have : AU Bh = AU (Bh.take (k + 1)) ++ AU (Bh.drop (k + 1)) := by rw [← E2, List.take_append_drop]
     rw [this, List.length_append]; omega
   rw [e1, List.length_append] at hlen
   have SY := ho.1
   have hl3 := Dd.1
   simp at SY hl3
   have Pc : AS .u8 (σ.new σ3) p' n' c' (AU (Bh.take k)) := ho.mono (Ext.BH DJ)
   refine Dq (T := 84) (hx.trans DJ) Pc ((GM.of_map (AS.rd Dd)).mono (Ext.Ah _ _)) CN.Cn (by omega) fun p4 c4 σ4 iN Oc _ => ⟨p4, _, c4, rfl, Af (by omega) hr.big, ?_⟩
   refine ih (k + 1) p4 _ c4 σ4 (by omega) (by omega) ?_ Oc
   rw [e1]
   unfold AS
   rw [List.map_append]
   exact iN
end
end TwW
end
section
namespace TwW
open Go Tw Go.RowKit Go.Proofs.Tryz
section
variable {P : Program} {f : FuncId} {args : Array Value} {σ : Hp} {R : Rr} {v : Value}
theorem Spec.below (h : ∀ w, Sat σ w → Calls P f args w fun e w' => e = .returned v ∧ Below w.heap.size w w') (hR : R (.returned v) σ) : Spec P f args σ R := fun w F hs hF =>
 (h w hs).mono fun e w' ⟨he, hb⟩ => ⟨σ, he ▸ hR, fun b o ho => by
   have h1 := hs b o ho
   rw [hb.block b (Array.getElem?_eq_some_iff.1 h1).1]; exact h1, fun b hFb => ⟨(hF b hFb).2, hb.block b (hF b hFb).1⟩, ⟨hb.os, hb.tape, fun h => h.elim⟩, hb.output, hb.size⟩
theorem Spec.same (h : ∀ w, Sat σ w → Calls P f args w fun e w' => e = .returned v ∧ w' = w) (hR : R (.returned v) σ) : Spec P f args σ R :=
 Spec.below (fun w hs => (h w hs).mono fun e w' ⟨he, hw⟩ => ⟨he, hw ▸ Below.refl _ _⟩) hR
end
def Tb (σ : Hp) : Prop := ∃ g T fr, prog.globalNamed "internal/strconv.uint64pow10" = some g ∧ σ g = some (.cells (Lib.pow10Tab.map fun z => Value.int .u64 z).toArray T fr)
theorem Tb.mono {σ σ' : Hp} (h : Tb σ) (hx : Ext σ σ') : Tb σ' := let ⟨g, T, fr, h1, h2⟩ := h; ⟨g, T, fr, h1, hx _ _ h2⟩
theorem Tb.is {σ : Hp} (h : Tb σ) {w : World} (hs : Sat σ w) : Lib.TabIs prog w "internal/strconv.uint64pow10" .u64 Lib.pow10Tab := by
 obtain ⟨g, T, fr, h1, h2⟩ := h
 simp [Lib.TabIs, World.var?, h1, hs _ _ h2]
def strOf (xs : List Int) : ByteArray := ⟨(xs.map fun n => UInt8.ofNat n.toNat).toArray⟩
section
variable {σ : Hp} {R : Rr}
theorem F1 {p : Option Addr} {n c : Nat} {xs : List Int} {Φ : Value → Hp → Prop} (hr : By .u8 σ p n xs) (h : Φ (.string (strOfNums xs)) σ) : AJ prog (convert 84 9 (.slice p n c)) σ Φ := by
 refine AJ.pu (fun w hs => ?_) h
 have h1 := underlying84
 have h2 := underlying9
 by_cases hn : n = 0
 · subst hn
   have hx : xs = [] := List.eq_nil_of_length_eq_zero hr.1
   subst hx
   rw [run_convert_bytes_string w 84 9 _ p 0 c h1 underlying5 h2]
   cases p <;> simp [Conv.bytesToString, loadCells] <;> rfl
 · obtain ⟨x0, aF⟩ := hr.ex (k := 0) (by omega)
   obtain ⟨b, o, rfl, _⟩ := hr.at aF
   refine run_convert_bytes_arg w 84 _ h1 underlying5 b o n c xs hr.1 (fun i hi => ?_) 9 h2
   obtain ⟨x, hx⟩ := hr.ex hi
   obtain ⟨b', o', he, hl⟩ := hr.at hx
   cases he
   rw [List.getD_eq_getElem?_getD, hx]
   simpa using hs.ld hl
theorem XY (l : List UInt8) : strOfNums (l.map fun b => (b.toNat : Int)) = ⟨l.toArray⟩ := by
 apply ByteArray.ext
 apply Array.toList_inj.1
 rw [strOfNums_data, List.map_map]
 conv => rhs; rw [← List.map_id l]
 exact List.map_congr_left fun a _ => by simp
theorem yO : prog.underlying 290 = some (.array 24 5) := underlying290
theorem XZ {b T u : Nat} (hb : σ b = none) (hu : u < 18446744073709551616) {c : Nat} (h : ∀ σ', Ext σ σ' → By .u8 σ' (some ⟨b, 0, none⟩) (Lib.nDigits u) ((Lib.decDigits u).map fun x => (x.toNat : Int)) → R (.returned (.tuple #[])) σ') :
   Spec prog 217 #[.slice (some ⟨b, 0, none⟩) (Lib.nDigits u) c, .int .u64 u] (σ.set b (.cells Lib.zeros24 T (0, 0))) R := fun w F hs hF => by
 have uG : Lib.nDigits u ≤ 20 := Lib.nDigits_le20 u hu
 have hw := hs b _ (Hp.AA _ _ _)
 let d : Array UInt8 := Array.replicate (Lib.nDigits u) 0
 have hH : Sort.Holds (fun (b : UInt8) => Value.int .u8 (b.toNat : Int)) w b 0 d := fun j hj => by
   have T7 : j < Lib.nDigits u := by simpa [d] using hj
   refine ⟨?_, by simp [World.frozen?, hw]⟩
   have : d[j]! = 0 := by simp [d, T7]
   simp only [World.cell?, hw, this, Nat.zero_add]
   simpa using Lib.zeros24_at j (by omega)
 have Hj := Go.Proofs.Tryz.internal_strconv_formatBase10 b 0 c u d w hH (by simpa [d] using Lib.lt_pow_nDigits u) hu (by simp [d]; omega)
 rw [show d.size = Lib.nDigits u by simp [d]] at Hj
 refine Hj.mono ?_
 rintro e w' ⟨rfl, n, v', dk, rfl, hI⟩
 have EU : dk.size = Lib.nDigits u := hI.size
 have hblk : b < w.heap.size := (Array.getElem?_eq_some_iff.1 hw).1
 have DL : ∀ k, ((Sort.putRow (fun (b : UInt8) => Value.int .u8 (b.toNat : Int)) w b 0 dk).drewN n).heap[k]? = if b = k then (w.heap[k]?).map (Sort.onCells (Sort.putCells (fun (b : UInt8) => Value.int .u8 (b.toNat : Int)) 0 dk)) else w.heap[k]? := fun k => by
   simp only [Sort.putRow, Sort.mapBlock, World.drewN, Array.getElem?_modify]
 refine ⟨σ.set b (.cells (Sort.putCells (fun (b : UInt8) => Value.int .u8 (b.toNat : Int)) 0 dk Lib.zeros24) T (0, 0)), h _ (.set hb) ?_, fun k o hk => ?_, fun k hk => ?_, ⟨rfl, rfl, fun _ => ⟨n, rfl⟩⟩, rfl, by simp [Sort.putRow, Sort.mapBlock, World.drewN]⟩
 · have hlen : (Lib.decDigits u).length = Lib.nDigits u := Lib.decDigits_length u
   refine By.Jt ⟨by simp [hlen], by omega, .inr ⟨b, 0, rfl, Dz.of fun j x hx => AD (Hp.AA _ _ _) ?_⟩⟩
   have hj : j < (Lib.decDigits u).length := by
     have := (List.getElem?_eq_some_iff.1 hx).1
     simpa using this
   rw [E0, if_pos (by omega), Nat.zero_add, Lib.zeros24_at j (by omega), Nat.sub_zero, ← Lib.row_is_numeral hI j hj]
   simp [hj] at hx ⊢
   exact hx
 · rw [DL]
   by_cases C3 : k = b
   · subst C3
     rw [Hp.AA] at hk; cases hk
     rw [if_pos rfl, hw]; rfl
   · rw [Hp.AH C3] at hk
     rw [if_neg (Ne.symm C3)]
     exact hs k o (by rw [Hp.AH C3]; exact hk)
 · have C3 : k ≠ b := fun e => by have := (hF k hk).2; rw [e, Hp.AA] at this; cases this
   refine ⟨by rw [Hp.AH C3]; have := (hF k hk).2; rwa [Hp.AH C3] at this, ?_⟩
   rw [DL, if_neg (Ne.symm C3)]
theorem uH {b k : Nat} (hk : k ≤ 24) {τ : Hp} : YF prog (Instr.sliceAt 290 (.pointer (some ⟨b, 0, none⟩)) none (some (.int .i64 (k : Int))) none) τ (.slice (some ⟨b, 0, none⟩) k 24) := fun w _ => by
 have h5 : ∀ w, (Go.sizeOf 5).run prog w = .ok 1 w := fun w => by
   have h : prog.info? 5 = some t5 := by kernel_rfl
   simp [Go.sizeOf, typeInfo, h, show t5.size = 1 from rfl]
 have ng : (k : Int) ≤ 24 := by omega
 simp [Instr.sliceAt, run_underlying yO, Instr.sliceBounds, run_sliceBound, ng, Instr.slice, Result.andThen, h5, Instr.sureAddr, Addr.add]
theorem fU {u : Nat} (hu : u < 9223372036854775808) (ht : Tb σ) (h : ∀ σ', Ext σ σ' → R (.returned (.string ⟨(Lib.decDigits u).toArray⟩)) σ') : Spec prog 58 #[.int .u64 u, .int .i64 10] σ R := by
 refine Gx.start (Da.start ⟨fun _ => ⟨fun hs FF h14 => ?_, fun hb b5 XJ => ?_⟩, fun hh => absurd rfl hh⟩)
 · have e14 : FF = (u : Int) := by rw [h14]; simp [IntKind.wrap, IntKind.bits, IntKind.signed]; omega
   subst e14
   exact Spec.same (fun w _ => Go.Proofs.Tryz.internal_strconv_small u (by omega) w) ⟨_, rfl, _, rfl, h σ (Ext.refl _)⟩
 · have hx : Ext σ (σ.set b5 (.cells Lib.zeros24 290 (0, 0))) := .set XJ
   refine Spec.same (fun w hs => Go.Proofs.Tryz.internal_strconv_numDigits u (by omega) (by omega) w ((ht.mono hx).is hs)) ⟨_, rfl, some ⟨b5, 0, none⟩, Lib.nDigits u, 24, ?_, ?_⟩
   · exact uH (by have := Lib.nDigits_le20 u (by omega); omega)
   · refine XZ XJ (by omega) fun σ' Cm hr => ⟨rfl, some ⟨b5, 0, none⟩, Lib.nDigits u, 24, ?_, F1 hr ⟨_, rfl, _, rfl, ?_⟩⟩
     · exact uH (by have := Lib.nDigits_le20 u (by omega); omega)
     · rw [XY]; exact h σ' Cm
end
def DQ (b : UInt8) : Bool := decide (48 ≤ b.toNat) && decide (b.toNat ≤ 57)
def Kw (a : Nat) (l : List UInt8) : Nat := l.foldl (fun a b => a * 10 + (b.toNat - 48)) a
theorem Dl (a : Nat) (b : UInt8) (l : List UInt8) : Kw a (b :: l) = Kw (a * 10 + (b.toNat - 48)) l := by unfold Kw; rw [List.foldl_cons]
theorem Qm (a : Nat) (l m : List UInt8) : Kw a (l ++ m) = Kw (Kw a l) m := by simp [Kw, List.foldl_append]
theorem fV (k : Nat) : Kw 0 (List.replicate k 48) = 0 := by
 induction k with
 | zero => rfl
 | succ k ih =>
   rw [List.replicate_succ, Dl]
   have e : 0 * 10 + ((48 : UInt8).toNat - 48) = 0 := by decide
   rw [e, ih]
theorem FX : ∀ (l : List UInt8) (a : Nat), Kw a l = a * 10 ^ l.length + Kw 0 l
 | [], a => by simp [Kw]
 | b :: l, a => by
   rw [Dl, Dl, FX l, FX l (0 * 10 + (b.toNat - 48)), List.length_cons, Nat.pow_succ, Nat.add_mul, Nat.zero_mul, Nat.zero_add, Nat.mul_assoc, Nat.mul_comm 10, Nat.add_assoc]
theorem Qo : ∀ (l : List UInt8), l.all DQ = true → Kw 0 l < 10 ^ l.length
 | [], _ => by simp [Kw]
 | b :: l, h => by
   simp only [List.all_cons, Bool.and_eq_true] at h
   have h1 := Qo l h.2
   have hb : b.toNat - 48 ≤ 9 := by have := h.1; simp [DQ] at this; omega
   rw [Dl, FX, List.length_cons, Nat.pow_succ, Nat.zero_mul, Nat.zero_add]
   have : (b.toNat - 48) * 10 ^ l.length ≤ 9 * 10 ^ l.length := Nat.mul_le_mul_right _ hb
   omega
theorem kt : ∀ (l m : List UInt8), l.length = m.length → l.all DQ = true → m.all DQ = true → Kw 0 l = Kw 0 m → l = m
 | [], [], _, _, _, _ => rfl
 | b :: l, c :: m, hl, h, g, he => by
   simp only [List.length_cons, Nat.succ.injEq] at hl
   simp only [List.all_cons, Bool.and_eq_true] at h g
   rw [Dl, Dl, FX, FX m, hl, Nat.zero_mul, Nat.zero_add, Nat.zero_add] at he
   have h1 := Qo l h.2
   have h2 := Qo m g.2
   rw [hl] at h1
   have hb := h.1
   have hc := g.1
   simp [DQ] at hb hc
   have hp : 0 < 10 ^ m.length := Nat.pow_pos (by decide)
   have e1 : b.toNat - 48 = c.toNat - 48 := by
     have d1 : ((b.toNat - 48) * 10 ^ m.length + Kw 0 l) / 10 ^ m.length = b.toNat - 48 := by
       rw [Nat.mul_comm, Nat.mul_add_div hp, Nat.div_eq_of_lt h1, Nat.add_zero]
     have d2 : ((c.toNat - 48) * 10 ^ m.length + Kw 0 m) / 10 ^ m.length = c.toNat - 48 := by
       rw [Nat.mul_comm, Nat.mul_add_div hp, Nat.div_eq_of_lt h2, Nat.add_zero]
     rw [← d1, ← d2, he]
   have e2 : Kw 0 l = Kw 0 m := by rw [e1] at he; omega
   have e3 : b = c := UInt8.toNat_inj.1 (by omega)
   rw [e3, kt l m hl h.2 g.2 e2]
theorem uI : ∀ (l m : List UInt8), l.length = m.length → l.all DQ = true → m.all DQ = true → l ≤ m → Kw 0 l ≤ Kw 0 m
 | [], [], _, _, _, _ => Nat.le_refl _
 | b :: l, c :: m, hl, h, g, he => by
   simp only [List.length_cons, Nat.succ.injEq] at hl
   simp only [List.all_cons, Bool.and_eq_true] at h g
   rw [Dl, Dl, FX, FX m, hl, Nat.zero_mul, Nat.zero_add, Nat.zero_add]
   have h1 := Qo l h.2
   rw [hl] at h1
   have hb := h.1
   have hc := g.1
   simp [DQ] at hb hc
   rcases List.cons_le_cons_iff.1 he with Ag | ⟨rfl, hle⟩
   · have Qp : b.toNat < c.toNat := UInt8.lt_iff_toNat_lt.1 Ag
     have : (b.toNat - 48 + 1) * 10 ^ m.length ≤ (c.toNat - 48) * 10 ^ m.length := Nat.mul_le_mul_right _ (by omega)
     rw [Nat.add_mul] at this
     omega
   · have := uI l m hl h.2 g.2 hle
     omega
theorem ku {d : Nat} (h : d < 10) : DQ (UInt8.ofNat (48 + d)) = true ∧ (UInt8.ofNat (48 + d)).toNat - 48 = d := by
 have : (UInt8.ofNat (48 + d)).toNat = 48 + d := by rw [UInt8.toNat_ofNat']; omega
 simp [DQ, this]; omega
theorem Uy (u : Nat) : (Lib.decDigits u).all DQ = true ∧ Kw 0 (Lib.decDigits u) = u := by
 induction u using Nat.strongRecOn with
 | _ u ih =>
   rw [Lib.decDigits]
   by_cases h : u < 10
   · rw [dif_pos h]
     have := ku h
     refine ⟨by rw [List.all_cons, this.1]; rfl, ?_⟩
     rw [Dl, this.2]; simp [Kw]
   · rw [dif_neg h]
     have h1 := ih (u / 10) (by omega)
     have h2 := ku (show u % 10 < 10 by omega)
     rw [List.all_append, h1.1, Qm, h1.2]
     refine ⟨by rw [List.all_cons, h2.1]; rfl, ?_⟩
     rw [Dl, h2.2]; simp only [Kw, List.foldl_nil]; omega
def Je (u : Nat) : List UInt8 := List.replicate (8 - (Lib.decDigits u).length) 48 ++ Lib.decDigits u
theorem dB {u : Nat} (h : u < 100000000) : (Lib.decDigits u).length ≤ 8 := by
 rw [Lib.decDigits_length]
 rcases Nat.lt_or_ge 8 (Lib.nDigits u) with h1 | h1
 · exfalso
   have hd := Uy u
   have : ∀ (k : Nat) (v : Nat), v < 10 ^ k → 0 < k → Lib.nDigits v ≤ k := by
     intro k
     induction k with
     | zero => intro v _ h; omega
     | succ k ih =>
       intro v hv _
       by_cases qf : v < 10
       · rw [Lib.nDigits_small qf]; omega
       · rw [Lib.nDigits_big qf]
         have hk : 0 < k := by
           rcases Nat.eq_zero_or_pos k with rfl | hk
           · simp at hv; omega
           · exact hk
         have := ih (v / 10) (by rw [Nat.div_lt_iff_lt_mul (by decide)]; rw [Nat.pow_succ] at hv; exact hv) hk
         omega
   have := this 8 u (by omega) (by decide)
   omega
 · exact h1
theorem IW {u : Nat} (h : u < 100000000) : (Je u).length = 8 := by
 have := dB h
 simp [Je]; omega
theorem KI (u : Nat) : (Je u).all DQ = true := by
 rw [Je, List.all_append, (Uy u).1, Bool.and_true]
 rw [List.all_eq_true]
 intro x hx
 rw [List.eq_of_mem_replicate hx]; rfl
theorem Mp (u : Nat) : Kw 0 (Je u) = u := by rw [Je, Qm, fV, (Uy u).2]
theorem qg {l : List UInt8} (hl : l.length = 8) (hd : l.all DQ = true) : Je (Kw 0 l) = l ∧ Kw 0 l < 100000000 := by
 have Ag := Qo l hd
 rw [hl] at Ag
 have Qp : Kw 0 l < 100000000 := by omega
 exact ⟨kt _ _ (by rw [IW Qp, hl]) (KI _) hd (Mp _), Qp⟩
theorem dC (c : Nat) : Lib.repeatL [48] c = List.replicate c 48 := by
 induction c with
 | zero => rfl
 | succ c ih => rw [Lib.repeatL, ih, List.replicate_succ]; rfl
section
variable {σ : Hp} {R : Rr}
theorem kv {u : Nat} (hu : u < 100000000) (ht : Tb σ) (h : ∀ σ', Ext σ σ' → R (.returned (.string ⟨(Je u).toArray⟩)) σ') : Spec prog 226 #[.int .u64 u, .int .i64 8] σ R := by
 have hl := dB hu
 refine QT.start (fU (by omega) ht fun σ' hx => ⟨_, rfl, OO.start ⟨?_, ?_⟩⟩)
 · have : (ByteArray.size ⟨(Lib.decDigits u).toArray⟩) = (Lib.decDigits u).length := by simp [ByteArray.size]
   rw [this]; unfold AN; omega
 · have e1 : (ByteArray.size ⟨(Lib.decDigits u).toArray⟩) = (Lib.decDigits u).length := by simp [ByteArray.size]
   rw [e1]
   have e2 : (if (8 - ((Lib.decDigits u).length : Int)) < 0 then (0 : Int) else 8 - ((Lib.decDigits u).length : Int)) = ((8 - (Lib.decDigits u).length : Nat) : Int) := by split <;> omega
   rw [e2]
   refine Spec.below (fun w _ => Go.Proofs.Tryz.strings_Repeat ⟨#[48]⟩ (8 - (Lib.decDigits u).length) w (by omega) ?_) ⟨_, rfl, ?_, _, rfl, ?_⟩
   · have : ByteArray.size ⟨#[48]⟩ = 1 := rfl
     rw [this]; omega
   · have : ByteArray.size ⟨(Lib.repeatL (ByteArray.mk #[48]).data.toList (8 - (Lib.decDigits u).length)).toArray⟩ = 8 - (Lib.decDigits u).length := by
       show (List.toArray (Lib.repeatL [48] _)).size = _
       rw [dC]; simp
     rw [this]; omega
   · have : (⟨(Lib.repeatL (ByteArray.mk #[48]).data.toList (8 - (Lib.decDigits u).length)).toArray⟩ ++ ⟨(Lib.decDigits u).toArray⟩ : ByteArray) = ⟨(Je u).toArray⟩ := by
       apply ByteArray.ext
       show _ = (Je u).toArray
       rw [ByteArray.data_append]
       show (List.toArray (Lib.repeatL [48] _)) ++ _ = _
       rw [dC, Je]; simp
     rw [this]; exact h σ' hx
end
end TwW
end
section
namespace TwW
open Go Tw Go.RowKit Go.Proofs.Tryz
def Ck : ByteArray := ⟨#[47]⟩
def kc : ByteArray := ⟨#[99]⟩
def ks : ByteArray := ⟨#[115]⟩
def cat (dir kind : ByteArray) : ByteArray := dir ++ Ck ++ kind
def AF (dir kind : ByteArray) (no : Nat) : ByteArray := cat dir kind ++ ⟨(Je no).toArray⟩
def BB (dir : ByteArray) : ByteArray := dir ++ ⟨#[47, 110, 101, 119]⟩
def rest (s t : ByteArray) : List UInt8 := s.data.toList.drop t.size
def numOf (dir kind s : ByteArray) : Nat := if BP s (cat dir kind) = true ∧ (rest s (cat dir kind)).length = 8 ∧ (rest s (cat dir kind)).all DQ = true then Kw 0 (rest s (cat dir kind)) else 0
theorem C6 (a b : ByteArray) : (a ++ b).data.toList = a.data.toList ++ b.data.toList := by rw [ByteArray.data_append, Array.toList_append]
theorem kx {a b : ByteArray} (h : a.data.toList = b.data.toList) : a = b := ByteArray.ext (Array.toList_inj.1 h)
theorem KJ (dir kind : ByteArray) : (cat dir kind).data.toList = dir.data.toList ++ 47 :: kind.data.toList := by
 rw [cat, C6, C6]; simp [Ck]
theorem Cg (dir kind : ByteArray) (no : Nat) : (AF dir kind no).data.toList = (cat dir kind).data.toList ++ Je no := by rw [AF, C6]
theorem IX (s : ByteArray) : s.size = s.data.toList.length := rfl
theorem Uz (dir kind : ByteArray) (no : Nat) : BP (AF dir kind no) (cat dir kind) = true ∧ rest (AF dir kind no) (cat dir kind) = Je no := by
 refine ⟨?_, ?_⟩
 · rw [BP, Cg]; simp
 · rw [rest, Cg, IX, List.drop_left]
theorem Bp {dir kind : ByteArray} {no : Nat} (h : no < 100000000) : numOf dir kind (AF dir kind no) = no := by
 have h1 := Uz dir kind no
 rw [numOf, h1.1, h1.2, if_pos ⟨rfl, IW h, KI no⟩, Mp]
theorem Dx {dir kind s : ByteArray} (h : 0 < numOf dir kind s) : s = AF dir kind (numOf dir kind s) ∧ numOf dir kind s < 100000000 := by
 unfold numOf at h ⊢
 split at h
 · rename_i hc
   rw [if_pos hc]
   have h8 := qg hc.2.1 hc.2.2
   refine ⟨kx ?_, h8.2⟩
   rw [Cg, h8.1]
   have hp : (cat dir kind).data.toList <+: s.data.toList := by simpa [BP] using hc.1
   obtain ⟨t, ht⟩ := hp
   rw [rest, ← ht, IX, List.drop_left]
 · omega
theorem Eg {dir kind : ByteArray} {a b : Nat} (ha : a < 100000000) (hb : b < 100000000) (h : AF dir kind a = AF dir kind b) : a = b := by
 rw [← Bp (dir := dir) (kind := kind) ha, h, Bp hb]
theorem BF {dir : ByteArray} {a b : Nat} : AF dir kc a ≠ AF dir ks b := fun h => by
 have := congrArg (fun s : ByteArray => s.data.toList) h
 simp only [Cg, KJ, List.append_assoc, List.append_cancel_left_eq] at this
 simp [kc, ks] at this
theorem Bi {dir kind : ByteArray} {a : Nat} (hk : kind = kc ∨ kind = ks) : BB dir ≠ AF dir kind a := fun h => by
 have := congrArg (fun s : ByteArray => s.data.toList) h
 simp only [BB, Cg, KJ, C6, List.append_assoc, List.append_cancel_left_eq] at this
 rcases hk with rfl | rfl <;> simp [kc, ks] at this
theorem IY {dir s : ByteArray} (h : 0 < numOf dir kc s) : numOf dir ks s = 0 := by
 rcases Nat.eq_zero_or_pos (numOf dir ks s) with h0 | h0
 · exact h0
 · exact absurd ((Dx h).1.symm.trans (Dx h0).1) BF
theorem Ki {dir kind : ByteArray} (hk : kind = kc ∨ kind = ks) : numOf dir kind (BB dir) = 0 := by
 rcases Nat.eq_zero_or_pos (numOf dir kind (BB dir)) with h0 | h0
 · exact h0
 · exact absurd (Dx h0).1 (Bi hk)
def CE (dir : ByteArray) : Bool := Ae dir && decide (dir.size ≤ 32)
theorem qh {b : UInt8} (h : DQ b = true) : ey b = true := by
 have h2 : (decide (48 ≤ b.toNat) && decide (b.toNat ≤ 57)) = true := h
 unfold ey
 rw [h2]; simp only [Bool.or_true, Bool.true_or]
theorem E3 {dir kind : ByteArray} {no : Nat} (hd : CE dir = true) (hk : kind = kc ∨ kind = ks) (hn : no < 100000000) : Ae (AF dir kind no) = true := by
 simp only [CE, Ae, Bool.and_eq_true, decide_eq_true_eq] at hd
 obtain ⟨⟨⟨h1, h2⟩, h3⟩, h4⟩ := hd
 have hl : (AF dir kind no).size = dir.size + 10 := by
   rw [IX, Cg, KJ, List.length_append, List.length_append, IW hn, List.length_cons]
   rcases hk with rfl | rfl <;> rfl
 have ha : (AF dir kind no).data.toList.all ey = true := by
   rw [Cg, KJ, List.all_append, List.all_append, h3]
   have hd : (Je no).all ey = true := by
     have := KI no
     rw [List.all_eq_true] at this ⊢
     exact fun x hx => qh (this x hx)
   rw [hd]
   rcases hk with rfl | rfl <;> rfl
 simp only [Ae, ha, hl, Bool.and_true, Bool.and_eq_true, decide_eq_true_eq]
 omega
theorem qi {dir : ByteArray} (hd : CE dir = true) : Ae (BB dir) = true := by
 simp only [CE, Ae, Bool.and_eq_true, decide_eq_true_eq] at hd
 obtain ⟨⟨⟨h1, h2⟩, h3⟩, h4⟩ := hd
 have hl : (BB dir).size = dir.size + 4 := by rw [IX, BB, C6, List.length_append]; rfl
 have ha : (BB dir).data.toList.all ey = true := by
   rw [BB, C6, List.all_append, h3]; rfl
 simp only [Ae, ha, hl, Bool.and_true, Bool.and_eq_true, decide_eq_true_eq]
 omega
section
variable {σ : Hp} {R : Rr}
theorem DH {b : Nat} {dir kind : ByteArray} {no : Nat} (hl : σ.ld ⟨b, 0 + 1, none⟩ = some (.string dir)) (hd : dir.size ≤ 32) (hk : kind = kc ∨ kind = ks) (hn : no < 100000000) (ht : Tb σ)
   (h : ∀ σ', Ext σ σ' → R (.returned (.string (AF dir kind no))) σ') : Spec prog 134 #[.pointer (some ⟨b, 0, none⟩), .string kind, .int .i64 no] σ R := by
 have Xa : kind.size = 1 := by rcases hk with rfl | rfl <;> rfl
 have Rn : (Ck).size = 1 := rfl
 refine MX.start ⟨b, 0, rfl, dir, hl, ?_, ?_, fun MQ h15 => ?_⟩
 · show dir.size + Ck.size ≤ _; rw [Rn]; omega
 · rw [ByteArray.size_append, Xa]; show dir.size + Ck.size + 1 ≤ _; rw [Rn]; omega
 · have e15 : MQ = (no : Int) := by rw [h15]; simp [IntKind.wrap, IntKind.bits, IntKind.signed]; omega
   subst e15
   refine kv hn ht fun σ' hx => ⟨_, rfl, Kp.CM hx, ?_, ?_⟩
   · have : (ByteArray.size ⟨(Je no).toArray⟩) = 8 := by
       show (Je no).toArray.size = 8
       rw [List.size_toArray, IW hn]
     rw [ByteArray.size_append, ByteArray.size_append, this, Xa]; show dir.size + Ck.size + 1 + 8 ≤ _; rw [Rn]; omega
   · exact h σ' hx
theorem Qq {b : Nat} {dir : ByteArray} (hl : σ.ld ⟨b, 0 + 1, none⟩ = some (.string dir)) (hd : dir.size ≤ 32) (h : R (.returned (.string (BB dir))) σ) : Spec prog 229 #[.pointer (some ⟨b, 0, none⟩)] σ R := by
 refine LV.start ⟨b, 0, rfl, dir, hl, ?_, h⟩
 have : ByteArray.size ⟨#[47, 110, 101, 119]⟩ = 4 := rfl
 rw [this]; omega
theorem Od : ∀ (l : List UInt8) (a : Nat), l.all DQ = true → Lib.decFrom a l = some (Kw a l)
 | [], a, _ => rfl
 | b :: l, a, h => by
   simp only [List.all_cons, Bool.and_eq_true] at h
   have hb := h.1
   simp [DQ] at hb
   rw [Lib.decFrom, Lib.digitVal, if_pos hb]
   simp only
   rw [Od l _ h.2, Dl]
theorem ky {l : List UInt8} (h0 : l ≠ []) (h : l.all DQ = true) : Lib.atoi l = some (Kw 0 l : Nat) := by
 match l, h0 with
 | b :: r, _ =>
   have hb := h
   simp only [List.all_cons, Bool.and_eq_true] at hb
   have hb := hb.1
   simp [DQ] at hb
   have n1 : (b == 45) = false := by
     rw [beq_eq_false_iff_ne]; intro e; subst e; simp at hb
   have n2 : (b == 43) = false := by
     rw [beq_eq_false_iff_ne]; intro e; subst e; simp at hb
   simp only [Lib.atoi, n1, n2, Lib.decNat, List.isEmpty_cons, Od _ 0 h]
   rfl
theorem KK {b : Nat} {dir kind s : ByteArray} (hl : σ.ld ⟨b, 0 + 1, none⟩ = some (.string dir)) (hd : dir.size ≤ 32) (hk : kind = kc ∨ kind = ks)
   (h : R (.returned (.int .i64 (numOf dir kind s))) σ) : Spec prog 257 #[.pointer (some ⟨b, 0, none⟩), .string kind, .string s] σ R := by
 have Xa : kind.size = 1 := by rcases hk with rfl | rfl <;> rfl
 have Rn : (Ck).size = 1 := rfl
 refine Cy.start ⟨b, 0, rfl, dir, hl, ?_, ?_, fJ (fun hf => ⟨_, _, rfl, fun _ => ?_, fun hh => (by cases hh)⟩) fun ht => ⟨_, _, rfl, fun hh => (by cases hh), fun _ => ⟨fun h8 => ?_, fun h8 => ?_⟩⟩⟩
 · show dir.size + Ck.size ≤ _; rw [Rn]; omega
 · rw [ByteArray.size_append, Xa]; show dir.size + Ck.size + 1 ≤ _; rw [Rn]; omega
 · have Vd : BP s (cat dir kind) = false := hf
   have : numOf dir kind s = 0 := by simp [numOf, Vd]
   rw [this] at h; exact h
 all_goals
   have ht' : BP s (cat dir kind) = true := ht
   have hr : (s.extract (cat dir kind).size s.size).data.toList = rest s (cat dir kind) := by
     rw [XL, rest, List.take_of_length_le (by rw [List.length_drop]; exact Nat.le_refl _)]
   have EU : (s.extract (cat dir kind).size s.size).size = (rest s (cat dir kind)).length := by rw [IX, hr]
 · have : numOf dir kind s = 0 := by
     have : (rest s (cat dir kind)).length ≠ 8 := fun e => h8 (by show ((s.extract (cat dir kind).size s.size).size : Int) = 8; rw [EU, e]; rfl)
     simp [numOf, this]
   rw [this] at h; exact h
 · have hlen : (rest s (cat dir kind)).length = 8 := by
     have : ¬ (((s.extract (cat dir kind).size s.size).size : Int) ≠ 8) := h8
     rw [EU] at this; omega
   show Cy.Kv R (s.extract (cat dir kind).size s.size) 0 σ
   generalize s.extract (cat dir kind).size s.size = t at hr EU
   have bad : (∃ (k : Nat) (u : UInt8), (rest s (cat dir kind))[k]? = some u ∧ DQ u = false) → R (.returned (.int .i64 0)) σ := fun ⟨k, u, hu, hdg⟩ => by
     have Ek : (rest s (cat dir kind)).all DQ = false := by
       rw [List.all_eq_false]
       exact ⟨u, List.mem_of_getElem? hu, by simp [hdg]⟩
     have : numOf dir kind s = 0 := by simp [numOf, Ek]
     rw [this] at h; exact h
   suffices H : ∀ d k : Nat, 8 - k = d → k ≤ 8 → ((rest s (cat dir kind)).take k).all DQ = true → Cy.Kv R t k σ from H 8 0 rfl (by omega) rfl
   intro d
   induction d with
   | zero =>
     intro k hd hk Ek
     rw [List.take_of_length_le (by omega)] at Ek
     refine Cy.Pa ⟨fun hh => by omega, fun _ => ?_⟩
     have yP : numOf dir kind s = Kw 0 (rest s (cat dir kind)) := by rw [numOf, if_pos ⟨ht', hlen, Ek⟩]
     rw [yP] at h
     refine Spec.below (v := .tuple #[.int .i64 (Kw 0 (rest s (cat dir kind)) : Nat), .nilIface]) (fun w _ => (Go.Proofs.Tryz.strconv_Atoi t _ (by omega) (by rw [hr]; exact ky (fun e => by rw [e] at hlen; cases hlen) Ek) w).mono ?_) ⟨_, _, rfl, h⟩
     rintro e w' ⟨he, t', hw⟩
     exact ⟨he, hw ▸ Go.Joins.below_bytesWorld _ _ _ _ (Nat.le_refl _)⟩
   | succ d ih =>
     intro k hd hk Ek
     obtain ⟨u, hu⟩ : ∃ u, (rest s (cat dir kind))[k]? = some u := ⟨_, List.getElem?_eq_getElem (by omega)⟩
     have Ys : t.data[Int.toNat (k : Int)]? = some u := by
       rw [← hr] at hu
       simpa using hu
     refine Cy.Pa ⟨fun _ => ⟨u, by omega, Ys, fun Rt => bad ⟨k, u, hu, by simp [DQ]; omega⟩, fun Rt => ⟨u, by omega, Ys, fun hhi => bad ⟨k, u, hu, by simp [DQ]; omega⟩, fun hhi => ⟨by unfold AN; omega, ih (k + 1) (by omega) (by omega) ?_⟩⟩⟩, fun hh => by omega⟩
     rw [AQ hu, List.all_append, Ek]
     simp [DQ]; omega
end
end TwW
end
section
namespace TwW
open Go Tw Go.RowKit Go.Proofs.Tryz
abbrev bM (code : Int) : List PanicEntry := [{ v := .iface 295 (.agg #[.int .i64 code]), recovered := false }]
theorem qj (w : World) : (binOp BinOp.neq 20 .nilIface .nilIface).run prog w = .ok (.bool false) w := by kernel_rfl
theorem kz (c : Int) (w : World) : (binOp BinOp.neq 20 (.iface 295 (.agg #[.int .i64 c])) .nilIface).run prog w = .ok (.bool true) w := by kernel_rfl
theorem aG (p : Addr) (w : World) :
   CallsD prog 220 #[.pointer (some p)] .returning w fun e u' w' => e = .returned (.tuple #[]) ∧ u' = .returning ∧ w' = w := by
 refine callsD_of_wpS func220 rfl fun c₀ cs hu => ?_
 apply wpS_seq
 apply wpS_region
 simp [wpOpsS, go_sem, recoverD, hu, Exit.thenS]
 apply wpS_seq
 apply wpS_region
 simp [wpOpsS, go_sem, Exit.thenS, qj]
 refine wpS_cond (t := false) (by simp [Act.eval, Array.replicate, ntmps220]) ?_
 simp only [Bool.false_eq_true, if_false]
 refine wpS_of_wp (wp_skip ?_)
 cases c₀
 simp_all [bodyPostS, results, results220, Exit.thenS]
theorem k7 (c : Int) (w : World) : (Instr.typeAssert (.iface 295 (.agg #[.int .i64 c])) 20 295 true).run prog w = .ok (.tuple #[.agg #[.int .i64 c], .bool true]) w := by
 simp [Instr.typeAssert, run_underlying underlying295]
theorem aH (b : Nat) (code : Int) (w : World) {x : Value} {T : TypeId} (hb : w.heap[b]? = some (.cells #[x] T (0, 0))) :
   CallsD prog 220 #[.pointer (some ⟨b, 0, none⟩)] (.panicking (bM code)) w fun e u' w' => e = .returned (.tuple #[]) ∧ u' = .panicking [{ v := .iface 295 (.agg #[.int .i64 code]), recovered := true }] ∧
     w' = (w.alloc (.cells #[.int .i64 code] 295)).setCell ⟨b, 0, none⟩ (.int .i64 code) := by
 have Ag : b < w.heap.size := (Array.getElem?_eq_some_iff.1 hb).1
 have hh : (w.alloc (.cells #[.int .i64 code] 295)).heap[b]? = some (.cells #[x] T (0, 0)) := by
   have e : (w.alloc (.cells #[.int .i64 code] 295)).heap = w.heap.push (.cells #[.int .i64 code] 295) := rfl
   rw [e, Array.getElem?_push, if_neg (by omega)]; exact hb
 have hc : (w.alloc (.cells #[.int .i64 code] 295)).cell? ⟨b, 0, none⟩ = some x := by simp only [World.cell?, hh]; rfl
 have hfz : (w.alloc (.cells #[.int .i64 code] 295)).frozen? ⟨b, 0, none⟩ = false := by simp only [World.frozen?, hh]; rfl
 refine callsD_of_wpS func220 rfl fun c₀ cs hu => ?_
 apply wpS_seq
 apply wpS_region
 simp [wpOpsS, go_sem, recoverD, hu, Exit.thenS]
 apply wpS_seq
 apply wpS_region
 simp [wpOpsS, go_sem, Exit.thenS, kz]
 refine wpS_cond (t := true) (by simp [Act.eval, Array.replicate, ntmps220]) ?_
 simp only [if_true]
 apply wpS_seq
 apply wpS_region
 simp [wpOpsS, go_sem, Exit.thenS, k7]
 apply wpS_seq
 apply wpS_seq
 apply wpS_region
 simp [wpOpsS, go_sem, Exit.thenS]
 refine wpS_cond (t := false) (by simp [Act.eval, Array.replicate, ntmps220]) ?_
 simp only [Bool.false_eq_true, if_false]
 refine wpS_of_wp (wp_skip ?_)
 simp only [Exit.thenS]
 apply wpS_region
 simp [wpOpsS, go_sem, Exit.thenS, hc, hfz]
 simp [bodyPostS, results, results220]
theorem Qr {w : World} {b : Nat} {x v : Value} {T : TypeId} (h : w.heap[b]? = some (.cells #[x] T (0, 0))) : (w.setCell ⟨b, 0, none⟩ v).heap[b]? = some (.cells #[v] T (0, 0)) ∧ ∀ k, k ≠ b → (w.setCell ⟨b, 0, none⟩ v).heap[k]? = w.heap[k]? := by
 have Ag : b < w.heap.size := (Array.getElem?_eq_some_iff.1 h).1
 refine ⟨?_, fun k hk => ?_⟩
 · simp only [World.setCell, Array.getElem?_modify, if_true, h]; rfl
 · simp only [World.setCell, Array.getElem?_modify, if_neg (Ne.symm hk)]
theorem fW (f : Nat) (cap : Array Value) (w : World) (Jr : ∀ w, (callFunc f cap).run prog w = .ok (.enter f cap) w) {R : Ending → World → Prop} (h : Calls prog f cap (w.alloc (.cells #[.int .i64 0] 67)) fun e w' => w'.heap[w.heap.size]? = some (.cells #[.int .i64 0] 67 (0, 0)) ∧
     ((e = .returned (.tuple #[]) ∧ R (.returned (.int .i64 0)) (w'.setCell ⟨w.heap.size, 0, none⟩ (.int .i64 0))) ∨ (∃ code, e = .panicked (bM code) ∧ R (.returned (.int .i64 code)) ((w'.alloc (.cells #[.int .i64 code] 295)).setCell ⟨w.heap.size, 0, none⟩ (.int .i64 code))))) :
   Calls prog 129 #[.func (.func f) #[] cap] w R := by
 have hmf : ∀ (fn : Fn) (first cap : Array Value) (w : World), (Instr.makeFunc fn first cap).run prog w = .ok (.func fn first cap) w := fun _ _ _ _ => rfl
 go_enter_defers func129, ntmps129
 go_wp2
 rename_i K1 ha1 K2 ha2
 refine h.mono ?_
 rintro e w' ⟨FD, ⟨rfl, hR⟩ | ⟨code, rfl, hR⟩⟩
 · have hc : w'.cell? ⟨w.heap.size, 0, none⟩ = some (.int .i64 0) := by simp only [World.cell?, FD]; rfl
   have hfz : w'.frozen? ⟨w.heap.size, 0, none⟩ = false := by simp only [World.frozen?, FD]; rfl
   apply ha2
   simp only [wpList, Exit.then]
   apply ha1
   go_wp2
   have UE : (w'.setCell ⟨w.heap.size, 0, none⟩ (.int .i64 0)).cell? ⟨w.heap.size, 0, none⟩ = some (.int .i64 0) := by simp only [World.cell?, (Qr FD).1]; rfl
   simp only [bodyPostD]
   refine leaves_cons (f := 220) (args := #[.pointer (some ⟨w.heap.size, 0, none⟩)]) (by simp) (by simp [go_sem]) ?_
   refine (aG ⟨w.heap.size, 0, none⟩ _).mono ?_
   rintro e u' vC ⟨rfl, rfl, rfl⟩
   simp [Leaves, settle, results, results129, go_sem, UE]
   exact hR
 · simp only [bodyPostD]
   refine leaves_cons (f := 220) (args := #[.pointer (some ⟨w.heap.size, 0, none⟩)]) (by simp) (by simp [go_sem]) ?_
   refine (aH w.heap.size code w' FD).mono ?_
   rintro e u' vC ⟨rfl, rfl, rfl⟩
   have hh : (w'.alloc (.cells #[.int .i64 code] 295)).heap[w.heap.size]? = some (.cells #[.int .i64 0] 67 (0, 0)) := by
     have Ag : w.heap.size < w'.heap.size := (Array.getElem?_eq_some_iff.1 FD).1
     have e : (w'.alloc (.cells #[.int .i64 code] 295)).heap = w'.heap.push (.cells #[.int .i64 code] 295) := rfl
     rw [e, Array.getElem?_push, if_neg (by omega)]; exact FD
   have UE : ((w'.alloc (.cells #[.int .i64 code] 295)).setCell ⟨w.heap.size, 0, none⟩ (.int .i64 code)).cell? ⟨w.heap.size, 0, none⟩ = some (.int .i64 code) := by simp only [World.cell?, (Qr hh).1]; rfl
   simp [Leaves, settle, results, results129, go_sem, UE]
   exact hR
theorem KL {σ : Hp} {R : Rr} {f : Nat} {cap : Array Value} (Jr : Enters prog f)
   (h : Spec prog f cap σ fun e σ' => (e = .returned (.tuple #[]) ∧ R (.returned (.int .i64 0)) σ') ∨ ∃ code, e = .panicked (bM code) ∧ R (.returned (.int .i64 code)) σ') : Spec prog 129 #[.func (.func f) #[] cap] σ R := fun w F hs hF => by
 have EU : (w.alloc (.cells #[.int .i64 0] 67)).heap.size = w.heap.size + 1 := by
   have e : (w.alloc (.cells #[.int .i64 0] 67)).heap = w.heap.push (.cells #[.int .i64 0] 67) := rfl
   rw [e]; simp
 have hold : ∀ k : Nat, k < w.heap.size → (w.alloc (.cells #[.int .i64 0] 67)).heap[k]? = w.heap[k]? := fun k hk => by
   have e : (w.alloc (.cells #[.int .i64 0] 67)).heap = w.heap.push (.cells #[.int .i64 0] 67) := rfl
   rw [e, Array.getElem?_push, if_neg (by omega)]
 have C4 : (w.alloc (.cells #[.int .i64 0] 67)).heap[w.heap.size]? = some (.cells #[.int .i64 0] 67 (0, 0)) := by
   have e : (w.alloc (.cells #[.int .i64 0] 67)).heap = w.heap.push (.cells #[.int .i64 0] 67) := rfl
   rw [e]; simp
 have Ag : ∀ b o, σ b = some o → b < w.heap.size := fun b o hb => (Array.getElem?_eq_some_iff.1 (hs b o hb)).1
 refine fW f cap w (fun w => Jr cap w) ((h (w.alloc (.cells #[.int .i64 0] 67)) (fun k => F k ∨ k = w.heap.size) (fun b o hb => by rw [hold b (Ag b o hb)]; exact hs b o hb) (fun k hk => ?_)).mono ?_)
 · rw [EU]
   rcases hk with hk | rfl
   · exact ⟨by have := (hF k hk).1; omega, (hF k hk).2⟩
   · exact ⟨by omega, DM hs⟩
 · rintro e w' ⟨σ', hr, hf⟩
   have hp := hf.CU w.heap.size (.inr rfl)
   have FD := hp.2.trans C4
   have key : ∀ (w2 : World) (v : Value), w2.heap[w.heap.size]? = some (.cells #[.int .i64 0] 67 (0, 0)) → (∀ (k : Nat) (o : Obj), w'.heap[k]? = some o → w2.heap[k]? = some o) → (∀ k : Nat, k < w'.heap.size → w2.heap[k]? = w'.heap[k]?) → w'.heap.size ≤ w2.heap.size → w2.os = w'.os → w2.tape = w'.tape → w2.output = w'.output →
       Fin σ' F w (w2.setCell ⟨w.heap.size, 0, none⟩ v) := by
     intro w2 v h1 h2 fD h3 h4 h5 h6
     have Y6 := Qr (v := v) h1
     refine ⟨fun b o hb => ?_, fun k hk => ?_, ⟨h4.trans hf.os.1, h5.trans hf.os.2.1, fun h => h.elim⟩, h6.trans hf.out, ?_⟩
     · have Ad : b ≠ w.heap.size := fun e => by rw [e, hp.1] at hb; cases hb
       rw [Y6.2 b Ad]; exact h2 b o (hf.sat b o hb)
     · have gw := (hF k hk).1
       have Ad : k ≠ w.heap.size := by omega
       have qW := hf.CU k (.inl hk)
       refine ⟨qW.1, ?_⟩
       rw [Y6.2 k Ad, fD k (by have := hf.grow; rw [EU] at this; omega), qW.2, hold k gw]
     · have := hf.grow
       rw [EU] at this
       have e : (w2.setCell ⟨w.heap.size, 0, none⟩ v).heap.size = w2.heap.size := by simp [World.setCell]
       omega
   refine ⟨FD, ?_⟩
   rcases hr with ⟨rfl, hr⟩ | ⟨code, rfl, hr⟩
   · exact .inl ⟨rfl, σ', hr, key w' _ FD (fun k o h => h) (fun k _ => rfl) (Nat.le_refl _) rfl rfl rfl⟩
   · have e : (w'.alloc (.cells #[.int .i64 code] 295)).heap = w'.heap.push (.cells #[.int .i64 code] 295) := rfl
     have hg : ∀ k : Nat, k < w'.heap.size → (w'.alloc (.cells #[.int .i64 code] 295)).heap[k]? = w'.heap[k]? := fun k hk => by rw [e, Array.getElem?_push, if_neg (by omega)]
     have AKW : w.heap.size < w'.heap.size := (Array.getElem?_eq_some_iff.1 FD).1
     exact .inr ⟨code, rfl, σ', hr, key _ _ (by rw [hg _ AKW]; exact FD) (fun k o h => by rw [hg k (Array.getElem?_eq_some_iff.1 h).1]; exact h) hg (by rw [e]; simp) rfl rfl rfl⟩
end TwW
end
section
namespace TwW
open Go Tw Go.RowKit Go.Proofs.Tryz
structure Wl where
 dir : ByteArray
 check : Nat
 AP : List Nat
 opn : Nat
 size : Nat
abbrev Iq (l : List Nat) : List Int := l.map fun (n : Nat) => (n : Int)
abbrev ql (d : Nat) (W : Wl) (p : Option Addr) (n c : Nat) : Array Value := #[.pointer (some ⟨d, 0, none⟩), .string W.dir, .int .i64 W.check, .slice p n c, .int .i64 W.opn, .int .i64 W.size]
structure FH (σ : Hp) (b d : Nat) (W : Wl) (S : List Nat) (p : Option Addr) (c : Nat) (T : TypeId) : Prop where
 EW : S = b :: DI p
 out : b ∉ DI p
 obj : σ b = some (.cells (ql d W p W.AP.length c) T (0, 0))
 own : AS .i64 σ p W.AP.length c (Iq W.AP)
section
variable {σ σ' τ τ' : Hp} {b d : Nat} {W : Wl} {S Sd : List Nat} {p : Option Addr} {c : Nat} {T : TypeId} {D : Dk}
theorem FH.known (h : FH σ b d W S p c T) : ∀ k ∈ S, σ k ≠ none := by
 intro k hk
 rw [h.EW] at hk
 rcases List.mem_cons.1 hk with rfl | hk
 · rw [h.obj]; simp
 · cases p with
   | none => cases hk
   | some a => simp [DI] at hk; subst hk; exact h.own.block a rfl
theorem FH.loc (h : FH σ b d W S p c T) (hs : ∀ k ∈ S, σ' k = σ k) : FH σ' b d W S p c T := by
 have hf := h.EW
 subst hf
 exact ⟨rfl, h.out, (hs b (by simp)).trans h.obj, Own.loc h.own fun k hk => hs k (by simp [hk])⟩
theorem FH.mono (h : FH σ b d W S p c T) (hx : Ext σ σ') : FH σ' b d W S p c T := h.loc fun k hk => by
 cases hs : σ k with
 | none => exact absurd hs (h.known k hk)
 | some o => exact hx k o hs
theorem FH.uJ (h : FH σ b d W S p c T) : b ∈ S := by rw [h.EW]; simp
def Ai (σ : Hp) (d : Nat) (D : Dk) (τ : Hp) : Prop := ∃ S, A6 σ d D S ∧ Ext τ (σ.off S)
def Aj (σ : Hp) (d b : Nat) (D : Dk) (W : Wl) (τ : Hp) : Prop := ∃ Sd S p c T, A6 σ d D Sd ∧ FH (σ.off Sd) b d W S p c T ∧ Ext τ ((σ.off Sd).off S)
theorem Ai.names (h : Ai σ d D τ) : ∀ s, (D.files s).isSome = true → Ae s = true := let ⟨_, h1, _⟩ := h; h1.names
theorem Ai.ext (h : Ai σ d D τ) : Ext τ σ := let ⟨S, _, h2⟩ := h; h2.trans (Ext.Cp _ _)
theorem Aj.ext (h : Aj σ d b D W τ) : Ext τ σ := let ⟨_, _, _, _, _, _, _, h3⟩ := h; h3.trans ((Ext.Cp _ _).trans (Ext.Cp _ _))
theorem Ai.FC (h : Ai σ d D τ) (hx : Ext τ' τ) : Ai σ d D τ' := let ⟨S, h1, h2⟩ := h; ⟨S, h1, hx.trans h2⟩
theorem Aj.FC (h : Aj σ d b D W τ) (hx : Ext τ' τ) : Aj σ d b D W τ' := let ⟨Sd, S, p, c, T, h1, h2, h3⟩ := h; ⟨Sd, S, p, c, T, h1, h2, hx.trans h3⟩
theorem Aj.fX (h : Aj σ d b D W τ) : Ai σ d D τ := let ⟨Sd, S, p, c, T, h1, h2, h3⟩ := h; ⟨Sd, h1, h3.trans (Ext.Cp _ _)⟩
theorem Ai.grow (h : Ai σ d D τ) (hx : Ext σ σ') : ∃ τ', Ai σ' d D τ' ∧ Ext τ τ' ∧ Ext (σ.new σ') τ' := by
 obtain ⟨S, h1, h2⟩ := h
 refine ⟨σ'.off S, ⟨S, h1.mono hx, Ext.refl _⟩, h2.trans (hx.off S), fun k o hk => ?_⟩
 obtain ⟨h3, h4⟩ := AO.1 hk
 exact Hp.AG.2 ⟨fun hs => h1.known k hs h3, h4⟩
theorem Aj.grow (h : Aj σ d b D W τ) (hx : Ext σ σ') : ∃ τ', Aj σ' d b D W τ' ∧ Ext τ τ' ∧ Ext (σ.new σ') τ' := by
 obtain ⟨Sd, S, p, c, T, h1, h2, h3⟩ := h
 refine ⟨(σ'.off Sd).off S, ⟨Sd, S, p, c, T, h1.mono hx, h2.mono (hx.off Sd), Ext.refl _⟩, h3.trans ((hx.off Sd).off S), fun k o hk => ?_⟩
 obtain ⟨h4, h5⟩ := AO.1 hk
 refine Hp.AG.2 ⟨fun hs => ?_, Hp.AG.2 ⟨fun hs => h1.known k hs h4, h5⟩⟩
 have := h2.known k hs
 exact this (Hp.MJ h4)
theorem Aj.mono (h : Aj σ d b D W τ) (hx : Ext σ σ') : Aj σ' d b D W τ := let ⟨_, h1, h2, _⟩ := h.grow hx; h1.FC h2
theorem Ai.mono (h : Ai σ d D τ) (hx : Ext σ σ') : Ai σ' d D τ := let ⟨_, h1, h2, _⟩ := h.grow hx; h1.FC h2
theorem Aj.box {k : Nat} {o : Obj} (h : Aj σ d b D W τ) (hk : σ k = none) : ∃ τ', Aj (σ.set k o) d b D W τ' ∧ Ext τ τ' ∧ τ' k = some o := by
 obtain ⟨τ', h1, h2, h3⟩ := h.grow (.set hk (o := o))
 exact ⟨τ', h1, h2, h3 k o (AO.2 ⟨hk, Hp.AA _ _ _⟩)⟩
theorem Ai.box {k : Nat} {o : Obj} (h : Ai σ d D τ) (hk : σ k = none) : ∃ τ', Ai (σ.set k o) d D τ' ∧ Ext τ τ' ∧ τ' k = some o := by
 obtain ⟨τ', h1, h2, h3⟩ := h.grow (.set hk (o := o))
 exact ⟨τ', h1, h2, h3 k o (AO.2 ⟨hk, Hp.AA _ _ _⟩)⟩
theorem Aj.step {D' : Dk} {S S' : List Nat} (h1 : FH (σ.off Sd) b d W S p c T) (h2 : Ext τ ((σ.off Sd).off S)) (hd : A6 σ' d D' S') (hx : Ext (σ.off Sd) (σ'.off S')) : Aj σ' d b D' W τ :=
 ⟨S', S, p, c, T, hd, h1.mono hx, h2.trans (hx.off S)⟩
structure AKX (σ : Hp) (d b : Nat) (D : Dk) (W : Wl) : Prop where
 ptr : σ.ld ⟨b, 0, none⟩ = some (.pointer (some ⟨d, 0, none⟩))
 dir : σ.ld ⟨b, 0 + 1, none⟩ = some (.string W.dir)
 check : σ.ld ⟨b, 0 + 2, none⟩ = some (.int .i64 W.check)
 AP : ∃ p c, W.AP.length ≤ c ∧ σ.ld ⟨b, 0 + 3, none⟩ = some (.slice p W.AP.length c) ∧ By .i64 σ p W.AP.length (Iq W.AP)
 opn : σ.ld ⟨b, 0 + 4, none⟩ = some (.int .i64 W.opn)
 size : σ.ld ⟨b, 0 + 5, none⟩ = some (.int .i64 W.size)
theorem Aj.rd (h : Aj σ d b D W τ) : AKX σ d b D W := by
 obtain ⟨Sd, S, p, c, T, h1, h2, h3⟩ := h
 have h2 := h2.mono (Ext.Cp _ _)
 exact ⟨AD h2.obj rfl, AD h2.obj rfl, AD h2.obj rfl, ⟨p, c, Own.cap h2.own, AD h2.obj rfl, h2.own.rd⟩, AD h2.obj rfl, AD h2.obj rfl⟩
theorem Aj.st {W' : Wl} {i : Nat} {x : Int} {Φ : Unit → Hp → Prop} (h : Aj σ d b D W τ) (hi : i + 1 ≤ 6) (hs : W'.AP = W.AP)
   (hw : ∀ p n c, DU (ql d W p n c) i [Value.int .i64 x] = ql d W' p n c) (hΦ : ∀ σ', Aj σ' d b D W' τ → Φ () σ') : AJ prog (Instr.storeAt 3 (.pointer (some ⟨b, i, none⟩)) (.int .i64 x)) σ Φ := by
 obtain ⟨Sd, S, p, c, T, h1, h2, h3⟩ := h
 have hb := Hp.AG.1 h2.obj
 refine AJ.store (v := .int .i64 x) HT hb.2 rfl (by simp; omega) (by simp [Value.cells, Value.oneCell']) ?_
 refine hΦ _ ⟨Sd, S, p, c, T, h1.loc fun k hk => Hp.AH fun e => hb.1 (e ▸ hk), ?_, ?_⟩
 · rw [Hp.Er hb.1]
   refine ⟨h2.EW, h2.out, by rw [Hp.AA, hs]; exact congrArg (fun a => some (Obj.cells a T (0, 0))) (hw p _ c), ?_⟩
   rw [hs]
   exact Own.loc h2.own fun k hk => Hp.AH fun e => h2.out (e ▸ hk)
 · rw [Hp.Er hb.1, Hp.GN h2.uJ]; exact h3
theorem k8 : ∀ w, (Go.sizeOf 26).run prog w = .ok 1 w := fun w => by
 have h : prog.info? 26 = some t26 := by kernel_rfl
 simp [Go.sizeOf, typeInfo, h, show t26.size = 1 from rfl]
theorem Aj.cut {p' : Option Addr} {n' c' : Nat} {l : List Nat} {Φ : Unit → Hp → Prop} (h : Aj σ d b D W τ) (hl : l.length = n')
   (hp : ∀ p c, σ.ld ⟨b, 0 + 3, none⟩ = some (.slice p W.AP.length c) → DI p' = DI p ∧ ∀ ρ, AS .i64 ρ p W.AP.length c (Iq W.AP) → AS .i64 ρ p' n' c' (Iq l))
   (hΦ : ∀ σ', Aj σ' d b D { W with AP := l } τ → Φ () σ') : AJ prog (Instr.storeAt 26 (.pointer (some ⟨b, 0 + 3, none⟩)) (.slice p' n' c')) σ Φ := by
 obtain ⟨Sd, S, p, c, T, h1, h2, h3⟩ := h
 have hb := Hp.AG.1 h2.obj
 obtain ⟨e1, e2⟩ := hp p c (AD hb.2 rfl)
 refine AJ.store (v := .slice p' n' c') k8 hb.2 rfl (by simp) (by simp [Value.cells, Value.oneCell']) ?_
 refine hΦ _ ⟨Sd, S, p', c', T, h1.loc fun k hk => Hp.AH fun e => hb.1 (e ▸ hk), ?_, ?_⟩
 · rw [Hp.Er hb.1]
   refine ⟨by rw [e1]; exact h2.EW, by rw [e1]; exact h2.out, by rw [Hp.AA]; subst hl; rfl, ?_⟩
   have := e2 _ h2.own
   subst hl
   exact Own.loc this fun k hk => Hp.AH fun e => h2.out (by rw [← e1]; exact e ▸ hk)
 · rw [Hp.Er hb.1, Hp.GN h2.uJ]; exact h3
theorem Aj.app {k : Nat} {p : Option Addr} {n c NG : Nat} {Φ : Unit → Hp → Prop} (h : Aj σ d b D W τ) (hp : σ.ld ⟨b, 0 + 3, none⟩ = some (.slice p n c)) (FW : W.AP.length ≤ 67108864) (hn : σ NG = none) {K : Hp → Hp → Prop}
   (hK : ∀ σ', Ext τ σ' → K (σ.set NG (.cells #[.int .i64 k] 3 (0, 0))) σ')
   (hΦ : ∀ σ', Aj σ' d b D { W with AP := W.AP ++ [k] } τ → Φ () σ') :
   AJ prog (Builtin.append_ #[26, 26] 26 #[.slice p n c, .slice (some ⟨NG, 0, none⟩) 1 1]) (σ.set NG (.cells #[.int .i64 k] 3 (0, 0))) (fun v σ1 => ∃ p' n' c', v = .slice p' n' c' ∧ K (σ.set NG (.cells #[.int .i64 k] 3 (0, 0))) σ1 ∧
     AJ prog (Instr.storeAt 26 (.pointer (some ⟨b, 0 + 3, none⟩)) (.slice p' n' c')) σ1 Φ) := by
 obtain ⟨Sd, S, p0, c0, T, h1, h2, h3⟩ := h
 have hb := Hp.AG.1 h2.obj
 have hpe : σ.ld ⟨b, 0 + 3, none⟩ = some (.slice p0 W.AP.length c0) := AD hb.2 rfl
 rw [hpe] at hp
 cases hp
 let σ1 : Hp := σ.set NG (.cells #[.int .i64 k] 3 (0, 0))
 have hx : Ext σ σ1 := .set hn
 have Ro := h1.mono hx
 have VS := h2.mono (hx.off Sd)
 have h31 := h3.trans ((hx.off Sd).off S)
 have AKY : GM 1 σ1 (some ⟨NG, 0, none⟩) 1 [.int .i64 k] := ⟨rfl, by omega, .inr ⟨NG, 0, rfl, AD (Hp.AA _ _ _) rfl, trivial⟩⟩
 have AZ : AS .i64 σ1 p W.AP.length c (Iq W.AP) := VS.own.mono (Ext.Cp _ _)
 refine MG (T := 26) AZ AKY (fun u hu => by simp at hu; subst hu; rfl) (by omega) fun p' c' σ2 Bs Ay _ => ?_
 rw [Hp.DY, Hp.DY] at Ay
 have keep : ∀ j o, j ∉ DI p → σ1 j = some o → σ2 j = some o ∧ j ∉ DI p' := fun j o h4 h5 => by
   have := Hp.AG.1 (Ay j o (Hp.AG.2 ⟨h4, h5⟩)); exact ⟨this.2, this.1⟩
 have hp0 : ∀ j ∈ Sd, j ∉ DI p := fun j hj T7 => VS.known j (by rw [VS.EW]; simp [T7]) (Hp.UG hj)
 have SD : A6 σ2 d D Sd := Ro.loc fun j hj => by
   cases hs : σ1 j with
   | none => exact absurd hs (Ro.known j hj)
   | some o => exact (keep j o (hp0 j hj) hs).1
 have AKZ : ∀ j ∈ DI p', j ∉ Sd := fun j hj hs => by
   cases Rn : σ1 j with
   | none => exact absurd Rn (Ro.known j hs)
   | some o => exact (keep j o (hp0 j hs) Rn).2 hj
 have PA := Hp.AG.1 VS.obj
 have G8 := keep b _ VS.out PA.2
 have hτ : Ext τ ((σ2.off Sd).off (b :: DI p')) := fun j o hj => by
   have h4 := Hp.AG.1 (h31 j o hj)
   have h5 := Hp.AG.1 h4.2
   rw [VS.EW] at h4
   simp only [List.mem_cons, not_or] at h4
   have h6 := keep j o h4.1.2 h5.2
   exact Hp.AG.2 ⟨by simp [h4.1.1, h6.2], Hp.AG.2 ⟨h5.1, h6.1⟩⟩
 refine ⟨p', _, c', rfl, hK σ2 (hτ.trans ((Ext.Cp _ _).trans (Ext.Cp _ _))), ?_⟩
 refine AJ.store (v := .slice p' (W.AP.length + 1) c') k8 G8.1 rfl (by simp) (by simp [Value.cells, Value.oneCell']) ?_
 refine hΦ _ ⟨Sd, b :: DI p', p', c', T, SD.loc fun j hj => Hp.AH fun e => PA.1 (e ▸ hj), ?_, ?_⟩
 · rw [Hp.Er PA.1]
   refine ⟨rfl, G8.2, by rw [Hp.AA, List.length_append]; rfl, ?_⟩
   have Dd : AS .i64 σ2 p' (W.AP ++ [k]).length c' (Iq (W.AP ++ [k])) := by simpa [AS] using Bs
   have Pc : AS .i64 (σ2.off Sd) p' (W.AP ++ [k]).length c' (Iq (W.AP ++ [k])) := Own.loc Dd fun j hj => Hp.ES (AKZ j hj)
   exact Own.loc Pc fun j hj => Hp.AH fun e => G8.2 (e ▸ hj)
 · rw [Hp.Er PA.1, Hp.GN (by simp)]; exact hτ
end
end TwW
end
section
namespace TwW
open Go Tw Go.RowKit Go.Proofs.Tryz
abbrev Bq := List (List Int)
abbrev Fs := ByteArray → Option Fl
def Good (rs : Bq) : Prop := ∀ r ∈ rs, r.length ≤ 65536 ∧ E7 r
theorem Good.short {rs : Bq} (h : Good rs) : Mo rs := fun r hr => (h r hr).1
theorem Good.nil : Good [] := fun r hr => by cases hr
theorem Good.append {rs ss : Bq} (h : Good rs) (g : Good ss) : Good (rs ++ ss) := fun r hr => (List.mem_append.1 hr).elim (h r) (g r)
theorem Good.take {rs : Bq} (h : Good rs) (k : Nat) : Good (rs.take k) := fun r hr => h r (List.mem_of_mem_take hr)
theorem Bc {xs ys : List Int} (hx : E7 xs) (hy : E7 ys) : E7 (xs ++ ys) := fun a ha => (List.mem_append.1 ha).elim (hx a) (hy a)
theorem fY {r : List Int} (h : r.length ≤ 65536) (h8 : E7 r) : E7 (frame r) := by
 unfold frame
 refine Bc (Bc (Nt 9 _ (by omega)) ?_) h8
 intro x hx
 simp only [Yv, List.mem_cons, List.not_mem_nil, or_false] at hx
 rcases hx with rfl | rfl | rfl | rfl <;> omega
theorem Mq : ∀ {rs : Bq}, Good rs → E7 (AU rs)
 | [], _ => fun x hx => by cases hx
 | r :: rs, h => by
   rw [B1]
   exact Bc (fY (h r (by simp)).1 (h r (by simp)).2) (Mq fun x hx => h x (by simp [hx]))
theorem lA {xs : List Int} (h : E7 xs) (k : Nat) : E7 (xs.take k) := fun x hx => h x (List.mem_of_mem_take hx)
theorem fZ {r : List Int} {j : Nat} (hr : r.length ≤ 65536) (hj : j < (frame r).length) : fS ((frame r).take j) := fun r' ⟨h1, rest, h2⟩ => by
 rw [List.drop_zero] at h2
 have h3 : frame r' ++ (rest ++ (frame r).drop j) = frame r := by rw [← List.append_assoc, ← h2, List.take_append_drop]
 have h4 : uv r'.length ++ (Yv (XT r') ++ (r' ++ (rest ++ (frame r).drop j))) = uv r.length ++ (Yv (XT r) ++ r) := by
   generalize rest ++ (frame r).drop j = Z at h3
   simpa [frame, List.append_assoc] using h3
 have h5 := (kk _ _ _ _ h4).1
 have h6 := congrArg List.length h2
 rw [List.length_append, Ef, h5, List.length_take] at h6
 rw [Ef] at hj h6
 omega
theorem Xb : ∀ (rs : Bq) (j : Nat), Mo rs → ∃ k t, k ≤ rs.length ∧ (AU rs).take j = AU (rs.take k) ++ t ∧ fS t ∧ ∀ m, m ≤ rs.length → (AU (rs.take m)).length ≤ j → m ≤ k
 | [], j, _ => ⟨0, [], Nat.le_refl _, by simp [AU], EL, fun m hm _ => hm⟩
 | r :: rs, j, hs => by
   by_cases hj : j < (frame r).length
   · refine ⟨0, (frame r).take j, Nat.zero_le _, by rw [B1, List.take_append_of_le_length (by omega)]; simp [AU], fZ (hs r (by simp)) hj, fun m hm h => ?_⟩
     cases m with
     | zero => exact Nat.le_refl _
     | succ m =>
       rw [List.take_succ_cons, B1, List.length_append] at h
       omega
   · obtain ⟨k, t, h1, h2, h3, h4⟩ := Xb rs (j - (frame r).length) fun x hx => hs x (by simp [hx])
     refine ⟨k + 1, t, by simp; omega, ?_, h3, fun m hm h => ?_⟩
     · rw [B1, List.take_append, List.take_of_length_le (by omega), h2, List.take_succ_cons, B1, List.append_assoc]
     · cases m with
       | zero => omega
       | succ m =>
         rw [List.take_succ_cons, B1, List.length_append] at h
         have := h4 m (by simp at hm; exact hm) (by omega)
         omega
def Has (fs : Fs) (s : ByteArray) (x : List Int) : Prop := ∃ f, fs s = some f ∧ f.data = x
theorem Has.U0 {fs : Fs} {s : ByteArray} {x : List Int} (h : Has fs s x) : (fs s).isSome = true := by obtain ⟨f, h, _⟩ := h; simp [h]
abbrev Sg := List (Nat × Bq)
def An (sg : Sg) : Bq := sg.flatMap (·.2)
theorem B7 (a b : Sg) : An (a ++ b) = An a ++ An b := by simp [An]
theorem Eh (x : Nat × Bq) : An [x] = x.2 := by simp [An]
structure Shape (fs : Fs) (dir : ByteArray) (cnt check : Nat) (rc : Bq) (sg : Sg) (tail : List Int) : Prop where
 PE : 0 < check → Has fs (AF dir kc check) (AU rc)
 Xc : check = 0 → rc = []
 Yw : ∀ s, (fs s).isSome = true → numOf dir kc s ≤ check
 aI : check ≤ cnt
 gt : ∀ x ∈ sg, check < x.1 ∧ x.1 ≤ cnt
 Jf : sg.Pairwise fun x y => x.1 < y.1
 dD : ∀ s, (fs s).isSome = true → check < numOf dir ks s → ∃ x ∈ sg, x.1 = numOf dir ks s
 file : ∀ k x, sg[k]? = some x → Has fs (AF dir ks x.1) (AU x.2 ++ if k + 1 = sg.length then tail else [])
 uK : sg = [] → tail = []
 AKa : fS tail
 Oe : Good rc
 Ld : ∀ x ∈ sg, Good x.2
 uL : E7 tail
def Kept (fs : Fs) (dir : ByteArray) (check : Nat) (sg : Sg) : Prop := (∀ f, 0 < check → fs (AF dir kc check) = some f → f.GD = f.data.length) ∧ ∀ k x, sg[k]? = some x → k + 1 < sg.length → ∀ f, fs (AF dir ks x.1) = some f → f.GD = f.data.length
def Xd (fs : Fs) (dir : ByteArray) (cnt : Nat) (told : Bq) (w : Bool) : Prop := ∃ check rc sg tail, Shape fs dir cnt check rc sg tail ∧ told = rc ++ An sg ∧ Kept fs dir check sg ∧ (w = true → tail = [])
abbrev G2 (fs : Fs) (dir : ByteArray) (cnt : Nat) (told : Bq) : Prop := Xd fs dir cnt told false
structure A7 (fs : Fs) (cnt : Nat) (W : Wl) (rc : Bq) (sg : Sg) (safe : Nat) : Prop where
 sh : Shape fs W.dir cnt W.check rc sg []
 AP : W.AP = sg.map (·.1)
 opn : W.check < W.opn ∧ W.opn ≤ cnt + 1 ∧ ∀ x ∈ sg, x.1 ≤ W.opn
 size : ∀ x ∈ sg, x.1 = W.opn → W.size = (AU x.2).length
 IZ : (∀ x ∈ sg, x.1 ≠ W.opn) → W.size = 0
 sync : ∀ f, 0 < W.check → fs (AF W.dir kc W.check) = some f → f.GD = f.data.length
 Og : ∀ x ∈ sg, x.1 < W.opn → ∀ f, fs (AF W.dir ks x.1) = some f → f.GD = f.data.length
 dur : ∀ x ∈ sg, x.1 = W.opn → ∃ m f, m ≤ x.2.length ∧ fs (AF W.dir ks x.1) = some f ∧ (AU (x.2.take m)).length ≤ f.GD ∧ safe + x.2.length ≤ (rc ++ An sg).length + m
 fc : (∀ x ∈ sg, x.1 ≠ W.opn) → safe ≤ (rc ++ An sg).length
theorem dE {sg : Sg} {n : Nat} (hr : sg.Pairwise fun x y => x.1 < y.1) (hle : ∀ x ∈ sg, x.1 ≤ n) {x : Nat × Bq} (hx : x ∈ sg) (he : x.1 = n) : ∃ s0, sg = s0 ++ [x] ∧ ∀ y ∈ s0, y.1 < n := by
 obtain ⟨a, b, rfl⟩ := List.append_of_mem hx
 rw [List.pairwise_append, List.pairwise_cons] at hr
 have hb : b = [] := by
   cases b with
   | nil => rfl
   | cons y b =>
     have h1 := hr.2.1.1 y (by simp)
     have h2 := hle y (by simp)
     omega
 subst hb
 exact ⟨a, rfl, fun y hy => by have := hr.2.2 y hy x (by simp); omega⟩
theorem GK.U0 {fs gs : Fs} (h : GK fs gs) {s : ByteArray} (hs : (gs s).isSome = true) : (fs s).isSome = true := by
 cases hf : fs s with
 | none => rw [(h s).1 hf] at hs; cases hs
 | some f => rfl
theorem GK.GD {fs gs : Fs} (h : GK fs gs) {s : ByteArray} {f : Fl} (hf : gs s = some f) : f.GD = f.data.length := by
 cases hs : fs s with
 | none => rw [(h s).1 hs] at hf; cases hf
 | some g =>
   obtain ⟨k, h1, h2, h3⟩ := (h s).2 g hs
   rw [h3] at hf
   cases hf
   simp only [List.length_take]; omega
theorem GK.kept {fs gs : Fs} (h : GK fs gs) {dir : ByteArray} {check : Nat} {sg : Sg} : Kept gs dir check sg := ⟨fun f _ hf => h.GD hf, fun _ _ _ _ f hf => h.GD hf⟩
theorem GK.whole {fs gs : Fs} (h : GK fs gs) {s : ByteArray} {x : List Int} (hx : Has fs s x) (hs : ∀ f, fs s = some f → f.GD = f.data.length) : Has gs s x := by
 obtain ⟨f, hf, rfl⟩ := hx
 obtain ⟨k, h1, h2, h3⟩ := (h s).2 f hf
 rw [hs f hf] at h1
 exact ⟨_, h3, by rw [List.take_of_length_le (by omega)]⟩
theorem A7.dF {fs gs : Fs} {cnt : Nat} {W : Wl} {rc : Bq} {sg : Sg} {safe : Nat} (h : A7 fs cnt W rc sg safe) (hc : GK fs gs) : ∃ told, G2 gs W.dir cnt told ∧ told <+: rc ++ An sg ∧ safe ≤ told.length := by
 by_cases hl : ∃ x ∈ sg, x.1 = W.opn
 · obtain ⟨x, hx, he⟩ := hl
   obtain ⟨s0, rfl, Ag⟩ := dE h.sh.Jf h.opn.2.2 hx he
   obtain ⟨m, f, hm, hf, hms, dG⟩ := h.dur x hx he
   obtain ⟨f2, oL, SD⟩ := h.sh.file s0.length x (by simp)
   rw [hf] at oL
   cases oL
   simp at SD
   obtain ⟨j, UA, my, hj3⟩ := (hc _).2 f hf
   have TU := h.sh.Ld x hx
   obtain ⟨k, t, hk, hkt, ht, yQ⟩ := Xb x.2 j TU.short
   refine ⟨rc ++ An (s0 ++ [(x.1, x.2.take k)]), ⟨W.check, rc, s0 ++ [(x.1, x.2.take k)], t, ⟨fun h0 => hc.whole (h.sh.PE h0) fun f hf => h.sync f h0 hf, h.sh.Xc, fun s hs => h.sh.Yw s (hc.U0 hs), h.sh.aI, ?_, ?_, ?_, ?_, ?_, ht, h.sh.Oe, ?_, ?_⟩, rfl, hc.kept, fun h => (by cases h)⟩, ?_, ?_⟩
   · intro y hy
     rcases List.mem_append.1 hy with hy | hy
     · exact h.sh.gt y (by simp [hy])
     · simp at hy; subst hy; exact h.sh.gt x (by simp)
   · have := h.sh.Jf
     rw [List.pairwise_append] at this ⊢
     exact ⟨this.1, by simp, fun y hy z hz => by simp at hz; subst hz; exact this.2.2 y hy x (by simp)⟩
   · intro s hs Qp
     obtain ⟨y, hy, yR⟩ := h.sh.dD s (hc.U0 hs) Qp
     rcases List.mem_append.1 hy with hy | hy
     · exact ⟨y, by simp [hy], yR⟩
     · simp at hy; subst hy; exact ⟨(y.1, y.2.take k), by simp, yR⟩
   · intro i y hy
     rcases Nat.lt_or_ge i s0.length with hi | hi
     · rw [List.getElem?_append_left hi] at hy
       have Hn : y ∈ s0 := List.mem_of_getElem? hy
       have h1 := h.sh.file i y (by rw [List.getElem?_append_left hi]; exact hy)
       rw [if_neg (by simp; omega)] at h1 ⊢
       exact hc.whole h1 fun f hf => h.Og y (by simp [Hn]) (Ag y Hn) f hf
     · have nc : i = s0.length := by
         have := (List.getElem?_eq_some_iff.1 hy).1
         simp at this; omega
       subst nc
       simp at hy
       subst hy
       rw [if_pos (by simp)]
       exact ⟨_, hj3, by rw [SD, hkt]⟩
   · intro e; simp at e
   · intro y hy
     rcases List.mem_append.1 hy with hy | hy
     · exact h.sh.Ld y (by simp [hy])
     · simp at hy; subst hy; exact TU.take k
   · have h8 := lA (Mq TU) j
     rw [hkt] at h8
     exact fun a ha => h8 a (List.mem_append_right _ ha)
   · rw [B7, B7, Eh, Eh]
     exact (List.prefix_append_right_inj _).2 ((List.prefix_append_right_inj _).2 (List.take_prefix _ _))
   · have vx := yQ m hm (by omega)
     rw [B7, Eh] at dG ⊢
     simp only [List.length_append, List.length_take] at dG ⊢
     omega
 · have BQ : ∀ x ∈ sg, x.1 ≠ W.opn := fun x hx he => hl ⟨x, hx, he⟩
   refine ⟨rc ++ An sg, ⟨W.check, rc, sg, [], ⟨fun h0 => hc.whole (h.sh.PE h0) fun f hf => h.sync f h0 hf, h.sh.Xc, fun s hs => h.sh.Yw s (hc.U0 hs), h.sh.aI, h.sh.gt, h.sh.Jf, fun s hs => h.sh.dD s (hc.U0 hs), fun i y hy => ?_, fun _ => rfl, EL, h.sh.Oe, h.sh.Ld, h.sh.uL⟩, rfl, hc.kept, fun h => (by cases h)⟩, List.prefix_refl _, h.fc BQ⟩
   have Hn := List.mem_of_getElem? hy
   exact hc.whole (h.sh.file i y hy) fun f hf => h.Og y Hn (by have := h.opn.2.2 y Hn; have := BQ y Hn; omega) f hf
end TwW
end
section
namespace TwW
open Go Tw Go.RowKit Go.Proofs.Tryz
section
variable {fs gs : Fs} {dir : ByteArray} {cnt cnt' check : Nat} {rc : Bq} {sg : Sg} {tail : List Int} {W : Wl} {safe : Nat}
theorem C1 {s : ByteArray} {x : Option Fl} : BD fs s x s = x := by simp [BD]
theorem Av {s t : ByteArray} {x : Option Fl} (h : t ≠ s) : BD fs s x t = fs t := by simp [BD, h]
theorem Cc {s t : ByteArray} {xs : List Int} (h : t ≠ s) : EY fs s xs t = fs t := Av h
theorem Shape.congr (h : Shape fs dir cnt check rc sg tail) (hc : cnt ≤ cnt') (h1 : 0 < check → gs (AF dir kc check) = fs (AF dir kc check)) (h2 : ∀ x ∈ sg, gs (AF dir ks x.1) = fs (AF dir ks x.1))
   (h3 : ∀ s, (gs s).isSome = true → (fs s).isSome = true ∨ (numOf dir kc s = 0 ∧ numOf dir ks s = 0)) : Shape gs dir cnt' check rc sg tail :=
 { h with
   PE := fun h0 => by obtain ⟨f, hf, e⟩ := h.PE h0; exact ⟨f, by rw [h1 h0, hf], e⟩
   Yw := fun s hs => (h3 s hs).elim (h.Yw s) fun ⟨e, _⟩ => by omega
   aI := Nat.le_trans h.aI hc
   gt := fun x hx => ⟨(h.gt x hx).1, Nat.le_trans (h.gt x hx).2 hc⟩
   dD := fun s hs Ag => (h3 s hs).elim (fun h4 => h.dD s h4 Ag) fun ⟨_, e⟩ => by omega
   file := fun k x hx => by obtain ⟨f, hf, e⟩ := h.file k x hx; exact ⟨f, by rw [h2 x (List.mem_of_getElem? hx), hf], e⟩ }
theorem A7.congr (h : A7 fs cnt W rc sg safe) (hc : cnt ≤ cnt') (h1 : 0 < W.check → gs (AF W.dir kc W.check) = fs (AF W.dir kc W.check)) (h2 : ∀ x ∈ sg, gs (AF W.dir ks x.1) = fs (AF W.dir ks x.1))
   (h3 : ∀ s, (gs s).isSome = true → (fs s).isSome = true ∨ (numOf W.dir kc s = 0 ∧ numOf W.dir ks s = 0)) : A7 gs cnt' W rc sg safe :=
 { sh := h.sh.congr hc h1 h2 h3
   AP := h.AP
   opn := ⟨h.opn.1, by have := h.opn.2.1; omega, h.opn.2.2⟩
   size := h.size
   IZ := h.IZ
   sync := fun f h0 hf => h.sync f h0 (by rw [← h1 h0]; exact hf)
   Og := fun x hx Ag f hf => h.Og x hx Ag f (by rw [← h2 x hx]; exact hf)
   dur := fun x hx he => by obtain ⟨m, f, a, b, c⟩ := h.dur x hx he; exact ⟨m, f, a, by rw [h2 x hx]; exact b, c⟩
   fc := h.fc }
theorem A7.fresh (h : A7 fs cnt W rc sg safe) (hc : cnt ≤ cnt') (hg : ∀ s, s ≠ BB W.dir → gs s = fs s) : A7 gs cnt' W rc sg safe :=
 h.congr hc (fun _ => hg _ (Bi (.inl rfl)).symm) (fun x _ => hg _ (Bi (.inr rfl)).symm) fun s hs => by
   by_cases I7 : s = BB W.dir
   · subst I7; exact .inr ⟨Ki (.inl rfl), Ki (.inr rfl)⟩
   · rw [hg s I7] at hs; exact .inl hs
theorem A7.free (h : A7 fs cnt W rc sg safe) (hn : cnt < 99999999) (BQ : ∀ x ∈ sg, x.1 ≠ W.opn) : fs (AF W.dir ks W.opn) = none := by
 cases hf : fs (AF W.dir ks W.opn) with
 | none => rfl
 | some f =>
   have ho := h.opn
   have e := Bp (dir := W.dir) (kind := ks) (no := W.opn) (by omega)
   obtain ⟨x, hx, Ay⟩ := h.sh.dD _ (by rw [hf]; rfl) (by rw [e]; exact ho.1)
   exact absurd (Ay.trans e) (BQ x hx)
theorem A7.uM {s0 : Sg} {x : Nat × Bq} {r : List Int} (h : A7 fs cnt W rc (s0 ++ [x]) safe) (hn : cnt < 99999998) (he : x.1 = W.opn) (hr : r.length ≤ 65536) (h8 : E7 r) :
   A7 (EY fs (AF W.dir ks W.opn) (frame r)) (cnt + 1) { W with size := W.size + (frame r).length } rc (s0 ++ [(x.1, x.2 ++ [r])]) safe := by
 have hx : x ∈ s0 ++ [x] := by simp
 have Ag : ∀ y ∈ s0, y.1 < W.opn := fun y hy => by
   have := h.sh.Jf
   rw [List.pairwise_append] at this
   have := this.2.2 y hy x (by simp); omega
 have hb : W.opn < 100000000 := by have := h.opn.2.1; omega
 have Ad : ∀ y ∈ s0, AF W.dir ks y.1 ≠ AF W.dir ks W.opn := fun y hy e => by
   have := Ag y hy
   have := Eg (by omega) hb e; omega
 obtain ⟨f, hf, hd⟩ := h.sh.file s0.length x (by simp)
 rw [he] at hf
 simp at hd
 have hg : Good (x.2 ++ [r]) := (h.sh.Ld x hx).append fun r' Ij => by simp at Ij; subst Ij; exact ⟨hr, h8⟩
 have Vd : EY fs (AF W.dir ks W.opn) (frame r) (AF W.dir ks W.opn) = some ⟨f.data ++ frame r, f.GD⟩ := by simp [EY, BD, hf]
 have Cf : ∀ y, y ∈ s0 ++ [(x.1, x.2 ++ [r])] → y ∈ s0 ∨ y = (x.1, x.2 ++ [r]) := fun y hy => by simpa using hy
 refine ⟨⟨fun h0 => ?_, h.sh.Xc, fun s hs => ?_, Nat.le_succ_of_le h.sh.aI, fun y hy => ?_, ?_, fun s hs Qp => ?_, fun i y hy => ?_, fun e => by simp at e, EL, h.sh.Oe, fun y hy => ?_, h.sh.uL⟩, ?_, ⟨h.opn.1, by have := h.opn.2.1; simp only; omega, fun y hy => ?_⟩, fun y hy dH => ?_, fun BQ => absurd he (BQ (x.1, x.2 ++ [r]) (by simp)), fun g h0 hg => ?_, fun y hy U1 g hg => ?_, fun y hy dH => ?_, fun BQ => absurd he (BQ (x.1, x.2 ++ [r]) (by simp))⟩
 · obtain ⟨g, hg, e⟩ := h.sh.PE h0
   exact ⟨g, by rw [Cc BF]; exact hg, e⟩
 · by_cases I7 : s = AF W.dir ks W.opn
   · subst I7; exact h.sh.Yw _ (by rw [hf]; rfl)
   · rw [Cc I7] at hs; exact h.sh.Yw s hs
 · rcases Cf y hy with hy | rfl
   · have := h.sh.gt y (by simp [hy]); exact ⟨this.1, by omega⟩
   · have := h.sh.gt x hx; exact ⟨this.1, by omega⟩
 · have := h.sh.Jf
   rw [List.pairwise_append] at this ⊢
   exact ⟨this.1, by simp, fun y hy z hz => by simp at hz; subst hz; exact this.2.2 y hy x (by simp)⟩
 · have : (fs s).isSome = true := by
     by_cases I7 : s = AF W.dir ks W.opn
     · subst I7; rw [hf]; rfl
     · rw [Cc I7] at hs; exact hs
   obtain ⟨y, hy, yR⟩ := h.sh.dD s this Qp
   rcases List.mem_append.1 hy with hy | hy
   · exact ⟨y, by simp [hy], yR⟩
   · simp at hy; subst hy; exact ⟨(y.1, y.2 ++ [r]), by simp, yR⟩
 · rcases Nat.lt_or_ge i s0.length with hi | hi
   · rw [List.getElem?_append_left hi] at hy
     have Hn : y ∈ s0 := List.mem_of_getElem? hy
     obtain ⟨g, hg, e⟩ := h.sh.file i y (by rw [List.getElem?_append_left hi]; exact hy)
     rw [if_neg (by simp; omega)] at e ⊢
     exact ⟨g, by rw [Cc (Ad y Hn)]; exact hg, e⟩
   · have nc : i = s0.length := by
       have := (List.getElem?_eq_some_iff.1 hy).1
       simp at this; omega
     subst nc
     simp at hy
     subst hy
     refine ⟨_, by rw [he]; exact Vd, ?_⟩
     simp [hd, AU]
 · rcases Cf y hy with hy | rfl
   · exact h.sh.Ld y (by simp [hy])
   · exact hg
 · simp [h.AP]
 · rcases Cf y hy with hy | rfl
   · exact h.opn.2.2 y (by simp [hy])
   · exact h.opn.2.2 x hx
 · rcases Cf y hy with hy | rfl
   · have := Ag y hy; simp only at dH; omega
   · have := h.size x hx he
     simp [this, AU]
 · rw [Cc BF] at hg; exact h.sync g h0 hg
 · rcases Cf y hy with hy | rfl
   · rw [Cc (Ad y hy)] at hg; exact h.Og y (by simp [hy]) U1 g hg
   · simp only at U1; omega
 · rcases Cf y hy with hy | rfl
   · have := Ag y hy; simp only at dH; omega
   · obtain ⟨m, g, hm, hg, hms, hs⟩ := h.dur x hx he
     rw [he, hf] at hg
     cases hg
     refine ⟨m, _, by simp; omega, by rw [he]; exact Vd, ?_, ?_⟩
     · rw [List.take_append_of_le_length hm]; exact hms
     · simp only [B7, Eh, List.length_append, List.length_cons, List.length_nil] at hs ⊢; omega
theorem A7.uN {r : List Int} (h : A7 fs cnt W rc sg safe) (hn : cnt < 99999998) (BQ : ∀ x ∈ sg, x.1 ≠ W.opn) (hr : r.length ≤ 65536) (h8 : E7 r) :
   A7 (EY fs (AF W.dir ks W.opn) (frame r)) (cnt + 1) { W with AP := W.AP ++ [W.opn], size := W.size + (frame r).length } rc (sg ++ [(W.opn, [r])]) safe := by
 have hb : W.opn < 100000000 := by have := h.opn.2.1; omega
 have bQ := h.free (by omega) BQ
 have Ag : ∀ y ∈ sg, y.1 < W.opn := fun y hy => by have := h.opn.2.2 y hy; have := BQ y hy; omega
 have Ad : ∀ y ∈ sg, AF W.dir ks y.1 ≠ AF W.dir ks W.opn := fun y hy e => by
   have := Ag y hy
   have := Eg (by omega) hb e; omega
 have Vd : EY fs (AF W.dir ks W.opn) (frame r) (AF W.dir ks W.opn) = some ⟨frame r, 0⟩ := by simp [EY, BD, bQ]
 have Cf : ∀ y, y ∈ sg ++ [(W.opn, [r])] → y ∈ sg ∨ y = (W.opn, [r]) := fun y hy => by simpa using hy
 have yP := Bp (dir := W.dir) (kind := ks) hb
 have hold : ∀ s, (EY fs (AF W.dir ks W.opn) (frame r) s).isSome = true → (fs s).isSome = true ∨ s = AF W.dir ks W.opn := fun s hs => by
   by_cases I7 : s = AF W.dir ks W.opn
   · exact .inr I7
   · rw [Cc I7] at hs; exact .inl hs
 refine ⟨⟨fun h0 => ?_, h.sh.Xc, fun s hs => ?_, Nat.le_succ_of_le h.sh.aI, fun y hy => ?_, ?_, fun s hs Qp => ?_, fun i y hy => ?_, fun e => by simp at e, EL, h.sh.Oe, fun y hy => ?_, h.sh.uL⟩, ?_, ⟨h.opn.1, by have := h.opn.2.1; simp only; omega, fun y hy => ?_⟩, fun y hy dH => ?_, fun yS => absurd rfl (yS (W.opn, [r]) (by simp)), fun g h0 hg => ?_, fun y hy U1 g hg => ?_, fun y hy dH => ?_, fun yS => absurd rfl (yS (W.opn, [r]) (by simp))⟩
 · obtain ⟨g, hg, e⟩ := h.sh.PE h0
   exact ⟨g, by rw [Cc BF]; exact hg, e⟩
 · rcases hold s hs with hs | rfl
   · exact h.sh.Yw s hs
   · show numOf W.dir kc (AF W.dir ks W.opn) ≤ W.check
     rcases Nat.eq_zero_or_pos (numOf W.dir kc (AF W.dir ks W.opn)) with h0 | h0
     · omega
     · have := IY h0
       have := h.opn.1; omega
 · rcases Cf y hy with hy | rfl
   · have := h.sh.gt y hy; exact ⟨this.1, by omega⟩
   · exact ⟨h.opn.1, h.opn.2.1⟩
 · rw [List.pairwise_append]
   exact ⟨h.sh.Jf, by simp, fun y hy z hz => by simp at hz; subst hz; exact Ag y hy⟩
 · rcases hold s hs with hs | rfl
   · obtain ⟨y, hy, yR⟩ := h.sh.dD s hs Qp
     exact ⟨y, by simp [hy], yR⟩
   · exact ⟨(W.opn, [r]), by simp, yP.symm⟩
 · rcases Nat.lt_or_ge i sg.length with hi | hi
   · rw [List.getElem?_append_left hi] at hy
     have Hn : y ∈ sg := List.mem_of_getElem? hy
     obtain ⟨g, hg, e⟩ := h.sh.file i y hy
     refine ⟨g, by rw [Cc (Ad y Hn)]; exact hg, ?_⟩
     rw [e]; simp
   · have nc : i = sg.length := by
       have := (List.getElem?_eq_some_iff.1 hy).1
       simp at this; omega
     subst nc
     simp at hy
     subst hy
     exact ⟨_, Vd, by simp [AU]⟩
 · rcases Cf y hy with hy | rfl
   · exact h.sh.Ld y hy
   · intro r' Ij; simp at Ij; subst Ij; exact ⟨hr, h8⟩
 · simp [h.AP]
 · rcases Cf y hy with hy | rfl
   · exact h.opn.2.2 y hy
   · exact Nat.le_refl _
 · rcases Cf y hy with hy | rfl
   · have := Ag y hy; simp only at dH; omega
   · have := h.IZ BQ
     simp [this, AU]
 · rw [Cc BF] at hg; exact h.sync g h0 hg
 · rcases Cf y hy with hy | rfl
   · rw [Cc (Ad y hy)] at hg; exact h.Og y hy U1 g hg
   · simp only at U1; omega
 · rcases Cf y hy with hy | rfl
   · have := Ag y hy; simp only at dH; omega
   · refine ⟨0, _, by simp, Vd, by simp [AU], ?_⟩
     have := h.fc BQ
     simp only [B7, Eh, List.length_append, List.length_cons, List.length_nil] at this ⊢; omega
theorem A7.synced {s0 : Sg} {x : Nat × Bq} {f : Fl} (h : A7 fs cnt W rc (s0 ++ [x]) safe) (hn : cnt < 99999998) (he : x.1 = W.opn) (hf : fs (AF W.dir ks W.opn) = some f) :
   A7 (BD fs (AF W.dir ks W.opn) (some ⟨f.data, f.data.length⟩)) cnt W rc (s0 ++ [x]) (rc ++ An (s0 ++ [x])).length := by
 have hx : x ∈ s0 ++ [x] := by simp
 have Ag : ∀ y ∈ s0, y.1 < W.opn := fun y hy => by
   have := h.sh.Jf
   rw [List.pairwise_append] at this
   have := this.2.2 y hy x (by simp); omega
 have hb : W.opn < 100000000 := by have := h.opn.2.1; omega
 have Ad : ∀ y ∈ s0, AF W.dir ks y.1 ≠ AF W.dir ks W.opn := fun y hy e => by
   have := Ag y hy
   have := Eg (by omega) hb e; omega
 obtain ⟨f2, oL, hd⟩ := h.sh.file s0.length x (by simp)
 rw [he, hf] at oL
 cases oL
 simp at hd
 have hold : ∀ s, (BD fs (AF W.dir ks W.opn) (some ⟨f.data, f.data.length⟩) s).isSome = true → (fs s).isSome = true := fun s hs => by
   by_cases I7 : s = AF W.dir ks W.opn
   · subst I7; rw [hf]; rfl
   · rwa [Av I7] at hs
 refine ⟨⟨fun h0 => ?_, h.sh.Xc, fun s hs => h.sh.Yw s (hold s hs), h.sh.aI, h.sh.gt, h.sh.Jf, fun s hs => h.sh.dD s (hold s hs), fun i y hy => ?_, h.sh.uK, EL, h.sh.Oe, h.sh.Ld, h.sh.uL⟩, h.AP, h.opn, h.size, h.IZ, fun g h0 hg => ?_, fun y hy U1 g hg => ?_, fun y hy dH => ?_, fun BQ => absurd he (BQ x hx)⟩
 · obtain ⟨g, hg, e⟩ := h.sh.PE h0
   exact ⟨g, by rw [Av BF]; exact hg, e⟩
 · obtain ⟨g, hg, e⟩ := h.sh.file i y hy
   rcases List.mem_append.1 (List.mem_of_getElem? hy) with Hn | Hn
   · exact ⟨g, by rw [Av (Ad y Hn)]; exact hg, e⟩
   · simp at Hn
     subst Hn
     rw [he, hf] at hg
     cases hg
     exact ⟨⟨f.data, f.data.length⟩, by rw [he]; exact C1, e⟩
 · rw [Av BF] at hg; exact h.sync g h0 hg
 · rcases List.mem_append.1 hy with Hn | Hn
   · rw [Av (Ad y Hn)] at hg; exact h.Og y hy U1 g hg
   · simp at Hn; subst Hn; omega
 · rcases List.mem_append.1 hy with Hn | Hn
   · have := Ag y Hn; omega
   · simp at Hn
     subst Hn
     exact ⟨y.2.length, ⟨f.data, f.data.length⟩, Nat.le_refl _, by rw [he]; exact C1, by rw [List.take_length, ← hd]; exact Nat.le_refl _, Nat.le_refl _⟩
theorem A7.rotate {s0 : Sg} {x : Nat × Bq} (h : A7 fs cnt W rc (s0 ++ [x]) safe) (hn : cnt < 99999998) (he : x.1 = W.opn) (hs : ∀ f, fs (AF W.dir ks W.opn) = some f → f.GD = f.data.length) (dG : safe ≤ (rc ++ An (s0 ++ [x])).length) :
   A7 fs cnt { W with opn := W.opn + 1, size := 0 } rc (s0 ++ [x]) safe := by
 have hx : x ∈ s0 ++ [x] := by simp
 have hle := h.opn.2.2
 refine ⟨h.sh, h.AP, ⟨by have := h.opn.1; simp only; omega, by have := (h.sh.gt x hx).2; simp only; omega, fun y hy => by have := hle y hy; simp only; omega⟩, fun y hy dH => ?_, fun _ => rfl, h.sync, fun y hy U1 f hf => ?_, fun y hy dH => ?_, fun _ => dG⟩
 · have := hle y hy; simp only at dH; omega
 · rcases Nat.lt_or_ge y.1 W.opn with h1 | h1
   · exact h.Og y hy h1 f hf
   · have : y.1 = W.opn := by have := hle y hy; omega
     rw [this] at hf
     exact hs f hf
 · have := hle y hy; simp only at dH; omega
end
end TwW
end
section
namespace TwW
open Go Tw Go.RowKit Go.Proofs.Tryz
structure Out (dir : ByteArray) (fs gs : Fs) : Prop where
 out : ∀ s, BP s (dir ++ Ck) = false → gs s = fs s
 new : ∀ s, (gs s).isSome = true → (fs s).isSome = true ∨ 0 < numOf dir kc s ∨ 0 < numOf dir ks s ∨ s = BB dir
theorem Out.refl {dir : ByteArray} {fs : Fs} : Out dir fs fs := ⟨fun _ _ => rfl, fun _ h => .inl h⟩
theorem Out.trans {dir : ByteArray} {fs gs hs : Fs} (h : Out dir fs gs) (g : Out dir gs hs) : Out dir fs hs := ⟨fun s hb => (g.out s hb).trans (h.out s hb), fun s hb => (g.new s hb).elim (h.new s) .inr⟩
theorem TV {s dir : ByteArray} {l : List UInt8} (h : s.data.toList = dir.data.toList ++ 47 :: l) : BP s (dir ++ Ck) = true := by
 unfold BP
 rw [decide_eq_true_iff, C6, h]
 exact ⟨l, by simp [Ck]⟩
theorem C7 {dir kind : ByteArray} {n : Nat} : BP (AF dir kind n) (dir ++ Ck) = true := TV (l := kind.data.toList ++ Je n) (by rw [Cg, KJ]; simp)
theorem Lw {dir : ByteArray} : BP (BB dir) (dir ++ Ck) = true := TV (l := [110, 101, 119]) (by rw [BB, C6])
theorem Out.del {dir s : ByteArray} {fs : Fs} (h : BP s (dir ++ Ck) = true) : Out dir fs (TwW.BD fs s none) := ⟨fun t ht => Av fun e => (by rw [e, h] at ht; cases ht), fun t ht => by
 by_cases e : t = s
 · subst e; rw [C1] at ht; cases ht
 · rw [Av e] at ht; exact .inl ht⟩
theorem Out.put {dir kind : ByteArray} {n : Nat} {fs : Fs} {x : Option Fl} (hk : kind = kc ∨ kind = ks) (h0 : 0 < n) (h1 : n < 100000000) : Out dir fs (TwW.BD fs (AF dir kind n) x) := ⟨fun t ht => Av fun e => (by rw [e, C7] at ht; cases ht), fun t ht => by
 by_cases e : t = AF dir kind n
 · subst e
   have := Bp (dir := dir) (kind := kind) h1
   rcases hk with rfl | rfl
   · exact .inr (.inl (by omega))
   · exact .inr (.inr (.inl (by omega)))
 · rw [Av e] at ht; exact .inl ht⟩
theorem Out.app {dir kind : ByteArray} {n : Nat} {fs : Fs} {xs : List Int} (hk : kind = kc ∨ kind = ks) (h0 : 0 < n) (h1 : n < 100000000) : Out dir fs (TwW.EY fs (AF dir kind n) xs) := Out.put hk h0 h1
section
variable {σ σ' τ : Hp} {d b : Nat} {D : Dk} {W : Wl} {R : Rr}
structure lB (σ : Hp) (d : Nat) (D : Dk) (τ : Hp) (L : Hp → Dk → Prop) (fs FG : Fs) (c : Nat) (R : Rr) : Prop where
 ok : ∀ σ', L σ' ⟨fs, true, D.armed, c⟩ → R (.returned (.int .i64 0)) σ'
 bad : D.armed = true → ∀ σ' gs, GK FG gs → Ai σ' d ⟨gs, false, false, c⟩ τ → R (.returned (.int .i64 60)) σ'
theorem lB.wr {fs FG : Fs} {c : Nat} {Sd S : List Nat} {p : Option Addr} {cc : Nat} {T : TypeId} (h2 : FH (σ.off Sd) b d W S p cc T) (h3 : Ext τ ((σ.off Sd).off S)) (h : lB σ d D τ (fun σ' D' => Aj σ' d b D' W τ) fs FG c R) : Wr σ Sd d D fs FG c R :=
 ⟨fun σ' S' hd hx => h.ok σ' (Aj.step h2 h3 hd hx), fun ha σ' S' gs hg hd hx => h.bad ha σ' gs hg (Aj.step h2 h3 hd hx).fX⟩
theorem lB.wrd {fs FG : Fs} {c : Nat} {Sd : List Nat} (h3 : Ext τ (σ.off Sd)) (h : lB σ d D τ (fun σ' D' => Ai σ' d D' τ) fs FG c R) : Wr σ Sd d D fs FG c R :=
 ⟨fun σ' S' hd hx => h.ok σ' ⟨S', hd, h3.trans hx⟩, fun ha σ' S' gs hg hd hx => h.bad ha σ' gs hg ⟨S', hd, h3.trans hx⟩⟩
theorem qm {s : ByteArray} {p : Option Addr} {n c : Nat} {xs : List Int} (h : Aj σ d b D W τ) (EB : D.up = true) (hn : Ae s = true) (hc : OW D) (hx : By .u8 τ p n xs) (hlen : ((D.files s).getD ⟨[], 0⟩).data.length + n ≤ 4194304)
   (hw : lB σ d D τ (fun σ' D' => Aj σ' d b D' W τ) (EY D.files s xs) (EY D.files s xs) (D.cnt + 1) R) : Spec prog 135 #[.pointer (some ⟨d, 0, none⟩), .string s, .slice p n c] σ R := by
 obtain ⟨Sd, S, q, cc, T, h1, h2, h3⟩ := h
 exact OX h1 EB hn hc (hx.mono (h3.trans (Ext.Cp _ _))) hlen (hw.wr h2 h3)
theorem uO {s : ByteArray} {f : Fl} (h : Aj σ d b D W τ) (EB : D.up = true) (hn : Ae s = true) (hf : D.files s = some f)
   (hw : lB σ d D τ (fun σ' D' => Aj σ' d b D' W τ) (BD D.files s (some ⟨f.data, f.data.length⟩)) D.files D.cnt R) : Spec prog 133 #[.pointer (some ⟨d, 0, none⟩), .string s] σ R := by
 obtain ⟨Sd, S, q, cc, T, h1, h2, h3⟩ := h
 exact TP h1 EB hn hf (hw.wr h2 h3)
theorem Pd {s : ByteArray} {f : Fl} (h : Aj σ d b D W τ) (EB : D.up = true) (hn : Ae s = true) (hf : D.files s = some f)
   (hw : lB σ d D τ (fun σ' D' => Aj σ' d b D' W τ) (BD D.files s none) D.files D.cnt R) : Spec prog 138 #[.pointer (some ⟨d, 0, none⟩), .string s] σ R := by
 obtain ⟨Sd, S, q, cc, T, h1, h2, h3⟩ := h
 exact OY h1 EB hn hf (hw.wr h2 h3)
theorem Ia {K : Hp → Prop} (h : K σ) : Spec prog 132 #[.int .i64 0] σ (AB R fun v σ1 => v = .tuple #[] ∧ K σ1) :=
 Qa.start ⟨fun hh => absurd rfl hh, fun _ => ⟨rfl, h⟩⟩
theorem Lx {K : Hp → Prop} (h : R (.panicked (bM 60)) σ) : Spec prog 132 #[.int .i64 60] σ (AB R fun v σ1 => v = .tuple #[] ∧ K σ1) :=
 Qa.start ⟨fun _ => h, fun hh => absurd (by decide) hh⟩
def hasB (W : Wl) : Bool := decide (W.AP.getLast? = some W.opn)
theorem Qt (h : Aj σ d b D W τ) (hR : R (.returned (.bool (hasB W))) σ) : Spec prog 131 #[.pointer (some ⟨b, 0, none⟩)] σ R := by
 have r := h.rd
 obtain ⟨p, c, hc, hl, HF⟩ := r.AP
 have FW := HF.big
 refine OT.start ⟨b, 0, rfl, p, _, c, hl, fun JY => ?_, fun hz => ?_⟩
 · have AOW : 0 < W.AP.length := by omega
   have JR : W.AP.getLast? = some (W.AP[W.AP.length - 1]) := by rw [List.getLast?_eq_getElem?, List.getElem?_eq_getElem (by omega)]
   have hg : (Iq W.AP)[W.AP.length - 1]? = some ((W.AP[W.AP.length - 1] : Nat) : Int) := by
     rw [Iq, List.getElem?_map, List.getElem?_eq_getElem (by omega)]; rfl
   obtain ⟨BG, cG, rfl, SF⟩ := HF.at hg
   have e : Int.toNat (((W.AP.length : Nat) : Int) - 1) = W.AP.length - 1 := by omega
   refine ⟨_, _, c, hl, _, _, c, hl, by unfold AN; omega, BG, cG, rfl, by omega, _, by rw [e]; exact SF, W.opn, r.opn, ?_⟩
   have : decide (((W.AP[W.AP.length - 1] : Nat) : Int) = (W.opn : Int)) = hasB W := by
     unfold hasB
     rw [JR]
     apply decide_eq_decide.2
     simp only [Option.some.injEq]
     omega
   dsimp only; rw [this]; exact hR
 · have : hasB W = false := by
     have : W.AP = [] := List.eq_nil_of_length_eq_zero (by omega)
     simp [hasB, this]
   rw [this] at hR; exact hR
theorem EM {fs : Fs} {cnt : Nat} {rc : Bq} {sg : Sg} {safe : Nat} (h : A7 fs cnt W rc sg safe) : (hasB W = true → ∃ s0 x, sg = s0 ++ [x] ∧ x.1 = W.opn) ∧ (hasB W = false → ∀ x ∈ sg, x.1 ≠ W.opn) := by
 constructor
 · intro hh
   simp only [hasB, decide_eq_true_eq] at hh
   rcases List.eq_nil_or_concat sg with rfl | ⟨s0, x, rfl⟩
   · rw [h.AP] at hh; simp at hh
   · refine ⟨s0, x, by simp, ?_⟩
     rw [h.AP] at hh; simpa using hh
 · intro hh x hx he
   obtain ⟨s0, rfl, _⟩ := dE h.sh.Jf h.opn.2.2 hx he
   have : hasB W = true := by simp [hasB, h.AP, he]
   rw [this] at hh; cases hh
theorem Xe : ∀ (l : List Nat) (lo hi : Nat), l.Pairwise (· < ·) → (∀ x ∈ l, lo ≤ x ∧ x < hi) → l.length ≤ hi - lo
 | [], _, _, _, _ => Nat.zero_le _
 | a :: l, lo, hi, hp, hb => by
   rw [List.pairwise_cons] at hp
   have h1 := Xe l (a + 1) hi hp.2 fun x hx => ⟨hp.1 x hx, (hb x (by simp [hx])).2⟩
   have h2 := hb a (by simp)
   simp; omega
theorem A7.len {fs : Fs} {cnt : Nat} {rc : Bq} {sg : Sg} {safe : Nat} (h : A7 fs cnt W rc sg safe) : W.AP.length ≤ cnt + 1 := by
 have := Xe W.AP 0 (cnt + 1) (by rw [h.AP, List.pairwise_map]; exact h.sh.Jf) (fun x hx => by
   rw [h.AP] at hx
   obtain ⟨y, hy, rfl⟩ := List.mem_map.1 hx
   have := h.sh.gt y hy; omega)
 simpa using this
structure yT (d b : Nat) (D : Dk) (W : Wl) (τ : Hp) (rc : Bq) (sg : Sg) (safe : Nat) (xs : List Int) (rok : Hp → Prop) (lC : Hp → Prop) : Prop where
 ok : ∀ σ' D' W' KM Mr, Aj σ' d b D' W' τ → D'.up = true → D'.armed = D.armed → D'.cnt = D.cnt + 1 → W'.dir = W.dir → (W'.AP.length ≤ W.AP.length + 1 ∧ W'.size ≤ 4096 + (frame xs).length ∧ hasB W' = true ∧ W.AP <+: W'.AP ∧ ∀ s, (D'.files s).isSome = true → (D.files s).isSome = true ∨ s = AF W'.dir ks W'.opn) → A7 D'.files D'.cnt W' rc KM Mr → safe ≤ Mr → An KM = An sg ++ [xs] → Out W.dir D.files D'.files →
   D'.files (BB W.dir) = D.files (BB W.dir) → W'.check = W.check → (hasB W = false → W'.AP = W.AP ++ [W.opn] ∧ W'.opn = W.opn ∧ W'.size = W.size + (frame xs).length) → (hasB W = true → W.size < 4096 → W'.AP = W.AP ∧ W'.opn = W.opn ∧ W'.size = W.size + (frame xs).length) → (hasB W = false ∨ W.size < 4096 → D'.files = EY D.files (AF W.dir ks W.opn) (frame xs)) → rok σ'
 bad : D.armed = true → ∀ σ' D' told, Ai σ' d D' τ → D'.up = false → D'.armed = false → (D'.cnt ≤ D.cnt + 1 ∧ ∀ s, (D'.files s).isSome = true → (D.files s).isSome = true ∨ s = AF W.dir ks W.opn ∨ s = AF W.dir ks (W.opn + 1)) → G2 D'.files W.dir D'.cnt told → told <+: rc ++ An sg ++ [xs] → safe ≤ told.length → lC σ'
theorem uP {b0 b1 : Nat} {pf : Option Addr} {cf : Nat} {fr : List Int} (h : Aj σ d b D W τ) (t0 : τ b0 = some (.cells #[.pointer (some ⟨b, 0, none⟩)] 158 (0, 0))) (t1 : τ b1 = some (.cells #[.slice pf fr.length cf] 84 (0, 0))) (EU : W.size + fr.length ≤ 4194304)
   (hR : ∀ σ', Aj σ' d b D { W with size := W.size + fr.length } τ → R (.returned (.tuple #[])) σ') : BM.GO R b0 b1 σ := by
 have r := h.rd
 have hx := h.ext
 refine BM.GP ⟨_, AD (hx _ _ t0) rfl, b, 0, rfl, W.size, r.size, pf, _, cf, AD (hx _ _ t1) rfl, by unfold AN; omega, ?_⟩
 have e : ((W.size : Int) + (fr.length : Int)) = ((W.size + fr.length : Nat) : Int) := by omega
 rw [e]
 exact h.st (i := 0 + 5) (W' := { W with size := W.size + fr.length }) (by omega) rfl (fun p n c => rfl) hR
theorem uQ {b0 b1 : Nat} {pf : Option Addr} {cf : Nat} {xs : List Int} {rc : Bq} {sg : Sg} {safe uR : Nat} {D0 : Dk} {W0 : Wl} (h : Aj σ d b D W τ) (ht : Tb τ) (t0 : τ b0 = some (.cells #[.pointer (some ⟨b, 0, none⟩)] 158 (0, 0))) (t1 : τ b1 = some (.cells #[.slice pf (frame xs).length cf] 84 (0, 0)))
   (hx : By .u8 τ pf (frame xs).length (frame xs)) (Rs : xs.length ≤ 65536) (h8 : E7 xs) (EB : D.up = true) (Hi : D.cnt < 67108864) (hfew : OW D) (hd : CE W.dir = true) (Ap : A7 D.files D.cnt W rc sg safe) (EU : W.size ≤ 4096) (hss : uR ≤ safe)
   (hD : D.armed = D0.armed ∧ D.cnt = D0.cnt ∧ Out W.dir D0.files D.files ∧ D.files (BB W.dir) = D0.files (BB W.dir) ∧ ∀ s, (D.files s).isSome = true → (D0.files s).isSome = true) (ho0 : W.opn = W0.opn ∨ W.opn = W0.opn + 1) (hW : W.dir = W0.dir ∧ W.AP = W0.AP ∧ W.check = W0.check ∧ (hasB W0 = false → W = W0) ∧ (hasB W0 = true → W0.size < 4096 → W = W0) ∧ (hasB W0 = false ∨ W0.size < 4096 → W = W0 ∧ D.files = D0.files))
   (hR : yT d b D0 W0 τ rc sg uR xs (fun σ' => R (.returned (.tuple #[])) σ') (fun σ' => R (.panicked (bM 60)) σ')) : BM.CC R b0 b1 σ := by
 have r := h.rd
 have Ru := h.ext
 have N8 : W.dir.size ≤ 32 := by simp [CE] at hd; exact hd.2
 have yU := Ap.opn.2.1
 have XG := Oa Rs
 have Jb : Ae (AF W.dir ks W.opn) = true := E3 hd (.inr rfl) (by omega)
 refine BM.BS ⟨_, AD (Ru _ _ t0) rfl, b, 0, rfl, _, r.ptr, _, AD (Ru _ _ t0) rfl, _, AD (Ru _ _ t0) rfl, b, 0, rfl, W.opn, r.opn, pf, _, cf, AD (Ru _ _ t1) rfl, ?_⟩
 refine DH (kind := ks) r.dir N8 (.inr rfl) (by omega) (ht.mono Ru) fun σ1 BJ => ⟨_, rfl, Kp.CM BJ, ?_⟩
 have h1 := h.mono BJ
 have hlen : ((D.files (AF W.dir ks W.opn)).getD ⟨[], 0⟩).data.length ≤ 4096 := by
   cases hb : hasB W with
   | true =>
     obtain ⟨s0, x, rfl, he⟩ := (EM Ap).1 hb
     obtain ⟨f, hf, e⟩ := Ap.sh.file s0.length x (by simp)
     rw [he] at hf
     rw [hf]
     have := Ap.size x (by simp) he
     simp at e
     simp [e]; omega
   | false =>
     rw [Ap.free (by omega) ((EM Ap).2 hb)]; simp
 have lD : ∀ KM : Sg, An KM = An sg ++ [xs] → rc ++ An KM = rc ++ An sg ++ [xs] := fun KM e => by rw [e, List.append_assoc]
 have AES : ∀ W' KM, W'.dir = W.dir → A7 (EY D.files (AF W.dir ks W.opn) (frame xs)) (D.cnt + 1) W' rc KM safe → An KM = An sg ++ [xs] → D.armed = true → ∀ σ' gs, GK (EY D.files (AF W.dir ks W.opn) (frame xs)) gs → Ai σ' d ⟨gs, false, false, D.cnt + 1⟩ τ → R (.panicked (bM 60)) σ' := by
   intro W' KM Qu hl he ha σ' gs hg Ms
   obtain ⟨told, g1, g2, g3⟩ := hl.dF hg
   rw [lD KM he] at g2
   rw [Qu] at g1
   refine hR.bad (hD.1 ▸ ha) σ' _ told Ms rfl rfl ⟨by simp only; omega, fun s hs => ?_⟩ (hW.1 ▸ g1) g2 (by omega)
   have aJ := hg.U0 hs
   by_cases I7 : s = AF W.dir ks W.opn
   · rw [I7, hW.1]
     rcases ho0 with e | e <;> rw [e]
     · exact .inr (.inl rfl)
     · exact .inr (.inr rfl)
   · rw [Cc I7] at aJ
     exact .inl (hD.2.2.2.2 s aJ)
 have okR : ∀ W' KM Mr, W'.check = W.check → (hasB W = false → W'.AP = W.AP ++ [W.opn] ∧ W'.opn = W.opn ∧ W'.size = W.size + (frame xs).length) → (hasB W = true → W'.AP = W.AP ∧ W'.opn = W.opn ∧ W'.size = W.size + (frame xs).length) → W'.dir = W.dir → (W'.AP.length ≤ W.AP.length + 1 ∧ W'.size ≤ 4096 + (frame xs).length ∧ hasB W' = true ∧ W.AP <+: W'.AP ∧ W'.opn = W.opn) → A7 (EY D.files (AF W.dir ks W.opn) (frame xs)) (D.cnt + 1) W' rc KM Mr → safe ≤ Mr → An KM = An sg ++ [xs] → ∀ σ', Aj σ' d b ⟨EY D.files (AF W.dir ks W.opn) (frame xs), true, D.armed, D.cnt + 1⟩ W' τ → R (.returned (.tuple #[])) σ' := by
   intro W' KM Mr q1 q2 q3 Qu dI hl hle he σ' qn
   refine hR.ok σ' _ W' KM Mr qn rfl hD.1 (by simp only; omega) (Qu.trans hW.1) ⟨by rw [← hW.2.1]; exact dI.1, dI.2.1, dI.2.2.1, by rw [← hW.2.1]; exact dI.2.2.2.1, fun s hs => ?_⟩ hl (by omega) he ?_ ?_ (q1.trans hW.2.2.1) (fun hb => by rw [← hW.2.2.2.1 hb]; exact q2 (by rw [hW.2.2.2.1 hb]; exact hb)) (fun hb hz => by rw [← hW.2.2.2.2.1 hb hz]; exact q3 (by rw [hW.2.2.2.2.1 hb hz]; exact hb)) (fun hz => by obtain ⟨e1, e2⟩ := hW.2.2.2.2.2 hz; rw [← e1, ← e2])
   · by_cases I7 : s = AF W.dir ks W.opn
     · exact .inr (by rw [I7, Qu, dI.2.2.2.2])
     · have aJ : (EY D.files (AF W.dir ks W.opn) (frame xs) s).isSome = true := hs
       rw [Cc I7] at aJ
       exact .inl (hD.2.2.2.2 s aJ)
   · exact hW.1 ▸ hD.2.2.1.trans (Out.app (.inr rfl) (by have := Ap.opn.1; omega) (by omega))
   · have := hD.2.2.2.1
     rw [← hW.1]
     show EY D.files (AF W.dir ks W.opn) (frame xs) (BB W.dir) = _
     rw [Cc (Bi (.inr rfl))]; exact this
 refine qm h1 EB Jb hfew hx (by omega) ⟨fun σ2 h2 => ⟨_, rfl, Ia ?_⟩, fun ha σ2 gs hg Ms => ⟨_, rfl, Lx ?_⟩⟩
 · have Ay := h2.ext
   refine ⟨_, AD (Ay _ _ t0) rfl, Qt h2 ⟨_, rfl, fun hb => ?_, fun hb => ?_⟩⟩
   · have BQ := (EM Ap).2 hb
     have hl := Ap.uN (by omega) BQ Rs h8
     obtain ⟨p53, c53, ARd, AET, AOY⟩ := h2.rd.AP
     refine ⟨_, AD (Ay _ _ t0) rfl, _, AD (Ay _ _ t0) rfl, b, 0, rfl, p53, _, c53, AET, _, AD (Ay _ _ t0) rfl, b, 0, rfl, W.opn, h2.rd.opn, fun NG AEU => ?_⟩
     have Kx : W.AP.length ≤ 67108864 := Nat.le_trans (Ap.len) (by omega)
     have vO : ∀ b, τ b ≠ none → b ≠ NG := fun b' h1 e => by
       cases h2 : τ b' with
       | none => exact h1 h2
       | some o => have := Ay _ _ h2; rw [e, AEU] at this; cases this
     refine (h2.app (Φ := fun _ AEV => BM.GO R b0 b1 AEV) AET Kx AEU (K := fun σa σb => Kp [b0] σa σb) (fun σ' Cm => fun k hk o ho => ?_) fun σ3 h3 => ?_).mono fun v σ3 ⟨p', n', c', e1, e2, e3⟩ => ⟨p', n', c', e1, e2, b, 0, rfl, e3⟩
     · simp only [List.mem_singleton] at hk
       subst hk
       rw [Hp.AH (vO k (by rw [t0]; simp)), Ay _ _ t0] at ho
       cases ho
       exact Cm _ _ t0
     · exact uP h3 t0 t1 (by simp only; omega) fun σ4 h4 => okR { W with AP := W.AP ++ [W.opn], size := W.size + (frame xs).length } _ _ rfl (fun _ => ⟨rfl, rfl, rfl⟩) (fun hh => by rw [hb] at hh; cases hh) rfl ⟨by simp, by simp only; omega, by simp [hasB], List.prefix_append _ _, rfl⟩ hl (Nat.le_refl _) (by simp [An]) σ4 h4
   · obtain ⟨s0, x, rfl, he⟩ := (EM Ap).1 hb
     have hl := Ap.uM (by omega) he Rs h8
     refine uP h2 t0 t1 (by omega) fun σ3 h3 => okR { W with size := W.size + (frame xs).length } _ _ rfl (fun hh => by rw [hb] at hh; cases hh) (fun _ => ⟨rfl, rfl, rfl⟩) rfl ⟨by simp, by simp only; omega, hb, List.prefix_refl _, rfl⟩ hl (Nat.le_refl _) ?_ σ3 h3
     simp [An]
 · cases hb : hasB W with
   | true =>
     obtain ⟨s0, x, rfl, he⟩ := (EM Ap).1 hb
     exact AES { W with size := W.size + (frame xs).length } _ rfl (Ap.uM (by omega) he Rs h8) (by simp [An]) ha σ2 gs hg Ms
   | false => exact AES { W with AP := W.AP ++ [W.opn], size := W.size + (frame xs).length } _ rfl (Ap.uN (by omega) ((EM Ap).2 hb) Rs h8) (by simp [An]) ha σ2 gs hg Ms
end
end TwW
end
section
namespace TwW
open Go Tw Go.RowKit Go.Proofs.Tryz
section
variable {σ σ' τ : Hp} {d b : Nat} {D : Dk} {W : Wl} {R : Rr}
theorem AKb : Enters prog 130 := fun args w => call130 args w
theorem A7.size_le {fs : Fs} {cnt : Nat} {rc : Bq} {safe : Nat} {s0 : Sg} {x : Nat × Bq} (h : A7 fs cnt W rc (s0 ++ [x]) safe) (he : x.1 = W.opn) : ∃ f, fs (AF W.dir ks W.opn) = some f ∧ f.data.length = W.size := by
 obtain ⟨f, hf, e⟩ := h.sh.file s0.length x (by simp)
 rw [he] at hf
 have := h.size x (by simp) he
 simp at e
 exact ⟨f, hf, by rw [e, this]⟩
theorem A7.qp {fs : Fs} {cnt : Nat} {rc : Bq} {sg : Sg} {safe : Nat} (h : A7 fs cnt W rc sg safe) : safe ≤ (rc ++ An sg).length := by
 by_cases hl : ∃ x ∈ sg, x.1 = W.opn
 · obtain ⟨x, hx, he⟩ := hl
   obtain ⟨m, f, hm, _, _, hs⟩ := h.dur x hx he
   omega
 · exact h.fc fun x hx he => hl ⟨x, hx, he⟩
theorem fe {b0 b1 : Nat} {pf : Option Addr} {cf : Nat} {xs : List Int} {rc : Bq} {sg : Sg} {safe : Nat} (h : Aj σ d b D W τ) (ht : Tb τ) (t0 : τ b0 = some (.cells #[.pointer (some ⟨b, 0, none⟩)] 158 (0, 0))) (t1 : τ b1 = some (.cells #[.slice pf (frame xs).length cf] 84 (0, 0)))
   (hx : By .u8 τ pf (frame xs).length (frame xs)) (Rs : xs.length ≤ 65536) (h8 : E7 xs) (EB : D.up = true) (Hi : D.cnt < 67108864) (hfew : OW D) (hd : CE W.dir = true) (Ap : A7 D.files D.cnt W rc sg safe)
   (hR : yT d b D W τ rc sg safe xs (fun σ' => R (.returned (.tuple #[])) σ') (fun σ' => R (.panicked (bM 60)) σ')) : Spec prog 130 #[.pointer (some ⟨b0, 0, none⟩), .pointer (some ⟨b1, 0, none⟩)] σ R := by
 have r := h.rd
 have Ru := h.ext
 have N8 : W.dir.size ≤ 32 := by simp [CE] at hd; exact hd.2
 have yU := Ap.opn.2.1
 have keep : W.size ≤ 4096 → BM.CC R b0 b1 σ := fun EU => uQ h ht t0 t1 hx Rs h8 EB Hi hfew hd Ap EU (Nat.le_refl _) ⟨rfl, rfl, Out.refl, rfl, fun _ hs => hs⟩ (.inl rfl) ⟨rfl, rfl, rfl, fun _ => rfl, fun _ _ => rfl, fun _ => ⟨rfl, rfl⟩⟩ hR
 refine BM.start ⟨_, AD (Ru _ _ t0) rfl, Qt h ⟨_, rfl, fun hb => ?_, fun hb => ?_⟩⟩
 · obtain ⟨s0, x, rfl, he⟩ := (EM Ap).1 hb
   refine ⟨_, AD (Ru _ _ t0) rfl, b, 0, rfl, W.size, r.size, fun FW => ?_, fun MC => keep (by omega)⟩
   obtain ⟨f, hf, XG⟩ := Ap.size_le he
   have Jb : Ae (AF W.dir ks W.opn) = true := E3 hd (.inr rfl) (by omega)
   refine ⟨_, AD (Ru _ _ t0) rfl, b, 0, rfl, _, r.ptr, _, AD (Ru _ _ t0) rfl, _, AD (Ru _ _ t0) rfl, b, 0, rfl, W.opn, r.opn, ?_⟩
   refine DH (kind := ks) r.dir N8 (.inr rfl) (by omega) (ht.mono Ru) fun σ1 BJ => ⟨_, rfl, Kp.CM BJ, ?_⟩
   have h1 := h.mono BJ
   have qq := Ap.synced (by omega) he hf
   refine uO h1 EB Jb hf ⟨fun σ2 h2 => ⟨_, rfl, Ia ?_⟩, fun ha σ2 gs hg Ms => ⟨_, rfl, Lx ?_⟩⟩
   · have Ay := h2.ext
     have Jc : ∀ s, (TwW.BD D.files (AF W.dir ks W.opn) (some ⟨f.data, f.data.length⟩) s).isSome = true → (D.files s).isSome = true := fun s hs => by
       by_cases I7 : s = AF W.dir ks W.opn
       · rw [I7, hf]; rfl
       · rwa [Av I7] at hs
     have AKc := qq.rotate (by omega) he (fun g hg => by rw [C1] at hg; cases hg; rfl) (Nat.le_refl _)
     refine ⟨_, AD (Ay _ _ t0) rfl, b, 0, rfl, W.opn, h2.rd.opn, by unfold AN; omega, ?_⟩
     have e : ((W.opn : Int) + 1) = ((W.opn + 1 : Nat) : Int) := by omega
     rw [e]
     refine h2.st (i := 0 + 4) (W' := { W with opn := W.opn + 1 }) (by omega) rfl (fun p n c => rfl) fun σ3 h3 => ?_
     have DJ := h3.ext
     refine ⟨_, AD (DJ _ _ t0) rfl, b, 0, rfl, ?_⟩
     refine h3.st (i := 0 + 5) (x := 0) (W' := { W with opn := W.opn + 1, size := 0 }) (by omega) rfl (fun p n c => rfl) fun σ4 h4 => ?_
     exact uQ (D0 := D) (W0 := W) h4 ht t0 t1 hx Rs h8 rfl Hi (hfew.sub (Nat.le_refl _) Jc) hd AKc (Nat.zero_le _) Ap.qp ⟨rfl, rfl, Out.put (.inr rfl) (by have := Ap.opn.1; omega) (by omega), Av (Bi (.inr rfl)), Jc⟩ (.inr rfl) ⟨rfl, rfl, rfl, fun hh => (by rw [hb] at hh; cases hh), fun _ hz => (by omega), fun hz => (by rcases hz with hz | hz; rw [hb] at hz; cases hz; omega)⟩ hR
   · obtain ⟨told, g1, g2, g3⟩ := Ap.dF hg
     exact hR.bad ha σ2 _ told Ms rfl rfl ⟨by simp only; omega, fun s hs => .inl (hg.U0 hs)⟩ g1 (g2.trans (List.prefix_append _ _)) g3
 · have BQ := (EM Ap).2 hb
   exact keep (by rw [Ap.IZ BQ]; omega)
theorem U2 {p : Option Addr} {n c : Nat} {xs : List Int} {rc : Bq} {sg : Sg} {safe : Nat} (h : Aj σ d b D W τ) (ht : Tb τ) (hx : By .u8 τ p n xs) (h8 : E7 xs) (EB : D.up = true) (Hi : D.cnt < 67108864) (hd : CE W.dir = true) (Ap : A7 D.files D.cnt W rc sg safe)
   (lE : 65536 < n → ∀ σ', Aj σ' d b D W τ → R (.returned (.int .i64 70)) σ')
   (hR : n ≤ 65536 → yT d b D W τ rc sg safe xs (fun σ' => R (.returned (.int .i64 0)) σ') (fun σ' => R (.returned (.int .i64 60)) σ')) (hfew : OW D := by refine .inl ?_; first | omega | (dsimp only [dk]; omega) | (dsimp only; omega)) : Spec prog 63 #[.pointer (some ⟨b, 0, none⟩), .slice p n c] σ R := by
 have hnx : xs.length = n := hx.1
 refine J1.start fun b2 G8 => ?_
 obtain ⟨τ1, h1, x1, t0⟩ := h.box (o := .cells #[.pointer (some ⟨b, 0, none⟩)] 158 (0, 0)) G8
 refine Qk (hx.mono (x1.trans h1.ext)) (fun hl => ⟨_, _, _, _, rfl, fun b5 XJ => ?_⟩) fun hle p' n' c' σ1 ho BJ => ⟨_, _, _, _, rfl, fun b5 XJ => ?_⟩
 · obtain ⟨τ2, h2, x2, t5⟩ := h1.box (o := .cells #[.slice none 0 0] 84 (0, 0)) XJ
   refine AJ.store (v := .slice none 0 0) Un (Hp.AA _ _ _) rfl (by simp) (by simp [Value.cells, Value.oneCell']) ?_
   rw [Hp.set_set]
   obtain ⟨τ3, h3, x3, t5⟩ := h1.box (o := .cells (DU #[.slice none 0 0] 0 (Value.slice none 0 0).cells.toList) 84 (0, 0)) XJ
   exact ⟨fun _ => lE hl _ (h3.FC (x1.trans x3)), fun hh => absurd (by decide) hh⟩
 · obtain ⟨τ2, h2, x2, qt⟩ := h1.grow BJ
   have XG : (frame xs).length = n' := by have := ho.1; simpa using this
   subst XG
   have Vf : By .u8 τ2 p' (frame xs).length (frame xs) := (AS.rd ho).mono qt
   refine AJ.store (v := .slice p' (frame xs).length c') Un (Hp.AA _ _ _) rfl (by simp) (by simp [Value.cells, Value.oneCell']) ?_
   rw [Hp.set_set]
   obtain ⟨τ3, h3, x3, t5⟩ := h2.box (o := .cells (DU #[.slice none 0 0] 0 (Value.slice p' (frame xs).length c').cells.toList) 84 (0, 0)) XJ
   have hτ : Ext τ τ3 := x1.trans (x2.trans x3)
   have hR' := hR hle
   refine ⟨fun hh => absurd rfl hh, fun _ => KL AKb ?_⟩
   refine fe h3 (ht.mono hτ) (x3 _ _ (x2 _ _ t0)) t5 (Vf.mono x3) (by omega) h8 EB Hi hfew hd Ap
     ⟨fun σ' D' W' KM Mr a1 a2 a3 a4 a5 a6 a7 a8 a9 a10 a11 a12 a13 a14 a15 => .inl ⟨rfl, _, rfl, hR'.ok σ' D' W' KM Mr (a1.FC hτ) a2 a3 a4 a5 a6 a7 a8 a9 a10 a11 a12 a13 a14 a15⟩, fun ha σ' D' told a1 a2 a3 a4 a5 a6 a7 => .inr ⟨60, rfl, _, rfl, hR'.bad ha σ' D' told (a1.FC hτ) a2 a3 a4 a5 a6 a7⟩⟩
theorem aK {rc : Bq} {sg : Sg} {safe : Nat} (h : Aj σ d b D W τ) (ht : Tb τ) (EB : D.up = true) (Hi : D.cnt < 67108864) (hd : CE W.dir = true) (Ap : A7 D.files D.cnt W rc sg safe)
   (hR : ∀ σ' D', Aj σ' d b D' W τ → D'.up = true → D'.armed = D.armed → D'.cnt = D.cnt → A7 D'.files D'.cnt W rc sg (rc ++ An sg).length → Out W.dir D.files D'.files → D'.files (BB W.dir) = D.files (BB W.dir) → ((hasB W = true → ∃ f, D.files (AF W.dir ks W.opn) = some f ∧ D'.files = BD D.files (AF W.dir ks W.opn) (some ⟨f.data, f.data.length⟩)) ∧ ∀ s, (D'.files s).isSome = true → (D.files s).isSome = true) → R (.returned (.int .i64 0)) σ')
   (KH : D.armed = true → ∀ σ' D' told, Ai σ' d D' τ → D'.up = false → D'.armed = false → (D'.cnt = D.cnt ∧ ∀ s, (D'.files s).isSome = true → (D.files s).isSome = true) → G2 D'.files W.dir D'.cnt told → told <+: rc ++ An sg → safe ≤ told.length → R (.returned (.int .i64 60)) σ') : Spec prog 65 #[.pointer (some ⟨b, 0, none⟩)] σ R := by
 have r := h.rd
 have N8 : W.dir.size ≤ 32 := by simp [CE] at hd; exact hd.2
 have yU := Ap.opn.2.1
 refine Mb.start (Qt h ⟨_, rfl, fun hb => ?_, fun hb => ⟨b, 0, rfl, _, r.ptr, W.opn, r.opn, ?_⟩⟩)
 · have BQ := (EM Ap).2 hb
   exact hR σ D h EB rfl rfl { Ap with dur := fun x hx he => absurd he (BQ x hx), fc := fun _ => Nat.le_refl _ } Out.refl rfl ⟨fun hh => (by rw [hb] at hh; cases hh), fun _ hs => hs⟩
 · obtain ⟨s0, x, rfl, he⟩ := (EM Ap).1 hb
   obtain ⟨f, hf, XG⟩ := Ap.size_le he
   have Jb : Ae (AF W.dir ks W.opn) = true := E3 hd (.inr rfl) (by omega)
   refine DH (kind := ks) r.dir N8 (.inr rfl) (by omega) (ht.mono h.ext) fun σ1 BJ => ⟨_, rfl, Kp.CM BJ, ?_⟩
   refine uO (h.mono BJ) EB Jb hf ⟨fun σ2 h2 => ⟨_, rfl, ?_⟩, fun ha σ2 gs hg Ms => ⟨_, rfl, ?_⟩⟩
   · exact hR σ2 _ h2 rfl rfl rfl (Ap.synced (by omega) he hf) (Out.put (.inr rfl) (by have := Ap.opn.1; omega) (by omega)) (Av (Bi (.inr rfl))) ⟨fun _ => ⟨f, hf, rfl⟩, fun s hs => by
       by_cases I7 : s = AF W.dir ks W.opn
       · rw [I7, hf]; rfl
       · have aJ : (TwW.BD D.files (AF W.dir ks W.opn) (some ⟨f.data, f.data.length⟩) s).isSome = true := hs
         rwa [Av I7] at aJ⟩
   · obtain ⟨told, g1, g2, g3⟩ := Ap.dF hg
     exact KH ha σ2 _ told Ms rfl rfl ⟨rfl, fun s hs => hg.U0 hs⟩ g1 g2 g3
end
end TwW
end
section
namespace TwW
open Go Tw Go.RowKit Go.Proofs.Tryz
theorem TW : ∀ (c l m : List UInt8), c ++ l ≤ c ++ m → l ≤ m
 | [], _, _, h => h
 | a :: c, l, m, h => by
   rcases List.cons_le_cons_iff.1 (show a :: (c ++ l) ≤ a :: (c ++ m) from h) with h1 | ⟨_, h2⟩
   · exact absurd h1 (by simp [UInt8.lt_irrefl])
   · exact TW c l m h2
theorem Xf : ∀ {l m : List Nat}, l.Pairwise (· < ·) → m.Pairwise (· < ·) → (∀ x, x ∈ l ↔ x ∈ m) → l = m
 | [], [], _, _, _ => rfl
 | [], b :: m, _, _, h => by have := (h b).2 (by simp); cases this
 | a :: l, [], _, _, h => by have := (h a).1 (by simp); cases this
 | a :: l, b :: m, hl, hm, h => by
   rw [List.pairwise_cons] at hl hm
   have ff : a = b := by
     rcases List.mem_cons.1 ((h a).1 (by simp)) with e | e
     · exact e
     · rcases List.mem_cons.1 ((h b).2 (by simp)) with e2 | e2
       · exact e2.symm
       · have h1 := hm.1 a e; have h2 := hl.1 b e2; omega
   subst ff
   rw [Xf hl.2 hm.2 fun x => ⟨fun hx => ?_, fun hx => ?_⟩]
   · rcases List.mem_cons.1 ((h x).1 (by simp [hx])) with e | e
     · have := hl.1 x hx; omega
     · exact e
   · rcases List.mem_cons.1 ((h x).2 (by simp [hx])) with e | e
     · have := hm.1 x hx; omega
     · exact e
theorem lF {dir s t : ByteArray} (hs : 0 < numOf dir ks s) (ht : 0 < numOf dir ks t) (h : s.data.toList ≤ t.data.toList) : numOf dir ks s ≤ numOf dir ks t := by
 obtain ⟨e1, l1⟩ := Dx hs
 obtain ⟨e2, l2⟩ := Dx ht
 rw [e1, e2, Cg, Cg] at h
 have h2 := uI _ _ (by rw [IW l1, IW l2]) (KI _) (KI _) (TW _ _ _ h)
 rwa [Mp, Mp] at h2
def ET (dir : ByteArray) (check : Nat) (L : List ByteArray) : List Nat := (L.map (numOf dir ks)).filter fun n => decide (check < n)
theorem Mt {fs : Fs} {dir pre : ByteArray} {check : Nat} : ∀ {L : List ByteArray}, L.Pairwise (fun a b => a.data.toList ≤ b.data.toList) → L.Nodup → (ET dir check L).Pairwise (· < ·)
 | [], _, _ => by simp [ET]
 | s :: L, hs, hn => by
   rw [List.pairwise_cons] at hs
   rw [List.nodup_cons] at hn
   have ih := Mt (fs := fs) (pre := pre) (dir := dir) (check := check) hs.2 hn.2
   unfold ET at ih ⊢
   rw [List.map_cons, List.filter_cons]
   split
   · rename_i hc
     rw [List.pairwise_cons]
     refine ⟨fun n SB => ?_, ih⟩
     obtain ⟨h1, h2⟩ := List.mem_filter.1 SB
     obtain ⟨t, ht, rfl⟩ := List.mem_map.1 h1
     simp only [decide_eq_true_eq] at hc h2
     have hle := lF (dir := dir) (s := s) (t := t) (by omega) (by omega) (hs.1 t ht)
     rcases Nat.lt_or_ge (numOf dir ks s) (numOf dir ks t) with h | h
     · exact h
     · exfalso
       have e : numOf dir ks s = numOf dir ks t := by omega
       have h3 := (Dx (dir := dir) (kind := ks) (s := s) (by omega)).1
       have h4 := (Dx (dir := dir) (kind := ks) (s := t) (by omega)).1
       rw [e, ← h4] at h3
       exact hn.1 (h3 ▸ ht)
   · exact ih
theorem Qv {dir kind s : ByteArray} (h : 0 < numOf dir kind s) : BP s (dir ++ Ck) = true := by
 rw [(Dx h).1]; exact C7
theorem aL {fs : Fs} {dir : ByteArray} {cnt check : Nat} {rc : Bq} {sg : Sg} {tail : List Int} {L : List ByteArray} (h : Shape fs dir cnt check rc sg tail) (hc : cnt < 99999999) (hL : Names fs (dir ++ Ck) L) : ET dir check L = sg.map (·.1) := by
 refine Xf (Mt (fs := fs) (pre := dir) hL.sorted hL.nodup) (by rw [List.pairwise_map]; exact h.Jf) fun n => ⟨fun hn => ?_, fun hn => ?_⟩
 · obtain ⟨h1, h2⟩ := List.mem_filter.1 hn
   obtain ⟨s, hs, rfl⟩ := List.mem_map.1 h1
   obtain ⟨x, hx, e⟩ := h.dD s ((hL.mem s).1 hs).1 (by simpa using h2)
   exact List.mem_map.2 ⟨x, hx, e⟩
 · obtain ⟨x, hx, rfl⟩ := List.mem_map.1 hn
   obtain ⟨k, hk⟩ := List.getElem?_of_mem hx
   have hg := h.gt x hx
   have hf := (h.file k x hk).U0
   have e : numOf dir ks (AF dir ks x.1) = x.1 := Bp (by omega)
   exact List.mem_filter.2 ⟨List.mem_map.2 ⟨_, (hL.mem _).2 ⟨hf, C7⟩, e⟩, by simpa using hg.1⟩
def Ky (dir : ByteArray) (L : List ByteArray) : Nat := (L.map (numOf dir kc)).foldl max 0
theorem foldl_max : ∀ (l : List Nat) (a m : Nat), a ≤ m → (∀ x ∈ l, x ≤ m) → (a = m ∨ m ∈ l) → l.foldl max a = m
 | [], a, m, h, _, hm => by rcases hm with h | h; exact h; cases h
 | x :: l, a, m, h, hb, hm => by
   rw [List.foldl_cons]
   have hx := hb x (by simp)
   refine foldl_max l (max a x) m (by omega) (fun y hy => hb y (by simp [hy])) ?_
   rcases hm with h1 | h1
   · left; omega
   · rcases List.mem_cons.1 h1 with rfl | h1
     · left; omega
     · exact .inr h1
theorem dJ {fs : Fs} {dir : ByteArray} {cnt check : Nat} {rc : Bq} {sg : Sg} {tail : List Int} {L : List ByteArray} (h : Shape fs dir cnt check rc sg tail) (hc : cnt < 99999999) (hL : Names fs (dir ++ Ck) L) : Ky dir L = check := by
 refine foldl_max _ _ _ (Nat.zero_le _) (fun n hn => ?_) ?_
 · obtain ⟨s, hs, rfl⟩ := List.mem_map.1 hn
   exact h.Yw s ((hL.mem s).1 hs).1
 · rcases Nat.eq_zero_or_pos check with h0 | h0
   · exact .inl h0.symm
   · have qu := h.aI
     exact .inr (List.mem_map.2 ⟨AF dir kc check, (hL.mem _).2 ⟨(h.PE h0).U0, C7⟩, Bp (by omega)⟩)
theorem fg {dir s : ByteArray} {L : List ByteArray} : Ky dir (L ++ [s]) = max (Ky dir L) (numOf dir kc s) := by simp [Ky, List.foldl_append]
def junk (dir : ByteArray) (check : Nat) (s : ByteArray) : Bool := (decide (0 < numOf dir kc s) && decide (numOf dir kc s < check)) || (decide (0 < numOf dir ks s) && decide (numOf dir ks s ≤ check))
open Classical in
noncomputable def DV (fs : Fs) (p : ByteArray → Bool) (L : List ByteArray) : Fs := fun s => if s ∈ L ∧ p s = true then none else fs s
theorem Xg {fs : Fs} {p : ByteArray → Bool} : DV fs p [] = fs := by funext s; simp [DV]
theorem Qw {fs : Fs} {p : ByteArray → Bool} {L : List ByteArray} {s t : ByteArray} (Pp : ¬ t = s) : DV fs p (L ++ [s]) t = DV fs p L t := by
 have e : (t ∈ L ++ [s] ∧ p t = true) ↔ (t ∈ L ∧ p t = true) := by simp [Pp]
 unfold DV
 by_cases hc : t ∈ L ∧ p t = true
 · rw [if_pos (e.2 hc), if_pos hc]
 · rw [if_neg fun h => hc (e.1 h), if_neg hc]
theorem Ib {fs : Fs} {p : ByteArray → Bool} {L : List ByteArray} {s : ByteArray} : DV fs p (L ++ [s]) = if p s = true then BD (DV fs p L) s none else DV fs p L := by
 funext t
 by_cases hp : p s = true
 · rw [if_pos hp]
   by_cases Pp : t = s
   · subst Pp
     unfold DV
     rw [if_pos ⟨by simp, hp⟩, C1]
   · rw [Qw Pp, Av Pp]
 · rw [if_neg hp]
   by_cases Pp : t = s
   · subst Pp
     unfold DV
     rw [if_neg fun h => hp h.2, if_neg fun h => hp h.2]
   · exact Qw Pp
theorem dK {fs : Fs} {p : ByteArray → Bool} {L : List ByteArray} {s : ByteArray} (h : s ∉ L) : DV fs p L s = fs s := by simp [DV, h]
theorem Shape.del {fs : Fs} {dir : ByteArray} {cnt check : Nat} {rc : Bq} {sg : Sg} {tail : List Int} {p : ByteArray → Bool} {L : List ByteArray} (h : Shape fs dir cnt check rc sg tail) (hc : cnt < 99999999) (hp : ∀ s, p s = true → (numOf dir kc s = 0 ∨ numOf dir kc s < check) ∧ numOf dir ks s ≤ check) : Shape (DV fs p L) dir cnt check rc sg tail := by
 have qu := h.aI
 refine h.congr (Nat.le_refl _) (fun h0 => ?_) (fun x hx => ?_) fun s hs => ?_
 · unfold DV
   rw [if_neg]
   rintro ⟨_, hps⟩
   have := (hp _ hps).1
   rw [Bp (by omega)] at this
   omega
 · have hg := h.gt x hx
   unfold DV
   rw [if_neg]
   rintro ⟨_, hps⟩
   have := (hp _ hps).2
   rw [Bp (by omega)] at this
   omega
 · unfold DV at hs
   split at hs
   · cases hs
   · exact .inl hs
theorem Out.DV {fs : Fs} {dir : ByteArray} {p : ByteArray → Bool} {L : List ByteArray} (hp : ∀ s, p s = true → BP s (dir ++ Ck) = true) : Out dir fs (TwW.DV fs p L) := by
 refine ⟨fun s hs => ?_, fun s hs => ?_⟩
 · unfold TwW.DV
   rw [if_neg]
   rintro ⟨_, h⟩
   rw [hp s h] at hs; cases hs
 · unfold TwW.DV at hs
   split at hs
   · cases hs
   · exact .inl hs
theorem U3 {dir : ByteArray} {check : Nat} {s : ByteArray} (h : junk dir check s = true) : BP s (dir ++ Ck) = true ∧ (numOf dir kc s = 0 ∨ numOf dir kc s < check) ∧ numOf dir ks s ≤ check := by
 simp only [junk, Bool.or_eq_true, Bool.and_eq_true, decide_eq_true_eq] at h
 rcases h with ⟨h1, h2⟩ | ⟨h1, h2⟩
 · have := IY h1
   exact ⟨Qv h1, .inr h2, by omega⟩
 · refine ⟨Qv h1, .inl ?_, h2⟩
   rcases Nat.eq_zero_or_pos (numOf dir kc s) with h0 | h0
   · exact h0
   · have := IY h0; omega
abbrev nh (σ : Hp) (p : Option Addr) (n : Nat) (L : List ByteArray) : Prop := GM 1 σ p n (L.map .string)
theorem nh.at {σ : Hp} {p : Option Addr} {n k : Nat} {L : List ByteArray} {s : ByteArray} (h : nh σ p n L) (hk : L[k]? = some s) : ∃ b o, p = some ⟨b, o, none⟩ ∧ σ.ld ⟨b, o + k * 1, none⟩ = some (.string s) := by
 obtain ⟨h1, _, h2⟩ := h
 have Ag := (List.getElem?_eq_some_iff.1 hk).1
 rcases h2 with h2 | ⟨b, o, hp, hl⟩
 · simp at h1; omega
 · refine ⟨b, o, hp, ?_⟩
   rw [Nat.mul_one]
   exact hl.get (by rw [List.getElem?_map, hk]; rfl)
theorem nh.len {σ : Hp} {p : Option Addr} {n : Nat} {L : List ByteArray} (h : nh σ p n L) : L.length = n := by have := h.1; simpa using this
theorem nh.mono {σ σ' : Hp} {p : Option Addr} {n : Nat} {L : List ByteArray} (h : nh σ p n L) (hx : Ext σ σ') : nh σ' p n L := GM.mono hx h
section
variable {σ τ : Hp} {d b : Nat} {D : Dk} {W : Wl} {R : Rr} {p1 : Option Addr} {n1 c1 : Nat} {L : List ByteArray} {fs0 : Fs} {cnt : Nat}
abbrev dk (fs : Fs) (cnt : Nat) : Dk := ⟨fs, true, false, cnt⟩
theorem yV {check : Nat} (hL : Names fs0 (W.dir ++ Ck) L) {fs : Fs} (JO : ∀ s ∈ L, junk W.dir check s = true → fs s = fs0 s) (SB : ∀ s, (fs0 s).isSome = true → Ae s = true) (hd : W.dir.size ≤ 32) (ht : nh τ p1 n1 L) (Qy : n1 ≤ 67108864)
   (hR : ∀ σ', Aj σ' d b (dk (DV fs (junk W.dir check) L) cnt) { W with check := check, AP := ET W.dir check L } τ → R (.returned (.tuple #[])) σ') :
   ∀ (m k : Nat) (σ : Hp), n1 - k = m → k ≤ n1 → Aj σ d b (dk (DV fs (junk W.dir check) (L.take k)) cnt) { W with check := check, AP := ET W.dir check (L.take k) } τ → Am.R7 R (some ⟨b, 0, none⟩) p1 n1 c1 n1 k σ := by
 intro m
 have hlen := ht.len
 induction m with
 | zero =>
   intro k σ hm hk h
   rw [List.take_of_length_le (by omega)] at h
   exact Am.Md ⟨fun hh => by omega, fun _ => hR σ h⟩
 | succ m ih =>
   intro k σ hm hk h
   have hr := h.rd
   obtain ⟨s, hs⟩ : ∃ s, L[k]? = some s := ⟨_, List.getElem?_eq_getElem (by omega)⟩
   obtain ⟨F8, PY, rfl, hl⟩ := (ht.mono h.ext).at hs
   have hsL : s ∈ L := List.mem_of_getElem? hs
   have kY := (hL.mem s).1 hsL
   have Ly := AQ hs
   have MF : s ∉ L.take k := by
     have := hL.nodup.sublist (List.take_sublist (k + 1) L)
     rw [Ly, List.nodup_append] at this
     exact fun hm => this.2.2 s hm s (by simp) rfl
   have Kx : ET W.dir check (L.take (k + 1)) = ET W.dir check (L.take k) ++ (if check < numOf W.dir ks s then [numOf W.dir ks s] else []) := by
     rw [Ly]; unfold ET
     rw [List.map_append, List.filter_append]
     simp only [List.map_cons, List.map_nil, List.filter_cons, List.filter_nil]
     congr 1
     split <;> simp_all
   have next : ∀ σ', Aj σ' d b (dk (DV fs (junk W.dir check) (L.take (k + 1))) cnt) { W with check := check, AP := ET W.dir check (L.take (k + 1)) } τ → Am.FA R (some ⟨b, 0, none⟩) (some ⟨F8, PY, none⟩) n1 c1 n1 k σ' := fun σ' h' =>
     Am.I2 ⟨by unfold AN; omega, ih (k + 1) σ' (by omega) (by omega) h'⟩
   have qw : (ET W.dir check (L.take k)).length ≤ 67108864 := by
     refine Nat.le_trans (List.length_filter_le _ _) ?_
     rw [List.length_map, List.length_take]; omega
   have lG : junk W.dir check s = true → ∃ tO : Option Addr, Hp.ld σ ⟨b, 0, none⟩ = some (.pointer tO) ∧ Spec prog 138 #[(.pointer tO), (.string s)] σ (AB R (fun Zs A0 => ∃ tP : Int, Zs = (.int .i64 tP) ∧ Spec prog 132 #[(.int .i64 tP)] A0 (AB R (fun v_4 OK => v_4 = (.tuple #[]) ∧ Am.FA R (some ⟨b, 0, none⟩) (some ⟨F8, PY, none⟩) n1 c1 n1 k OK)))) := fun hj => by
     obtain ⟨f, hf⟩ := Option.isSome_iff_exists.1 kY.1
     have my := U3 hj
     refine ⟨_, hr.ptr, Pd h rfl (SB s kY.1) (f := f) (by show DV fs (junk W.dir check) (L.take k) s = some f; rw [dK MF, JO s hsL hj, hf]) ⟨fun σ2 h2 => ⟨0, rfl, Ia (next σ2 ?_)⟩, fun ha => by cases ha⟩⟩
     rw [Ly, Ib, if_pos hj, ← Ly, Kx, if_neg (by omega), List.append_nil]
     exact h2
   have uS : junk W.dir check s = false → numOf W.dir ks s ≤ check → Am.FA R (some ⟨b, 0, none⟩) (some ⟨F8, PY, none⟩) n1 c1 n1 k σ := fun hj hle => next σ (by
     rw [Ly, Ib, if_neg (by rw [hj]; simp), ← Ly, Kx, if_neg (by omega), List.append_nil]
     exact h)
   have AKe : numOf W.dir kc s = 0 ∨ ¬ numOf W.dir kc s < check → check < numOf W.dir ks s → ∃ iH : Option Addr, ∃ nW : Nat, ∃ iI : Nat, Hp.ld σ ⟨b, (0 + 3), none⟩ = some (.slice iH nW iI) ∧ ∀ Yr : Nat, σ Yr = none → AJ prog (Builtin.append_ #[26, 26] 26 #[(.slice iH nW iI), (.slice (some ⟨Yr, 0, none⟩) 1 1)]) (Hp.set σ Yr (.cells #[(.int .i64 (numOf W.dir ks s))] 3 (0, 0))) (fun Zs A0 => ∃ nX : Option Addr, ∃ nY : Nat, ∃ c91 : Nat, Zs = (.slice nX nY c91) ∧ AJ prog (Instr.storeAt 26 (.pointer (some ⟨b, (0 + 3), none⟩)) (.slice nX nY c91)) A0 (fun _ OK => Am.FA R (some ⟨b, 0, none⟩) (some ⟨F8, PY, none⟩) n1 c1 n1 k OK)) := fun hc hs => by
     obtain ⟨iH, iI, ARi, AEZ, _⟩ := hr.AP
     refine ⟨iH, _, iI, AEZ, fun Yr AKf => ?_⟩
     refine (h.app (Φ := fun _ σ' => Am.FA R (some ⟨b, 0, none⟩) (some ⟨F8, PY, none⟩) n1 c1 n1 k σ') AEZ qw AKf (K := fun _ _ => True) (fun _ _ => trivial) fun σ3 h3 => next σ3 ?_).mono fun v σ3 ⟨p', n', c', e1, _, e3⟩ => ⟨p', n', c', e1, e3⟩
     have hj : ¬ junk W.dir check s = true := by
       simp only [junk, Bool.or_eq_true, Bool.and_eq_true, decide_eq_true_eq]; omega
     rw [Ly, Ib, if_neg hj, ← Ly, Kx, if_pos hs]
     exact h3
   refine Am.Md ⟨fun _ => ⟨F8, PY, rfl, by omega, s, by simpa using hl, KK (dir := W.dir) (kind := kc) hr.dir hd (.inl rfl) ⟨_, rfl, KK (dir := W.dir) (kind := ks) hr.dir hd (.inr rfl) ⟨_, rfl, ?_⟩⟩⟩, fun hh => by omega⟩
   have hk0 : 0 < numOf W.dir kc s → numOf W.dir ks s = 0 := IY
   have AEa : σ.ld ⟨b, 0 + 2, none⟩ = some (.int .i64 (check : Nat)) := hr.check
   refine ⟨fun hc => ⟨b, 0, rfl, _, AEa, fun Ag => lG (by simp only [junk, Bool.or_eq_true, Bool.and_eq_true, decide_eq_true_eq]; left; omega), fun Fb => ⟨fun hs => ?_, fun hs => ⟨fun aJ => absurd aJ hs, fun _ => uS ?_ ?_⟩⟩⟩, fun hc => ⟨fun hs => ⟨b, 0, rfl, _, AEa, fun hle => lG (by simp only [junk, Bool.or_eq_true, Bool.and_eq_true, decide_eq_true_eq]; right; omega), fun hgt => ⟨fun _ => AKe (by omega) (by omega), fun hn => absurd hs hn⟩⟩, fun hs => ⟨fun aJ => absurd aJ hs, fun _ => uS ?_ ?_⟩⟩⟩
   · have := hk0 (by omega); omega
   · simp only [junk, Bool.or_eq_false_iff, Bool.and_eq_false_iff, decide_eq_false_iff_not]; omega
   · omega
   · simp only [junk, Bool.or_eq_false_iff, Bool.and_eq_false_iff, decide_eq_false_iff_not]; omega
   · omega
end
end TwW
end
section
namespace TwW
open Go Tw Go.RowKit Go.Proofs.Tryz
def JS (dir s : ByteArray) : Bool := decide (s = BB dir)
section
variable {σ τ : Hp} {d b : Nat} {D : Dk} {W : Wl} {R : Rr} {p1 : Option Addr} {n1 c1 : Nat} {L : List ByteArray} {fs0 : Fs} {cnt : Nat}
theorem Xh {dir : ByteArray} {check : Nat} : junk dir check (BB dir) = false := by simp [junk, Ki (.inl rfl), Ki (.inr rfl)]
noncomputable def Oh (fs0 : Fs) (dir : ByteArray) (L : List ByteArray) : Fs := DV (DV fs0 (JS dir) L) (junk dir (Ky dir L)) L
theorem aM (h : Aj σ d b (dk fs0 cnt) W τ) (hW : W.check = 0 ∧ W.AP = []) (hL : Names fs0 (W.dir ++ Ck) L) (SB : ∀ s, (fs0 s).isSome = true → Ae s = true) (hd : W.dir.size ≤ 32) (ht : nh τ p1 n1 L) (Qy : n1 ≤ 67108864)
   (hR : ∀ σ', Aj σ' d b (dk (Oh fs0 W.dir L) cnt) { W with check := Ky W.dir L, AP := ET W.dir (Ky W.dir L) L } τ → R (.returned (.tuple #[])) σ') :
   Spec prog 173 #[.pointer (some ⟨b, 0, none⟩), .slice p1 n1 c1] σ R := by
 refine Am.start ?_
 have hlen := ht.len
 suffices H : ∀ (m k : Nat) (σ : Hp), n1 - k = m → k ≤ n1 → Aj σ d b (dk (DV fs0 (JS W.dir) (L.take k)) cnt) { W with check := Ky W.dir (L.take k), AP := [] } τ → Am.Zm R (some ⟨b, 0, none⟩) p1 n1 c1 p1 n1 c1 n1 k σ from
   H n1 0 σ rfl (Nat.zero_le _) (by
     rw [List.take_zero, Xg]
     have : ({ W with check := Ky W.dir [], AP := [] } : Wl) = W := by
       cases W; simp only at hW; simp [Ky, hW.1, hW.2]
     rw [this]; exact h)
 intro m
 induction m with
 | zero =>
   intro k σ hm hk h
   rw [List.take_of_length_le (by omega)] at h
   refine Am.Lq ⟨fun hh => by omega, fun _ => ?_⟩
   refine yV (W := W) (fs := DV fs0 (JS W.dir) L) (fs0 := fs0) hL (fun s hs hj => ?_) SB hd ht Qy hR n1 0 σ rfl (Nat.zero_le _) ?_
   · unfold DV
     rw [if_neg]
     rintro ⟨_, hn⟩
     simp only [JS, decide_eq_true_eq] at hn
     rw [hn, Xh] at hj; cases hj
   · rw [List.take_zero, Xg]; exact h
 | succ m ih =>
   intro k σ hm hk h
   have hr := h.rd
   obtain ⟨s, hs⟩ : ∃ s, L[k]? = some s := ⟨_, List.getElem?_eq_getElem (by omega)⟩
   obtain ⟨F8, PY, hp1, hl⟩ := (ht.mono h.ext).at hs
   have hsL : s ∈ L := List.mem_of_getElem? hs
   have kY := (hL.mem s).1 hsL
   have Ly := AQ hs
   have MF : s ∉ L.take k := by
     have := hL.nodup.sublist (List.take_sublist (k + 1) L)
     rw [Ly, List.nodup_append] at this
     exact fun hm => this.2.2 s hm s (by simp) rfl
   have next : ∀ σ', Aj σ' d b (dk (DV fs0 (JS W.dir) (L.take (k + 1))) cnt) { W with check := Ky W.dir (L.take k), AP := [] } τ → Am.Wc R (some ⟨b, 0, none⟩) p1 n1 c1 s p1 n1 c1 n1 k σ' := fun σ' h' => by
     have Ij := h'.rd
     refine Am.Uk ⟨b, 0, rfl, (Ky W.dir (L.take k) : Nat), Ij.check, KK (dir := W.dir) (kind := kc) Ij.dir hd (.inl rfl) ⟨_, rfl, fun _ _ _ hb => hb, ?_⟩⟩
     have e : (if ((Ky W.dir (L.take k) : Nat) : Int) < (numOf W.dir kc s : Int) then (numOf W.dir kc s : Int) else ((Ky W.dir (L.take k) : Nat) : Int)) = ((Ky W.dir (L.take (k + 1)) : Nat) : Int) := by
       rw [Ly, fg]; split <;> omega
     rw [e]
     refine h'.st (i := 0 + 2) (W' := { W with check := Ky W.dir (L.take (k + 1)), AP := [] }) (by omega) rfl (fun p n c => rfl) fun σ2 h2 => ⟨by unfold AN; omega, ih (k + 1) σ2 (by omega) (by omega) h2⟩
   refine Am.Lq ⟨fun _ => ⟨F8, PY, hp1, by omega, s, by simpa using hl, Qq (dir := W.dir) hr.dir hd ⟨_, rfl, fun he => ?_, fun Ad => ?_⟩⟩, fun hh => by omega⟩
   · rw [Qg, decide_eq_true_eq] at he
     have I7 : s = BB W.dir := kx he
     obtain ⟨f, hf⟩ := Option.isSome_iff_exists.1 kY.1
     refine ⟨b, 0, rfl, _, hr.ptr, Pd h rfl (SB s kY.1) (f := f) (by show DV fs0 (JS W.dir) (L.take k) s = some f; rw [dK MF, hf]) ⟨fun σ2 h2 => ⟨0, rfl, Ia ?_⟩, fun ha => by cases ha⟩⟩
     rw [MN hp1]
     refine next σ2 ?_
     rw [Ly, Ib, if_pos (by simp [JS, I7])]
     exact h2
   · rw [Qg, decide_eq_false_iff_not] at Ad
     have I7 : ¬ s = BB W.dir := fun e => Ad (by rw [e])
     rw [MN hp1]
     refine next σ ?_
     rw [Ly, Ib, if_neg (by simp [JS, I7])]
     exact h
theorem Xi {fs : Fs} {dir : ByteArray} {check : Nat} {rc : Bq} {sg : Sg} {tail : List Int} (h : Shape fs dir cnt check rc sg tail) (hc : cnt < 99999999) (hL : Names fs (dir ++ Ck) L) :
   Shape (Oh fs dir L) dir cnt check rc sg tail ∧ Out dir fs (Oh fs dir L) ∧ Oh fs dir L (BB dir) = none ∧ ∀ s f, Oh fs dir L s = some f → fs s = some f := by
 have hm := dJ h hc hL
 have hn : ∀ s, JS dir s = true → BP s (dir ++ Ck) = true ∧ (numOf dir kc s = 0 ∨ numOf dir kc s < check) ∧ numOf dir ks s ≤ check := fun s hs => by
   simp only [JS, decide_eq_true_eq] at hs
   subst hs
   exact ⟨Lw, .inl (Ki (.inl rfl)), by rw [Ki (.inr rfl)]; omega⟩
 unfold Oh
 rw [hm]
 refine ⟨(h.del hc fun s hs => (hn s hs).2).del hc fun s hs => (U3 hs).2, (Out.DV fun s hs => (hn s hs).1).trans (Out.DV fun s hs => (U3 hs).1), ?_, fun s f hs => ?_⟩
 · have e : DV fs (JS dir) L (BB dir) = none := by
     unfold DV
     by_cases CV : BB dir ∈ L
     · rw [if_pos ⟨CV, by simp [JS]⟩]
     · rw [if_neg fun hh => CV hh.1]
       cases hf : fs (BB dir) with
       | none => rfl
       | some f => exact absurd ((hL.mem _).2 ⟨by rw [hf]; rfl, Lw⟩) CV
   unfold DV at e ⊢
   rw [if_neg (by rw [Xh]; simp), e]
 · unfold DV at hs
   split at hs
   · cases hs
   · split at hs
     · cases hs
     · exact hs
end
end TwW
end
section
namespace TwW
open Go Tw Go.RowKit Go.Proofs.Tryz
section
variable {σ τ : Hp} {d b : Nat} {D : Dk} {W : Wl} {R : Rr} {dir : ByteArray}
def laid (fs : Fs) (dir name : ByteArray) (x : List Int) : Fs := fun s => if s = name then some ⟨x, x.length⟩ else if s = BB dir then none else fs s
structure aN (τ : Hp) (d b : Nat) (dir : ByteArray) : Prop where
 ptr : τ.ld ⟨b, 0, none⟩ = some (.pointer (some ⟨d, 0, none⟩))
 dir : τ.ld ⟨b, 0 + 1, none⟩ = some (.string dir)
theorem aN.mono {τ τ' : Hp} {d b : Nat} {dir : ByteArray} (h : aN τ d b dir) (hx : Ext τ τ') : aN τ' d b dir := ⟨hx.ld h.ptr, hx.ld h.dir⟩
theorem FH.qx {b : Nat} {S : List Nat} {p : Option Addr} {c : Nat} {T : TypeId} (h : FH τ b d W S p c T) : aN τ d b W.dir := ⟨AD h.obj rfl, AD h.obj rfl⟩
theorem Aj.opened (h : Aj σ d b D W τ) : ∃ τ' S p c T, Ai σ d D τ' ∧ FH τ' b d W S p c T ∧ Ext τ (τ'.off S) := by
 obtain ⟨Sd, S, p, c, T, h1, h2, h3⟩ := h
 exact ⟨σ.off Sd, S, p, c, T, ⟨Sd, h1, Ext.refl _⟩, h2, h3⟩
theorem Aj.close {τ' : Hp} {S : List Nat} {p : Option Addr} {c : Nat} {T : TypeId} (h : Ai σ d D τ') (hw : FH τ' b d W S p c T) : Aj σ d b D W (τ'.off S) := by
 obtain ⟨Sd, h1, h2⟩ := h
 exact ⟨Sd, S, p, c, T, h1, hw.mono h2, h2.off S⟩
theorem qy {s : ByteArray} {p : Option Addr} {n c : Nat} {xs : List Int} (h : Ai σ d D τ) (EB : D.up = true) (hn : Ae s = true) (hc : OW D) (hx : By .u8 τ p n xs) (hlen : ((D.files s).getD ⟨[], 0⟩).data.length + n ≤ 4194304)
   (hw : lB σ d D τ (fun σ' D' => Ai σ' d D' τ) (EY D.files s xs) (EY D.files s xs) (D.cnt + 1) R) : Spec prog 135 #[.pointer (some ⟨d, 0, none⟩), .string s, .slice p n c] σ R := by
 obtain ⟨Sd, h1, h3⟩ := h
 exact OX h1 EB hn hc (hx.mono h3) hlen (hw.wrd h3)
theorem AEb {s : ByteArray} {f : Fl} (h : Ai σ d D τ) (EB : D.up = true) (hn : Ae s = true) (hf : D.files s = some f)
   (hw : lB σ d D τ (fun σ' D' => Ai σ' d D' τ) (BD D.files s (some ⟨f.data, f.data.length⟩)) D.files D.cnt R) : Spec prog 133 #[.pointer (some ⟨d, 0, none⟩), .string s] σ R := by
 obtain ⟨Sd, h1, h3⟩ := h
 exact TP h1 EB hn hf (hw.wrd h3)
theorem qz {s t : ByteArray} {f : Fl} (h : Ai σ d D τ) (EB : D.up = true) (hn : Ae s = true) (Jj : Ae t = true) (hf : D.files s = some f)
   (hw : lB σ d D τ (fun σ' D' => Ai σ' d D' τ) (BD (BD D.files s none) t (some f)) D.files D.cnt R) : Spec prog 231 #[.pointer (some ⟨d, 0, none⟩), .string s, .string t] σ R := by
 obtain ⟨Sd, h1, h3⟩ := h
 exact XK h1 EB hn Jj hf (hw.wrd h3)
theorem rA {s : ByteArray} {f : Fl} (h : Ai σ d D τ) (EB : D.up = true) (hn : Ae s = true) (hf : D.files s = some f)
   (hw : lB σ d D τ (fun σ' D' => Ai σ' d D' τ) (BD D.files s none) D.files D.cnt R) : Spec prog 138 #[.pointer (some ⟨d, 0, none⟩), .string s] σ R := by
 obtain ⟨Sd, h1, h3⟩ := h
 exact OY h1 EB hn hf (hw.wrd h3)
theorem Out.laid {fs : Fs} {kind : ByteArray} {k : Nat} {x : List Int} (hk : kind = kc ∨ kind = ks) (h0 : 0 < k) (h1 : k < 100000000) : Out dir fs (TwW.laid fs dir (AF dir kind k) x) := by
 refine ⟨fun s hs => ?_, fun s hs => ?_⟩
 · have e1 : ¬ s = AF dir kind k := fun e => by rw [e, C7] at hs; cases hs
   have e2 : ¬ s = BB dir := fun e => by rw [e, Lw] at hs; cases hs
   simp [TwW.laid, e1, e2]
 · by_cases e : s = AF dir kind k
   · subst e
     have := Bp (dir := dir) (kind := kind) h1
     rcases hk with rfl | rfl
     · exact .inr (.inl (by omega))
     · exact .inr (.inr (.inl (by omega)))
   · by_cases e2 : s = BB dir
     · exact .inr (.inr (.inr e2))
     · simp only [TwW.laid, e, e2, if_false] at hs; exact .inl hs
structure AKg (d : Nat) (D : Dk) (dir : ByteArray) (τ : Hp) (name : ByteArray) (x : List Int) (rok : Hp → Prop) (lC : Hp → Prop) : Prop where
 ok : ∀ σ', Ai σ' d ⟨laid D.files dir name x, true, D.armed, D.cnt + 1⟩ τ → rok σ'
 bad : D.armed = true → ∀ σ' gs' gs, (∀ s, s ≠ BB dir → gs' s = D.files s) → GK gs' gs → Ai σ' d ⟨gs, false, false, D.cnt + 1⟩ τ → lC σ'
theorem Mu {name : ByteArray} {p : Option Addr} {n c : Nat} {Bh : Bq} (h : Ai σ d D τ) (hw : aN τ d b dir) (EB : D.up = true) (Hi : D.cnt < 67108864) (hfew : OW D) (hd : CE dir = true) (Ez : Ae name = true) (hx : Jd τ p n Bh) (hs : Good Bh) (hlen : (AU Bh).length ≤ 4194304) (C4 : D.files (BB dir) = none) (Ad : name ≠ BB dir)
   (hR : AKg d D dir τ name (AU Bh) (fun σ' => R (.returned (.tuple #[])) σ') (fun σ' => R (.panicked (bM 60)) σ')) : Spec prog 137 #[.pointer (some ⟨b, 0, none⟩), .string name, .slice p n c] σ R := by
 have N8 : dir.size ≤ 32 := by simp [CE] at hd; exact hd.2
 have Jb := qi hd
 have fr : ∀ {σ' : Hp} {K : Rr}, Ext τ σ' → K (.returned (.string (BB dir))) σ' → Spec prog 229 #[.pointer (some ⟨b, 0, none⟩)] σ' K := fun hl hk => Qq (dir := dir) (hl.ld hw.dir) N8 hk
 refine JL.start ⟨b, 0, rfl, _, h.ext.ld hw.ptr, fr h.ext ⟨_, rfl, fun _ _ _ hb => hb, fT (hx.mono h.ext) hs.short (by omega) fun p' n' c' σ1 ho BJ => ⟨p', n', c', rfl, Kp.CM BJ, ?_⟩⟩⟩
 obtain ⟨τ1, h1, x1, x1n⟩ := h.grow BJ
 have XG : (AU Bh).length = n' := by have := ho.1; simpa using this
 subst XG
 have Vf : By .u8 τ1 p' (AU Bh).length (AU Bh) := (AS.rd ho).mono x1n
 have zn : (D.files (BB dir)).getD ⟨[], 0⟩ = ⟨[], 0⟩ := by rw [C4]; rfl
 refine qy h1 EB Jb hfew Vf (by rw [zn]; simpa using hlen) ⟨fun σ2 h2 => ⟨0, rfl, Ia ?_⟩, fun ha σ2 gs hg Ms => ⟨60, rfl, Lx ?_⟩⟩
 · have e1 : EY D.files (BB dir) (AU Bh) (BB dir) = some ⟨AU Bh, 0⟩ := by simp [EY, BD, C4]
   refine ⟨_, (x1.trans h2.ext).ld hw.ptr, fr (x1.trans h2.ext) ⟨_, rfl, fun _ _ _ hb => hb, AEb h2 rfl Jb (f := ⟨AU Bh, 0⟩) e1 ⟨fun σ3 h3 => ⟨0, rfl, Ia ?_⟩, fun ha σ3 gs hg Ms => ⟨60, rfl, Lx ?_⟩⟩⟩⟩
   · refine ⟨_, (x1.trans h3.ext).ld hw.ptr, fr (x1.trans h3.ext) ⟨_, rfl, fun _ _ _ hb => hb, qz h3 rfl Jb Ez (f := ⟨AU Bh, (AU Bh).length⟩) C1 ⟨fun σ4 h4 => ⟨0, rfl, Ia ?_⟩, fun ha σ4 gs hg Ms => ⟨60, rfl, Lx ?_⟩⟩⟩⟩
     · have e : BD (BD (BD (EY D.files (BB dir) (AU Bh)) (BB dir) (some ⟨AU Bh, (AU Bh).length⟩)) (BB dir) none) name (some ⟨AU Bh, (AU Bh).length⟩) = laid D.files dir name (AU Bh) := by
         funext s
         by_cases h1 : s = name
         · subst h1; simp [BD, laid]
         · by_cases h2 : s = BB dir
           · subst h2; simp [BD, laid, h1]
           · simp [BD, laid, h1, h2, EY]
       have := hR.ok σ4
       rw [← e] at this
       exact this (h4.FC x1)
     · exact hR.bad ha σ4 _ gs (fun s hs => (Av hs).trans (Cc hs)) hg (Ms.FC x1)
   · exact hR.bad ha σ3 _ gs (fun s hs => Cc hs) hg (Ms.FC x1)
 · exact hR.bad ha σ2 _ gs (fun s hs => Cc hs) hg (Ms.FC x1)
theorem lH {s : ByteArray} {f : Fl} (h : Ai σ d D τ) (EB : D.up = true) (hn : Ae s = true) (hf : D.files s = some f)
   (hR : ∀ p c σ' τ', Ai σ' d D τ' → Ext τ τ' → f.data.length ≤ c → f.data.length ≤ 4194304 → By .u8 τ' p f.data.length f.data → R (.returned (.tuple #[.slice p f.data.length c, .int .i64 0])) σ') : Spec prog 176 #[.pointer (some ⟨d, 0, none⟩), .string s] σ R := by
 have h' := h
 obtain ⟨Sd, h1, h3⟩ := h'
 have MC : f.data.length ≤ 4194304 := by
   obtain ⟨m, cl, rows, T, a, b, e, hd⟩ := h1
   rw [hd.files, Row.look] at hf
   cases iK : rows.find? (fun r => decide (r.name = s)) with
   | none => rw [iK] at hf; cases hf
   | some r =>
     rw [iK] at hf
     cases hf
     exact (hd.row r (List.mem_of_find?_eq_some iK)).small
 refine fH h1 EB hn hf fun p c σ' ho hx => ?_
 obtain ⟨τ', g1, g2, g3⟩ := h.grow hx
 exact hR p c σ' τ' g1 g2 (Own.cap ho) MC ((AS.rd ho).mono g3)
def iO (τ ν : Hp) : Prop := ∀ j o, ν j = some o → τ j = none
theorem iO.of {τ σ σ' : Hp} (h : Ext τ σ) : iO τ (σ.new σ') := fun j o hj => by
 cases ht : τ j with
 | none => rfl
 | some u => have h1 := (AO.1 hj).1; rw [h _ _ ht] at h1; cases h1
theorem iO.del {τ ν τ' : Hp} (h : iO τ ν) (hx : Ext ν τ') {p : Option Addr} (hp : ∀ a, p = some a → τ a.block ≠ none) : Ext ν (τ'.del p) := fun j o hj => A3.2 ⟨fun a ha e => hp a ha (by rw [← e]; exact h j o hj), hx j o hj⟩
theorem iO.own {τ ν τ' : Hp} (h : iO τ ν) (hx : Ext τ τ') {p : Option Addr} (hp : ∀ a, p = some a → ν a.block ≠ none) : Ext τ (τ'.del p) := fun j o hj => by
 refine A3.2 ⟨fun a ha e => ?_, hx j o hj⟩
 cases hn : ν a.block with
 | none => exact hp a ha hn
 | some u => have := h _ _ hn; rw [← e, hj] at this; cases this
theorem Qz {name : ByteArray} {p2 : Option Addr} {n2 c2 : Nat} {Bh : Bq} (h : Ai σ d D τ) (hw : aN τ d b dir) (EB : D.up = true) (Ez : Ae name = true) (hf : Has D.files name (AU Bh)) (hg : Good Bh)
   (hR : ∀ σ' τ' ν p n c, Ai σ' d D τ' → Ext τ τ' → IV ν p n c Bh → Ext ν τ' → iO τ ν → R (.returned (.tuple #[.slice p n c, .bool true])) σ') : Spec prog 258 #[.pointer (some ⟨b, 0, none⟩), .string name, .slice p2 n2 c2] σ R := by
 obtain ⟨f, hf, uT⟩ := hf
 refine Du.start ⟨b, 0, rfl, _, h.ext.ld hw.ptr, lH h EB Ez hf fun p c σ1 τ1 h1 x1 hc MC HF => ⟨_, _, _, _, rfl, Ia ?_⟩⟩
 rw [uT] at HF hc MC
 rw [uT]
 refine Ob (t := []) (HF.mono h1.ext) (Mq hg) hc MC (by simp) hg.short EL fun p' n' c' σ2 ho Ay => ⟨_, _, _, _, rfl, fun _ => ?_, fun hh => by simp at hh⟩
 obtain ⟨τ2, h2, x2, qt⟩ := h1.grow Ay
 exact hR σ2 τ2 _ p' n' c' h2 (x1.trans x2) ho qt (iO.of (x1.trans h1.ext))
theorem fh {name : ByteArray} {p2 : Option Addr} {c2 : Nat} {Bh : Bq} {tail : List Int} (h : Ai σ d D τ) (hw : aN τ d b dir) (EB : D.up = true) (Kz : D.armed = false) (Hi : D.cnt < 67108864) (hfew : OW D) (hd : CE dir = true) (Ez : Ae name = true) (hf : Has D.files name (AU Bh ++ tail)) (hg : Good Bh) (ht : fS tail) (h8 : E7 tail) (Ad : tail ≠ []) (C4 : D.files (BB dir) = none) (hnn : name ≠ BB dir)
   (hR : ∀ σ' τ' ν p n c fs c', Ai σ' d (dk fs c') τ' → Ext τ τ' → IV ν p n c Bh → Ext ν τ' → iO τ ν → c' ≤ D.cnt + 1 → D.cnt ≤ c' → fs = (if Bh = [] then BD D.files name none else laid D.files dir name (AU Bh)) → R (.returned (.tuple #[.slice p n c, .bool false])) σ') : Spec prog 258 #[.pointer (some ⟨b, 0, none⟩), .string name, .slice p2 0 c2] σ R := by
 obtain ⟨f, hf, uT⟩ := hf
 refine Du.start ⟨b, 0, rfl, _, h.ext.ld hw.ptr, lH h EB Ez hf fun p c σ1 τ1 h1 x1 hc MC HF => ⟨_, _, _, _, rfl, Ia ?_⟩⟩
 rw [uT] at HF hc MC
 rw [uT]
 refine Ob (t := tail) (HF.mono h1.ext) (Bc (Mq hg) h8) hc MC rfl hg.short ht fun p' n' c' σ2 ho Ay => ⟨_, _, _, _, rfl, fun hh => by simp [Ad] at hh, fun _ => ⟨by unfold AN; omega, ?_⟩⟩
 obtain ⟨τ2, h2, x2, qt⟩ := h1.grow Ay
 have cw : Jd τ2 p' n' Bh := Jd.mono qt (BA.rd Rq.mono ho)
 have MA : Bh.length = n' := cw.1
 have hjl : (AU Bh).length ≤ 4194304 := by
   rw [List.length_append] at MC; omega
 refine Du.Uj ⟨fun hh => by omega, fun _ => ⟨fun JY => ?_, fun hz => ?_⟩⟩
 · have AKk : Bh ≠ [] := fun e => by subst e; simp at MA; omega
   refine Mu h2 (hw.mono (x1.trans x2)) EB Hi hfew hd Ez cw hg hjl C4 hnn ⟨fun σ3 h3 => ⟨rfl, Du.MZ (hR σ3 τ2 _ p' n' c' _ _ (by rw [Kz] at h3; exact h3) (x1.trans x2) ho qt (iO.of (x1.trans h1.ext)) (Nat.le_refl _) (by omega) (by rw [if_neg AKk]))⟩, fun ha => by rw [Kz] at ha; cases ha⟩
 · have cN : Bh = [] := List.eq_nil_of_length_eq_zero (by omega)
   refine ⟨b, 0, rfl, _, (x1.trans (x2.trans h2.ext)).ld hw.ptr, rA h2 EB Ez hf ⟨fun σ3 h3 => ⟨0, rfl, Ia (Du.MZ (hR σ3 τ2 _ p' n' c' _ _ (by rw [Kz] at h3; exact h3) (x1.trans x2) ho qt (iO.of (x1.trans h1.ext)) (by omega) (Nat.le_refl _) (by rw [if_pos cN])))⟩, fun ha => by rw [Kz] at ha; cases ha⟩⟩
end
end TwW
end
section
namespace TwW
open Go Tw Go.RowKit Go.Proofs.Tryz
section
variable {fs : Fs} {dir : ByteArray} {cnt cnt' check : Nat} {rc : Bq} {s0 : Sg} {x : Nat × Bq} {tail : List Int}
theorem Pe (h : (s0 ++ [x]).Pairwise fun y z => y.1 < z.1) : ∀ y ∈ s0, y.1 < x.1 := fun y hy => by
 rw [List.pairwise_append] at h
 exact h.2.2 y hy x (by simp)
theorem Shape.lI (h : Shape fs dir cnt check rc (s0 ++ [x]) tail) (hc : cnt < 99999999) (hx : x.2 = []) (iP : cnt ≤ cnt') : Shape (BD fs (AF dir ks x.1) none) dir cnt' check rc s0 [] := by
 have Ag := Pe h.Jf
 have hgx := h.gt x (by simp)
 have Ad : ∀ y ∈ s0, AF dir ks y.1 ≠ AF dir ks x.1 := fun y hy e => by
   have := Ag y hy
   have := h.gt y (by simp [hy])
   have := Eg (by omega) (by omega) e; omega
 have hold : ∀ s, (BD fs (AF dir ks x.1) none s).isSome = true → (fs s).isSome = true ∧ s ≠ AF dir ks x.1 := fun s hs => by
   by_cases I7 : s = AF dir ks x.1
   · subst I7; rw [C1] at hs; cases hs
   · rw [Av I7] at hs; exact ⟨hs, I7⟩
 refine ⟨fun h0 => ?_, h.Xc, fun s hs => h.Yw s (hold s hs).1, Nat.le_trans h.aI iP, fun y hy => ⟨(h.gt y (by simp [hy])).1, Nat.le_trans (h.gt y (by simp [hy])).2 iP⟩, (List.pairwise_append.1 h.Jf).1, fun s hs Qp => ?_, fun k y hy => ?_, fun _ => rfl, EL, h.Oe, fun y hy => h.Ld y (by simp [hy]), fun a ha => by cases ha⟩
 · obtain ⟨f, hf, e⟩ := h.PE h0
   exact ⟨f, by rw [Av BF]; exact hf, e⟩
 · obtain ⟨y, hy, e⟩ := h.dD s (hold s hs).1 Qp
   rcases List.mem_append.1 hy with hy | hy
   · exact ⟨y, hy, e⟩
   · simp at hy
     subst hy
     have := (Dx (dir := dir) (kind := ks) (s := s) (by omega)).1
     rw [← e] at this
     exact absurd this (hold s hs).2
 · have hk := (List.getElem?_eq_some_iff.1 hy).1
   have Hn := List.mem_of_getElem? hy
   obtain ⟨f, hf, e⟩ := h.file k y (by rw [List.getElem?_append_left hk]; exact hy)
   rw [if_neg (by simp; omega)] at e
   exact ⟨f, by rw [Av (Ad y Hn)]; exact hf, by rw [e]; simp⟩
theorem Shape.lJ (h : Shape fs dir cnt check rc (s0 ++ [x]) tail) (hc : cnt < 99999999) (iP : cnt ≤ cnt') : Shape (laid fs dir (AF dir ks x.1) (AU x.2)) dir cnt' check rc (s0 ++ [x]) [] := by
 have Ag := Pe h.Jf
 have hgx := h.gt x (by simp)
 have Ad : ∀ y ∈ s0, AF dir ks y.1 ≠ AF dir ks x.1 := fun y hy e => by
   have := Ag y hy
   have := h.gt y (by simp [hy])
   have := Eg (by omega) (by omega) e; omega
 have hk : ∀ s, s ≠ AF dir ks x.1 → s ≠ BB dir → laid fs dir (AF dir ks x.1) (AU x.2) s = fs s := fun s h1 h2 => by simp [laid, h1, h2]
 have hl : laid fs dir (AF dir ks x.1) (AU x.2) (AF dir ks x.1) = some ⟨AU x.2, (AU x.2).length⟩ := by simp [laid]
 have hold : ∀ s, (laid fs dir (AF dir ks x.1) (AU x.2) s).isSome = true → (fs s).isSome = true := fun s hs => by
   by_cases h1 : s = AF dir ks x.1
   · subst h1
     exact (h.file s0.length x (by simp)).U0
   · by_cases h2 : s = BB dir
     · subst h2; simp [laid, h1] at hs
     · rw [hk s h1 h2] at hs; exact hs
 refine ⟨fun h0 => ?_, h.Xc, fun s hs => h.Yw s (hold s hs), Nat.le_trans h.aI iP, fun y hy => ⟨(h.gt y hy).1, Nat.le_trans (h.gt y hy).2 iP⟩, h.Jf, fun s hs => h.dD s (hold s hs), fun k y hy => ?_, fun e => by simp at e, EL, h.Oe, h.Ld, fun a ha => by cases ha⟩
 · obtain ⟨f, hf, e⟩ := h.PE h0
   exact ⟨f, by rw [hk _ BF (Bi (.inl rfl)).symm]; exact hf, e⟩
 · rcases Nat.lt_or_ge k s0.length with hi | hi
   · obtain ⟨f, hf, e⟩ := h.file k y hy
     rw [List.getElem?_append_left hi] at hy
     have Hn := List.mem_of_getElem? hy
     rw [if_neg (by simp; omega)] at e
     exact ⟨f, by rw [hk _ (Ad y Hn) (Bi (.inr rfl)).symm]; exact hf, by rw [e]; simp⟩
   · have ng : k = s0.length := by
       have := (List.getElem?_eq_some_iff.1 hy).1
       simp at this; omega
     subst ng
     simp at hy
     subst hy
     exact ⟨_, hl, by simp⟩
theorem Kept.lI (h : Kept fs dir check (s0 ++ [x])) (Ad : ∀ y ∈ s0, AF dir ks y.1 ≠ AF dir ks x.1) : Kept (BD fs (AF dir ks x.1) none) dir check s0 :=
 ⟨fun f h0 hf => h.1 f h0 (by rw [Av BF] at hf; exact hf), fun k y hy hk f hf => by
   have Hn := List.mem_of_getElem? hy
   refine h.2 k y (by rw [List.getElem?_append_left (by omega)]; exact hy) (by simp; omega) f ?_
   rw [Av (Ad y Hn)] at hf; exact hf⟩
theorem Kept.lJ (h : Kept fs dir check (s0 ++ [x])) (Ad : ∀ y ∈ s0, AF dir ks y.1 ≠ AF dir ks x.1) : Kept (laid fs dir (AF dir ks x.1) (AU x.2)) dir check (s0 ++ [x]) :=
 ⟨fun f h0 hf => h.1 f h0 (by simpa [laid, BF, (Bi (dir := dir) (kind := kc) (a := check) (.inl rfl)).symm] using hf), fun k y hy hk f hf => by
   have ng : k < s0.length := by simp at hk; omega
   have Hn : y ∈ s0 := by rw [List.getElem?_append_left ng] at hy; exact List.mem_of_getElem? hy
   refine h.2 k y hy hk f ?_
   simpa [laid, Ad y Hn, (Bi (dir := dir) (kind := ks) (a := y.1) (.inr rfl)).symm] using hf⟩
end
section
variable {σ ρ τ : Hp} {d b : Nat} {D : Dk} {W : Wl} {R : Rr}
theorem Ai.rB {T E ty : TypeId} {s bs : Nat} [Jk prog T E s bs] {p q : Option Addr} {n c m d' : Nat} {cs ys : List Value} {Φ : Value → Hp → Prop} (h : Ai σ d D ρ) (ho : Own s ρ p n c cs) (hy : GM s ρ q m ys) (h1 : CN ys) (hb : (n + m) * bs ≤ 140737488355328)
   (hΦ : ∀ p' c' σ' ρ', Ai σ' d D ρ' → Own s ρ' p' (n + m) c' (cs ++ ys) → Ext (ρ.del p) (ρ'.del p') → Φ (.slice p' (n + m) c') σ') : AJ prog (Builtin.append_ #[T, T] ty #[.slice p n c, .slice q m d']) σ Φ := by
 have hx := h.ext
 obtain ⟨Sd, g1, g3⟩ := h
 refine MG (ho.mono hx) (hy.mono hx) h1 hb fun p' c' σ' Bs Ay _ => ?_
 rw [Hp.DY, Hp.DY] at Ay
 have keep : ∀ j o, j ∉ DI p → σ j = some o → σ' j = some o ∧ j ∉ DI p' := fun j o h4 h5 => by
   have := Hp.AG.1 (Ay j o (Hp.AG.2 ⟨h4, h5⟩)); exact ⟨this.2, this.1⟩
 have hp : ∀ j ∈ DI p, j ∉ Sd := fun j hj => by
   cases p with
   | none => cases hj
   | some a =>
     simp [DI] at hj
     subst hj
     cases hr : ρ a.block with
     | none => exact absurd hr (ho.block a rfl)
     | some o => exact (Hp.AG.1 (g3 _ _ hr)).1
 have hSd : ∀ j ∈ Sd, σ' j = σ j ∧ j ∉ DI p' := fun j hj => by
   cases hs : σ j with
   | none => exact absurd hs (g1.known j hj)
   | some o => exact keep j o (fun hb => hp j hb hj) hs
 refine hΦ p' c' σ' (σ'.off Sd) ⟨Sd, g1.loc fun j hj => (hSd j hj).1, Ext.refl _⟩ ?_ ?_
 · exact TwW.Own.loc Bs fun j hj => Hp.ES fun hs => (hSd j hs).2 hj
 · rw [Hp.DY, Hp.DY]
   intro j o hj
   have h4 := Hp.AG.1 hj
   have h6 := Hp.AG.1 (g3 _ _ h4.2)
   have h7 := keep j o h4.1 h6.2
   exact Hp.AG.2 ⟨h7.2, Hp.AG.2 ⟨h6.1, h7.1⟩⟩
theorem BA.apart {α : Type} {s : Nat} {E : Hp → List Value → α → Prop} {S : List Nat} {p : Option Addr} {n c : Nat} {xs : List α} (h : BA s E (ρ.off S) p n c xs) : ∀ j ∈ S, j ∉ DI p := fun j hj hb => by
 cases p with
 | none => cases hb
 | some a =>
   simp [DI] at hb
   exact h.block a rfl (by rw [← hb]; exact Hp.UG hj)
theorem Ai.AEc {ty : TypeId} {S : List Nat} {p q : Option Addr} {n c m d' : Nat} {xs ys : Bq} {Φ : Value → Hp → Prop} (h : Ai σ d D ρ) (hS : ∀ j ∈ S, ρ j ≠ none) (hx : Ext τ (ρ.del p)) (ho : IV (ρ.off S) p n c xs) (hy : Jd ((ρ.off S).del p) q m ys) (hb : n + m ≤ 4194304)
   (hΦ : ∀ p' c' σ' ρ', Ai σ' d D ρ' → (∀ j ∈ S, ρ' j ≠ none) → IV (ρ'.off S) p' (n + m) c' (xs ++ ys) → Ext τ (ρ'.del p') → Φ (.slice p' (n + m) c') σ') : AJ prog (Builtin.append_ #[165, 165] ty #[.slice p n c, .slice q m d']) σ Φ := by
 have hap := BA.apart ho
 obtain ⟨Rs, cs, Fo, fQ⟩ := ho
 obtain ⟨U1, ds, hy1, UE⟩ := hy
 refine h.rB (T := 165) (Fo.mono (Ext.Cp _ _)) ((hy1.mono (Ext.F9 _ _)).mono (Ext.Cp _ _)) ?_ (by omega) fun p' c' σ' ρ' h' Em Cm => ?_
 · exact Ch.oK (fun _ vs x ⟨p, n, c, e, _⟩ => by subst e; exact fun u hu => by simp at hu; subst hu; rfl) UE (by decide)
 · have hk : ∀ j ∈ S, ρ' j ≠ none ∧ j ∉ DI p' := fun j hj => by
     cases hr : ρ j with
     | none => exact absurd hr (hS j hj)
     | some o =>
       rw [Hp.DY, Hp.DY] at Cm
       have := Hp.AG.1 (Cm j o (Hp.AG.2 ⟨hap j hj, hr⟩))
       exact ⟨by rw [this.2]; simp, this.1⟩
   have Ay : Ext ((ρ.off S).del p) ((ρ'.off S).del p') := by
     have := Cm.off S
     rw [Hp.DY, Hp.DY] at this ⊢
     rw [Hp.Jv, Hp.Jv (σ := ρ')]
     exact this
   exact hΦ p' c' σ' ρ' h' (fun j hj => (hk j hj).1) ⟨by rw [List.length_append]; omega, _, TwW.Own.loc Em fun j hj => Hp.ES fun hs => (hk j hs).2 hj, (fQ.mono Rq.mono Ay).append (UE.mono Rq.mono Ay)⟩ (hx.trans Cm)
end
end TwW
end
section
namespace TwW
open Go Tw Go.RowKit Go.Proofs.Tryz
section
variable {σ ρ τ : Hp} {d b : Nat} {W : Wl} {R : Rr} {fs : Fs} {cnt : Nat} {rc : Bq} {sg : Sg} {tail : List Int}
def Sub (fs gs : Fs) : Prop := ∀ s, (gs s).isSome = true → (fs s).isSome = true
theorem Sub.trans {fs gs hs : Fs} (h : Sub fs gs) (g : Sub gs hs) : Sub fs hs := fun s hh => h s (g s hh)
def yW (d b : Nat) (W : Wl) (τ : Hp) (fs : Fs) (cnt : Nat) (rc : Bq) (sg : Sg) (tail : List Int) (R : Rr) : Prop :=
 ∀ σ' ρ p n c FG cnt' KM, Aj σ' d b (dk FG cnt') { W with AP := KM.map (·.1) } ρ → Ext τ ρ → Jd ρ p n (rc ++ An KM) → An KM = An sg → Shape FG W.dir cnt' W.check rc KM [] → Kept FG W.dir W.check KM → Out W.dir fs FG → Sub fs FG → FG (BB W.dir) = none →
   cnt ≤ cnt' → cnt' ≤ cnt + 1 → (tail = [] → cnt' = cnt ∧ FG = fs) → R (.returned (.slice p n c)) σ'
theorem fi {sg : Sg} {k : Nat} {x : Nat × Bq} (hx : sg[k]? = some x) : An (sg.take (k + 1)) = An (sg.take k) ++ x.2 := by
 rw [AQ hx, B7, Eh]
theorem fj {τw : Hp} {S : List Nat} {cU : Option Addr} {c46 : Nat} {T : TypeId} (hd : CE W.dir = true) (hc : cnt < 67108864) (hfew : OW (dk fs cnt)) (ht : Tb τw) (JT : Shape fs W.dir cnt W.check rc sg tail) (KZ : Kept fs W.dir W.check sg) (HV : W.AP = sg.map (·.1)) (C4 : fs (BB W.dir) = none) (FW : (rc ++ An sg).length ≤ 4194304)
   (Nu : FH τw b d W S cU c46 T) (hR : yW d b W (τw.off S) fs cnt rc sg tail R) :
   ∀ (m k : Nat) (σ ρ : Hp) (p3 : Option Addr) (n3 c3 : Nat), sg.length - k = m → k ≤ sg.length → Ai σ d (dk fs cnt) ρ → Ext τw (ρ.del p3) → IV (ρ.off S) p3 n3 c3 (rc ++ An (sg.take k)) → (k < sg.length ∨ tail = []) →
     BI.QO R (some ⟨b, 0, none⟩) p3 n3 c3 cU W.AP.length c46 ((W.AP.length : Nat) : Int) k σ := by
 intro m
 have dI : W.AP.length = sg.length := by rw [HV, List.length_map]
 have N8 : W.dir.size ≤ 32 := by simp [CE] at hd; exact hd.2
 have hwn := Own.cap Nu.own
 have hsb := Nu.own.2.1
 have cl : ∀ {σ ρ : Hp} {p3 : Option Addr} {fs : Fs} {cnt : Nat}, Ai σ d (dk fs cnt) ρ → Ext τw (ρ.del p3) → Aj σ d b (dk fs cnt) W (ρ.off S) ∧ Ext (τw.off S) (ρ.off S) := fun h hx => by
   have BJ := hx.trans (Ext.F9 _ _)
   exact ⟨Aj.close h (Nu.mono BJ), BJ.off S⟩
 induction m with
 | zero =>
   intro k σ ρ p3 n3 c3 hm hk h hx ho Rx
   refine BI.PT ⟨fun hh => by omega, fun _ => BI.Uh ?_⟩
   rw [List.take_of_length_le (by omega)] at ho
   have htn : tail = [] := Rx.resolve_left (by omega)
   subst htn
   obtain ⟨qn, U4⟩ := cl h hx
   refine hR σ _ p3 n3 c3 fs cnt sg ?_ U4 (BA.rd Rq.mono ho) rfl JT KZ Out.refl (fun s h => h) C4 (Nat.le_refl _) (by omega) (fun _ => ⟨rfl, rfl⟩)
   rw [← HV]; exact qn
 | succ m ih =>
   intro k σ ρ p3 n3 c3 hm hk h hx ho Rx
   obtain ⟨x, SE⟩ : ∃ x, sg[k]? = some x := ⟨_, List.getElem?_eq_getElem (by omega)⟩
   have uU := List.mem_of_getElem? SE
   have hgx := JT.gt x uU
   have TU := JT.Ld x uU
   have Xj := JT.file k x SE
   have Jb : Ae (AF W.dir ks x.1) = true := E3 hd (.inr rfl) (by omega)
   have aO := hx.trans (Ext.F9 _ _)
   have fk := Nu.mono aO
   have Xk := fk.mono h.ext
   have Fb : (Iq W.AP)[k]? = some ((x.1 : Nat) : Int) := by rw [Iq, HV, List.map_map, List.getElem?_map, SE]; rfl
   obtain ⟨Zq, Zr, AEd, AKl⟩ := (AS.rd Xk.own).at Fb
   have e1 : Int.toNat ((k : Int) + 1) = k + 1 := by omega
   have Mv := fi SE
   have AEe : (rc ++ An (sg.take k)).length = n3 := ho.1
   have ARk : n3 + x.2.length ≤ 4194304 := by
     have h1 : (rc ++ An (sg.take (k + 1))).length ≤ (rc ++ An sg).length := by
       have : An sg = An (sg.take (k + 1)) ++ An (sg.drop (k + 1)) := by rw [← B7, List.take_append_drop]
       rw [this]; simp
     rw [Mv, ← List.append_assoc, List.length_append, AEe] at h1
     omega
   have AKm : ∀ j ∈ S, ρ j ≠ none := fk.known
   have ni : ∀ a, p3 = some a → ρ a.block ≠ none := fun a ha hn => ho.block a ha (Hp.MJ hn)
   have new : ∀ {ρ2 ν : Hp} {p : Option Addr} {n c : Nat} {xs : Bq}, Ext ρ ρ2 → IV ν p n c xs → Ext ν ρ2 → iO ρ ν → Jd ((ρ2.off S).del p3) p n xs := fun x2 hν x3 hb => by
     refine Jd.mono ?_ (BA.rd Rq.mono hν)
     exact hb.del (fun j o hj => Hp.AG.2 ⟨fun hs => AKm j hs (hb j o hj), x3 j o hj⟩) ni
   refine BI.PT ⟨fun _ => ⟨Zq, Zr, AEd, by omega, x.1, by simpa using AKl, b, 0, rfl, _, _, c46, AD Xk.obj rfl, by unfold AN; omega, by omega, ?_⟩, fun hh => by omega⟩
   rw [MN AEd]
   refine DH (kind := ks) (dir := W.dir) (AD Xk.obj rfl) N8 (.inr rfl) (by omega) ((ht.mono aO).mono h.ext) fun σ1 BJ => ⟨_, rfl, Kp.CM BJ, ?_⟩
   have h1 := h.mono BJ
   by_cases hw : (if k + 1 = sg.length then tail else []) = []
   · rw [hw, List.append_nil] at Xj
     refine Qz h1 fk.qx rfl Jb Xj TU fun σ2 ρ2 ν p n c h2 x2 hν x3 hb => ⟨_, _, _, _, rfl, ?_⟩
     have hn : x.2.length = n := hν.1
     refine h2.AEc (τ := τw) (S := S) (xs := rc ++ An (sg.take k)) (ys := x.2) (fun j hj => (fk.mono x2).known j hj) (hx.trans (x2.del p3)) (BA.mono Rq.mono (x2.off S) ho) (new x2 hν x3 hb) (by omega) fun p' c' σ3 ρ3 h3 hS3 Dd DJ => ⟨p', _, c', rfl, fun _ => ⟨by unfold AN; omega, ?_⟩, fun hh => (by cases hh)⟩
     rw [List.append_assoc, ← Mv] at Dd
     refine ih (k + 1) σ3 ρ3 p' _ c' (by omega) (by omega) h3 DJ Dd ?_
     by_cases hl : k + 1 = sg.length
     · rw [if_pos hl] at hw; exact .inr hw
     · exact .inl (by omega)
   · have JR : k + 1 = sg.length := by
       by_cases hh : k + 1 = sg.length
       · exact hh
       · rw [if_neg hh] at hw; exact absurd rfl hw
     rw [if_pos JR] at hw Xj
     obtain ⟨s0, x', Va⟩ : ∃ s0 x', sg = s0 ++ [x'] := by
       rcases List.eq_nil_or_concat sg with e | ⟨s0, x', e⟩
       · rw [e] at JR; simp at JR
       · exact ⟨s0, x', by rw [e]; simp⟩
     have Xa : k = s0.length := by rw [Va] at JR; simp at JR; exact JR
     have Ns : x' = x := by rw [Va, Xa] at SE; simpa using SE
     subst Ns
     have e2 : W.AP.length - Int.toNat ((k : Int) + 1) = 0 := by omega
     rw [e2]
     have Ad : ∀ y ∈ s0, AF W.dir ks y.1 ≠ AF W.dir ks x'.1 := fun y hy e => by
       have Ag := Pe (Va ▸ JT.Jf) y hy
       have := JT.gt y (by rw [Va]; simp [hy])
       have := Eg (by omega) (by omega) e; omega
     refine fh h1 fk.qx rfl rfl (by show cnt < _; omega) hfew hd Jb Xj TU JT.AKa JT.uL hw C4 (Bi (.inr rfl)).symm fun σ2 ρ2 ν p n c fs2 AEf h2 x2 hν x3 hb fQ UE PF => ⟨_, _, _, _, rfl, ?_⟩
     have hn : x'.2.length = n := hν.1
     refine h2.AEc (τ := τw) (S := S) (xs := rc ++ An (sg.take k)) (ys := x'.2) (fun j hj => (fk.mono x2).known j hj) (hx.trans (x2.del p3)) (BA.mono Rq.mono (x2.off S) ho) (new x2 hν x3 hb) (by omega) fun p' c' σ3 ρ3 h3 hS3 Dd DJ => ⟨p', _, c', rfl, fun hh => (by cases hh), fun _ => ?_⟩
     rw [List.append_assoc, ← Mv, List.take_of_length_le (by omega)] at Dd
     obtain ⟨qn, U4⟩ := cl h3 DJ
     obtain ⟨pq, cq, hcq, hlq, hrq⟩ := qn.rd.AP
     refine ⟨pq, _, cq, hlq, by unfold AN; omega, by omega, ?_⟩
     have e3 : Int.toNat ((k : Int) + 1) = W.AP.length := by omega
     rw [e3]
     refine qn.cut (l := W.AP) rfl (fun p c uV => by rw [hlq] at uV; cases uV; exact ⟨rfl, fun ρ h => h⟩) fun σ4 h4 => ?_
     have AEh := Va ▸ JT
     have yX := Va ▸ KZ
     refine ⟨fun uW => ?_, fun uW => BI.Uh ?_⟩
     · have aF : x'.2 = [] := List.eq_nil_of_length_eq_zero (by omega)
       obtain ⟨pr, cr, hcr, hlr, hrr⟩ := h4.rd.AP
       refine ⟨pr, _, cr, hlr, by simp only at hcr ⊢; omega, ?_⟩
       have e4 : Int.toNat (k : Int) = k := by omega
       rw [e4]
       refine h4.cut (l := W.AP.take k) (by rw [List.length_take]; omega) (fun p c uV => by rw [hlr] at uV; cases uV; exact ⟨rfl, fun ρ h => by have := Own.shrink (k := k) h (by simp only; omega); rw [Iq, List.map_take]; exact this⟩) fun σ5 h5 => BI.Uh ?_
       rw [if_pos aF] at PF
       have ht0 : An s0 = An sg := by rw [Va, B7, Eh, aF, List.append_nil]
       refine hR σ5 _ p' _ c' fs2 AEf s0 ?_ U4 (BA.rd Rq.mono (by rw [ht0]; exact Dd)) ht0 (by rw [PF]; exact AEh.lI (by omega) aF UE) (by rw [PF]; exact yX.lI Ad) (by rw [PF]; exact Out.del C7) (by
         rw [PF]; intro s hs
         by_cases e : s = AF W.dir ks x'.1
         · subst e; rw [C1] at hs; cases hs
         · rw [Av e] at hs; exact hs) (by rw [PF, Av (Bi (.inr rfl))]; exact C4) UE fQ (fun e => absurd e hw)
       have : W.AP.take k = s0.map (·.1) := by rw [HV, Va, List.map_append, Xa, List.take_left' (by simp)]
       rw [← this]; exact h5
     · have aF : x'.2 ≠ [] := fun e => uW (by rw [← hn, e]; rfl)
       rw [if_neg aF] at PF
       refine hR σ4 _ p' _ c' fs2 AEf sg ?_ U4 (BA.rd Rq.mono Dd) rfl (by rw [PF, Va]; exact AEh.lJ (by omega) UE) (by rw [PF, Va]; exact yX.lJ Ad) (by rw [PF]; exact Out.laid (.inr rfl) (by omega) (by omega)) (by
         rw [PF]; intro s hs
         by_cases e : s = AF W.dir ks x'.1
         · subst e; exact Xj.U0
         · by_cases e2 : s = BB W.dir
           · simp only [laid, e, if_false, e2, if_true] at hs
             rw [if_neg (Bi (.inr rfl))] at hs; cases hs
           · simp only [laid, e, e2, if_false] at hs; exact hs) (by rw [PF]; simp [laid, (Bi (dir := W.dir) (kind := ks) (a := x'.1) (.inr rfl))]) UE fQ (fun e => absurd e hw)
       rw [← HV]; exact h4
end
end TwW
end
section
namespace TwW
open Go Tw Go.RowKit Go.Proofs.Tryz
section
variable {σ ρ τ : Hp} {d b : Nat} {D : Dk} {W : Wl} {R : Rr} {fs : Fs} {cnt : Nat} {rc : Bq} {sg : Sg} {tail : List Int}
theorem Aj.names (h : Aj σ d b D W τ) : ∀ s, (D.files s).isSome = true → Ae s = true := h.fX.names
theorem Aj.make {b : Nat} (h : Ai σ d D τ) (hb : σ b = none) (hs : W.AP = []) : Aj (σ.set b (.cells (ql d W none 0 0) 225 (0, 0))) d b D W τ := by
 obtain ⟨Sd, h1, h2⟩ := h
 have iM : b ∉ Sd := fun hh => h1.known b hh hb
 refine ⟨Sd, [b], none, 0, 225, h1.mono (.set hb), ?_, ?_⟩
 · rw [Hp.Er iM]
   exact ⟨rfl, by simp [DI], by rw [Hp.AA, hs]; rfl, by rw [hs]; exact Own.nil⟩
 · rw [Hp.Er iM, Hp.GN (by simp)]
   exact h2.ij (by simpa using Aw h2 (Hp.MJ hb))
theorem Aj.stB {k n : Nat} {E : TypeId} {c : Array Value} {t : TypeId} {v : Value} {Φ : Unit → Hp → Prop} (h : Aj σ d b D W τ) (hk : τ k = some (.cells c t (0, 0))) (hz : ∀ w, (Go.sizeOf E).run prog w = .ok n w) (hn : v.cells.size = n) (hl : 0 + n ≤ c.size) (h1 : ∀ u ∈ v.cells.toList, u.oneCell' = true)
   (hΦ : ∀ σ', Aj σ' d b D W (τ.set k (.cells (DU c 0 v.cells.toList) t (0, 0))) → Φ () σ') : AJ prog (Instr.storeAt E (.pointer (some ⟨k, 0, none⟩)) v) σ Φ := by
 obtain ⟨Sd, S, p, cc, T, g1, g2, g3⟩ := h
 have Xa := Hp.AG.1 (g3 _ _ hk)
 have fm := Hp.AG.1 Xa.2
 refine AJ.store hz fm.2 hn hl h1 (hΦ _ ⟨Sd, S, p, cc, T, g1.loc fun j hj => Hp.AH fun e => fm.1 (e ▸ hj), ?_, ?_⟩)
 · rw [Hp.Er fm.1]
   exact g2.loc fun j hj => Hp.AH fun e => Xa.1 (e ▸ hj)
 · rw [Hp.Er fm.1, Hp.Er Xa.1]
   intro j o hj
   by_cases mw : j = k
   · subst mw; rw [Hp.AA] at hj ⊢; exact hj
   · rw [Hp.AH mw] at hj ⊢; exact g3 _ _ hj
theorem Hp.fp {k : Nat} {o : Obj} (h : σ k = some o) : (σ.off [k]).set k o = σ := by
 funext j
 by_cases hj : j = k
 · subst hj; rw [Hp.AA, h]
 · rw [Hp.AH hj, Hp.ES (by simpa using hj)]
theorem Spec.fp {P : Program} {f : FuncId} {args : Array Value} {k : Nat} {o : Obj} {R : Rr} (hk : σ k = some o) (h : Spec P f args (σ.off [k]) (fun e τ' => τ' k = none → R e (τ'.set k o))) : Spec P f args σ R := by
 have := Spec.B5 (o := o) (Hp.UG (by simp)) h
 rwa [Hp.fp hk] at this
theorem Aj.fp {k : Nat} {o : Obj} (h : Aj σ d b D W τ) (hk : τ k = some o) : Aj (σ.off [k]) d b D W (τ.off [k]) := by
 obtain ⟨Sd, S, p, cc, T, g1, g2, g3⟩ := h
 have Xa := Hp.AG.1 (g3 _ _ hk)
 have fm := Hp.AG.1 Xa.2
 refine ⟨Sd, S, p, cc, T, g1.loc fun j hj => Hp.ES fun e => fm.1 (List.mem_singleton.1 e ▸ hj), ?_, ?_⟩
 · rw [Hp.Jv]
   exact g2.loc fun j hj => Hp.ES fun e => Xa.1 (List.mem_singleton.1 e ▸ hj)
 · rw [Hp.Jv (σ := σ), Hp.Jv (σ := σ.off Sd)]
   exact g3.off [k]
theorem Aj.lK {k : Nat} {o : Obj} (h : Aj σ d b D W τ) (hk : σ k = none) : Aj (σ.set k o) d b D W (τ.set k o) := by
 obtain ⟨τ', h1, h2, h3⟩ := h.box (o := o) hk
 refine h1.FC fun j u hj => ?_
 by_cases mw : j = k
 · subst mw; rw [Hp.AA] at hj; cases hj; exact h3
 · rw [Hp.AH mw] at hj; exact h2 _ _ hj
theorem Xl (h : Aj σ d b (dk fs cnt) W τ) (ht : Tb τ) (hd : CE W.dir = true) (hc : cnt < 67108864) (hfew : OW (dk fs cnt)) (JT : Shape fs W.dir cnt W.check rc sg tail) (KZ : Kept fs W.dir W.check sg) (HV : W.AP = sg.map (·.1)) (C4 : fs (BB W.dir) = none) (FW : (rc ++ An sg).length ≤ 4194304)
   (hR : yW d b W τ fs cnt rc sg tail R) : Spec prog 175 #[.pointer (some ⟨b, 0, none⟩)] σ R := by
 obtain ⟨τw, S, p, c, T, Ms, Nu, U4⟩ := h.opened
 have lL : Tb τw := ht.mono (U4.trans (Ext.Cp _ _))
 have N8 : W.dir.size ≤ 32 := by simp [CE] at hd; exact hd.2
 have hR' : yW d b W (τw.off S) fs cnt rc sg tail R := fun σ' ρ p n c FG cnt' KM a1 a2 a3 a4 a5 a6 a7 a8 a9 a10 a11 a12 => hR σ' ρ p n c FG cnt' KM a1 (U4.trans a2) a3 a4 a5 a6 a7 a8 a9 a10 a11 a12
 have Kx : W.AP.length = sg.length := by rw [HV, List.length_map]
 have loop : ∀ (σ ρ : Hp) (p3 : Option Addr) (n3 c3 : Nat), Ai σ d (dk fs cnt) ρ → Ext τw (ρ.del p3) → IV (ρ.off S) p3 n3 c3 rc → BI.MW R (some ⟨b, 0, none⟩) p3 n3 c3 σ := fun σ ρ p3 n3 c3 h1 hx ho => by
   have aO := hx.trans (Ext.F9 _ _)
   refine BI.Iy ⟨b, 0, rfl, p, _, c, AD ((Nu.mono aO).mono h1.ext).obj rfl, ?_⟩
   refine fj hd hc hfew lL JT KZ HV C4 FW Nu hR' sg.length 0 σ ρ p3 n3 c3 rfl (Nat.zero_le _) h1 hx (by simpa [An] using ho) ?_
   rcases Nat.eq_zero_or_pos sg.length with h0 | h0
   · exact .inr (JT.uK (List.eq_nil_of_length_eq_zero h0))
   · exact .inl h0
 have Xk := Nu.mono Ms.ext
 refine BI.start ⟨b, 0, rfl, W.check, AD Xk.obj rfl, fun JY => ⟨W.check, AD Xk.obj rfl, p, _, c, AD Xk.obj rfl, ?_⟩, fun hz => ?_⟩
 · have qu := JT.aI
   refine DH (kind := kc) (dir := W.dir) (AD Xk.obj rfl) N8 (.inl rfl) (by omega) (lL.mono Ms.ext) fun σ1 BJ => ⟨_, rfl, Kp.CM BJ, ?_⟩
   refine Qz (Ms.mono BJ) Nu.qx rfl (E3 hd (.inl rfl) (by omega)) (JT.PE (by omega)) JT.Oe fun σ2 ρ2 ν p' n' c' h2 x2 hν x3 hb => ⟨_, _, _, _, rfl, fun hh => (by cases hh), fun _ => ?_⟩
   refine loop σ2 ρ2 p' n' c' h2 (hb.own x2 hν.block) (BA.mono Rq.mono (fun j o hj => Hp.AG.2 ⟨fun hs => Nu.known j hs (hb j o hj), x3 j o hj⟩) hν)
 · have h0 : W.check = 0 := by omega
   have hrc := JT.Xc h0
   subst hrc
   exact loop σ τw none 0 0 Ms (Ext.refl _) BA.nil
def uX (d b : Nat) (dir : ByteArray) (D : Dk) (τ : Hp) (told : Bq) (w : Bool) (K : Hp → Hp → Option Addr → Nat → Nat → Prop) : Prop :=
 ∀ σ' W rc sg ρ p n c FG cnt', Aj σ' d b (dk FG cnt') W ρ → Ext τ ρ → Jd ρ p n told → W.dir = dir → A7 FG cnt' W rc sg 0 → rc ++ An sg = told → Out dir D.files FG → Sub D.files FG → FG (BB dir) = none → D.cnt ≤ cnt' → cnt' ≤ D.cnt + 1 → (w = true → cnt' = D.cnt ∧ ∃ L, Names D.files (dir ++ Ck) L ∧ FG = Oh D.files dir L) → K σ' ρ p n c
theorem A7.made {opn size : Nat} (JT : Shape fs W.dir cnt W.check rc sg []) (KZ : Kept fs W.dir W.check sg) (HV : W.AP = sg.map (·.1)) (h0 : sg = [] → W.opn = W.check + 1 ∧ W.size = 0) (h1 : ∀ s0 x, sg = s0 ++ [x] → W.opn = x.1 ∧ W.size = (AU x.2).length) : A7 fs cnt W rc sg 0 := by
 rcases List.eq_nil_or_concat sg with e | ⟨s0, x, e⟩
 · subst e
   obtain ⟨e1, e2⟩ := h0 rfl
   exact ⟨JT, HV, ⟨by omega, by have := JT.aI; omega, fun x hx => by cases hx⟩, fun x hx => (by cases hx), fun _ => e2, fun f h hf => KZ.1 f h hf, fun x hx => (by cases hx), fun x hx => (by cases hx), fun _ => Nat.zero_le _⟩
 · have e' : sg = s0 ++ [x] := by rw [e]; simp
   subst e'
   obtain ⟨e1, e2⟩ := h1 s0 x rfl
   have hgx := JT.gt x (by simp)
   have Ag := Pe JT.Jf
   refine ⟨JT, HV, ⟨by omega, by omega, fun y hy => ?_⟩, fun y hy dH => ?_, fun BQ => absurd e1.symm (BQ x (by simp)), fun f h hf => KZ.1 f h hf, fun y hy U1 f hf => ?_, fun y hy dH => ?_, fun _ => Nat.zero_le _⟩
   · rcases List.mem_append.1 hy with hy | hy
     · have := Ag y hy; omega
     · simp at hy; subst hy; omega
   · rcases List.mem_append.1 hy with hy | hy
     · have := Ag y hy; omega
     · simp at hy; subst hy; exact e2
   · rcases List.mem_append.1 hy with hy | hy
     · obtain ⟨k, hk⟩ := List.getElem?_of_mem hy
       have gw := (List.getElem?_eq_some_iff.1 hk).1
       exact KZ.2 k y (by rw [List.getElem?_append_left gw]; exact hk) (by simp; omega) f hf
     · simp at hy; subst hy; omega
   · rcases List.mem_append.1 hy with hy | hy
     · have := Ag y hy; omega
     · simp at hy
       subst hy
       obtain ⟨f, hf, _⟩ := JT.file s0.length y (by simp)
       exact ⟨0, f, Nat.zero_le _, hf, by simp [AU], by rw [B7, Eh, List.length_append, List.length_append]; omega⟩
theorem Tb.U5 {k : Nat} (h : Tb τ) (hk : τ k = some (.cells #[.slice none 0 0] 165 (0, 0))) : Tb (τ.off [k]) := by
 obtain ⟨g, T, fr, h1, h2⟩ := h
 refine ⟨g, T, fr, h1, ?_⟩
 rw [Hp.ES]
 · exact h2
 · intro hg
   simp only [List.mem_singleton] at hg
   subst hg
   rw [hk] at h2
   simp only [Option.some.injEq, Obj.cells.injEq] at h2
   have := congrArg Array.size h2.1
   simp [Lib.pow10Tab] at this
theorem aP {dir : ByteArray} {told : Bq} {w : Bool} {b0 b1 b2 b3 : Nat} (h : Aj σ d b (dk fs cnt) ⟨dir, 0, [], 0, 0⟩ τ) (ht : Tb τ) (hd : CE dir = true) (hc : cnt < 67108864) (hfew : OW (dk fs cnt)) (ho : Xd fs dir cnt told w) (FW : told.length ≤ 4194304)
   (t0 : τ b0 = some (.cells #[.pointer (some ⟨b, 0, none⟩)] 158 (0, 0))) (t1 : τ b1 = some (.cells #[.pointer (some ⟨d, 0, none⟩)] 106 (0, 0))) (t2 : τ b2 = some (.cells #[.string dir] 9 (0, 0))) (t3 : τ b3 = some (.cells #[.slice none 0 0] 165 (0, 0)))
   (hR : uX d b dir (dk fs cnt) (τ.off [b3]) told w fun σ' ρ p n c => ρ b3 = some (.cells #[.slice p n c] 165 (0, 0)) → R (.returned (.tuple #[])) σ') :
   Spec prog 172 #[.pointer (some ⟨b0, 0, none⟩), .pointer (some ⟨b1, 0, none⟩), .pointer (some ⟨b2, 0, none⟩), .pointer (some ⟨b3, 0, none⟩)] σ R := by
 obtain ⟨check, rc, sg, tail, JT, rfl, KZ, yY⟩ := ho
 have N8 : dir.size ≤ 32 := by simp [CE] at hd; exact hd.2
 have Ru := h.ext
 have SB := h.names
 have fq : b0 ≠ b3 := fun e => by rw [e, t3] at t0; cases t0
 have AKo : b1 ≠ b3 := fun e => by rw [e, t3] at t1; cases t1
 refine QU.start ⟨_, AD (Ru _ _ t0) rfl, _, AD (Ru _ _ t1) rfl, dir, AD (Ru _ _ t2) rfl, ?_, ?_⟩
 · show dir.size + Ck.size ≤ _
   have : Ck.size = 1 := rfl
   rw [this]; omega
 have h' := h
 obtain ⟨Sd, S, q, cc, T, g1, _, _⟩ := h'
 refine fL (pre := dir ++ Ck) g1 rfl (by show cnt ≤ _; omega) fun WK n11 Zj L σ1 hoL hL BJ AKp => ⟨WK, n11, Zj, rfl, Kp.CM BJ, ?_⟩
 obtain ⟨τ1, h1, x1, x1n⟩ := h.grow BJ
 have hrT : nh τ1 WK n11 L := (Own.rd hoL).mono x1n
 have AD3 : n11 ≤ 67108864 := Nat.le_trans AKp (by show cnt ≤ _; omega)
 refine aM (W := ⟨dir, 0, [], 0, 0⟩) h1 ⟨rfl, rfl⟩ hL SB N8 hrT AD3 fun σ2 h2 => ⟨rfl, ?_⟩
 have hmc := dJ JT (by omega) hL
 have I7 := aL JT (by omega) hL
 obtain ⟨AKq, AEi, Xm, dL⟩ := Xi JT (by omega) hL
 rw [hmc] at h2
 simp only at h2
 rw [I7] at h2
 have AKr : Kept (Oh fs dir L) dir check sg := ⟨fun f h0 hf => KZ.1 f h0 (dL _ _ hf), fun k x hx hk f hf => KZ.2 k x hx hk f (dL _ _ hf)⟩
 have Ay := h2.ext
 have qu := JT.aI
 refine ⟨_, AD (Ay _ _ (x1 _ _ t0)) rfl, _, AD (Ay _ _ (x1 _ _ t0)) rfl, b, 0, rfl, check, h2.rd.check, by unfold AN; omega, b, 0, rfl, ?_⟩
 have e1 : ((check : Int) + 1) = ((check + 1 : Nat) : Int) := by omega
 rw [e1]
 refine h2.st (i := 0 + 4) (W' := ⟨dir, check, sg.map (·.1), check + 1, 0⟩) (by omega) rfl (fun p n c => rfl) fun σ3 h3 => ?_
 have t31 := x1 _ _ t3
 refine ⟨_, AD (h3.ext _ _ (x1 _ _ t0)) rfl, Spec.fp (h3.ext _ _ t31) (Xl (W := ⟨dir, check, sg.map (·.1), check + 1, 0⟩) (h3.fp t31) ((ht.U5 t3).mono (x1.off [b3])) hd (by omega) (hfew.sub (Nat.le_refl _) fun s hs => by obtain ⟨f, hf⟩ := Option.isSome_iff_exists.1 hs; exact Option.isSome_iff_exists.2 ⟨f, dL _ _ hf⟩) AKq AKr rfl Xm FW fun σ4 ρ p n c FG cnt' KM h4 aO HF Mv yZ AKs AEj AEk AEl fQ UE hc3 BQ => ⟨p, n, c, rfl, ?_⟩)⟩
 have AKt : ρ b3 = none := Aw h4.ext BQ
 refine (h4.lK (o := .cells #[.slice none 0 0] 165 (0, 0)) BQ).stB (v := .slice p n c) (Hp.AA _ _ _) (E := 165) (n := 1) ?_ rfl (by simp) (by simp [Value.cells, Value.oneCell']) fun σ5 h5 => ?_
 · intro w
   have hi : prog.info? 165 = some t165 := by kernel_rfl
   simp [Go.sizeOf, typeInfo, hi, show t165.size = 1 from rfl]
 rw [Hp.set_set] at h5
 have ya : Ext ρ (ρ.set b3 (.cells (DU #[.slice none 0 0] 0 (Value.slice p n c).cells.toList) 165 (0, 0))) := .set AKt
 have Xn : ∀ j o, j ≠ b3 → τ j = some o → (ρ.set b3 (.cells (DU #[.slice none 0 0] 0 (Value.slice p n c).cells.toList) 165 (0, 0))) j = some o := fun j o hj hjo => ya _ _ (aO _ _ (Hp.AG.2 ⟨by simpa using hj, x1 _ _ hjo⟩))
 have Oc := h5.ext
 have hτ : Ext (τ.off [b3]) (ρ.set b3 (.cells (DU #[.slice none 0 0] 0 (Value.slice p n c).cells.toList) 165 (0, 0))) := fun j o hj => by
   have := Hp.AG.1 hj
   exact Xn j o (by simpa using this.1) this.2
 have AKu : Jd (ρ.set b3 (.cells (DU #[.slice none 0 0] 0 (Value.slice p n c).cells.toList) 165 (0, 0))) p n (rc ++ An sg) := by
   rw [← Mv]; exact HF.mono ya
 have htb : Tb (ρ.set b3 (.cells (DU #[.slice none 0 0] 0 (Value.slice p n c).cells.toList) 165 (0, 0))) := (((ht.U5 t3).mono (x1.off [b3])).mono aO).mono ya
 have fin : ∀ σ' W', Aj σ' d b (dk FG cnt') W' (ρ.set b3 (.cells (DU #[.slice none 0 0] 0 (Value.slice p n c).cells.toList) 165 (0, 0))) → W'.dir = dir → W'.check = check → W'.AP = KM.map (·.1) → (KM = [] → W'.opn = W'.check + 1 ∧ W'.size = 0) → (∀ s0 x, KM = s0 ++ [x] → W'.opn = x.1 ∧ W'.size = (AU x.2).length) → R (.returned (.tuple #[])) σ' := by
   intro σ' W' hl e1 e2 e3 e4 e5
   subst e1 e2
   refine hR σ' W' rc KM _ p n c FG cnt' hl hτ AKu rfl (A7.made (opn := 0) (size := 0) yZ AKs e3 e4 e5) (by rw [Mv]) (AEi.trans AEj) (Sub.trans (fs := fs) (fun s hs => by obtain ⟨f, hf⟩ := Option.isSome_iff_exists.1 hs; rw [dL s f hf]; rfl) AEk) AEl fQ UE (fun hw => ⟨(hc3 (yY hw)).1, L, hL, (hc3 (yY hw)).2⟩) ?_
   rw [Hp.AA]; rfl
 obtain ⟨pq, cq, hcq, hlq, hrq⟩ := h5.rd.AP
 refine ⟨_, AD (Oc _ _ (Xn _ _ fq t0)) rfl, b, 0, rfl, pq, _, cq, hlq, fun JY => ?_, fun hz => ?_⟩
 · rcases List.eq_nil_or_concat KM with e | ⟨s0, x, e⟩
   · subst e; simp at JY
   have e' : KM = s0 ++ [x] := by rw [e]; simp
   subst e'
   have hgx := yZ.gt x (by simp)
   have Fb : (Iq ((s0 ++ [x]).map (·.1)))[s0.length]? = some ((x.1 : Nat) : Int) := by simp [Iq]
   obtain ⟨Hr, js, hpq, AKw⟩ := hrq.at Fb
   have el : ((s0 ++ [x]).map (·.1)).length = s0.length + 1 := by simp
   have e3 : Int.toNat ((((s0 ++ [x]).map (·.1)).length : Int) - 1) = s0.length := by rw [el]; omega
   refine ⟨_, AD (Oc _ _ (Xn _ _ fq t0)) rfl, _, AD (Oc _ _ (Xn _ _ fq t0)) rfl, b, 0, rfl, pq, _, cq, hlq, ?_, Hr, js, hpq, ?_, x.1, by rw [e3]; exact AKw, b, 0, rfl, ?_⟩
   · have := UE; have := h5.rd.AP; unfold AN; rw [el]; have := hrq.big; rw [el] at this; omega
   · rw [el]; omega
   refine h5.st (i := 0 + 4) (W' := ⟨dir, check, (s0 ++ [x]).map (·.1), x.1, 0⟩) (by omega) rfl (fun p n c => rfl) fun σ6 h6 => ?_
   have Nv := h6.ext
   obtain ⟨f, hf, uT⟩ := yZ.file s0.length x (by simp)
   simp at uT
   refine ⟨_, AD (Nv _ _ (Xn _ _ AKo t1)) rfl, _, AD (Nv _ _ (Xn _ _ fq t0)) rfl, _, AD (Nv _ _ (Xn _ _ fq t0)) rfl, b, 0, rfl, x.1, h6.rd.opn, ?_⟩
   refine DH (kind := ks) (dir := dir) h6.rd.dir N8 (.inr rfl) (by omega) (htb.mono Nv) fun σ7 Jg => ⟨_, rfl, Kp.CM Jg, ?_⟩
   obtain ⟨τ8, S8, p8, c8, T8, AKx, AEm, AKy⟩ := (h6.mono Jg).opened
   refine lH AKx rfl (E3 hd (.inr rfl) (by omega)) hf fun p9 c9 σ9 τ9 h9 x9 _ _ _ => ⟨_, _, _, _, rfl, Ia ?_⟩
   have lM : Aj σ9 d b (dk FG cnt') ⟨dir, check, (s0 ++ [x]).map (·.1), x.1, 0⟩ (ρ.set b3 (.cells (DU #[.slice none 0 0] 0 (Value.slice p n c).cells.toList) 165 (0, 0))) := (Aj.close h9 (AEm.mono x9)).FC (AKy.trans (x9.off _))
   refine ⟨_, AD (lM.ext _ _ (Xn _ _ fq t0)) rfl, b, 0, rfl, ?_⟩
   refine lM.st (i := 0 + 5) (x := (f.data.length : Nat)) (W' := ⟨dir, check, (s0 ++ [x]).map (·.1), x.1, f.data.length⟩) (by omega) rfl (fun p n c => rfl) fun AKz nj => ?_
   refine fin AKz _ nj rfl rfl rfl (fun e => by simp at e) fun s1 y e => ?_
   have := List.append_inj' e rfl
   simp only [List.cons.injEq, and_true] at this
   rw [← this.2]
   exact ⟨rfl, congrArg List.length uT⟩
 · have e0 : KM = [] := by
     cases KM with
     | nil => rfl
     | cons y l => simp at hz
   exact fin σ5 _ h5 rfl rfl rfl (fun _ => ⟨rfl, rfl⟩) fun s0 x e => by rw [e0] at e; simp at e
theorem AK0 : Enters prog 172 := fun args w => call172 args w
theorem ft {dir : ByteArray} {told : Bq} {w : Bool} (h : Ai σ d D τ) (ht : Tb τ) (EB : D.up = true) (Kz : D.armed = false) (hd : CE dir = true) (hc : D.cnt < 67108864) (ho : Xd D.files dir D.cnt told w) (FW : told.length ≤ 4194304)
   (hR : ∀ b, uX d b dir D τ told w fun σ' ρ p n c => R (.returned (.tuple #[.pointer (some ⟨b, 0, none⟩), .slice p n c, .int .i64 0])) σ') (hfew : OW D := by refine .inl ?_; first | omega | (dsimp only [dk]; omega) | (dsimp only; omega)) : Spec prog 95 #[.pointer (some ⟨d, 0, none⟩), .string dir] σ R := by
 obtain ⟨fs, up, armed, cnt⟩ := D
 simp only at EB Kz
 subst EB Kz
 have N8 : dir.size ≤ 32 := by simp [CE] at hd; exact hd.2
 have hdn : Ae dir = true := by simp only [CE, Bool.and_eq_true] at hd; exact hd.1
 refine Wd.start fun b2 G8 b3 Ur => ?_
 obtain ⟨τ2, h2, x2, t2⟩ := h.box (o := .cells #[.pointer (some ⟨d, 0, none⟩)] 106 (0, 0)) G8
 obtain ⟨τ3, h3, x3, t3⟩ := h2.box (o := .cells #[.string dir] 9 (0, 0)) Ur
 refine ⟨dir, AD (h3.ext _ _ t3) rfl, fun hh => by omega, fun _ => ⟨dir, AD (h3.ext _ _ t3) rfl, Kf ⟨_, rfl, fun hf => (by rw [hdn] at hf; cases hf), fun _ => ⟨_, AD (h3.ext _ _ (x3 _ _ t2)) rfl, ?_⟩⟩⟩⟩
 have h3' := h3
 obtain ⟨Sd, g1, _⟩ := h3'
 refine cn g1 ⟨_, rfl, fun hh => (by cases hh), fun _ => ⟨_, AD (h3.ext _ _ (x3 _ _ t2)) rfl, dir, AD (h3.ext _ _ t3) rfl, fun NB AK1 b7 hb7 => ?_⟩⟩
 have hl := Aj.make (W := ⟨dir, 0, [], 0, 0⟩) h3 AK1 rfl
 refine AJ.store (v := .pointer (some ⟨NB, 0, none⟩)) ?_ (Hp.AA _ _ _) (n := 1) rfl (by simp) (by simp [Value.cells, Value.oneCell']) ?_
 · intro w
   have hi : prog.info? 158 = some t158 := by kernel_rfl
   simp [Go.sizeOf, typeInfo, hi, show t158.size = 1 from rfl]
 rw [Hp.set_set]
 have hw : DU #[Value.pointer none] 0 (Value.pointer (some ⟨NB, 0, none⟩)).cells.toList = #[.pointer (some ⟨NB, 0, none⟩)] := rfl
 rw [hw]
 intro b8 hb8
 obtain ⟨τ7, h7, x7, t7⟩ := hl.box (o := .cells #[.pointer (some ⟨NB, 0, none⟩)] 158 (0, 0)) hb7
 obtain ⟨τ8, h8, x8, t8⟩ := h7.box (o := .cells #[.slice none 0 0] 165 (0, 0)) hb8
 have Ns : Ext τ τ8 := x2.trans (x3.trans (x7.trans x8))
 have rC : Ext τ (τ8.off [b8]) := fun j o hj => by
   refine Hp.AG.2 ⟨fun e => ?_, Ns _ _ hj⟩
   simp only [List.mem_singleton] at e
   subst e
   have h9 := h7.ext _ _ (x7 _ _ (x3 _ _ (x2 _ _ hj)))
   have lM := hb8.symm.trans h9
   cases lM
 have t78 : τ8 b7 = some (.cells #[.pointer (some ⟨NB, 0, none⟩)] 158 (0, 0)) := x8 _ _ t7
 have AK2 : b7 ≠ b8 := fun e => by rw [e, t8] at t78; cases t78
 refine KL AK0 (aP h8 (ht.mono Ns) hd hc hfew ho FW t78 (x8 _ _ (x7 _ _ (x3 _ _ t2))) (x8 _ _ (x7 _ _ t3)) t8 fun σ' W rc sg ρ p n c FG cnt' a1 a2 a3 a4 a5 a6 a7 a8 a9 a10 AK3 AEo a11 => .inl ⟨rfl, _, rfl, fun hh => absurd rfl hh, fun _ => ⟨_, AD (a1.ext _ _ (a2 _ _ (Hp.AG.2 ⟨by simpa using AK2, t78⟩))) rfl, p, n, c, AD (a1.ext _ _ a11) rfl, ?_⟩⟩)
 exact hR NB σ' W rc sg ρ p n c FG cnt' a1 (rC.trans a2) a3 a4 a5 a6 a7 a8 a9 a10 AK3 AEo
end
end TwW
end
