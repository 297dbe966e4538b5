/-
  Part 3 of the proof that the law DistributorRoutesCardSaid of the given program answers true for every input of the given statement; the input reads behind the call as it did. (The texts: packed from 9 texts. Names are shortened by the packing program, for the bound on size.)
-/
import Derived.Test.YtaaincfenibojaaGreatDoorA2
set_option linter.all false
section
set_option maxRecDepth 100000
noncomputable section
namespace TwW
open Go Tw Go.Proofs.Tryz
variable [Iq] {R : Rr} {σ : Hp}

namespace JP
variable {En I6 Hl j9 kA kB kC kD kE kF : Int} {t0k : Bool}
def M : Fw := ⟨prog, 9, f9, [], [1], false, [], [], []⟩
theorem ok : M.Ok := ⟨AK.nil, mixed, func9, by kernel_rfl⟩
theorem start (h : ∀ b1 : Nat, AJ prog (Instr.makeMap 101 none) σ (fun z y => ∃ m4, z = (.map (some m4)) ∧ Al y fun b6 => R (.returned (.pointer (aD b6 0))) (Hp.set y b6 (.cells #[.int .i64 En, .int .i64 I6, .int .i64 Hl, .int .i64 j9, .int .i64 kA, .int .i64 kB, .int .i64 kC, .int .i64 kD, .int .i64 kE, .int .i64 kF, .bool t0k, (.map (some m4))] 103 (0, 0))))) : Spec prog 9 #[.agg #[.int .i64 En, .int .i64 I6, .int .i64 Hl, .int .i64 j9, .int .i64 kA, .int .i64 kB, .int .i64 kC, .int .i64 kD, .int .i64 kE, .int .i64 kF, .bool t0k]] σ R := M.start h ok
end JP
namespace Lr
variable {q0 p5 q7 : Option Addr} {n5 c5 : Nat} {x8 : Int}
def M : Fw := ⟨prog, 43, f43, [72, 97, 98], [9], false, [], [], [(2000, [(5, wL), (7, wQ), (8, wI)])]⟩
theorem ok : M.Ok := ⟨.cons call72 (.cons call97 (.cons call98 (AK.nil))), mixed, func43, by kernel_rfl⟩
def WW := M.pt 0
theorem start (h : Spec prog 97 #[.pointer q0, (.string (ByteArray.mk #[107, 118]))] σ (AB R (fun z y => ∃ ABz pT pU pV Na, z = (.tuple #[.pointer ABz, .slice pT pU pV, .int .i64 Na]) ∧ Br (Na ≠ 0) (R (.returned (.tuple #[.pointer none, .int .i64 Na])) y) (Al y fun NW => WW R pT pU pV (aD NW 0) 0 (Hp.set y NW (.cells #[.pointer ABz, .slice none 0 0] 150 (0, 0))))))) : Spec prog 43 #[.pointer q0] σ R := M.start h ok
theorem Uc (h : Br (x8 < (n5 : Int)) (Pq p5 fun kG kH => In x8 (n5 : Int) ∧ LS σ kG (kH + Int.toNat x8 * 1) fun jo n33 jq => Spec prog 98 #[.slice jo n33 jq] σ (AB R (fun z y => ∃ tA tB tC tD tE AB0, z = (.tuple #[.agg #[.string tA, .slice tB tC tD, .int .u64 tE], .bool AB0]) ∧ ∀ b9 : Nat, Bn AB0 (R (.returned (.tuple #[.pointer none, .int .i64 71])) y) (Spec prog 72 #[.pointer q7, .agg #[.string tA, .slice tB tC tD, .int .u64 tE]] y (AB R (fun z AI => z = (.tuple #[]) ∧ AN (x8 + 1) ∧ WW R (aD kG kH) n5 c5 q7 (x8 + 1) AI)))))) (R (.returned (.tuple #[.pointer q7, .int .i64 0])) σ)) : WW R p5 n5 c5 q7 x8 σ := M.of h ok rfl
end Lr
namespace BZ
variable {En Kl Gq JL N4 PN LK S7 Ow : Int} {HF p5 WO pW kI p51 : Option Addr} {GL HG n5 c5 n26 Sz nb pX n39 Rs n51 c51 : Nat}
def M : Fw := ⟨prog, 44, f44, [54, 99], [1, 7], false, [], [], [(488, [(5, wL), (26, wL), (27, wI), (28, wI)]), (250664, [(5, wL), (7, .X 196 [.I .i64, .I .i64, .L]), (26, wL), (27, wI), (28, wI), (39, wL), (40, wI), (41, wI)]), (250680, [(5, wL), (26, wL), (27, wI), (28, wI), (51, wL), (52, wI), (53, wI)])]⟩
theorem ok : M.Ok := ⟨.cons call54 (.cons call99 (AK.nil)), mixed, func44, by kernel_rfl⟩
def NV := M.pt 0
def WU := M.pt 1
def pY := M.pt 2
theorem start (h : ∀ b1 : Nat, Spec prog 54 #[.agg #[.int .u64 En, .slice HF GL HG]] σ (AB R (CI .i64 fun E7 y => Br (E7 ≠ 0) (R (.returned (.tuple #[.slice none 0 0, .int .i64 E7])) y) (Df (IntKind.u64.wrap (GL : Int)) fun Sp => Spec prog 99 #[.slice none 0 0, .int .u64 En] y (AB R (CS fun Zb n19 YX AI => Spec prog 99 #[.slice Zb n19 YX, .int .u64 Sp] AI (AB R (CS fun bq n24 c24 AZ => NV R bq n24 c24 HF GL HG (GL : Int) 0 AZ)))))))) : Spec prog 44 #[.agg #[.int .u64 En, .slice HF GL HG]] σ R := M.start h ok
theorem I5 (h : Br (Gq < Kl) (Pq WO fun S6 YT => In Gq (n26 : Int) ∧ ∃ xA xB AB2 xC AB3, Dn σ S6 (YT + Int.toNat Gq * 3) [.int .i64 xA, .int .i64 xB, .slice AB2 xC AB3] ∧ ∀ b7 : Nat, Al σ fun Nb => WU R p5 n5 c5 xA xB AB2 xC AB3 (aD S6 YT) n26 Sz Kl Gq (aD Nb 0) 3 3 3 0 (Hp.set σ Nb (.cells #[.int .i64 xA, .int .i64 xB, (.int .i64 (xC : Int))] 3 (0, 0)))) (R (.returned (.tuple #[.slice p5 n5 c5, .int .i64 0])) σ)) : NV R p5 n5 c5 WO n26 Sz Kl Gq σ := M.of h ok rfl
theorem JA (h : Br (LK < PN) (Pq kI fun F9 PO => In LK (n39 : Int) ∧ LI .i64 σ F9 (PO + Int.toNat LK * 1) fun pZ => Df (IntKind.u64.wrap pZ) fun Rq => Spec prog 99 #[.slice p5 n5 c5, .int .u64 Rq] σ (AB R (CS fun p48 n48 c48 y => AN (LK + 1) ∧ WU R p48 n48 c48 JL N4 pW nb pX WO n26 Sz Kl Gq (aD F9 PO) n39 Rs PN (LK + 1) y))) (pY R p5 n5 c5 WO n26 Sz Kl Gq pW nb pX (nb : Int) 0 σ)) : WU R p5 n5 c5 JL N4 pW nb pX WO n26 Sz Kl Gq kI n39 Rs PN LK σ := M.bm h ok rfl fun _ => by kernel_rfl
theorem cW (h : Br (Ow < S7) (Pq p51 fun VR w8 => In Ow (n51 : Int) ∧ LI .u32 σ VR (w8 + Int.toNat Ow * 1) fun x56 => Df (IntKind.u64.wrap x56) fun wv => Spec prog 99 #[.slice p5 n5 c5, .int .u64 wv] σ (AB R (CS fun p60 n60 c60 y => AN (Ow + 1) ∧ pY R p60 n60 c60 WO n26 Sz Kl Gq (aD VR w8) n51 c51 S7 (Ow + 1) y))) (AN (Gq + 1) ∧ NV R p5 n5 c5 WO n26 Sz Kl (Gq + 1) σ)) : pY R p5 n5 c5 WO n26 Sz Kl Gq p51 n51 c51 S7 Ow σ := M.of h ok rfl
end BZ
namespace DO
variable {q0 q1 q2 : Option Addr}
def M : Fw := ⟨prog, 47, f47, [], [], false, [], [], []⟩
theorem ok : M.Ok := ⟨AK.nil, mixed, func47, by kernel_rfl⟩
theorem start (h : Al σ fun b3 => Al (Hp.set σ b3 (.cells #[.pointer q0] 33 (0, 0))) fun b4 => Al (Hp.set (Hp.set σ b3 (.cells #[.pointer q0] 33 (0, 0))) b4 (.cells #[.pointer q1] 118 (0, 0))) fun b5 => Al (Hp.set (Hp.set (Hp.set σ b3 (.cells #[.pointer q0] 33 (0, 0))) b4 (.cells #[.pointer q1] 118 (0, 0))) b5 (.cells #[.pointer q2] 35 (0, 0))) fun EB => R (.returned (.slice (aD EB 0) 4 4)) (Hp.set (Hp.set (Hp.set (Hp.set σ b3 (.cells #[.pointer q0] 33 (0, 0))) b4 (.cells #[.pointer q1] 118 (0, 0))) b5 (.cells #[.pointer q2] 35 (0, 0))) EB (.cells #[(.func (.func 103) #[] #[(.pointer (aD b4 0)), (.pointer (aD b3 0))]), (.func (.func 105) #[] #[(.pointer (aD b3 0)), (.pointer (aD b4 0))]), (.func (.func 107) #[] #[(.pointer (aD b5 0)), (.pointer (aD b3 0)), (.pointer (aD b4 0))]), (.func (.func 110) #[] #[(.pointer (aD b4 0)), (.pointer (aD b3 0)), (.pointer (aD b5 0))])] 123 (0, 0)))) : Spec prog 47 #[.pointer q0, .pointer q1, .pointer q2] σ R := M.start h ok
end DO
namespace JQ
variable {j0 : Option Addr} {ew j7 : Nat} {I6 Hl : Int}
def M : Fw := ⟨prog, 53, f53, [], [1, 2], false, [], [], []⟩
theorem ok : M.Ok := ⟨AK.nil, mixed, func53, by kernel_rfl⟩
theorem start (h : ∀ b1 : Nat, ∀ b2 : Nat, Al σ fun b3 => AJ prog (Builtin.append_ #[22, 22] 22 #[(.slice (aD b3 0) 0 0), .slice j0 ew j7]) (Hp.set σ b3 (.cells #[] 61 (0, 0))) (CS fun p6 n6 c6 y => R (.returned (.agg #[.slice p6 n6 c6, .int .i64 I6, .int .u64 Hl])) y)) : Spec prog 53 #[.agg #[.slice j0 ew j7, .int .i64 I6, .int .u64 Hl]] σ R := M.start h ok
end JQ
namespace S9
def K0 := f64.body.getD .skip
def K1 := cl K0
def K2 := cr K0
def K3 := cl K2
def K4 := cr K2
abbrev gl (R : Rr) : Gl := Gl.fn prog 64 14 R
theorem start {R : Rr} {s0 : ByteArray} {zw : Option Addr} {zx zy : Nat} {YK : Int} {σ : Hp} (h : ∃ zz : ByteArray, YF prog (convert 84 9 (.slice zw zx zy)) σ (.string zz) ∧ Spec prog 60 #[(.slice none 0 0), (.string s0)] σ (AB R (fun v σ1 => ∃ p6 : Option Addr, ∃ n6 : Nat, ∃ c6 : Nat, v = (.slice p6 n6 c6) ∧ Ext σ σ1 ∧ Spec prog 99 #[(.slice p6 n6 c6), (.int .u64 YK)] σ1 (AB R (fun MO Az => ∃ p9 : Option Addr, ∃ n9 : Nat, ∃ c9 : Nat, MO = (.slice p9 n9 c9) ∧ Ext σ1 Az ∧ Spec prog 60 #[(.slice p9 n9 c9), (.string zz)] Az (AB R (fun Ze A0 => ∃ N9 : Option Addr, ∃ n13 : Nat, ∃ Ox : Nat, Ze = (.slice N9 n13 Ox) ∧ Ext Az A0 ∧ R (.returned (.slice N9 n13 Ox)) A0))))))) : Spec prog 64 #[(.string s0), (.agg #[(.slice zw zx zy), (.int .u64 YK)])] σ R := by
 refine Spec.Js (fn := f64) (c := K0) func64 (by kernel_rfl) (Nat.le_of_ble_eq_true (by kernel_rfl)) (fun e he => ?_)
 refine At.oO (l := [(0, (.string s0)), (1, (.agg #[(.slice zw zx zy), (.int .u64 YK)]))]) ⟨he 0, he 1, trivial⟩ (fun J => ?_)
 show At (gl R) _ _ _ _
 refine At.s K1 K2 ?_
 refine At.rg 0 [0, 1] ?_
 refine Seq.o ?_
 refine AV.box (T := 156) (d := (some 3)) (ty := 0) (x := (.tmp 1)) (gd := none) (cs := #[(.slice zw zx zy), (.int .u64 YK)]) (by kernel_rfl) rfl rfl rfl (fun b3 => ?_)
 refine Seq.u 4 (.slice none 0 0) (Seq.done ?_)
 refine At.s K3 K4 ?_
 refine At.draw (id := 1) (ops := cO K3) (n := 10) (q := none) (plan := [(0, true), (2, true), (3, true), (5, true), (6, true), (7, true), (1, false), (4, false), (8, false), (9, true)]) (tl := []) mixed (by kernel_rfl) (by kernel_rfl) ?_
 refine Head.u 5 (.string s0) ?_
 refine Head.z 7 (.fieldAddr 156 (.tmp 3) 1) 0 (.pointer (some ⟨b3, 1, none⟩)) (Y.fieldAddr (fd := (Ts prog 156 1)) underlying156 (by kernel_rfl) sizeOf23 rfl rfl) ?_
 refine Head.z 8 (.load 23 (.tmp 7)) 23 (.int .u64 YK) (Y.iu isAgg23 rfl (List.mem_cons_self ..) rfl) ?_
 refine Head.z 10 (.fieldAddr 156 (.tmp 3) 0) 0 (.pointer (some ⟨b3, 0, none⟩)) (Y.fieldAddr (fd := (Ts prog 156 0)) underlying156 (by kernel_rfl) sizeOf84 rfl rfl) ?_
 refine Head.z 11 (.load 84 (.tmp 10)) 84 (.slice zw zx zy) (Y.iu isAgg84 rfl (List.mem_cons_self ..) rfl) ?_
 obtain ⟨zz, hy, h⟩ := h
 refine Head.y (d := (some 12)) (op := (.convert 84 9 (.tmp 11))) (ty := 9) (v := (.string zz)) (by kernel_rfl) rfl (Yd.any (m := convert 84 9 (.slice zw zx zy)) (fun o ho ht => by simp only [execOp, ho]; rfl) hy) ?_
 refine Head.o (q' := none) rfl ?_
 refine AV.cl (some 6) call60 (h.cont fun v σ1 h2 => ?_); replace h := h2; clear h2
 obtain ⟨p6, n6, c6, rfl, hk, h⟩ := h
 refine ⟨⟨fun _ h => h, hk⟩, ?_⟩
 refine Head.o (q' := none) rfl ?_
 refine AV.cl (some 9) call99 (h.cont fun MO Az h2 => ?_); replace h := h2; clear h2
 obtain ⟨p9, n9, c9, rfl, hk, h⟩ := h
 refine ⟨⟨fun _ h => h, hk⟩, ?_⟩
 refine Head.o (q' := none) rfl ?_
 refine AV.cl (some 13) call60 (h.cont fun Ze A0 h2 => ?_); replace h := h2; clear h2
 obtain ⟨N9, n13, Ox, rfl, hk, h⟩ := h
 refine ⟨⟨fun _ h => h, hk⟩, ?_⟩
 refine Head.u 4 (.slice N9 n13 Ox) ?_
 refine Head.done ?_
 refine Seq.done ?_
 exact At.rt [.tmp 4] [(.slice N9 n13 Ox)] func64 ⟨_, rfl, rfl⟩ h
end S9
namespace strings_HasPrefix
variable {s0 s1 : ByteArray}
def M : Fw := ⟨prog, 92, f92, [169], [], false, [], [], []⟩
theorem ok : M.Ok := ⟨.cons call169 (AK.nil), mixed, func92, by kernel_rfl⟩
theorem start (h : Spec prog 169 #[.string s0, .string s1] σ (AB R (CB fun t7 y => R (.returned (.bool t7)) y))) : Spec prog 92 #[.string s0, .string s1] σ R := M.start h ok
end strings_HasPrefix
namespace WX
variable {q0 : Option Addr} {s1 : ByteArray}
def M : Fw := ⟨prog, 95, f95, [91, 129, 171], [], false, [(10, 5, true)], [], []⟩
theorem ok : M.Ok := ⟨.cons call91 (.cons call129 (.cons call171 (AK.nil))), mixed, func95, by kernel_rfl⟩
theorem start (h : Al σ fun b2 => Al (Hp.set σ b2 (.cells #[.pointer q0] 106 (0, 0))) fun b3 => LT (Hp.set (Hp.set σ b2 (.cells #[.pointer q0] 106 (0, 0))) b3 (.cells #[.string s1] 9 (0, 0))) b3 0 fun cS => Br ((32 : Int) < ((ByteArray.size cS : Nat) : Int)) (R (.returned (.tuple #[.pointer none, .slice none 0 0, .int .i64 71])) (Hp.set (Hp.set σ b2 (.cells #[.pointer q0] 106 (0, 0))) b3 (.cells #[.string s1] 9 (0, 0)))) (LT (Hp.set (Hp.set σ b2 (.cells #[.pointer q0] 106 (0, 0))) b3 (.cells #[.string s1] 9 (0, 0))) b3 0 fun cE => Spec prog 171 #[.string cE] (Hp.set (Hp.set σ b2 (.cells #[.pointer q0] 106 (0, 0))) b3 (.cells #[.string s1] 9 (0, 0))) (AB R (CB fun t15 y => Bn t15 (R (.returned (.tuple #[.pointer none, .slice none 0 0, .int .i64 71])) y) (LQ y b2 0 fun q18 => Spec prog 91 #[.pointer q18] y (AB R (CB fun t19 AI => Bn t19 (R (.returned (.tuple #[.pointer none, .slice none 0 0, .int .i64 60])) AI) (LQ AI b2 0 fun zt => LT AI b3 0 fun nP => Al AI fun M5 => Al (Hp.set AI M5 (.cells #[.pointer zt, .string nP, .int .i64 0, .slice none 0 0, .int .i64 0, .int .i64 0] 225 (0, 0))) fun b7 => AJ prog (Instr.storeAt 158 (.pointer (aD b7 0)) (.pointer (aD M5 0))) (Hp.set (Hp.set AI M5 (.cells #[.pointer zt, .string nP, .int .i64 0, .slice none 0 0, .int .i64 0, .int .i64 0] 225 (0, 0))) b7 (.cells #[.pointer none] 158 (0, 0))) (fun _ AZ => Al AZ fun b8 => Spec prog 129 #[(.func (.func 172) #[] #[(.pointer (aD b7 0)), (.pointer (aD b2 0)), (.pointer (aD b3 0)), (.pointer (aD b8 0))])] (Hp.set AZ b8 (.cells #[.slice none 0 0] 165 (0, 0))) (AB R (CI .i64 fun Hw Av => Br (Hw ≠ 0) (R (.returned (.tuple #[.pointer none, .slice none 0 0, .int .i64 Hw])) Av) (LQ Av b7 0 fun q30 => LS Av b8 0 fun p31 n31 c31 => R (.returned (.tuple #[.pointer q30, .slice p31 n31 c31, .int .i64 0])) Av)))))))))))) : Spec prog 95 #[.pointer q0, .string s1] σ R := M.start h ok
end WX
namespace Bc
variable {b0 b1 : Nat}
def M : Fw := ⟨prog, 105, f105, [106], [], false, [], [], []⟩
theorem ok : M.Ok := ⟨.cons call106 (AK.nil), mixed, func105, by kernel_rfl⟩
theorem start (h : LQ σ b0 0 fun q4 => Pq q4 fun b5 o5 => LB σ b5 ((o5 + 7) + 3) fun t9 => Bn t9 (R (.returned (.int .i64 0)) σ) (LQ σ b1 0 fun Ud => LQ σ b1 0 fun eu => LQ σ b1 0 fun et => LQ σ b1 0 fun pa => Pq pa fun KY UQ => LS σ KY (UQ + 3) fun eR n18 nI => Spec prog 106 #[.slice eR n18 nI] σ (AB R (fun z y => ∃ ez AB5 AB6 AB7 AB8 AB9, z = (.tuple #[.string ez, .string AB5, .slice AB6 AB7 AB8, .int .i64 AB9]) ∧ Kp [b1, b1, b1] σ y ∧ Pq Ud fun M5 cH => AJ prog (Instr.storeAt 9 (.pointer (aD M5 (cH + 1))) (.string ez)) y (fun _ AI => Kp [b1, b1] y AI ∧ Pq eu fun PQ o26 => AJ prog (Instr.storeAt 9 (.pointer (aD PQ (o26 + 2))) (.string AB5)) AI (fun _ AZ => Kp [b1] AI AZ ∧ Pq et fun QA br => AJ prog (Instr.storeAt 46 (.pointer (aD QA (br + 3))) (.slice AB6 AB7 AB8)) AZ (fun _ Av => Br (AB9 ≠ 0) (R (.returned (.int .i64 3)) Av) (R (.returned (.int .i64 0)) Av)))))))) : Spec prog 105 #[(.pointer (aD b0 0)), (.pointer (aD b1 0))] σ R := M.start h ok
end Bc
namespace Gv
variable {p0 p6 : Option Addr} {n0 c0 n6 c6 : Nat} {x3 x7 x8 : Int}
def M : Fw := ⟨prog, 122, f122, [], [], false, [], [], [(232, [(3, wI), (6, wL), (7, wI), (8, wI)])]⟩
theorem ok : M.Ok := ⟨AK.nil, mixed, func122, by kernel_rfl⟩
def A4 := M.pt 0
theorem start (h : A4 R 0 p0 n0 c0 (n0 : Int) 0 σ) : Spec prog 122 #[.slice p0 n0 c0] σ R := M.start h ok
theorem AW (h : Br (x8 < x7) (Pq p6 fun D8 LF => In x8 (n6 : Int) ∧ LI .i64 σ D8 (LF + Int.toNat x8 * 1) fun Eb => Br (Eb ≠ x3) (R (.returned (.int .i64 Eb)) σ) (AN (x8 + 1) ∧ A4 R x3 (aD D8 LF) n6 c6 x7 (x8 + 1) σ)) (R (.returned (.int .i64 x3)) σ)) : A4 R x3 p6 n6 c6 x7 x8 σ := M.of h ok rfl
end Gv
namespace Gw
variable {x0 x1 : Int}
def M : Fw := ⟨prog, 123, f123, [213], [], false, [], [], []⟩
theorem ok : M.Ok := ⟨.cons call213 (AK.nil), mixed, func123, by kernel_rfl⟩
theorem start (h : Spec prog 213 #[.int .u32 x0] σ (AB R (CB fun t8 y => Spec prog 213 #[.int .u32 x1] y (AB R (CB fun t10 AI => Bo t8 (Bo t10 (R (.returned (.int .i64 0)) AI) (R (.returned (.int .i64 (-1))) AI)) (Bo t10 (R (.returned (.int .i64 1)) AI) (Br (x0 < x1) (R (.returned (.int .i64 (-1))) AI) (Br (x1 < x0) (R (.returned (.int .i64 1)) AI) (R (.returned (.int .i64 0)) AI))))))))) : Spec prog 123 #[.int .u32 x0, .int .u32 x1] σ R := M.start h ok
end Gw
namespace OC
variable {p0 : Option Addr} {n0 c0 : Nat}
def M : Fw := ⟨prog, 128, f128, [99, 219], [], false, [], [], []⟩
theorem ok : M.Ok := ⟨.cons call99 (.cons call219 (AK.nil)), mixed, func128, by kernel_rfl⟩
theorem start (h : Br (65536 < (n0 : Int)) (R (.returned (.tuple #[.slice none 0 0, .int .i64 23])) σ) (Spec prog 219 #[.slice p0 n0 c0] σ (AB R (CI .u32 fun Db y => Df (IntKind.u64.wrap (n0 : Int)) fun E7 => Spec prog 99 #[.slice none 0 0, .int .u64 E7] y (AB R (CS fun UY n14 UZ AI => ((0 : Int) ≤ 24 ∧ 24 ≤ ((IntKind.bits .u32 : Nat) : Int)) ∧ Df (Db / 2 ^ Int.toNat 24) fun Hi => Df (IntKind.u8.wrap Hi) fun I7 => ((0 : Int) ≤ 16 ∧ 16 ≤ ((IntKind.bits .u32 : Nat) : Int)) ∧ Df (Db / 2 ^ Int.toNat 16) fun Iu => Df (IntKind.u8.wrap Iu) fun Jr => ((0 : Int) ≤ 8 ∧ 8 ≤ ((IntKind.bits .u32 : Nat) : Int)) ∧ Df (Db / 2 ^ Int.toNat 8) fun js => Df (IntKind.u8.wrap js) fun Sp => Df (IntKind.u8.wrap Db) fun M4 => Al AI fun PQ => AJ prog (Builtin.append_ #[84, 84] 84 #[.slice UY n14 UZ, (.slice (aD PQ 0) 4 4)]) (Hp.set AI PQ (.cells #[.int .u8 I7, .int .u8 Jr, .int .u8 Sp, .int .u8 M4] 5 (0, 0))) (CS fun VS n27 Rt AZ => AJ prog (Builtin.append_ #[84, 84] 84 #[.slice VS n27 Rt, .slice p0 n0 c0]) AZ (CS fun p30 n30 c30 Av => R (.returned (.tuple #[.slice p30 n30 c30, .int .i64 0])) Av)))))))) : Spec prog 128 #[.slice p0 n0 c0] σ R := M.start h ok
end OC
namespace BP
variable {b0 b1 : Nat}
def M : Fw := ⟨prog, 130, f130, [131, 132, 133, 134, 135], [], false, [(1, 10, false), (4, 11, false), (6, 13, false), (7, 9, true)], [], [(6, [(0, wA), (1, wA)]), (15, [(0, wA), (1, wA)])]⟩
theorem ok : M.Ok := ⟨.cons call131 (.cons call132 (.cons call133 (.cons call134 (.cons call135 (AK.nil))))), mixed, func130, by kernel_rfl⟩
def Bu := M.pt 0
def GR := M.pt 1
theorem start (h : LQ σ b0 0 fun q2 => Spec prog 131 #[.pointer q2] σ (AB R (CB fun t3 y => Bo t3 (LQ y b0 0 fun q5 => Pq q5 fun b6 o6 => LI .i64 y b6 (o6 + 5) fun x8 => Br (4096 ≤ x8) (LQ y b0 0 fun pE => Pq pE fun Ov QB => LQ y Ov QB fun et => LQ y b0 0 fun pa => LQ y b0 0 fun wk => Pq wk fun Ro ei => LI .i64 y Ro (ei + 4) fun Iu => Spec prog 134 #[.pointer pa, (.string (ByteArray.mk #[115])), .int .i64 Iu] y (AB R (CT fun s20 AI => Kp [Ov, b0] y AI ∧ Spec prog 133 #[.pointer et, .string s20] AI (AB R (CI .i64 fun IE AZ => Spec prog 132 #[.int .i64 IE] AZ (AB R (fun z Av => z = (.tuple #[]) ∧ LQ Av b0 0 fun q23 => Pq q23 fun M5 cH => LI .i64 Av M5 (cH + 4) fun Hw => AN (Hw + 1) ∧ AJ prog (Instr.storeAt 3 (.pointer (aD M5 (cH + 4))) (.int .i64 (Hw + 1))) Av (fun _ Cg => LQ Cg b0 0 fun q30 => Pq q30 fun Jp pc => AJ prog (Instr.storeAt 3 (.pointer (aD Jp (pc + 5))) (.int .i64 0)) Cg (fun _ FE => Bu R b0 b1 FE))))))))) (Bu R b0 b1 y)) (Bu R b0 b1 y)))) : Spec prog 130 #[(.pointer (aD b0 0)), (.pointer (aD b1 0))] σ R := M.start h ok
theorem BF (h : LQ σ b0 0 fun q33 => Pq q33 fun z7 o34 => LQ σ z7 o34 fun q36 => LQ σ b0 0 fun q37 => LQ σ b0 0 fun q38 => Pq q38 fun Nb cX => LI .i64 σ Nb (cX + 4) fun LK => LS σ b1 0 fun UR n43 VN => Spec prog 134 #[.pointer q37, (.string (ByteArray.mk #[115])), .int .i64 LK] σ (AB R (CT fun s42 y => Kp [b1, z7, b0] σ y ∧ Spec prog 135 #[.pointer q36, .string s42, .slice UR n43 VN] y (AB R (CI .i64 fun pZ AI => Spec prog 132 #[.int .i64 pZ] AI (AB R (fun z AZ => z = (.tuple #[]) ∧ LQ AZ b0 0 fun wR => Spec prog 131 #[.pointer wR] AZ (AB R (CB fun t47 Av => Bn t47 (LQ Av b0 0 fun q49 => LQ Av b0 0 fun q50 => Pq q50 fun Zc Zd => LS Av Zc (Zd + 3) fun p53 n53 c53 => LQ Av b0 0 fun q54 => Pq q54 fun VR w8 => LI .i64 Av VR (w8 + 4) fun x57 => Al Av fun M9 => AJ prog (Builtin.append_ #[26, 26] 26 #[.slice p53 n53 c53, (.slice (aD M9 0) 1 1)]) (Hp.set Av M9 (.cells #[.int .i64 x57] 3 (0, 0))) (CS fun p59 n59 c59 Cg => Kp [b0] (Hp.set Av M9 (.cells #[.int .i64 x57] 3 (0, 0))) Cg ∧ Pq q49 fun Rc o60 => AJ prog (Instr.storeAt 26 (.pointer (aD Rc (o60 + 3))) (.slice p59 n59 c59)) Cg (fun _ FE => GR R b0 b1 FE))) (GR R b0 b1 Av)))))))))) : Bu R b0 b1 σ := M.of h ok rfl
theorem GS (h : LQ σ b0 0 fun q62 => Pq q62 fun wc we => LI .i64 σ wc (we + 5) fun zv => LS σ b1 0 fun p66 n66 c66 => AN (zv + (n66 : Int)) ∧ AJ prog (Instr.storeAt 3 (.pointer (aD wc (we + 5))) (.int .i64 (zv + (n66 : Int)))) σ (fun _ y => R (.returned (.tuple #[])) y)) : GR R b0 b1 σ := M.of h ok rfl
end BP
namespace QK
variable {b0 b1 b2 b3 : Nat}
def M : Fw := ⟨prog, 172, f172, [132, 134, 173, 174, 175, 176], [], false, [(0, 5, false), (1, 8, true), (5, 11, true)], [], []⟩
theorem ok : M.Ok := ⟨.cons call132 (.cons call134 (.cons call173 (.cons call174 (.cons call175 (.cons call176 (AK.nil)))))), mixed, func172, by kernel_rfl⟩
theorem start (h : LQ σ b0 0 fun q7 => LQ σ b1 0 fun q8 => LT σ b2 0 fun s9 => (ByteArray.size s9 + ByteArray.size (ByteArray.mk #[47]) ≤ 9223372036854775807) ∧ Spec prog 174 #[.pointer q8, (.string (s9 ++ (ByteArray.mk #[47])))] σ (AB R (CS fun WE n11 ZU y => Kp [b0] σ y ∧ Spec prog 173 #[.pointer q7, .slice WE n11 ZU] y (AB R (fun z AI => z = (.tuple #[]) ∧ LQ AI b0 0 fun eu => LQ AI b0 0 fun et => Pq et fun bu nX => LI .i64 AI bu (nX + 2) fun I7 => AN (I7 + 1) ∧ Pq eu fun UL iG => AJ prog (Instr.storeAt 3 (.pointer (aD UL (iG + 4))) (.int .i64 (I7 + 1))) AI (fun _ AZ => LQ AZ b0 0 fun zt => Spec prog 175 #[.pointer zt] AZ (AB R (CS fun p22 n22 c22 Av => AJ prog (Instr.storeAt 165 (.pointer (aD b3 0)) (.slice p22 n22 c22)) Av (fun _ Cg => LQ Cg b0 0 fun q23 => Pq q23 fun M5 cH => LS Cg M5 (cH + 3) fun WO n26 Sz => Br (0 < (n26 : Int)) (LQ Cg b0 0 fun q30 => LQ Cg b0 0 fun q31 => Pq q31 fun kG kH => LS Cg kG (kH + 3) fun p34 n34 c34 => AN ((n26 : Int) - 1) ∧ Pq p34 fun Hx j8 => In (((n26 : Int) - 1)) (n34 : Int) ∧ LI .i64 Cg Hx (j8 + Int.toNat ((n26 : Int) - 1) * 1) fun M8 => Pq q30 fun Nb cX => AJ prog (Instr.storeAt 3 (.pointer (aD Nb (cX + 4))) (.int .i64 M8)) Cg (fun _ FE => LQ FE b1 0 fun q42 => LQ FE b0 0 fun q43 => LQ FE b0 0 fun q44 => Pq q44 fun WY z8 => LI .i64 FE WY (z8 + 4) fun Rq => Spec prog 134 #[.pointer q43, (.string (ByteArray.mk #[115])), .int .i64 Rq] FE (AB R (CT fun s48 Ek => Kp [b1] FE Ek ∧ Spec prog 176 #[.pointer q42, .string s48] Ek (AB R (fun z IL => ∃ AIv ACF AIw ACG, z = (.tuple #[.slice AIv ACF AIw, .int .i64 ACG]) ∧ Spec prog 132 #[.int .i64 ACG] IL (AB R (fun z kJ => z = (.tuple #[]) ∧ LQ kJ b0 0 fun q54 => Pq q54 fun VO VP => AJ prog (Instr.storeAt 3 (.pointer (aD VO (VP + 5))) (.int .i64 (ACF : Int))) kJ (fun _ kK => R (.returned (.tuple #[])) kK))))))))) (R (.returned (.tuple #[])) Cg)))))))))) : Spec prog 172 #[(.pointer (aD b0 0)), (.pointer (aD b1 0)), (.pointer (aD b2 0)), (.pointer (aD b3 0))] σ R := M.start h ok
end QK
namespace J9
variable {q0 : Option Addr} {s1 : ByteArray}
def M : Fw := ⟨prog, 176, f176, [223], [], false, [], [], []⟩
theorem ok : M.Ok := ⟨.cons call223 (AK.nil), mixed, func176, by kernel_rfl⟩
theorem start (h : Pq q0 fun b8 o8 => LB σ b8 (o8 + 1) fun t10 => Bn t10 (R (.returned (.tuple #[.slice none 0 0, .int .i64 60])) σ) (Spec prog 223 #[(.pointer (aD b8 o8)), .string s1] σ (AB R (CI .i64 fun FD y => Br (FD ≠ 0) (R (.returned (.tuple #[.slice none 0 0, .int .i64 FD])) y) (Al y fun PM => LM (Hp.set y PM (.cells #[] 5 (0, 0))) b8 o8 fun m22 => AJ prog (Instr.lookup 186 (.map m22) (.string s1) false) (Hp.set y PM (.cells #[] 5 (0, 0))) (CQ fun q24 AI => Pq q24 fun pd o25 => LS AI pd o25 fun VS n27 Rt => AJ prog (Builtin.append_ #[84, 84] 84 #[(.slice (aD PM 0) 0 0), .slice VS n27 Rt]) AI (CS fun xD n28 c28 AZ => R (.returned (.tuple #[.slice xD n28 c28, .int .i64 0])) AZ))))))) : Spec prog 176 #[.pointer q0, .string s1] σ R := M.start h ok
end J9
namespace Fu
def K0 := f188.body.getD .skip
def K1 := cl K0
def K2 := cr K0
def K3 := cl K2
def K4 := cr K2
def K5 := cl K4
def K6 := cr K4
def K7 := cl K6
def K8 := cl K7
def K9 := cr K7
def Lm := cl K9
def Ss := cl Lm
def MM := cr Lm
def QC := cr K9
def ZV := cr K6
def eb := cl ZV
def Su := cr ZV
def N5 := cl Su
def YL := cl N5
def UO := cr N5
def Sv := cl UO
def iI := cl Sv
def bz := cr Sv
def YM := cr UO
def ed := cr Su
def WG := cl ed
def WH := cl WG
def WI := cr WG
def WJ := cl WI
def WK := cl WJ
def jj := cr WJ
def iJ := cl jj
def YO := cr jj
def cA := cl YO
def iK := cr YO
def iL := cl iK
def nK := cr iK
def K37 := cr WI
def sT := cr ed
def K39 := cl sT
def sU := cr sT
def sV := cl sU
def sW := cl sV
def zo := cr sV
def ou := cl zo
def wJ := cl ou
def sX := cr ou
def nL := cl sX
def sY := cr sX
def sZ := cl sY
def YQ := cr sY
def wK := cr zo
def nM := cr sU
def zp := cl nM
def nN := cr nM
def nO := cl nN
def cB := cr nN
def zq := cl cB
def sa := cr cB
abbrev gl (R : Rr) : Gl := Gl.fn prog 188 95 R
theorem start {R : Rr} {p0 p2 : Option Addr} {n0 c0 n2 c2 : Nat} {x1 : Int} {σ : Hp} (h : ((0 : Int) ≤ x1 ∧ x1 ≤ (n0 : Int)) ∧ (((n2 : Int) : Int) = 0 → R (.returned (.slice p0 n0 c0)) σ) ∧ (¬ (((n2 : Int) : Int) = 0) → ((x1 : Int) = (n0 : Int) → AJ prog (Builtin.append_ #[39, 39] 39 #[(.slice p0 n0 c0), (.slice p2 n2 c2)]) σ (fun v σ1 => ∃ OA : Option Addr, ∃ n25 : Nat, ∃ M7 : Nat, v = (.slice OA n25 M7) ∧ R (.returned (.slice OA n25 M7)) σ1)) ∧ (¬ ((x1 : Int) = (n0 : Int)) → AN ((n0 : Int) + (n2 : Int)) ∧ (((c0 : Int) : Int) < ((n0 : Int) + (n2 : Int)) → ((0 : Int) ≤ x1 ∧ x1 ≤ (c0 : Int)) ∧ AN ((n0 : Int) + (n2 : Int)) ∧ AN (((n0 : Int) + (n2 : Int)) - x1) ∧ AJ prog (Builtin.append_ #[39, 3] 39 #[(.slice p0 (Int.toNat x1) c0), (.int .i64 (((n0 : Int) + (n2 : Int)) - x1))]) σ (fun v σ1 => ∃ N6 : Option Addr, ∃ n40 : Nat, ∃ c40 : Nat, v = (.slice N6 n40 c40) ∧ ((0 : Int) ≤ x1 ∧ x1 ≤ (n40 : Int)) ∧ AJ prog (Builtin.copy_ #[39, 39] 3 #[(.slice (Dp N6 (Int.toNat x1) c40 3) (n40 - Int.toNat x1) (c40 - Int.toNat x1)), (.slice p2 n2 c2)]) σ1 (fun MO Az => ∃ Zf : Int, MO = (.int .i64 Zf) ∧ AN (x1 + (n2 : Int)) ∧ ((0 : Int) ≤ (x1 + (n2 : Int)) ∧ (x1 + (n2 : Int)) ≤ (n40 : Int)) ∧ ((0 : Int) ≤ x1 ∧ x1 ≤ (n0 : Int)) ∧ AJ prog (Builtin.copy_ #[39, 39] 3 #[(.slice (Dp N6 (Int.toNat (x1 + (n2 : Int))) c40 3) (n40 - Int.toNat (x1 + (n2 : Int))) (c40 - Int.toNat (x1 + (n2 : Int)))), (.slice (Dp p0 (Int.toNat x1) c0 3) (n0 - Int.toNat x1) (c0 - Int.toNat x1))]) Az (fun Ze A0 => ∃ ek : Int, Ze = (.int .i64 ek) ∧ R (.returned (.slice N6 n40 c40)) A0)))) ∧ (¬ (((c0 : Int) : Int) < ((n0 : Int) + (n2 : Int))) → AN ((n0 : Int) + (n2 : Int)) ∧ ((0 : Int) ≤ ((n0 : Int) + (n2 : Int)) ∧ ((n0 : Int) + (n2 : Int)) ≤ (c0 : Int)) ∧ AN (x1 + (n2 : Int)) ∧ ((0 : Int) ≤ (x1 + (n2 : Int)) ∧ (x1 + (n2 : Int)) ≤ (((Int.toNat ((n0 : Int) + (n2 : Int))) : Nat) : Int)) ∧ ∃ t67 : Bool, YN prog 262 #[(.slice p2 n2 c2), (.slice (Dp p0 (Int.toNat (x1 + (n2 : Int))) c0 3) ((Int.toNat ((n0 : Int) + (n2 : Int))) - Int.toNat (x1 + (n2 : Int))) (c0 - Int.toNat (x1 + (n2 : Int))))] σ (.bool t67) ∧ (t67 = false → AN (x1 + (n2 : Int)) ∧ ((0 : Int) ≤ (x1 + (n2 : Int)) ∧ (x1 + (n2 : Int)) ≤ (((Int.toNat ((n0 : Int) + (n2 : Int))) : Nat) : Int)) ∧ ((0 : Int) ≤ x1 ∧ x1 ≤ (((Int.toNat ((n0 : Int) + (n2 : Int))) : Nat) : Int)) ∧ AJ prog (Builtin.copy_ #[39, 39] 3 #[(.slice (Dp p0 (Int.toNat (x1 + (n2 : Int))) c0 3) ((Int.toNat ((n0 : Int) + (n2 : Int))) - Int.toNat (x1 + (n2 : Int))) (c0 - Int.toNat (x1 + (n2 : Int)))), (.slice (Dp p0 (Int.toNat x1) c0 3) ((Int.toNat ((n0 : Int) + (n2 : Int))) - Int.toNat x1) (c0 - Int.toNat x1))]) σ (fun MO Az => ∃ x77 : Int, MO = (.int .i64 x77) ∧ ((0 : Int) ≤ x1 ∧ x1 ≤ (((Int.toNat ((n0 : Int) + (n2 : Int))) : Nat) : Int)) ∧ AJ prog (Builtin.copy_ #[39, 39] 3 #[(.slice (Dp p0 (Int.toNat x1) c0 3) ((Int.toNat ((n0 : Int) + (n2 : Int))) - Int.toNat x1) (c0 - Int.toNat x1)), (.slice p2 n2 c2)]) Az (fun Ze A0 => ∃ x82 : Int, Ze = (.int .i64 x82) ∧ R (.returned (.slice p0 (Int.toNat ((n0 : Int) + (n2 : Int))) c0)) A0))) ∧ (t67 = true → ((0 : Int) ≤ (n0 : Int) ∧ (n0 : Int) ≤ (((Int.toNat ((n0 : Int) + (n2 : Int))) : Nat) : Int)) ∧ AJ prog (Builtin.copy_ #[39, 39] 3 #[(.slice (Dp p0 (Int.toNat (n0 : Int)) c0 3) ((Int.toNat ((n0 : Int) + (n2 : Int))) - Int.toNat (n0 : Int)) (c0 - Int.toNat (n0 : Int))), (.slice p2 n2 c2)]) σ (fun MO Az => ∃ x88 : Int, MO = (.int .i64 x88) ∧ ((0 : Int) ≤ x1 ∧ x1 ≤ (((Int.toNat ((n0 : Int) + (n2 : Int))) : Nat) : Int)) ∧ Spec prog 263 #[(.slice (Dp p0 (Int.toNat x1) c0 3) ((Int.toNat ((n0 : Int) + (n2 : Int))) - Int.toNat x1) (c0 - Int.toNat x1)), (.int .i64 (n2 : Int))] Az (AB R (fun Ze A0 => Ze = (.tuple #[]) ∧ R (.returned (.slice p0 (Int.toNat ((n0 : Int) + (n2 : Int))) c0)) A0)))))))) : Spec prog 188 #[(.slice p0 n0 c0), (.int .i64 x1), (.slice p2 n2 c2)] σ R := by
 refine Spec.Js (fn := f188) (c := K0) func188 (by kernel_rfl) (Nat.le_of_ble_eq_true (by kernel_rfl)) (fun e he => ?_)
 refine At.oO (l := [(0, (.slice p0 n0 c0)), (1, (.int .i64 x1)), (2, (.slice p2 n2 c2))]) ⟨he 0, he 1, he 2, trivial⟩ (fun J => ?_)
 show At (gl R) _ _ _ _
 refine At.s K1 K2 ?_
 refine At.rg 0 [0] ?_
 refine Seq.u 6 (.slice none 0 0) (Seq.done ?_)
 refine At.s K3 K4 ?_
 refine At.rg 1 [0, 1, 2] ?_
 refine Seq.us [(10, .slice p0 n0 c0), (11, .int .i64 x1)] ?_
 obtain ⟨hs, h⟩ := h
 refine Seq.z 12 (.slice 39 (.tmp 10) (some (.tmp 11)) none none) 39 (.slice (Dp p0 (Int.toNat x1) c0 3) (n0 - Int.toNat x1) (c0 - Int.toNat x1)) (Y.iD underlying39 sizeOf196 rfl rfl hs) (Seq.done ?_)
 refine At.s K5 K6 ?_
 refine At.rg 2 [0, 1, 2] ?_
 refine Seq.u 13 (.slice p2 n2 c2) ?_
 refine Seq.z 14 (.call { callee := .builtin .len, args := #[(.tmp 13)], argTypes := #[39] }) 3 (.int .i64 (n2 : Int)) (Y.Yp underlying39 rfl rfl) ?_
 refine Seq.u 7 (.int .i64 (n2 : Int)) (Seq.done ?_)
 refine At.s K7 ZV (At.s K8 K9 ?_)
 refine At.rg 3 [0, 1] ?_
 refine Seq.us [(15, .int .i64 (n2 : Int)), (16, .bool (decide (((n2 : Int) : Int) = 0)))] (Seq.done ?_)
 cases hb : (decide (((n2 : Int) : Int) = 0)) with
 | true =>
  replace h := h.1 (of_decide_eq_true hb)
  refine At.cT 16 Lm QC ?_
  refine At.s Ss MM ?_
  refine At.rg 4 [0, 1] ?_
  refine Seq.us [(17, .slice p0 n0 c0), (6, .slice p0 n0 c0)] (Seq.done ?_)
  exact At.rt [.tmp 6] [(.slice p0 n0 c0)] func188 ⟨_, rfl, rfl⟩ h
 | false =>
  replace h := h.2 (of_decide_eq_false hb)
  refine At.cF 16 Lm QC ?_
  refine At.skip ?_
  refine At.s eb Su ?_
  refine At.rg 5 [0, 1, 2] ?_
  refine Seq.u 18 (.slice p0 n0 c0) ?_
  refine Seq.z 19 (.call { callee := .builtin .len, args := #[(.tmp 18)], argTypes := #[39] }) 3 (.int .i64 (n0 : Int)) (Y.Yp underlying39 rfl rfl) ?_
  refine Seq.u 8 (.int .i64 (n0 : Int)) (Seq.done ?_)
  refine At.s N5 ed (At.s YL UO ?_)
  refine At.rg 6 [0, 1, 2] ?_
  refine Seq.us [(20, .int .i64 x1), (21, .int .i64 (n0 : Int)), (22, .bool (decide ((x1 : Int) = (n0 : Int))))] (Seq.done ?_)
  cases hb : (decide ((x1 : Int) = (n0 : Int))) with
  | true =>
   replace h := h.1 (of_decide_eq_true hb)
   refine At.cT 22 Sv YM ?_
   refine At.s iI bz ?_
   refine At.rg 7 [0, 1, 2, 3] ?_
   refine Seq.us [(23, .slice p0 n0 c0), (24, .slice p2 n2 c2)] ?_
   refine Seq.o ?_
   refine AV.Tp (d := (some 25)) (op := (.call { callee := .builtin .append, args := #[(.tmp 23), (.tmp 24)], argTypes := #[39, 39] })) (ty := 39) (gd := none) (by kernel_rfl) rfl rfl (Builtin.append_ #[39, 39] 39 #[(.slice p0 n0 c0), (.slice p2 n2 c2)]) (fun o ho ht => ED rfl rfl o ho ht) (h.mono (fun v σ1 h2 => ?_)); replace h := h2; clear h2
   obtain ⟨OA, n25, M7, rfl, h⟩ := h
   refine Seq.u 6 (.slice OA n25 M7) (Seq.done ?_)
   exact At.rt [.tmp 6] [(.slice OA n25 M7)] func188 ⟨_, rfl, rfl⟩ h
  | false =>
   replace h := h.2 (of_decide_eq_false hb)
   refine At.cF 22 Sv YM ?_
   refine At.skip ?_
   refine At.s WG sT (At.s WH WI ?_)
   refine At.rg 8 [0, 1, 2, 3, 4, 5] ?_
   refine Seq.us [(26, .int .i64 (n0 : Int)), (27, .int .i64 (n2 : Int))] ?_
   obtain ⟨hi, h⟩ := h
   refine Seq.z 28 (.binOp .add 3 (.tmp 26) (.tmp 27) 3) 3 (.int .i64 ((n0 : Int) + (n2 : Int))) (Y.Pe hi rfl rfl) ?_
   refine Seq.u 29 (.slice p0 n0 c0) ?_
   refine Seq.z 30 (.call { callee := .builtin .cap, args := #[(.tmp 29)], argTypes := #[39] }) 3 (.int .i64 (c0 : Int)) (Y.AAf underlying39 rfl rfl) ?_
   refine Seq.u 31 (.bool (decide (((c0 : Int) : Int) < ((n0 : Int) + (n2 : Int))))) (Seq.done ?_)
   cases hb : (decide (((c0 : Int) : Int) < ((n0 : Int) + (n2 : Int)))) with
   | true =>
    replace h := h.1 (of_decide_eq_true hb)
    refine At.cT 31 WJ K37 ?_
    refine At.s WK jj ?_
    refine At.rg 9 [0, 1, 2, 3, 4, 5, 6, 7, 8, 9] ?_
    refine Seq.us [(32, .slice p0 n0 c0), (33, .int .i64 x1)] ?_
    obtain ⟨hs, h⟩ := h
    refine Seq.z 34 (.slice 39 (.tmp 32) none (some (.tmp 33)) none) 39 (.slice p0 (Int.toNat x1) c0) (Y.slh underlying39 sizeOf196 rfl rfl hs) ?_
    refine Seq.us [(35, .int .i64 (n0 : Int)), (36, .int .i64 (n2 : Int))] ?_
    obtain ⟨hi, h⟩ := h
    refine Seq.z 37 (.binOp .add 3 (.tmp 35) (.tmp 36) 3) 3 (.int .i64 ((n0 : Int) + (n2 : Int))) (Y.Pe hi rfl rfl) ?_
    refine Seq.u 38 (.int .i64 x1) ?_
    obtain ⟨hi, h⟩ := h
    refine Seq.z 39 (.binOp .sub 3 (.tmp 37) (.tmp 38) 3) 3 (.int .i64 (((n0 : Int) + (n2 : Int)) - x1)) (Y.oK hi rfl rfl) ?_
    refine Seq.o ?_
    refine AV.Tp (d := (some 40)) (op := (.call { callee := .builtin .append, args := #[(.tmp 34), (.tmp 39)], argTypes := #[39, 3] })) (ty := 39) (gd := none) (by kernel_rfl) rfl rfl (Builtin.append_ #[39, 3] 39 #[(.slice p0 (Int.toNat x1) c0), (.int .i64 (((n0 : Int) + (n2 : Int)) - x1))]) (fun o ho ht => ED rfl rfl o ho ht) (h.mono (fun v σ1 h2 => ?_)); replace h := h2; clear h2
    obtain ⟨N6, n40, c40, rfl, h⟩ := h
    refine Seq.u 9 (.slice N6 n40 c40) (Seq.done ?_)
    refine At.L [(0, (.slice p0 n0 c0)), (1, (.int .i64 x1)), (2, (.slice p2 n2 c2)), (7, (.int .i64 (n2 : Int))), (9, (.slice N6 n40 c40))] fun J => ?_
    refine At.s iJ YO ?_
    refine At.rg 10 [0, 1, 2, 3, 4] ?_
    refine Seq.us [(41, .slice N6 n40 c40), (42, .int .i64 x1)] ?_
    obtain ⟨hs, h⟩ := h
    refine Seq.z 43 (.slice 39 (.tmp 41) (some (.tmp 42)) none none) 39 (.slice (Dp N6 (Int.toNat x1) c40 3) (n40 - Int.toNat x1) (c40 - Int.toNat x1)) (Y.iD underlying39 sizeOf196 rfl rfl hs) ?_
    refine Seq.u 44 (.slice p2 n2 c2) ?_
    refine Seq.o ?_
    refine AV.Tp (d := (some 45)) (op := (.call { callee := .builtin .copy, args := #[(.tmp 43), (.tmp 44)], argTypes := #[39, 39] })) (ty := 3) (gd := none) (by kernel_rfl) rfl rfl (Builtin.copy_ #[39, 39] 3 #[(.slice (Dp N6 (Int.toNat x1) c40 3) (n40 - Int.toNat x1) (c40 - Int.toNat x1)), (.slice p2 n2 c2)]) (fun o ho ht => EX rfl rfl o ho ht) (h.mono (fun MO Az h2 => ?_)); replace h := h2; clear h2
    obtain ⟨Zf, rfl, h⟩ := h
    refine Seq.done ?_
    refine At.s cA iK ?_
    refine At.draw (id := 11) (ops := cO cA) (n := 8) (q := none) (plan := [(0, true), (1, true), (2, true), (3, true), (4, true), (5, true), (6, true), (7, true)]) (tl := [8]) mixed (by kernel_rfl) (by kernel_rfl) ?_
    refine Head.u 46 (.slice N6 n40 c40) ?_
    refine Head.u 47 (.int .i64 x1) ?_
    refine Head.u 48 (.int .i64 (n2 : Int)) ?_
    obtain ⟨hi, h⟩ := h
    refine Head.z 49 (.binOp .add 3 (.tmp 47) (.tmp 48) 3) 3 (.int .i64 (x1 + (n2 : Int))) (Y.Pe hi rfl rfl) ?_
    obtain ⟨hs, h⟩ := h
    refine Head.z 50 (.slice 39 (.tmp 46) (some (.tmp 49)) none none) 39 (.slice (Dp N6 (Int.toNat (x1 + (n2 : Int))) c40 3) (n40 - Int.toNat (x1 + (n2 : Int))) (c40 - Int.toNat (x1 + (n2 : Int)))) (Y.iD underlying39 sizeOf196 rfl rfl hs) ?_
    refine Head.u 51 (.slice p0 n0 c0) ?_
    refine Head.u 52 (.int .i64 x1) ?_
    obtain ⟨hs, h⟩ := h
    refine Head.z 53 (.slice 39 (.tmp 51) (some (.tmp 52)) none none) 39 (.slice (Dp p0 (Int.toNat x1) c0 3) (n0 - Int.toNat x1) (c0 - Int.toNat x1)) (Y.iD underlying39 sizeOf196 rfl rfl hs) ?_
    refine Head.done ?_
    refine Seq.o ?_
    refine AV.Tp (d := (some 54)) (op := (.call { callee := .builtin .copy, args := #[(.tmp 50), (.tmp 53)], argTypes := #[39, 39] })) (ty := 3) (gd := none) (by kernel_rfl) rfl rfl (Builtin.copy_ #[39, 39] 3 #[(.slice (Dp N6 (Int.toNat (x1 + (n2 : Int))) c40 3) (n40 - Int.toNat (x1 + (n2 : Int))) (c40 - Int.toNat (x1 + (n2 : Int)))), (.slice (Dp p0 (Int.toNat x1) c0 3) (n0 - Int.toNat x1) (c0 - Int.toNat x1))]) (fun o ho ht => EX rfl rfl o ho ht) (h.mono (fun Ze A0 h2 => ?_)); replace h := h2; clear h2
    obtain ⟨ek, rfl, h⟩ := h
    refine Seq.done ?_
    refine At.s iL nK ?_
    refine At.rg 12 [0, 1] ?_
    refine Seq.us [(55, .slice N6 n40 c40), (6, .slice N6 n40 c40)] (Seq.done ?_)
    exact At.rt [.tmp 6] [(.slice N6 n40 c40)] func188 ⟨_, rfl, rfl⟩ h
   | false =>
    replace h := h.2 (of_decide_eq_false hb)
    refine At.cF 31 WJ K37 ?_
    refine At.skip ?_
    refine At.s K39 sU ?_
    refine At.rg 13 [0, 1, 2, 3, 4, 5] ?_
    refine Seq.us [(56, .slice p0 n0 c0), (57, .int .i64 (n0 : Int)), (58, .int .i64 (n2 : Int))] ?_
    obtain ⟨hi, h⟩ := h
    refine Seq.z 59 (.binOp .add 3 (.tmp 57) (.tmp 58) 3) 3 (.int .i64 ((n0 : Int) + (n2 : Int))) (Y.Pe hi rfl rfl) ?_
    obtain ⟨hs, h⟩ := h
    refine Seq.z 60 (.slice 39 (.tmp 56) none (some (.tmp 59)) none) 39 (.slice p0 (Int.toNat ((n0 : Int) + (n2 : Int))) c0) (Y.slh underlying39 sizeOf196 rfl rfl hs) ?_
    refine Seq.u 0 (.slice p0 (Int.toNat ((n0 : Int) + (n2 : Int))) c0) (Seq.done ?_)
    refine At.s sV nM (At.s sW zo ?_)
    refine At.rg 14 [0, 1, 2, 3, 4, 5, 6, 7] ?_
    refine Seq.us [(61, .slice p2 n2 c2), (62, .slice p0 (Int.toNat ((n0 : Int) + (n2 : Int))) c0), (63, .int .i64 x1), (64, .int .i64 (n2 : Int))] ?_
    obtain ⟨hi, h⟩ := h
    refine Seq.z 65 (.binOp .add 3 (.tmp 63) (.tmp 64) 3) 3 (.int .i64 (x1 + (n2 : Int))) (Y.Pe hi rfl rfl) ?_
    obtain ⟨hs, h⟩ := h
    refine Seq.z 66 (.slice 39 (.tmp 62) (some (.tmp 65)) none none) 39 (.slice (Dp p0 (Int.toNat (x1 + (n2 : Int))) c0 3) ((Int.toNat ((n0 : Int) + (n2 : Int))) - Int.toNat (x1 + (n2 : Int))) (c0 - Int.toNat (x1 + (n2 : Int)))) (Y.iD underlying39 sizeOf196 rfl rfl hs) ?_
    obtain ⟨t67, hy, h⟩ := h
    refine Seq.y (d := (some 67)) (op := (.call { callee := .value (.func 262), args := #[(.tmp 61), (.tmp 66)], argTypes := #[39, 39] })) (ty := 4) (v := (.bool t67)) (by kernel_rfl) rfl (Yd.ext (f := 262) (args := #[(.slice p2 n2 c2), (.slice (Dp p0 (Int.toNat (x1 + (n2 : Int))) c0 3) ((Int.toNat ((n0 : Int) + (n2 : Int))) - Int.toNat (x1 + (n2 : Int))) (c0 - Int.toNat (x1 + (n2 : Int))))]) rfl rfl hy) ?_
    refine Seq.u 68 (.bool (!t67)) (Seq.done ?_)
    cases hb : (!t67) with
    | true =>
     replace h := h.1 (Tw.nt hb)
     refine At.cT 68 ou wK ?_
     refine At.s wJ sX ?_
     refine At.draw (id := 15) (ops := cO wJ) (n := 8) (q := none) (plan := [(0, true), (1, true), (2, true), (3, true), (4, true), (5, true), (6, true), (7, true)]) (tl := [8]) mixed (by kernel_rfl) (by kernel_rfl) ?_
     refine Head.u 69 (.slice p0 (Int.toNat ((n0 : Int) + (n2 : Int))) c0) ?_
     refine Head.u 70 (.int .i64 x1) ?_
     refine Head.u 71 (.int .i64 (n2 : Int)) ?_
     obtain ⟨hi, h⟩ := h
     refine Head.z 72 (.binOp .add 3 (.tmp 70) (.tmp 71) 3) 3 (.int .i64 (x1 + (n2 : Int))) (Y.Pe hi rfl rfl) ?_
     obtain ⟨hs, h⟩ := h
     refine Head.z 73 (.slice 39 (.tmp 69) (some (.tmp 72)) none none) 39 (.slice (Dp p0 (Int.toNat (x1 + (n2 : Int))) c0 3) ((Int.toNat ((n0 : Int) + (n2 : Int))) - Int.toNat (x1 + (n2 : Int))) (c0 - Int.toNat (x1 + (n2 : Int)))) (Y.iD underlying39 sizeOf196 rfl rfl hs) ?_
     refine Head.u 74 (.slice p0 (Int.toNat ((n0 : Int) + (n2 : Int))) c0) ?_
     refine Head.u 75 (.int .i64 x1) ?_
     obtain ⟨hs, h⟩ := h
     refine Head.z 76 (.slice 39 (.tmp 74) (some (.tmp 75)) none none) 39 (.slice (Dp p0 (Int.toNat x1) c0 3) ((Int.toNat ((n0 : Int) + (n2 : Int))) - Int.toNat x1) (c0 - Int.toNat x1)) (Y.iD underlying39 sizeOf196 rfl rfl hs) ?_
     refine Head.done ?_
     refine Seq.o ?_
     refine AV.Tp (d := (some 77)) (op := (.call { callee := .builtin .copy, args := #[(.tmp 73), (.tmp 76)], argTypes := #[39, 39] })) (ty := 3) (gd := none) (by kernel_rfl) rfl rfl (Builtin.copy_ #[39, 39] 3 #[(.slice (Dp p0 (Int.toNat (x1 + (n2 : Int))) c0 3) ((Int.toNat ((n0 : Int) + (n2 : Int))) - Int.toNat (x1 + (n2 : Int))) (c0 - Int.toNat (x1 + (n2 : Int)))), (.slice (Dp p0 (Int.toNat x1) c0 3) ((Int.toNat ((n0 : Int) + (n2 : Int))) - Int.toNat x1) (c0 - Int.toNat x1))]) (fun o ho ht => EX rfl rfl o ho ht) (h.mono (fun MO Az h2 => ?_)); replace h := h2; clear h2
     obtain ⟨x77, rfl, h⟩ := h
     refine Seq.done ?_
     refine At.L [(0, (.slice p0 (Int.toNat ((n0 : Int) + (n2 : Int))) c0)), (1, (.int .i64 x1)), (2, (.slice p2 n2 c2))] fun J => ?_
     refine At.s nL sY ?_
     refine At.rg 16 [0, 1, 2, 3, 4] ?_
     refine Seq.us [(78, .slice p0 (Int.toNat ((n0 : Int) + (n2 : Int))) c0), (79, .int .i64 x1)] ?_
     obtain ⟨hs, h⟩ := h
     refine Seq.z 80 (.slice 39 (.tmp 78) (some (.tmp 79)) none none) 39 (.slice (Dp p0 (Int.toNat x1) c0 3) ((Int.toNat ((n0 : Int) + (n2 : Int))) - Int.toNat x1) (c0 - Int.toNat x1)) (Y.iD underlying39 sizeOf196 rfl rfl hs) ?_
     refine Seq.u 81 (.slice p2 n2 c2) ?_
     refine Seq.o ?_
     refine AV.Tp (d := (some 82)) (op := (.call { callee := .builtin .copy, args := #[(.tmp 80), (.tmp 81)], argTypes := #[39, 39] })) (ty := 3) (gd := none) (by kernel_rfl) rfl rfl (Builtin.copy_ #[39, 39] 3 #[(.slice (Dp p0 (Int.toNat x1) c0 3) ((Int.toNat ((n0 : Int) + (n2 : Int))) - Int.toNat x1) (c0 - Int.toNat x1)), (.slice p2 n2 c2)]) (fun o ho ht => EX rfl rfl o ho ht) (h.mono (fun Ze A0 h2 => ?_)); replace h := h2; clear h2
     obtain ⟨x82, rfl, h⟩ := h
     refine Seq.done ?_
     refine At.s sZ YQ ?_
     refine At.rg 17 [0, 1] ?_
     refine Seq.us [(83, .slice p0 (Int.toNat ((n0 : Int) + (n2 : Int))) c0), (6, .slice p0 (Int.toNat ((n0 : Int) + (n2 : Int))) c0)] (Seq.done ?_)
     exact At.rt [.tmp 6] [(.slice p0 (Int.toNat ((n0 : Int) + (n2 : Int))) c0)] func188 ⟨_, rfl, rfl⟩ h
    | false =>
     replace h := h.2 (Tw.nf hb)
     refine At.cF 68 ou wK ?_
     refine At.skip ?_
     refine At.s zp nN ?_
     refine At.rg 18 [0, 1, 2, 3, 4] ?_
     refine Seq.us [(84, .slice p0 (Int.toNat ((n0 : Int) + (n2 : Int))) c0), (85, .int .i64 (n0 : Int))] ?_
     obtain ⟨hs, h⟩ := h
     refine Seq.z 86 (.slice 39 (.tmp 84) (some (.tmp 85)) none none) 39 (.slice (Dp p0 (Int.toNat (n0 : Int)) c0 3) ((Int.toNat ((n0 : Int) + (n2 : Int))) - Int.toNat (n0 : Int)) (c0 - Int.toNat (n0 : Int))) (Y.iD underlying39 sizeOf196 rfl rfl hs) ?_
     refine Seq.u 87 (.slice p2 n2 c2) ?_
     refine Seq.o ?_
     refine AV.Tp (d := (some 88)) (op := (.call { callee := .builtin .copy, args := #[(.tmp 86), (.tmp 87)], argTypes := #[39, 39] })) (ty := 3) (gd := none) (by kernel_rfl) rfl rfl (Builtin.copy_ #[39, 39] 3 #[(.slice (Dp p0 (Int.toNat (n0 : Int)) c0 3) ((Int.toNat ((n0 : Int) + (n2 : Int))) - Int.toNat (n0 : Int)) (c0 - Int.toNat (n0 : Int))), (.slice p2 n2 c2)]) (fun o ho ht => EX rfl rfl o ho ht) (h.mono (fun MO Az h2 => ?_)); replace h := h2; clear h2
     obtain ⟨x88, rfl, h⟩ := h
     refine Seq.done ?_
     refine At.s nO cB ?_
     refine At.rg 19 [0, 1, 2, 3, 4] ?_
     refine Seq.us [(89, .slice p0 (Int.toNat ((n0 : Int) + (n2 : Int))) c0), (90, .int .i64 x1)] ?_
     obtain ⟨hs, h⟩ := h
     refine Seq.z 91 (.slice 39 (.tmp 89) (some (.tmp 90)) none none) 39 (.slice (Dp p0 (Int.toNat x1) c0 3) ((Int.toNat ((n0 : Int) + (n2 : Int))) - Int.toNat x1) (c0 - Int.toNat x1)) (Y.iD underlying39 sizeOf196 rfl rfl hs) ?_
     refine Seq.u 92 (.int .i64 (n2 : Int)) ?_
     refine Seq.o ?_
     refine AV.cl (some 93) call263 (h.cont fun Ze A0 h2 => ?_); replace h := h2; clear h2
     obtain ⟨rfl, h⟩ := h
     refine Seq.done ?_
     refine At.s zq sa ?_
     refine At.rg 20 [0, 1] ?_
     refine Seq.us [(94, .slice p0 (Int.toNat ((n0 : Int) + (n2 : Int))) c0), (6, .slice p0 (Int.toNat ((n0 : Int) + (n2 : Int))) c0)] (Seq.done ?_)
     exact At.rt [.tmp 6] [(.slice p0 (Int.toNat ((n0 : Int) + (n2 : Int))) c0)] func188 ⟨_, rfl, rfl⟩ h
end Fu
namespace Gx
variable {b0 b1 b2 : Nat}
def M : Fw := ⟨prog, 228, f228, [171], [], false, [(4, 30, true)], [], []⟩
theorem ok : M.Ok := ⟨.cons call171 (AK.nil), mixed, func228, by kernel_rfl⟩
theorem start (h : LT σ b0 0 fun s5 => Spec prog 171 #[.string s5] σ (AB R (CB fun t6 y => Bn t6 (R (.returned (.int .i64 61)) y) (LQ y b1 0 fun q8 => Pq q8 fun b9 o9 => LM y b9 o9 fun m11 => LT y b0 0 fun zz => AJ prog (Instr.lookup 186 (.map m11) (.string zz) false) y (CQ fun eu AI => Bo (Option.isNone eu) (LQ AI b1 0 fun q17 => Pq q17 fun PM YV => LM AI PM YV fun m20 => ∃ IE, YF prog (Builtin.len_ #[186] 3 #[.map m20]) AI (.int .i64 IE) ∧ Br (1048576 ≤ IE) (R (.returned (.int .i64 63)) AI) (LS AI b2 0 fun bq n24 c24 => Br (4194304 < (n24 : Int)) (R (.returned (.int .i64 63)) AI) (Bo (Option.isSome eu) (LS AI b2 0 fun jo n33 jq => Pq eu fun pF pG => LS AI pF pG fun nU n38 nV => AN (4194304 - (n38 : Int)) ∧ Br (((4194304 - (n38 : Int)) : Int) < (n33 : Int)) (R (.returned (.int .i64 63)) AI) (R (.returned (.int .i64 0)) AI)) (R (.returned (.int .i64 0)) AI)))) (Bo (Option.isSome eu) (LS AI b2 0 fun jo n33 jq => Pq eu fun pF pG => LS AI pF pG fun nU n38 nV => AN (4194304 - (n38 : Int)) ∧ Br (((4194304 - (n38 : Int)) : Int) < (n33 : Int)) (R (.returned (.int .i64 63)) AI) (R (.returned (.int .i64 0)) AI)) (R (.returned (.int .i64 0)) AI))))))) : Spec prog 228 #[(.pointer (aD b0 0)), (.pointer (aD b1 0)), (.pointer (aD b2 0))] σ R := M.start h ok
end Gx
namespace Dy
variable {q0 p2 Ou : Option Addr} {s1 : ByteArray} {n2 c2 n10 Hj : Nat} {DU : Int}
def M : Fw := ⟨prog, 258, f258, [132, 134, 137, 138, 176, 302], [], false, [(9, 10, false)], [], [(4048, [(0, wQ), (1, wT), (2, wL), (10, wL), (12, wI)]), (510, [(10, wL)])]⟩
theorem ok : M.Ok := ⟨.cons call132 (.cons call134 (.cons call137 (.cons call138 (.cons call176 (.cons call302 (AK.nil)))))), mixed, func258, by kernel_rfl⟩
def WV := M.pt 0
def Zg := M.pt 1
theorem start (h : Pq q0 fun bu nX => LQ σ bu nX fun q17 => Spec prog 176 #[.pointer q17, .string s1] σ (AB R (fun z y => ∃ kL kM kN Oy, z = (.tuple #[.slice kL kM kN, .int .i64 Oy]) ∧ Spec prog 132 #[.int .i64 Oy] y (AB R (fun z AI => z = (.tuple #[]) ∧ Spec prog 302 #[.slice kL kM kN] AI (AB R (fun z AZ => ∃ xE xF xG ACH, z = (.tuple #[.slice xE xF xG, .bool ACH]) ∧ Bn ACH (R (.returned (.tuple #[.slice xE xF xG, .bool true])) AZ) (AN ((n2 : Int) - 1) ∧ WV R (aD bu nX) s1 p2 n2 c2 xE xF xG (((n2 : Int) - 1)) AZ)))))))) : Spec prog 258 #[.pointer q0, .string s1, .slice p2 n2 c2] σ R := M.start h ok
theorem Ub (h : Br (0 ≤ DU) (Pq q0 fun N7 e7 => LQ σ N7 e7 fun q42 => Pq p2 fun Iv o46 => In DU (n2 : Int) ∧ LI .i64 σ Iv (o46 + Int.toNat DU * 1) fun Rq => Spec prog 134 #[(.pointer (aD N7 e7)), (.string (ByteArray.mk #[115])), .int .i64 Rq] σ (AB R (CT fun s48 y => Kp [N7] σ y ∧ Spec prog 138 #[.pointer q42, .string s48] y (AB R (CI .i64 fun WZ AI => Spec prog 132 #[.int .i64 WZ] AI (AB R (fun z AZ => z = (.tuple #[]) ∧ AN (DU - 1) ∧ WV R (aD N7 e7) s1 (aD Iv o46) n2 c2 Ou n10 Hj (DU - 1) AZ))))))) (Br (0 < (n10 : Int)) (Spec prog 137 #[.pointer q0, .string s1, .slice Ou n10 Hj] σ (AB R (fun z y => z = (.tuple #[]) ∧ Zg R Ou n10 Hj y))) (Pq q0 fun jz nY => LQ σ jz nY fun q61 => Spec prog 138 #[.pointer q61, .string s1] σ (AB R (CI .i64 fun x63 y => Spec prog 132 #[.int .i64 x63] y (AB R (fun z AI => z = (.tuple #[]) ∧ Zg R Ou n10 Hj AI))))))) : WV R q0 s1 p2 n2 c2 Ou n10 Hj DU σ := M.of h ok rfl
theorem MT (h : R (.returned (.tuple #[.slice Ou n10 Hj, .bool false])) σ) : Zg R Ou n10 Hj σ := M.of h ok rfl
end Dy
namespace BQ
variable {p0 : Option Addr} {n0 c0 : Nat} {v1 : Value} {x7 x8 : Int}
def M : Fw := ⟨prog, 260, f260, [], [], false, [], [], [(104, [(0, wL), (1, wV), (7, wI), (8, wI)])]⟩
theorem ok : M.Ok := ⟨AK.nil, mixed, func260, by kernel_rfl⟩
def NY := M.pt 0
theorem start (h : NY R p0 n0 c0 v1 (n0 : Int) 0 σ) : Spec prog 260 #[.slice p0 n0 c0, v1] σ R := M.Lk h ok [(0, .o (.L p0 n0 c0)), (1, .o (.V v1))] rfl rfl (by kernel_rfl)
theorem D7 (h : Br (x8 < x7) (Pq p0 fun Hk J6 => In x8 (n0 : Int) ∧ ∃ kO Wa kP kQ kR, Dn σ Hk (J6 + Int.toNat x8 * 3) [.int .i64 kO, .int .i64 Wa, .slice kP kQ kR] ∧ ∃ (f16 : Nat) (OD OE : Array Value), v1 = .func (.func f16) OD OE ∧ Enters prog f16 ∧ Spec prog f16 (OD ++ #[.agg #[.int .i64 kO, .int .i64 Wa, .slice kP kQ kR]] ++ OE) σ (AB R (CB fun t16 y => Bo t16 (R (.returned (.int .i64 x8)) y) (AN (x8 + 1) ∧ NY R (aD Hk J6) n0 c0 v1 x7 (x8 + 1) y)))) (R (.returned (.int .i64 (-1))) σ)) : NY R p0 n0 c0 v1 x7 x8 σ := M.of h ok rfl
end BQ
namespace Ec
variable {p0 p8 : Option Addr} {n0 c0 n8 c8 : Nat} {x9 Db : Int}
def M : Fw := ⟨prog, 267, f267, [306, 307], [4], false, [(10, 14, true)], [], [(232, [(0, wL), (8, wL), (9, wI), (10, wI)])]⟩
theorem ok : M.Ok := ⟨.cons call306 (.cons call307 (AK.nil)), mixed, func267, by kernel_rfl⟩
def fA := M.pt 0
theorem start (h : Br (16 < (n0 : Int)) (R (.returned (.int .i64 30)) σ) (fA R p0 n0 c0 p0 n0 c0 (n0 : Int) 0 σ)) : Spec prog 267 #[.slice p0 n0 c0] σ R := M.start h ok
theorem cY (h : Br (Db < x9) (Pq p8 fun IJ kS => In Db (n8 : Int) ∧ ∃ ey pe, Dn σ IJ (kS + Int.toNat Db * 2) [.string ey, .string pe] ∧ ∀ b4 : Nat, Spec prog 306 #[.string ey] σ (AB R (CB fun t18 y => Bn t18 (R (.returned (.int .i64 31)) y) (Bo ((ByteArray.toList pe == ByteArray.toList (ByteArray.mk #[]))) (R (.returned (.int .i64 32)) y) (Br ((256 : Int) < ((ByteArray.size pe : Nat) : Int)) (R (.returned (.int .i64 32)) y) (Spec prog 307 #[.string pe] y (AB R (CB fun t33 AI => Bn t33 (R (.returned (.int .i64 32)) AI) (Br (0 < Db) (AN (Db - 1) ∧ Pq p0 fun WY z8 => In (Db - 1) (n0 : Int) ∧ LT AI WY (z8 + Int.toNat (Db - 1) * 2) fun wZ => ∃ t48, YF prog ((do eqGuard .leq 9 (.tmp 41) (.tmp 47) (.string ey) (.string wZ); binOp .leq 9 (.string ey) (.string wZ))) AI (.bool t48) ∧ Bo t48 (R (.returned (.int .i64 33)) AI) (AN (Db + 1) ∧ fA R (aD WY z8) n0 c0 (aD IJ kS) n8 c8 x9 (Db + 1) AI)) (AN (Db + 1) ∧ fA R p0 n0 c0 (aD IJ kS) n8 c8 x9 (Db + 1) AI)))))))))) (R (.returned (.int .i64 0)) σ)) : fA R p0 n0 c0 p8 n8 c8 x9 Db σ := M.of h ok rfl
end Ec
namespace OF
variable {s0 : ByteArray} {x1 : Int}
def M : Fw := ⟨prog, 291, f291, [315], [], false, [], [], []⟩
theorem ok : M.Ok := ⟨.cons call315 (AK.nil), mixed, func291, by kernel_rfl⟩
theorem start (h : AN (x1 - ((ByteArray.size s0 : Nat) : Int)) ∧ Spec prog 315 #[(.string (ByteArray.mk #[48])), (.int .i64 (if ((x1 - ((ByteArray.size s0 : Nat) : Int)) : Int) < 0 then 0 else (x1 - ((ByteArray.size s0 : Nat) : Int))))] σ (AB R (CT fun cS y => (ByteArray.size cS + ByteArray.size s0 ≤ 9223372036854775807) ∧ R (.returned (.string (cS ++ s0))) y))) : Spec prog 291 #[.string s0, .int .i64 x1] σ R := M.start h ok
end OF
namespace Gy
variable {b0 b1 b2 : Nat}
def M : Fw := ⟨prog, 293, f293, [], [], false, [(1, 5, true), (2, 6, true)], [], []⟩
theorem ok : M.Ok := ⟨AK.nil, mixed, func293, by kernel_rfl⟩
theorem start (h : LQ σ b0 0 fun q4 => Pq q4 fun b5 o5 => LM σ b5 o5 fun m7 => LT σ b1 0 fun s8 => AJ prog (Instr.lookup 186 (.map m7) (.string s8) false) σ (CQ fun q9 y => LQ y b0 0 fun q10 => Pq q10 fun EB GU => LM y EB GU fun m13 => LT y b1 0 fun cE => AJ prog (Builtin.delete_ #[186, 9] 0 #[.map m13, .string cE]) y (fun _ AI => LQ AI b0 0 fun pa => Pq pa fun KY UQ => LM AI KY UQ fun m18 => LT AI b2 0 fun s19 => AJ prog (Instr.mapUpdate 186 (.map m18) (.string s19) (.pointer q9)) AI (fun _ AZ => R (.returned (.tuple #[])) AZ)))) : Spec prog 293 #[(.pointer (aD b0 0)), (.pointer (aD b1 0)), (.pointer (aD b2 0))] σ R := M.start h ok
end Gy
namespace LL
variable {p0 : Option Addr} {n0 c0 : Nat} {x1 : Int}
def M : Fw := ⟨prog, 320, f320, [342], [], false, [(5, 8, true)], [], []⟩
theorem ok : M.Ok := ⟨.cons call342 (AK.nil), mixed, func320, by kernel_rfl⟩
theorem start (h : Al σ fun IJ => Spec prog 342 #[(.func (.func 343) #[(.pointer (aD IJ 0))] #[]), (.func (.func 344) #[(.pointer (aD IJ 0))] #[])] (Hp.set σ IJ (.cells #[.slice p0 n0 c0, .int .i64 x1] 381 (0, 0))) (AB R (fun z y => ∃ kL kM kN Oy, z = (.tuple #[.slice kL kM kN, .int .i64 Oy]) ∧ Br (Oy ≠ 0) (R (.returned (.tuple #[.slice none 0 0, .int .i64 0, .int .i64 Oy])) y) (LI .i64 y IJ 1 fun UP => R (.returned (.tuple #[.slice kL kM kN, .int .i64 UP, .int .i64 0])) y)))) : Spec prog 320 #[.slice p0 n0 c0, .int .i64 x1] σ R := M.start h ok
end LL
namespace JR
variable {x0 x1 : Int}
def M : Fw := ⟨prog, 328, f328, [213], [], false, [], [], []⟩
theorem ok : M.Ok := ⟨.cons call213 (AK.nil), mixed, func328, by kernel_rfl⟩
theorem start (h : Spec prog 213 #[.int .u32 x0] σ (AB R (CB fun t6 y => Bo t6 (Spec prog 213 #[.int .u32 x1] y (AB R (CB fun t9 AI => Bn t9 (R (.returned (.bool true)) AI) (R (.returned (.bool (decide (x0 < x1)))) AI)))) (R (.returned (.bool (decide (x0 < x1)))) y)))) : Spec prog 328 #[.int .u32 x0, .int .u32 x1] σ R := M.start h ok
end JR
end TwW
end
end
section
set_option maxRecDepth 100000
noncomputable section
namespace TwW
open Go Tw Go.Proofs.Tryz
variable [Iq] {R : Rr} {σ : Hp}

namespace Wb
variable {x0 : Int}
def M : Fw := ⟨prog, 8, f8, [], [], false, [], [], []⟩
theorem ok : M.Ok := ⟨AK.nil, mixed, func8, by kernel_rfl⟩
theorem start (h : Df (Go.bits .and .i64 x0 9223372036854775807) fun x4 => R (.returned (.int .i64 x4)) σ) : Spec prog 8 #[.int .i64 x0] σ R := M.start h ok
end Wb
namespace MU
variable {En : Int} {HF : Option Addr} {GL HG : Nat}
def M : Fw := ⟨prog, 10, f10, [30, 31, 41, 42, 43, 44], [1], false, [], [], []⟩
theorem ok : M.Ok := ⟨.cons call30 (.cons call31 (.cons call41 (.cons call42 (.cons call43 (.cons call44 (AK.nil)))))), mixed, func10, by kernel_rfl⟩
theorem start (h : ∀ b1 : Nat, Spec prog 42 #[] σ (AB R (CQ fun pE y => Spec prog 41 #[.pointer pE] y (AB R (fun z AI => ∃ ZT NX, z = (.tuple #[.pointer ZT, .int .i64 NX]) ∧ Al AI fun Ro => Spec prog 43 #[(.pointer (aD Ro 0))] (Hp.set AI Ro (.cells #[.slice none 0 0, .bool false, .bool false, .int .i64 0, .int .i64 0, .int .u64 0] 113 (0, 0))) (AB R (fun z AZ => ∃ xH Zh, z = (.tuple #[.pointer xH, .int .i64 Zh]) ∧ Spec prog 44 #[.agg #[.int .u64 En, .slice HF GL HG]] AZ (AB R (fun z Av => ∃ xI xJ xK jx, z = (.tuple #[.slice xI xJ xK, .int .i64 jx]) ∧ Bo (Option.isNone ZT) (R (.returned (.tuple #[.pointer none, .pointer none])) Av) (Br (jx ≠ 0) (R (.returned (.tuple #[.pointer none, .pointer none])) Av) (Spec prog 30 #[.pointer ZT, (.string (ByteArray.mk #[114, 105, 110, 103])), .slice xI xJ xK, .int .u64 0] Av (AB R (fun z Cg => ∃ AI1 AI2, z = (.tuple #[.int .u64 AI1, .int .i64 AI2]) ∧ Spec prog 31 #[.pointer xH, (.string (ByteArray.mk #[114, 105, 110, 103])), .slice xI xJ xK, .int .u64 0] Cg (AB R (fun z FE => ∃ AI3 AI4, z = (.tuple #[.int .u64 AI3, .int .i64 AI4]) ∧ R (.returned (.tuple #[.pointer ZT, .pointer xH])) FE))))))))))))))) : Spec prog 10 #[.agg #[.int .u64 En, .slice HF GL HG]] σ R := M.start h ok
end MU
namespace AQ
variable {q0 p2 q4 Ud bq : Option Addr} {s1 : ByteArray} {n2 c2 n24 c24 : Nat} {x3 M4 Hw : Int}
def M : Fw := ⟨prog, 12, f12, [47], [], false, [], [], [(232, [(12, wQ), (24, wL), (25, wI), (26, wI)])]⟩
theorem ok : M.Ok := ⟨.cons call47 (AK.nil), mixed, func12, by kernel_rfl⟩
def A4 := M.pt 0
theorem start (h : Al σ fun BI => Spec prog 47 #[.pointer q0, (.pointer (aD BI 0)), .pointer q4] (Hp.set σ BI (.cells #[.string s1, (.string (ByteArray.mk #[])), (.string (ByteArray.mk #[])), .slice p2 n2 c2, .int .i64 x3, .pointer none] 120 (0, 0))) (AB R (CS fun bq n24 c24 y => A4 R (aD BI 0) bq n24 c24 (n24 : Int) 0 y))) : Spec prog 12 #[.pointer q0, .string s1, .slice p2 n2 c2, .int .i64 x3, .pointer q4] σ R := M.start h ok
theorem AW (h : Br (Hw < M4) (Pq bq fun QA br => In Hw (n24 : Int) ∧ ∃ v29, Hp.ld σ ⟨QA, (br + Int.toNat Hw * 1), none⟩ = some v29 ∧ ∃ (f31 : Nat) (Wc Wd : Array Value), v29 = .func (.func f31) Wc Wd ∧ Enters prog f31 ∧ Spec prog f31 (Wc ++ #[] ++ Wd) σ (AB R (CI .i64 fun Fp y => Br (Fp ≠ 0) (R (.returned (.tuple #[.pointer none, .int .i64 Fp])) y) (AN (Hw + 1) ∧ A4 R Ud (aD QA br) n24 c24 M4 (Hw + 1) y)))) (Pq Ud fun Hx j8 => LQ σ Hx (j8 + 5) fun q39 => R (.returned (.tuple #[.pointer q39, .int .i64 0])) σ)) : A4 R Ud bq n24 c24 M4 Hw σ := M.of h ok rfl
end AQ
namespace BU
variable {q0 p3 p9 : Option Addr} {n3 c3 n9 c9 : Nat} {Db Eb : Int}
def M : Fw := ⟨prog, 14, f14, [48, 49], [5], false, [], [], [(232, [(3, wL), (9, wL), (10, wI), (11, wI)])]⟩
theorem ok : M.Ok := ⟨.cons call48 (.cons call49 (AK.nil)), mixed, func14, by kernel_rfl⟩
def A4 := M.pt 0
theorem start (h : Pq q0 fun b7 o7 => LS σ b7 (o7 + 2) fun p9 n9 c9 => A4 R none 0 0 p9 n9 c9 (n9 : Int) 0 σ) : Spec prog 14 #[.pointer q0] σ R := M.start h ok
theorem AW (h : Br (Eb < Db) (Pq p9 fun IJ kS => In Eb (n9 : Int) ∧ ∃ xL pg xM xN AI5 ACJ ACK ACL AI6, Dn σ IJ (kS + Int.toNat Eb * 5) [.slice xL pg xM, .int .i64 xN, .int .u64 AI5, .slice ACJ ACK ACL, .map AI6] ∧ ∀ b5 : Nat, AJ prog (Builtin.append_ #[26, 26] 26 #[.slice p3 n3 c3, .slice ACJ ACK ACL]) σ (CS fun eR n18 nI y => AN (Eb + 1) ∧ A4 R eR n18 nI (aD IJ kS) n9 c9 Db (Eb + 1) y)) (Spec prog 48 #[.slice p3 n3 c3] σ (AB R (fun z y => z = (.tuple #[]) ∧ Spec prog 49 #[.slice p3 n3 c3] y (AB R (CS fun oq n23 ot AI => R (.returned (.slice oq n23 ot)) AI)))))) : A4 R p3 n3 c3 p9 n9 c9 Db Eb σ := M.of h ok rfl
end BU
namespace IM
variable {p0 : Option Addr} {n0 c0 : Nat} {x1 x5 : Int}
def M : Fw := ⟨prog, 16, f16, [], [], false, [], [], [(208, [(0, wL), (1, wI), (5, wI)])]⟩
theorem ok : M.Ok := ⟨AK.nil, mixed, func16, by kernel_rfl⟩
def Jh := M.pt 0
theorem start (h : Jh R p0 n0 c0 x1 0 σ) : Spec prog 16 #[.slice p0 n0 c0, .int .i64 x1] σ R := M.start h ok
theorem CU (h : Br (x5 < (n0 : Int)) (Pq p0 fun Hk J6 => In x5 (n0 : Int) ∧ LI .i64 σ Hk (J6 + Int.toNat x5 * 1) fun Hh => Br (Hh = x1) (R (.returned (.bool true)) σ) (AN (x5 + 1) ∧ Jh R (aD Hk J6) n0 c0 x1 (x5 + 1) σ)) (R (.returned (.bool false)) σ)) : Jh R p0 n0 c0 x1 x5 σ := M.of h ok rfl
end IM
namespace Ct
variable {p0 p3 : Option Addr} {n0 c0 n3 c3 : Nat} {x4 : Int}
def M : Fw := ⟨prog, 22, f22, [25], [], false, [], [], [(464, [(0, wL), (3, wL), (4, wI)])]⟩
theorem ok : M.Ok := ⟨.cons call25 (AK.nil), mixed, func22, by kernel_rfl⟩
def Bu := M.pt 0
theorem start (h : Bu R p0 n0 c0 none 0 0 0 σ) : Spec prog 22 #[.slice p0 n0 c0] σ R := M.start h ok
theorem BF (h : Br (x4 < (n0 : Int)) (Pq p0 fun Hk J6 => In x4 (n0 : Int) ∧ LS σ Hk (J6 + Int.toNat x4 * 3) fun VT n16 We => In x4 (n0 : Int) ∧ LI .i64 σ Hk ((J6 + Int.toNat x4 * 3) + 1) fun js => In x4 (n0 : Int) ∧ LI .u64 σ Hk ((J6 + Int.toNat x4 * 3) + 2) fun Kl => Spec prog 25 #[.slice VT n16 We] σ (AB R (CS fun VL n17 VM y => Kp [Hk, Hk] σ y ∧ Al y fun JN => AJ prog (Builtin.append_ #[46, 46] 46 #[.slice p3 n3 c3, (.slice (aD JN 0) 1 1)]) (Hp.set y JN (.cells #[.slice VL n17 VM, .int .i64 js, .int .u64 Kl] 25 (0, 0))) (CS fun p30 n30 c30 AI => AN (x4 + 1) ∧ Bu R (aD Hk J6) n0 c0 p30 n30 c30 (x4 + 1) AI)))) (R (.returned (.slice p3 n3 c3)) σ)) : Bu R p0 n0 c0 p3 n3 c3 x4 σ := M.of h ok rfl
end Ct
namespace GW
variable {q0 p2 AI7 : Option Addr} {s1 : ByteArray} {n2 c2 AI8 AI9 : Nat} {x3 HH : Int}
def M : Fw := ⟨prog, 30, f30, [39, 63, 64, 65, 66, 67, 68], [13], false, [(13, 6, true)], [], [(1022, [(13, .X 156 [.L, .I .u64])])]⟩
theorem ok : M.Ok := ⟨.cons call39 (.cons call63 (.cons call64 (.cons call65 (.cons call66 (.cons call67 (.cons call68 (AK.nil))))))), mixed, func30, by kernel_rfl⟩
def xO := M.pt 0
theorem start (h : Spec prog 39 #[.pointer q0, .string s1] σ (AB R (fun z y => ∃ AJA AJB AJC xP kU, z = (.tuple #[.slice AJA AJB AJC, .int .u64 xP, .int .i64 kU]) ∧ Br (kU ≠ 0) (R (.returned (.tuple #[.int .u64 0, .int .i64 kU])) y) (Br (xP ≠ x3) (R (.returned (.tuple #[.int .u64 xP, .int .i64 121])) y) (Al y fun YU => AJ prog (Builtin.append_ #[84, 84] 84 #[(.slice (aD YU 0) 0 0), .slice p2 n2 c2]) (Hp.set y YU (.cells #[] 5 (0, 0))) (CS fun p35 n35 c35 AI => Df (IntKind.u64.wrap (x3 + 1)) fun J8 => ∀ IJ : Nat, Pq q0 fun N7 e7 => LQ AI N7 e7 fun q42 => Spec prog 64 #[.string s1, .agg #[.slice p35 n35 c35, .int .u64 J8]] AI (AB R (CS fun xQ n45 c45 AZ => Kp [N7] AI AZ ∧ Spec prog 63 #[.pointer q42, .slice xQ n45 c45] AZ (AB R (CI .i64 fun ef Av => Br (ef ≠ 0) (R (.returned (.tuple #[.int .u64 0, .int .i64 ef])) Av) (LQ Av N7 e7 fun q53 => Spec prog 65 #[.pointer q53] Av (AB R (CI .i64 fun ek Cg => Br (ek ≠ 0) (R (.returned (.tuple #[.int .u64 0, .int .i64 ek])) Cg) (LM Cg N7 (e7 + 2) fun m61 => AJ prog (Instr.mapUpdate 159 (.map m61) (.string s1) (.agg #[.slice p35 n35 c35, .int .u64 J8])) Cg (fun _ FE => LQ FE N7 e7 fun q67 => Spec prog 66 #[.pointer q67] FE (AB R (CI .i64 fun x68 Ek => Br (64 < x68) (LQ Ek N7 e7 fun q73 => Spec prog 68 #[(.pointer (aD N7 e7))] Ek (AB R (CS fun Zi YY c75 IL => Kp [N7] Ek IL ∧ Spec prog 67 #[.pointer q73, .slice Zi YY c75] IL (AB R (CI .i64 fun x76 kJ => Br (x76 ≠ 0) (R (.returned (.tuple #[.int .u64 0, .int .i64 x76])) kJ) (xO R p35 n35 c35 J8 kJ)))))) (xO R p35 n35 c35 J8 Ek)))))))))))))))))) : Spec prog 30 #[.pointer q0, .string s1, .slice p2 n2 c2, .int .u64 x3] σ R := M.start h ok
theorem cZ (h : R (.returned (.tuple #[.int .u64 HH, .int .i64 0])) σ) : xO R AI7 AI8 AI9 HH σ := M.bm h ok rfl fun _ => by kernel_rfl
end GW
namespace GD
variable {q0 p2 pT VT : Option Addr} {s1 Zj : ByteArray} {n2 c2 pU pV n16 We : Nat} {x3 Na I7 : Int}
def M : Fw := ⟨prog, 31, f31, [29, 69, 70, 71, 72, 73, 74], [13], false, [], [], [(2046, [(13, .X 154 [.T, .L, .I .u64])]), (523600, [(0, wQ), (13, .X 154 [.T, .L, .I .u64]), (16, wL), (17, wI)])]⟩
theorem ok : M.Ok := ⟨.cons call29 (.cons call69 (.cons call70 (.cons call71 (.cons call72 (.cons call73 (.cons call74 (AK.nil))))))), mixed, func31, by kernel_rfl⟩
def ACN := M.pt 0
def AJE := M.pt 1
theorem start (h : Spec prog 29 #[.pointer q0, .string s1] σ (AB R (fun z y => ∃ ph pj pk fB fC, z = (.tuple #[.slice ph pj pk, .int .u64 fB, .int .i64 fC]) ∧ Br (fC ≠ 0) (R (.returned (.tuple #[.int .u64 0, .int .i64 fC])) y) (Br (fB ≠ x3) (R (.returned (.tuple #[.int .u64 fB, .int .i64 121])) y) (Al y fun z7 => AJ prog (Builtin.append_ #[84, 84] 84 #[(.slice (aD z7 0) 0 0), .slice p2 n2 c2]) (Hp.set y z7 (.cells #[] 5 (0, 0))) (CS fun UT n36 WR AI => Df (IntKind.u64.wrap (x3 + 1)) fun M8 => ∀ IJ : Nat, Pq q0 fun pn tF => LQ AI pn tF fun q43 => Spec prog 70 #[.agg #[.string s1, .slice UT n36 WR, .int .u64 M8]] AI (AB R (CS fun xQ n45 c45 AZ => Kp [pn] AI AZ ∧ Spec prog 69 #[.pointer q43, .slice xQ n45 c45] AZ (AB R (CI .i64 fun ef Av => Br (ef ≠ 0) (R (.returned (.tuple #[.int .u64 0, .int .i64 ef])) Av) (LQ Av pn tF fun q53 => Spec prog 71 #[.pointer q53] Av (AB R (CI .i64 fun ek Cg => Br (ek ≠ 0) (R (.returned (.tuple #[.int .u64 0, .int .i64 ek])) Cg) (Spec prog 72 #[(.pointer (aD pn tF)), .agg #[.string s1, .slice UT n36 WR, .int .u64 M8]] Cg (AB R (fun z FE => z = (.tuple #[]) ∧ LQ FE pn tF fun q64 => Spec prog 73 #[.pointer q64] FE (AB R (CI .i64 fun zv Ek => Br (64 < zv) (AJE R (aD pn tF) s1 UT n36 WR M8 none 0 0 0 Ek) (ACN R s1 UT n36 WR M8 Ek))))))))))))))))))) : Spec prog 31 #[.pointer q0, .string s1, .slice p2 n2 c2, .int .u64 x3] σ R := M.start h ok
theorem po (h : R (.returned (.tuple #[.int .u64 Na, .int .i64 0])) σ) : ACN R Zj pT pU pV Na σ := M.bm h ok rfl fun _ => by kernel_rfl
end GD
namespace Wf
def M : Fw := ⟨prog, 42, f42, [], [], false, [], [], []⟩
theorem ok : M.Ok := ⟨AK.nil, mixed, func42, by kernel_rfl⟩
theorem start (h : AJ prog (Instr.makeMap 186 none) σ (fun z y => ∃ m1, z = (.map (some m1)) ∧ Al y fun b3 => R (.returned (.pointer (aD b3 0))) (Hp.set y b3 (.cells #[(.map (some m1)), .bool true, .bool false, .int .i64 0, .int .i64 0, .int .u64 0] 188 (0, 0))))) : Spec prog 42 #[] σ R := M.start h ok
end Wf
namespace MV
variable {q0 : Option Addr}
def M : Fw := ⟨prog, 65, f65, [131, 133, 134], [], false, [], [], []⟩
theorem ok : M.Ok := ⟨.cons call131 (.cons call133 (.cons call134 (AK.nil))), mixed, func65, by kernel_rfl⟩
theorem start (h : Spec prog 131 #[.pointer q0] σ (AB R (CB fun t4 y => Bn t4 (R (.returned (.int .i64 0)) y) (Pq q0 fun b7 o7 => LQ y b7 o7 fun q9 => LI .i64 y b7 (o7 + 4) fun FD => Spec prog 134 #[(.pointer (aD b7 o7)), (.string (ByteArray.mk #[115])), .int .i64 FD] y (AB R (CT fun nc AI => Kp [b7] y AI ∧ Spec prog 133 #[.pointer q9, .string nc] AI (AB R (CI .i64 fun Hi AZ => R (.returned (.int .i64 Hi)) AZ)))))))) : Spec prog 65 #[.pointer q0] σ R := M.start h ok
end MV
namespace IN
variable {q0 : Option Addr}
def M : Fw := ⟨prog, 66, f66, [], [], false, [], [], []⟩
theorem ok : M.Ok := ⟨AK.nil, mixed, func66, by kernel_rfl⟩
theorem start (h : Pq q0 fun b4 o4 => LS σ b4 (o4 + 3) fun p6 n6 c6 => R (.returned (.int .i64 (n6 : Int))) σ) : Spec prog 66 #[.pointer q0] σ R := M.start h ok
end IN
namespace MW
variable {s0a : ByteArray} {HF : Option Addr} {GL HG : Nat} {Hl : Int}
def M : Fw := ⟨prog, 70, f70, [142, 143], [1], false, [], [], []⟩
theorem ok : M.Ok := ⟨.cons call142 (.cons call143 (AK.nil)), mixed, func70, by kernel_rfl⟩
theorem start (h : ∀ b1 : Nat, (Spec prog 142 #[.slice none 0 0, .string s0a] σ (AB R (CS fun p5 n5 c5 y => (Spec prog 143 #[.slice p5 n5 c5, .int .u64 Hl] y (AB R (CS fun p8 n8 c8 AI => AJ prog (convert 84 9 (.slice HF GL HG)) AI (CT fun nJ AZ => Spec prog 142 #[.slice p8 n8 c8, .string nJ] AZ (AB R (CS fun Jq n12 c12 Av => R (.returned (.slice Jq n12 c12)) Av)))))) ∧ (AJ prog (convert 84 9 (.slice HF GL HG)) y (CT fun nJ AI => Spec prog 143 #[.slice p5 n5 c5, .int .u64 Hl] AI (AB R (CS fun p8 n8 c8 AZ => Spec prog 142 #[.slice p8 n8 c8, .string nJ] AZ (AB R (CS fun Jq n12 c12 Av => R (.returned (.slice Jq n12 c12)) Av))))))))) ∧ (AJ prog (convert 84 9 (.slice HF GL HG)) σ (CT fun nJ y => Spec prog 142 #[.slice none 0 0, .string s0a] y (AB R (CS fun p5 n5 c5 AI => Spec prog 143 #[.slice p5 n5 c5, .int .u64 Hl] AI (AB R (CS fun p8 n8 c8 AZ => Spec prog 142 #[.slice p8 n8 c8, .string nJ] AZ (AB R (CS fun Jq n12 c12 Av => R (.returned (.slice Jq n12 c12)) Av))))))))) : Spec prog 70 #[.agg #[.string s0a, .slice HF GL HG, .int .u64 Hl]] σ R := M.start h ok
end MW
namespace cmp_Compare_int
variable {x0 x1 : Int}
def M : Fw := ⟨prog, 124, f124, [214], [], false, [], [], []⟩
theorem ok : M.Ok := ⟨.cons call214 (AK.nil), mixed, func124, by kernel_rfl⟩
theorem start (h : Spec prog 214 #[.int .i64 x0] σ (AB R (CB fun t8 y => Spec prog 214 #[.int .i64 x1] y (AB R (CB fun t10 AI => Bo t8 (Bo t10 (R (.returned (.int .i64 0)) AI) (R (.returned (.int .i64 (-1))) AI)) (Bo t10 (R (.returned (.int .i64 1)) AI) (Br (x0 < x1) (R (.returned (.int .i64 (-1))) AI) (Br (x1 < x0) (R (.returned (.int .i64 1)) AI) (R (.returned (.int .i64 0)) AI))))))))) : Spec prog 124 #[.int .i64 x0, .int .i64 x1] σ R := M.start h ok
end cmp_Compare_int
namespace Da
variable {x0 x1 : Int}
def M : Fw := ⟨prog, 126, f126, [215, 216, 217, 218], [], false, [], [], []⟩
theorem ok : M.Ok := ⟨.cons call215 (.cons call216 (.cons call217 (.cons call218 (AK.nil)))), mixed, func126, by kernel_rfl⟩
theorem start (h : Br (x1 = 10) (Br (x0 < 100) (Df (IntKind.i64.wrap x0) fun FD => Spec prog 215 #[.int .i64 FD] σ (AB R (CT fun nc y => R (.returned (.string nc)) y))) (Al σ fun b5 => Spec prog 216 #[.int .u64 x0] (Hp.set σ b5 (.cells #[.int .u8 0, .int .u8 0, .int .u8 0, .int .u8 0, .int .u8 0, .int .u8 0, .int .u8 0, .int .u8 0, .int .u8 0, .int .u8 0, .int .u8 0, .int .u8 0, .int .u8 0, .int .u8 0, .int .u8 0, .int .u8 0, .int .u8 0, .int .u8 0, .int .u8 0, .int .u8 0, .int .u8 0, .int .u8 0, .int .u8 0, .int .u8 0] 290 (0, 0))) (AB R (CI .i64 fun I7 y => ∃ Zb n19 YX, YF prog (Instr.sliceAt 290 (.pointer (aD b5 0)) none (some (.int .i64 I7)) none) y (.slice Zb n19 YX) ∧ Spec prog 217 #[.slice Zb n19 YX, .int .u64 x0] y (AB R (fun z AI => z = (.tuple #[]) ∧ ∃ oq n23 ot, YF prog (Instr.sliceAt 290 (.pointer (aD b5 0)) none (some (.int .i64 I7)) none) AI (.slice oq n23 ot) ∧ AJ prog (convert 84 9 (.slice oq n23 ot)) AI (CT fun s24 AZ => R (.returned (.string s24)) AZ))))))) (Spec prog 218 #[.slice none 0 0, .int .u64 x0, .int .i64 x1, .bool false, .bool false] σ (AB R (fun z y => ∃ AJF AJG AJH ACO, z = (.tuple #[.slice AJF AJG AJH, .string ACO]) ∧ R (.returned (.string ACO)) y)))) : Spec prog 126 #[.int .u64 x0, .int .i64 x1] σ R := M.start h ok
end Da
namespace IP
variable {q0 : Option Addr} {s1 : ByteArray}
def M : Fw := ⟨prog, 138, f138, [221], [], false, [], [], []⟩
theorem ok : M.Ok := ⟨.cons call221 (AK.nil), mixed, func138, by kernel_rfl⟩
theorem start (h : Al σ fun b2 => Al (Hp.set σ b2 (.cells #[.pointer q0] 106 (0, 0))) fun b3 => LQ (Hp.set (Hp.set σ b2 (.cells #[.pointer q0] 106 (0, 0))) b3 (.cells #[.string s1] 9 (0, 0))) b2 0 fun q5 => Spec prog 221 #[.pointer q5, (.func (.func 232) #[] #[(.pointer (aD b2 0)), (.pointer (aD b3 0))]), (.func (.func 233) #[] #[(.pointer (aD b2 0)), (.pointer (aD b3 0))]), (.func (.func 225) #[] #[])] (Hp.set (Hp.set σ b2 (.cells #[.pointer q0] 106 (0, 0))) b3 (.cells #[.string s1] 9 (0, 0))) (AB R (CI .i64 fun x8 y => R (.returned (.int .i64 x8)) y))) : Spec prog 138 #[.pointer q0, .string s1] σ R := M.start h ok
end IP
namespace ES
variable {p0 : Option Addr} {n0 c0 : Nat} {x1 x7 x8 : Int}
def M : Fw := ⟨prog, 177, f177, [], [], false, [], [], [(976, [(0, wL), (1, wI), (7, wU), (8, wI)])]⟩
theorem ok : M.Ok := ⟨AK.nil, mixed, func177, by kernel_rfl⟩
def Ko := M.pt 0
theorem start (h : Br (x1 < 0) (R (.returned (.tuple #[.int .u64 0, .int .i64 0, .int .i64 20])) σ) (Br ((n0 : Int) < x1) (R (.returned (.tuple #[.int .u64 0, .int .i64 0, .int .i64 20])) σ) (Ko R p0 n0 c0 x1 0 0 σ))) : Spec prog 177 #[.slice p0 n0 c0, .int .i64 x1] σ R := M.start h ok
theorem PR (h : AN (x1 + x8) ∧ Br (((x1 + x8) : Int) < (n0 : Int)) (AN (x1 + x8) ∧ Pq p0 fun S6 YT => In (x1 + x8) (n0 : Int) ∧ LI .u8 σ S6 (YT + Int.toNat (x1 + x8) * 1) fun Fp => Br (x8 = 9) (Br (1 < Fp) (R (.returned (.tuple #[.int .u64 0, .int .i64 0, .int .i64 21])) σ) (Br (0 < x8) (Br (Fp = 0) (R (.returned (.tuple #[.int .u64 0, .int .i64 0, .int .i64 21])) σ) (Df (Go.bits .and .u8 Fp 127) fun JO => Df (IntKind.u64.wrap JO) fun WZ => AN (7 * x8) ∧ ((0 : Int) ≤ (7 * x8) ∧ (7 * x8) ≤ ((IntKind.bits .u64 : Nat) : Int)) ∧ Df (IntKind.u64.wrap (WZ * 2 ^ Int.toNat (7 * x8))) fun S7 => Df (Go.bits .or .u64 x7 S7) fun Ow => Br (Fp < 128) (AN (x1 + x8) ∧ AN ((x1 + x8) + 1) ∧ R (.returned (.tuple #[.int .u64 Ow, (.int .i64 ((x1 + x8) + 1)), .int .i64 0])) σ) (AN (x8 + 1) ∧ Ko R (aD S6 YT) n0 c0 x1 Ow (x8 + 1) σ))) (Df (Go.bits .and .u8 Fp 127) fun JO => Df (IntKind.u64.wrap JO) fun WZ => AN (7 * x8) ∧ ((0 : Int) ≤ (7 * x8) ∧ (7 * x8) ≤ ((IntKind.bits .u64 : Nat) : Int)) ∧ Df (IntKind.u64.wrap (WZ * 2 ^ Int.toNat (7 * x8))) fun S7 => Df (Go.bits .or .u64 x7 S7) fun Ow => Br (Fp < 128) (AN (x1 + x8) ∧ AN ((x1 + x8) + 1) ∧ R (.returned (.tuple #[.int .u64 Ow, (.int .i64 ((x1 + x8) + 1)), .int .i64 0])) σ) (AN (x8 + 1) ∧ Ko R (aD S6 YT) n0 c0 x1 Ow (x8 + 1) σ)))) (Br (0 < x8) (Br (Fp = 0) (R (.returned (.tuple #[.int .u64 0, .int .i64 0, .int .i64 21])) σ) (Df (Go.bits .and .u8 Fp 127) fun JO => Df (IntKind.u64.wrap JO) fun WZ => AN (7 * x8) ∧ ((0 : Int) ≤ (7 * x8) ∧ (7 * x8) ≤ ((IntKind.bits .u64 : Nat) : Int)) ∧ Df (IntKind.u64.wrap (WZ * 2 ^ Int.toNat (7 * x8))) fun S7 => Df (Go.bits .or .u64 x7 S7) fun Ow => Br (Fp < 128) (AN (x1 + x8) ∧ AN ((x1 + x8) + 1) ∧ R (.returned (.tuple #[.int .u64 Ow, (.int .i64 ((x1 + x8) + 1)), .int .i64 0])) σ) (AN (x8 + 1) ∧ Ko R (aD S6 YT) n0 c0 x1 Ow (x8 + 1) σ))) (Df (Go.bits .and .u8 Fp 127) fun JO => Df (IntKind.u64.wrap JO) fun WZ => AN (7 * x8) ∧ ((0 : Int) ≤ (7 * x8) ∧ (7 * x8) ≤ ((IntKind.bits .u64 : Nat) : Int)) ∧ Df (IntKind.u64.wrap (WZ * 2 ^ Int.toNat (7 * x8))) fun S7 => Df (Go.bits .or .u64 x7 S7) fun Ow => Br (Fp < 128) (AN (x1 + x8) ∧ AN ((x1 + x8) + 1) ∧ R (.returned (.tuple #[.int .u64 Ow, (.int .i64 ((x1 + x8) + 1)), .int .i64 0])) σ) (AN (x8 + 1) ∧ Ko R (aD S6 YT) n0 c0 x1 Ow (x8 + 1) σ)))) (R (.returned (.tuple #[.int .u64 0, .int .i64 0, .int .i64 20])) σ)) : Ko R p0 n0 c0 x1 x7 x8 σ := M.of h ok rfl
end ES
namespace OG
variable {En x1 : Int} {HF : Option Addr} {GL HG : Nat}
def M : Fw := ⟨prog, 187, f187, [260], [2], false, [], [], []⟩
theorem ok : M.Ok := ⟨.cons call260 (AK.nil), mixed, func187, by kernel_rfl⟩
theorem start (h : ∀ b2 : Nat, Al σ fun b3 => Spec prog 260 #[.slice HF GL HG, (.func (.func 261) #[] #[(.pointer (aD b3 0))])] (Hp.set σ b3 (.cells #[.int .i64 x1] 3 (0, 0))) (AB R (CI .i64 fun x8 y => R (.returned (.int .i64 x8)) y))) : Spec prog 187 #[.agg #[.int .u64 En, .slice HF GL HG], .int .i64 x1] σ R := M.start h ok
end OG
namespace cmp_isNaN_int
variable {x0 : Int}
def M : Fw := ⟨prog, 214, f214, [], [], false, [], [], []⟩
theorem ok : M.Ok := ⟨AK.nil, mixed, func214, by kernel_rfl⟩
theorem start (h : R (.returned (.bool (decide (x0 ≠ x0)))) σ) : Spec prog 214 #[.int .i64 x0] σ R := M.start h ok
end cmp_isNaN_int
namespace JS
variable {q0 : Option Addr} {s1 : ByteArray}
def M : Fw := ⟨prog, 223, f223, [171], [], false, [], [], []⟩
theorem ok : M.Ok := ⟨.cons call171 (AK.nil), mixed, func223, by kernel_rfl⟩
theorem start (h : Spec prog 171 #[.string s1] σ (AB R (CB fun t6 y => Bn t6 (R (.returned (.int .i64 61)) y) (Pq q0 fun b9 o9 => LM y b9 o9 fun m11 => AJ prog (Instr.lookup 186 (.map m11) (.string s1) false) y (CQ fun eu AI => Bo (Option.isNone eu) (R (.returned (.int .i64 62)) AI) (R (.returned (.int .i64 0)) AI)))))) : Spec prog 223 #[.pointer q0, .string s1] σ R := M.start h ok
end JS
namespace LN
variable {q0 : Option Addr}
def M : Fw := ⟨prog, 229, f229, [], [], false, [], [], []⟩
theorem ok : M.Ok := ⟨AK.nil, mixed, func229, by kernel_rfl⟩
theorem start (h : Pq q0 fun b4 o4 => LT σ b4 (o4 + 1) fun s6 => (ByteArray.size s6 + ByteArray.size (ByteArray.mk #[47, 110, 101, 119]) ≤ 9223372036854775807) ∧ R (.returned (.string (s6 ++ (ByteArray.mk #[47, 110, 101, 119])))) σ) : Spec prog 229 #[.pointer q0] σ R := M.start h ok
end LN
namespace Hm
variable {q0 nQ fD : Option Addr} {eo s3a : ByteArray} {nR nS fE fF : Nat} {ep x3c : Int}
def M : Fw := ⟨prog, 239, f239, [237, 241], [3], false, [(6, 16, false)], [], [(14, [(0, wQ), (3, .X 305 [.T, .L, .I .i64])])]⟩
theorem ok : M.Ok := ⟨.cons call237 (.cons call241 (AK.nil)), mixed, func239, by kernel_rfl⟩
def Bu := M.pt 0
theorem start (h : ∀ b3 : Nat, Spec prog 237 #[.pointer q0, .string eo] σ (AB R (fun z y => ∃ UW ACQ, z = (.tuple #[.int .i64 UW, .bool ACQ]) ∧ Bo ACQ (Spec prog 241 #[.pointer q0, .string eo] y (AB R (fun z AI => ∃ ji AJI AJJ AJK kU, z = (.agg #[.string ji, .slice AJI AJJ AJK, .int .i64 kU]) ∧ Bu R q0 eo nQ nR nS ep AI))) (Bu R q0 eo nQ nR nS ep y)))) : Spec prog 239 #[.pointer q0, .agg #[.string eo, .slice nQ nR nS, .int .i64 ep]] σ R := M.start h ok
theorem BF (h : Spec prog 237 #[.pointer q0, .string s3a] σ (AB R (fun z y => ∃ E8 er, z = (.tuple #[.int .i64 E8, .bool er]) ∧ Al y fun QA => Pq q0 fun S6 YT => LS (Hp.set y QA (.cells #[] 305 (0, 0))) S6 YT fun zu n32 wq => (0 ≤ E8 ∧ E8 ≤ (n32 : Int)) ∧ AJ prog (Builtin.append_ #[111, 111] 111 #[(.slice (aD QA 0) 0 0), (.slice (Dp zu (Int.toNat E8) wq 3) (n32 - Int.toNat E8) (wq - Int.toNat E8))]) (Hp.set y QA (.cells #[] 305 (0, 0))) (CS fun p35 n35 c35 AI => LS AI S6 YT fun pA n41 nW => (0 ≤ E8 ∧ E8 ≤ (nW : Int)) ∧ (Al AI fun Hx => (AJ prog (Builtin.append_ #[111, 111] 111 #[(.slice (aD Hx 0) 0 0), (.slice pA (Int.toNat E8) nW)]) (Hp.set AI Hx (.cells #[] 305 (0, 0))) (CS fun VU n44 Wg AZ => Al AZ fun Iv => AJ prog (Builtin.append_ #[111, 111] 111 #[.slice VU n44 Wg, (.slice (aD Iv 0) 1 1)]) (Hp.set AZ Iv (.cells #[.string s3a, .slice fD fE fF, .int .i64 x3c] 305 (0, 0))) (CS fun xR n47 xS Av => AJ prog (Builtin.append_ #[111, 111] 111 #[.slice xR n47 xS, .slice p35 n35 c35]) Av (CS fun WQ n49 c49 Cg => AJ prog (Instr.storeAt 111 (.pointer (aD S6 YT)) (.slice WQ n49 c49)) Cg (fun _ FE => R (.returned (.tuple #[])) FE))))) ∧ (Al (Hp.set AI Hx (.cells #[] 305 (0, 0))) fun Iv => AJ prog (Builtin.append_ #[111, 111] 111 #[(.slice (aD Hx 0) 0 0), (.slice pA (Int.toNat E8) nW)]) (Hp.set (Hp.set AI Hx (.cells #[] 305 (0, 0))) Iv (.cells #[.string s3a, .slice fD fE fF, .int .i64 x3c] 305 (0, 0))) (CS fun VU n44 Wg AZ => AJ prog (Builtin.append_ #[111, 111] 111 #[.slice VU n44 Wg, (.slice (aD Iv 0) 1 1)]) AZ (CS fun xR n47 xS Av => AJ prog (Builtin.append_ #[111, 111] 111 #[.slice xR n47 xS, .slice p35 n35 c35]) Av (CS fun WQ n49 c49 Cg => AJ prog (Instr.storeAt 111 (.pointer (aD S6 YT)) (.slice WQ n49 c49)) Cg (fun _ FE => R (.returned (.tuple #[])) FE)))))) ∧ (Al AI fun Iv => Al (Hp.set AI Iv (.cells #[.string s3a, .slice fD fE fF, .int .i64 x3c] 305 (0, 0))) fun Hx => AJ prog (Builtin.append_ #[111, 111] 111 #[(.slice (aD Hx 0) 0 0), (.slice pA (Int.toNat E8) nW)]) (Hp.set (Hp.set AI Iv (.cells #[.string s3a, .slice fD fE fF, .int .i64 x3c] 305 (0, 0))) Hx (.cells #[] 305 (0, 0))) (CS fun VU n44 Wg AZ => AJ prog (Builtin.append_ #[111, 111] 111 #[.slice VU n44 Wg, (.slice (aD Iv 0) 1 1)]) AZ (CS fun xR n47 xS Av => AJ prog (Builtin.append_ #[111, 111] 111 #[.slice xR n47 xS, .slice p35 n35 c35]) Av (CS fun WQ n49 c49 Cg => AJ prog (Instr.storeAt 111 (.pointer (aD S6 YT)) (.slice WQ n49 c49)) Cg (fun _ FE => R (.returned (.tuple #[])) FE))))))))) : Bu R q0 s3a fD fE fF x3c σ := M.bm h ok rfl fun _ => by kernel_rfl
end Hm
namespace LO
variable {En I6 : Int} {p0c : Option Addr} {n0c c0c b1 : Nat}
def M : Fw := ⟨prog, 261, f261, [], [2], false, [], [], []⟩
theorem ok : M.Ok := ⟨AK.nil, mixed, func261, by kernel_rfl⟩
theorem start (h : ∀ b2 : Nat, LI .i64 σ b1 0 fun x6 => R (.returned (.bool (decide (En = x6)))) σ) : Spec prog 261 #[.agg #[.int .i64 En, .int .i64 I6, .slice p0c n0c c0c], (.pointer (aD b1 0))] σ R := M.start h ok
end LO
namespace Gz
def K0 := f302.body.getD .skip
def K1 := cl K0
def K2 := cr K0
def K3 := cl K2
def K4 := cl K3
def K5 := cr K3
def K6 := cl K5
def K7 := cr K5
def K8 := cl K7
def K9 := cr K7
def Lm := cl K9
def Ss := cl Lm
def MM := cr Lm
def QC := cl MM
def ZV := cl QC
def eb := cr QC
def Su := cr MM
def N5 := cr K9
def YL := cl N5
def UO := cr N5
def Sv := cl UO
def iI := cl Sv
def bz := cr Sv
def YM := cl bz
def ed := cl YM
def WG := cr YM
def WH := cr bz
def WI := cr UO
def WJ := cl WI
def WK := cr WI
def jj := cl WK
def iJ := cr WK
abbrev gl (R : Rr) : Gl := Gl.fn prog 302 29 R
def Bu (R : Rr) (p0 : Option Addr) (n0 c0 : Nat) (p4 : Option Addr) (n4 c4 : Nat) (x5 : Int) (σ : Hp) : Prop := ∀ (J : Env), At (gl R) [.code Ss, .code MM, .code N5, .inScope K3] (Gg J [(0, (.slice p0 n0 c0)), (4, (.slice p4 n4 c4)), (5, (.int .i64 x5))]) [] σ
theorem start {R : Rr} {p0 : Option Addr} {n0 c0 : Nat} {σ : Hp} (h : Bu R p0 n0 c0 none 0 0 0 σ) : Spec prog 302 #[(.slice p0 n0 c0)] σ R := by
 refine Spec.Js (fn := f302) (c := K0) func302 (by kernel_rfl) (Nat.le_of_ble_eq_true (by kernel_rfl)) (fun e he => ?_)
 refine At.oO (l := [(0, (.slice p0 n0 c0))]) ⟨he 0, trivial⟩ (fun J => ?_)
 show At (gl R) _ _ _ _
 refine At.s K1 K2 ?_
 refine At.rg 0 [0, 1] ?_
 refine Seq.us [(2, .slice none 0 0), (3, .bool false)] (Seq.done ?_)
 refine At.scope (x := K3) (by kernel_rfl) ?_
 refine At.s K4 K5 ?_
 refine At.rg 1 [0] ?_
 refine Seq.u 4 (.slice none 0 0) (Seq.done ?_)
 refine At.s K6 K7 ?_
 refine At.rg 2 [0] ?_
 refine Seq.u 5 (.int .i64 0) (Seq.done ?_)
 refine At.s K8 K9 ?_
 refine At.label (l := 0) ?_
 refine At.s Lm N5 (At.s Ss MM ?_)
 exact At.v [(0, (.slice p0 n0 c0)), (4, (.slice none 0 0)), (5, (.int .i64 0))] (h _)
theorem BF {R : Rr} {p0 p4 : Option Addr} {n0 c0 n4 c4 : Nat} {x5 : Int} {σ : Hp} (h : ((x5 : Int) = (n0 : Int) → R (.returned (.tuple #[(.slice p4 n4 c4), (.bool false)])) σ) ∧ (¬ ((x5 : Int) = (n0 : Int)) → Spec prog 320 #[(.slice p0 n0 c0), (.int .i64 x5)] σ (AB R (fun v σ1 => ∃ Lo : Option Addr, ∃ Lp : Nat, ∃ Lq : Nat, ∃ J7 : Int, ∃ Kn : Int, v = (.tuple #[(.slice Lo Lp Lq), (.int .i64 J7), (.int .i64 Kn)]) ∧ ((Kn : Int) ≠ 0 → R (.returned (.tuple #[(.slice p4 n4 c4), (.bool true)])) σ1) ∧ (¬ ((Kn : Int) ≠ 0) → ∀ PQ : Nat, σ1 PQ = none → AJ prog (Builtin.append_ #[165, 165] 165 #[(.slice p4 n4 c4), (.slice (some ⟨PQ, 0, none⟩) 1 1)]) (Hp.set σ1 PQ (.cells #[(.slice Lo Lp Lq)] 84 (0, 0))) (fun MO Az => ∃ VS : Option Addr, ∃ n27 : Nat, ∃ Rt : Nat, MO = (.slice VS n27 Rt) ∧ Bu R p0 n0 c0 VS n27 Rt J7 Az)))))) : Bu R p0 n0 c0 p4 n4 c4 x5 σ := by
 intro J
 show At (gl R) _ _ _ _
 refine At.rg 3 [0, 1, 2, 3] ?_
 refine Seq.us [(9, .int .i64 x5), (10, .slice p0 n0 c0)] ?_
 refine Seq.z 11 (.call { callee := .builtin .len, args := #[(.tmp 10)], argTypes := #[84] }) 3 (.int .i64 (n0 : Int)) (Y.Yp underlying84 rfl rfl) ?_
 refine Seq.u 12 (.bool (decide ((x5 : Int) = (n0 : Int)))) (Seq.done ?_)
 cases hb : (decide ((x5 : Int) = (n0 : Int))) with
 | true =>
  replace h := h.1 (of_decide_eq_true hb)
  refine At.cT 12 QC Su ?_
  refine At.s ZV eb ?_
  refine At.rg 4 [0, 1, 2] ?_
  refine Seq.us [(13, .slice p4 n4 c4), (2, .slice p4 n4 c4), (3, .bool false)] (Seq.done ?_)
  exact At.rt [.tmp 2, .tmp 3] [(.slice p4 n4 c4), (.bool false)] func302 ⟨_, rfl, ⟨_, rfl, rfl⟩⟩ h
 | false =>
  replace h := h.2 (of_decide_eq_false hb)
  refine At.cF 12 QC Su ?_
  refine At.skip ?_
  refine At.s YL UO ?_
  refine At.rg 5 [0, 1, 2, 3, 4, 5, 6, 7, 8, 9] ?_
  refine Seq.us [(15, .slice p0 n0 c0), (16, .int .i64 x5)] ?_
  refine Seq.o ?_
  refine AV.cl (some 17) call320 (h.cont fun v σ1 h2 => ?_); replace h := h2; clear h2
  obtain ⟨Lo, Lp, Lq, J7, Kn, rfl, h⟩ := h
  refine Seq.us [(14, .tuple #[(.slice Lo Lp Lq), (.int .i64 J7), (.int .i64 Kn)]), (18, .slice Lo Lp Lq), (19, .int .i64 J7), (20, .int .i64 Kn), (6, .slice Lo Lp Lq), (7, .int .i64 J7), (8, .int .i64 Kn)] (Seq.done ?_)
  refine At.s Sv WI (At.s iI bz ?_)
  refine At.rg 6 [0, 1] ?_
  refine Seq.us [(21, .int .i64 Kn), (22, .bool (decide ((Kn : Int) ≠ 0)))] (Seq.done ?_)
  cases hb : (decide ((Kn : Int) ≠ 0)) with
  | true =>
   replace h := h.1 (of_decide_eq_true hb)
   refine At.cT 22 YM WH ?_
   refine At.s ed WG ?_
   refine At.rg 7 [0, 1, 2] ?_
   refine Seq.us [(23, .slice p4 n4 c4), (2, .slice p4 n4 c4), (3, .bool true)] (Seq.done ?_)
   exact At.rt [.tmp 2, .tmp 3] [(.slice p4 n4 c4), (.bool true)] func302 ⟨_, rfl, ⟨_, rfl, rfl⟩⟩ h
  | false =>
   replace h := h.2 (of_decide_eq_false hb)
   refine At.cF 22 YM WH ?_
   refine At.skip ?_
   refine At.s WJ WK ?_
   refine At.rg 8 [0, 1, 2, 3, 4] ?_
   refine Seq.us [(24, .slice p4 n4 c4), (25, .slice Lo Lp Lq)] ?_
   refine Seq.o ?_
   refine AV.Jv (T := 165) (E := 84) (m := 1) (ps := #[(0, (.tmp 25))]) (d := (some 26)) (ty := 165) (gd := none) (vs := [(0, (.slice Lo Lp Lq))]) (cs := #[(.slice Lo Lp Lq)]) underlying165 (by kernel_rfl) rfl rfl rfl (by kernel_rfl) (fun PQ hn => ?_)
   replace h := h PQ hn
   refine Seq.o ?_
   refine AV.Tp (d := (some 27)) (op := (.call { callee := .builtin .append, args := #[(.tmp 24), (.tmp 26)], argTypes := #[165, 165] })) (ty := 165) (gd := none) (by kernel_rfl) rfl rfl (Builtin.append_ #[165, 165] 165 #[(.slice p4 n4 c4), (.slice (some ⟨PQ, 0, none⟩) 1 1)]) (fun o ho ht => ED rfl rfl o ho ht) (h.mono (fun MO Az h2 => ?_)); replace h := h2; clear h2
   obtain ⟨VS, n27, Rt, rfl, h⟩ := h
   refine Seq.u 4 (.slice VS n27 Rt) (Seq.done ?_)
   refine At.s jj iJ ?_
   refine At.rg 9 [0, 1] ?_
   refine Seq.us [(28, .int .i64 J7), (5, .int .i64 J7)] (Seq.done ?_)
   refine At.goto (i := 0) (k' := [.code (.seq .skip K9), .inScope K3]) (by kernel_rfl) (by kernel_rfl) ?_
   refine At.s .skip K9 (At.skip ?_)
   refine At.s Lm N5 (At.s Ss MM ?_)
   exact At.v [(0, (.slice p0 n0 c0)), (4, (.slice VS n27 Rt)), (5, (.int .i64 J7))] (h _)
end Gz
namespace BW
variable {q0 UT : Option Addr} {x1 x6 J8 M8 : Int} {n36 WR : Nat}
def M : Fw := ⟨prog, 344, f344, [219], [], false, [(1, 13, true), (4, 16, true), (9, 18, true)], [], [(488, [(0, wQ), (1, wI), (6, bp), (36, wL), (37, wI), (38, wI)])]⟩
theorem ok : M.Ok := ⟨.cons call219 (AK.nil), mixed, func344, by kernel_rfl⟩
def GR := M.pt 0
theorem start (h : Pq q0 fun EB GU => LS σ EB GU fun N9 n13 Ox => LI .i64 σ EB (GU + 1) fun Fc => AN ((n13 : Int) - Fc) ∧ AN (4 + x1) ∧ Br ((((n13 : Int) - Fc) : Int) < (4 + x1)) (R (.returned (.tuple #[.slice none 0 0, .int .i64 20])) σ) (LS σ EB GU fun WO n26 Sz => LI .i64 σ EB (GU + 1) fun bw => LI .i64 σ EB (GU + 1) fun ea => AN (ea + 4) ∧ (0 ≤ bw ∧ bw ≤ (ea + 4) ∧ (ea + 4) ≤ (Sz : Int)) ∧ GR R (aD EB GU) x1 0 ((Dp WO (Int.toNat bw) Sz 1)) ((Int.toNat (ea + 4) - Int.toNat bw)) (Sz - Int.toNat bw) ((((Int.toNat (ea + 4) - Int.toNat bw) : Nat) : Int)) 0 σ)) : Spec prog 344 #[.pointer q0, .int .i64 x1] σ R := M.start h ok
theorem GS (h : Br (M8 < J8) (Pq UT fun N7 e7 => In M8 (n36 : Int) ∧ LI .u8 σ N7 (e7 + Int.toNat M8 * 1) fun LK => ((0 : Int) ≤ 8 ∧ 8 ≤ ((IntKind.bits .u32 : Nat) : Int)) ∧ Df (IntKind.u32.wrap (x6 * 2 ^ Int.toNat 8)) fun w7 => Df (IntKind.u32.wrap LK) fun Zf => Df (Go.bits .or .u32 w7 Zf) fun ef => AN (M8 + 1) ∧ GR R q0 x1 ef (aD N7 e7) n36 WR J8 (M8 + 1) σ) (Pq q0 fun M6 o49 => LS σ M6 o49 fun p51 n51 c51 => LI .i64 σ M6 (o49 + 1) fun pw => AN (pw + 4) ∧ LI .i64 σ M6 (o49 + 1) fun x60 => AN (x60 + 4) ∧ AN ((x60 + 4) + x1) ∧ ((0 : Int) ≤ (pw + 4) ∧ (pw + 4) ≤ ((x60 + 4) + x1) ∧ ((x60 + 4) + x1) ≤ (c51 : Int)) ∧ LI .i64 σ M6 (o49 + 1) fun x68 => AN (4 + x1) ∧ AN (x68 + (4 + x1)) ∧ AJ prog (Instr.storeAt 3 (.pointer (aD M6 (o49 + 1))) (.int .i64 (x68 + (4 + x1)))) σ (fun _ y => Spec prog 219 #[(.slice (Dp p51 (Int.toNat (pw + 4)) c51 1) (Int.toNat ((x60 + 4) + x1) - Int.toNat (pw + 4)) (c51 - Int.toNat (pw + 4)))] y (AB R (CI .u32 fun tG AI => Br (tG ≠ x6) (R (.returned (.tuple #[.slice none 0 0, .int .i64 22])) AI) (Al AI fun b78 => AJ prog (Builtin.append_ #[84, 84] 84 #[(.slice (aD b78 0) 0 0), (.slice (Dp p51 (Int.toNat (pw + 4)) c51 1) (Int.toNat ((x60 + 4) + x1) - Int.toNat (pw + 4)) (c51 - Int.toNat (pw + 4)))]) (Hp.set AI b78 (.cells #[] 5 (0, 0))) (CS fun p80 n80 c80 AZ => R (.returned (.tuple #[.slice p80 n80 c80, .int .i64 0])) AZ))))))) : GR R q0 x1 x6 UT n36 WR J8 M8 σ := M.of h ok rfl
end BW
end TwW
end
end
section
set_option maxRecDepth 100000
noncomputable section
namespace TwW
open Go Tw Go.Proofs.Tryz
variable [Iq] {R : Rr} {σ : Hp}

namespace Fv
variable {x0 Zk xT x4 : Int} {iO fD : Option Addr} {iP iQ fE fF : Nat}
def M : Fw := ⟨prog, 11, f11, [45, 46], [2, 3], false, [], [], [(464, [(0, wI), (2, .X 41 [.I .u64, .L]), (3, .X 41 [.I .u64, .L]), (4, wI)])]⟩
theorem ok : M.Ok := ⟨.cons call45 (.cons call46 (AK.nil)), mixed, func11, by kernel_rfl⟩
def Bu := M.pt 0
theorem start (h : ∀ b2 : Nat, ∀ b3 : Nat, Bu R x0 0 none 0 0 0 none 0 0 0 σ) : Spec prog 11 #[.int .i64 x0] σ R := M.start h ok
theorem BF (h : Br (x4 < x0) (Spec prog 45 #[.agg #[.int .u64 xT, .slice fD fE fF], .int .i64 x4] σ (AB R (fun z y => ∃ tH tI tJ tK HH, z = (.tuple #[.agg #[.int .u64 tH, .slice tI tJ tK], .int .i64 HH]) ∧ Spec prog 46 #[.agg #[.int .u64 tH, .slice tI tJ tK], .int .i64 x4] y (AB R (fun z AI => ∃ tL tM tN tO Oy, z = (.tuple #[.agg #[.int .u64 tL, .slice tM tN tO], .int .i64 Oy]) ∧ AN (x4 + 1) ∧ Bu R x0 Zk iO iP iQ tL tM tN tO (x4 + 1) AI))))) (R (.returned (.agg #[.int .u64 xT, .slice fD fE fF])) σ)) : Bu R x0 Zk iO iP iQ xT fD fE fF x4 σ := M.zn h ok rfl fun _ _ => by kernel_rfl
end Fv
namespace OH
def M : Fw := ⟨prog, 13, f13, [7, 9, 10, 11, 12, 14, 15, 17, 18, 20], [], false, [], [], []⟩
theorem ok : M.Ok := ⟨.cons call7 (.cons call9 (.cons call10 (.cons call11 (.cons call12 (.cons call14 (.cons call15 (.cons call17 (.cons call18 (.cons call20 (AK.nil)))))))))), mixed, func13, by kernel_rfl⟩
theorem start (h : Spec prog 7 #[.int .i64 1, .int .i64 5, .int .i64 30] σ (AB R (fun z y => ∃ UW HH Na ACS ACT ACU ACV ACW ACX ACY ACZ, z = (.agg #[.int .i64 UW, .int .i64 HH, .int .i64 Na, .int .i64 ACS, .int .i64 ACT, .int .i64 ACU, .int .i64 ACV, .int .i64 ACW, .int .i64 ACX, .int .i64 ACY, .bool ACZ]) ∧ Spec prog 9 #[.agg #[.int .i64 UW, .int .i64 HH, .int .i64 Na, .int .i64 ACS, .int .i64 ACT, .int .i64 ACU, .int .i64 ACV, .int .i64 ACW, .int .i64 ACX, .int .i64 ACY, .bool ACZ]] y (AB R (CQ fun et AI => Spec prog 11 #[.int .i64 3] AI (AB R (fun z AZ => ∃ fG ACa ACb ACc, z = (.agg #[.int .u64 fG, .slice ACa ACb ACc]) ∧ Spec prog 10 #[.agg #[.int .u64 fG, .slice ACa ACb ACc]] AZ (AB R (fun z Av => ∃ px xU, z = (.tuple #[.pointer px, .pointer xU]) ∧ Bo (Option.isNone et) (R (.returned (.bool false)) Av) (Bo (Option.isNone px) (R (.returned (.bool false)) Av) (Al Av fun JN => Al (Hp.set Av JN (.cells #[(.string (ByteArray.mk #[97])), (.string (ByteArray.mk #[120]))] 61 (0, 0))) fun Jp => Spec prog 12 #[.pointer et, (.string (ByteArray.mk #[116])), (.slice (aD Jp 0) 1 1), .int .i64 0, .pointer px] (Hp.set (Hp.set Av JN (.cells #[(.string (ByteArray.mk #[97])), (.string (ByteArray.mk #[120]))] 61 (0, 0))) Jp (.cells #[(.slice (aD JN 0) 1 1), .int .i64 5, .int .u64 1] 25 (0, 0))) (AB R (fun z Cg => ∃ Wh ACd, z = (.tuple #[.pointer Wh, .int .i64 ACd]) ∧ Br (ACd ≠ 0) (R (.returned (.bool false)) Cg) (Bo (Option.isNone Wh) (R (.returned (.bool false)) Cg) (Spec prog 14 #[.pointer Wh] Cg (AB R (CS fun VU n44 Wg FE => Br ((n44 : Int) ≠ 3) (R (.returned (.bool false)) FE) (Spec prog 14 #[.pointer Wh] FE (AB R (CS fun WQ n49 c49 Ek => Pq WQ fun su sv => In 0 (n49 : Int) ∧ LI .i64 Ek su sv fun ek => Spec prog 20 #[.pointer Wh, .int .i64 ek] Ek (AB R (fun z IL => ∃ AJL ACe AJM ACf, z = (.tuple #[.slice AJL ACe AJM, .int .u64 ACf]) ∧ In 0 (n49 : Int) ∧ LI .i64 IL su sv fun x61 => Al IL fun b62 => Spec prog 15 #[.pointer Wh, .int .i64 x61, (.slice (aD b62 0) 1 1)] (Hp.set IL b62 (.cells #[.int .i64 1] 3 (0, 0))) (AB R (fun z kJ => z = (.tuple #[]) ∧ In 1 (n49 : Int) ∧ LI .i64 kJ su (sv + 1) fun x67 => Al kJ fun iR => Spec prog 15 #[.pointer Wh, .int .i64 x67, (.slice (aD iR 0) 1 1)] (Hp.set kJ iR (.cells #[.int .i64 2] 3 (0, 0))) (AB R (fun z kK => z = (.tuple #[]) ∧ Spec prog 17 #[.pointer Wh] kK (AB R (fun z AJN => ∃ ACg ACh ACi ACj, z = (.tuple #[.int .i64 ACg, .slice ACh ACi ACj]) ∧ Spec prog 12 #[.pointer et, (.string (ByteArray.mk #[116])), .slice none 0 0, .int .i64 0, .pointer px] AJN (AB R (fun z kV => ∃ AJO ACk, z = (.tuple #[.pointer AJO, .int .i64 ACk]) ∧ Br ((ACe : Int) = 1) (Br (ACf = 6) (Br (ACg = 1) (Al kV fun b94 => Spec prog 18 #[.slice ACh ACi ACj, (.slice (aD b94 0) 1 1)] (Hp.set kV b94 (.cells #[.bool true] 4 (0, 0))) (AB R (CB fun t95 ACl => Bo t95 (R (.returned (.bool (decide (ACk = 4)))) ACl) (R (.returned (.bool false)) ACl)))) (R (.returned (.bool false)) kV)) (R (.returned (.bool false)) kV)) (R (.returned (.bool false)) kV))))))))))))))))))))))))))))))) : Spec prog 13 #[] σ R := M.start h ok
end OH
namespace BA
variable {q0 p6 Jq : Option Addr} {x1 E7 FD : Int} {n6 c6 n12 c12 : Nat}
def M : Fw := ⟨prog, 20, f20, [50, 53], [8], false, [(8, 7, true)], [], [(232, [(0, wQ), (1, wI), (6, wL), (12, wL), (13, wI), (14, wI)]), (935, [(0, wQ), (1, wI), (6, wL), (12, wL), (13, wI), (14, wI)])]⟩
theorem ok : M.Ok := ⟨.cons call50 (.cons call53 (AK.nil)), mixed, func20, by kernel_rfl⟩
def A4 := M.pt 0
def GV := M.pt 1
theorem start (h : Pq q0 fun D8 LF => LS σ D8 (LF + 2) fun Jq n12 c12 => A4 R (aD D8 LF) x1 none 0 0 Jq n12 c12 (n12 : Int) 0 σ) : Spec prog 20 #[.pointer q0, .int .i64 x1] σ R := M.start h ok
theorem AW (h : Br (FD < E7) (Pq Jq fun KY UQ => In FD (n12 : Int) ∧ ∃ Lo Lp Lq J7 Kn ACm ACn ACo AJQ, Dn σ KY (UQ + Int.toNat FD * 5) [.slice Lo Lp Lq, .int .i64 J7, .int .u64 Kn, .slice ACm ACn ACo, .map AJQ] ∧ ∀ b8 : Nat, Spec prog 50 #[.slice ACm ACn ACo, .int .i64 x1] σ (AB R (CB fun t21 y => Bo t21 (Spec prog 53 #[.agg #[.slice Lo Lp Lq, .int .i64 J7, .int .u64 Kn]] y (AB R (fun z AI => ∃ ACp ACq ACr py ACs, z = (.agg #[.slice ACp ACq ACr, .int .i64 py, .int .u64 ACs]) ∧ Al AI fun PQ => AJ prog (Builtin.append_ #[46, 46] 46 #[.slice p6 n6 c6, (.slice (aD PQ 0) 1 1)]) (Hp.set AI PQ (.cells #[.slice ACp ACq ACr, .int .i64 py, .int .u64 ACs] 25 (0, 0))) (CS fun VS n27 Rt AZ => GV R q0 x1 VS n27 Rt (aD KY UQ) n12 c12 E7 FD AZ)))) (GV R q0 x1 p6 n6 c6 (aD KY UQ) n12 c12 E7 FD y)))) (Pq q0 fun Jp pc => LI .u64 σ Jp pc fun sy => R (.returned (.tuple #[.slice p6 n6 c6, .int .u64 sy])) σ)) : A4 R q0 x1 p6 n6 c6 Jq n12 c12 E7 FD σ := M.of h ok rfl
theorem Fe (h : AN (FD + 1) ∧ A4 R q0 x1 p6 n6 c6 Jq n12 c12 E7 (FD + 1) σ) : GV R q0 x1 p6 n6 c6 Jq n12 c12 E7 FD σ := M.of h ok rfl
end BA
namespace JT
variable {p0 : Option Addr} {n0 c0 : Nat}
def M : Fw := ⟨prog, 25, f25, [], [], false, [], [], []⟩
theorem ok : M.Ok := ⟨AK.nil, mixed, func25, by kernel_rfl⟩
theorem start (h : Al σ fun b3 => AJ prog (Builtin.append_ #[22, 22] 22 #[(.slice (aD b3 0) 0 0), .slice p0 n0 c0]) (Hp.set σ b3 (.cells #[] 61 (0, 0))) (CS fun p5 n5 c5 y => R (.returned (.slice p5 n5 c5)) y)) : Spec prog 25 #[.slice p0 n0 c0] σ R := M.start h ok
end JT
namespace TA
variable {En x1 : Int} {HF : Option Addr} {GL HG : Nat}
def M : Fw := ⟨prog, 45, f45, [100], [2, 4], false, [], [], []⟩
theorem ok : M.Ok := ⟨.cons call100 (AK.nil), mixed, func45, by kernel_rfl⟩
theorem start (h : ∀ b2 : Nat, ∀ b4 : Nat, Spec prog 100 #[.agg #[.int .u64 En, .slice HF GL HG], .int .i64 x1, (.func (.func 101) #[] #[])] σ (AB R (fun z y => ∃ jk jl jm jn x8b, z = (.tuple #[.agg #[.int .u64 jk, .slice jl jm jn], .int .i64 x8b]) ∧ R (.returned (.tuple #[.agg #[.int .u64 jk, .slice jl jm jn], .int .i64 x8b])) y))) : Spec prog 45 #[.agg #[.int .u64 En, .slice HF GL HG], .int .i64 x1] σ R := M.start h ok
end TA
namespace slices_Sort_int
variable {p0 : Option Addr} {n0 c0 : Nat}
end slices_Sort_int
namespace CX
variable {q0 p3 p5 oq : Option Addr} {n3 c3 n5 c5 n23 ot : Nat} {v12 : Value} {Kk M4 : Int}
def M : Fw := ⟨prog, 68, f68, [64, 93], [], false, [], [(12, 159)], [(232, [(0, wQ), (3, wL), (12, wV)]), (2024, [(0, wQ), (5, wL), (23, wL), (24, wI), (25, wI)])]⟩
theorem ok : M.Ok := ⟨.cons call64 (.cons call93 (AK.nil)), mixed, func68, by kernel_rfl⟩
def A4 := M.pt 0
def QL := M.pt 1
theorem start (h : Pq q0 fun b9 o9 => LM σ b9 (o9 + 2) fun m11 => AJ prog (Instr.range 159 (.map m11)) σ (fun z y => ∃ v12, v12 = z ∧ A4 R (aD b9 o9) none 0 0 v12 y)) : Spec prog 68 #[.pointer q0] σ R := M.start h ok
theorem AW (h : AJ prog (Instr.next v12 false 0) σ (fun v y => (v = (.tuple #[.bool false]) ∧ Spec prog 93 #[.slice p3 n3 c3] y (AB R (fun z AI => z = (.tuple #[]) ∧ QL R q0 none 0 0 p3 n3 c3 (n3 : Int) 0 AI))) ∨ (∃ Zj ACt ACu ACv ACw, v = (.tuple #[.bool true, .string Zj, .agg #[.slice ACt ACu ACv, .int .u64 ACw]]) ∧ AJ prog (Instr.entry v12) y (fun z AI => ∃ jv ACx ACy ACz AC0, z = (.tuple #[.string jv, .agg #[.slice ACx ACy ACz, .int .u64 AC0]]) ∧ Al AI fun UL => AJ prog (Builtin.append_ #[97, 97] 97 #[.slice p3 n3 c3, (.slice (aD UL 0) 1 1)]) (Hp.set AI UL (.cells #[.string jv] 9 (0, 0))) (CS fun sw n20 c20 AZ => A4 R q0 sw n20 c20 v12 AZ))))) : A4 R q0 p3 n3 c3 v12 σ := M.of h ok rfl
theorem PS (h : Br (M4 < Kk) (Pq oq fun b27 o27 => In M4 (n23 : Int) ∧ LT σ b27 (o27 + Int.toNat M4 * 1) fun s28 => Pq q0 fun kG kH => LM σ kG (kH + 2) fun m34 => AJ prog (Instr.lookup 159 (.map m34) (.string s28) false) σ (fun z y => ∃ AC1 AC2 AC3 AC4, z = (.agg #[.slice AC1 AC2 AC3, .int .u64 AC4]) ∧ Spec prog 64 #[.string s28, .agg #[.slice AC1 AC2 AC3, .int .u64 AC4]] y (AB R (CS fun Ra n37 c37 AI => Al AI fun b38 => AJ prog (Builtin.append_ #[165, 165] 165 #[.slice p5 n5 c5, (.slice (aD b38 0) 1 1)]) (Hp.set AI b38 (.cells #[.slice Ra n37 c37] 84 (0, 0))) (CS fun kI n39 Rs AZ => AN (M4 + 1) ∧ QL R (aD kG kH) kI n39 Rs (aD b27 o27) n23 ot Kk (M4 + 1) AZ))))) (R (.returned (.slice p5 n5 c5)) σ)) : QL R q0 p5 n5 c5 oq n23 ot Kk M4 σ := M.of h ok rfl
end CX
namespace KA
variable {q0 p1 : Option Addr} {n1 c1 : Nat}
def M : Fw := ⟨prog, 96, f96, [94, 115, 177], [], false, [], [], []⟩
theorem ok : M.Ok := ⟨.cons call94 (.cons call115 (.cons call177 (AK.nil))), mixed, func96, by kernel_rfl⟩
theorem start (h : Spec prog 115 #[.slice p1 n1 c1, .int .i64 0] σ (AB R (fun z y => ∃ WM NX UM, z = (.tuple #[.string WM, .int .i64 NX, .int .i64 UM]) ∧ Br (UM ≠ 0) (R (.returned (.bool false)) y) (Spec prog 177 #[.slice p1 n1 c1, .int .i64 NX] y (AB R (fun z AI => ∃ UU pz qA, z = (.tuple #[.int .u64 UU, .int .i64 pz, .int .i64 qA]) ∧ Br (qA ≠ 0) (R (.returned (.bool false)) AI) (Spec prog 115 #[.slice p1 n1 c1, .int .i64 pz] AI (AB R (fun z AZ => ∃ AC5 qB qC, z = (.tuple #[.string AC5, .int .i64 qB, .int .i64 qC]) ∧ Br (qC ≠ 0) (R (.returned (.bool false)) AZ) (Br (qB ≠ (n1 : Int)) (R (.returned (.bool false)) AZ) (Spec prog 94 #[.string WM] AZ (AB R (CB fun t44 Av => Bn t44 (R (.returned (.bool false)) Av) (Br (UU = 0) (R (.returned (.bool false)) Av) (Pq q0 fun kW o52 => LM Av kW (o52 + 2) fun m54 => AJ prog (convert 9 84 (.string AC5)) Av (CS fun p57 n57 c57 Cg => AJ prog (Instr.mapUpdate 159 (.map m54) (.string WM) (.agg #[.slice p57 n57 c57, .int .u64 UU])) Cg (fun _ FE => R (.returned (.bool true)) FE))))))))))))))))) : Spec prog 96 #[.pointer q0, .slice p1 n1 c1] σ R := M.start h ok
end KA
namespace Cu
variable {b0 b1 : Nat}
def M : Fw := ⟨prog, 103, f103, [104], [], false, [], [], []⟩
theorem ok : M.Ok := ⟨.cons call104 (AK.nil), mixed, func103, by kernel_rfl⟩
theorem start (h : LQ σ b0 0 fun q6 => Pq q6 fun b7 o7 => LT σ b7 o7 fun s9 => LQ σ b0 0 fun q10 => Pq q10 fun EB GU => LS σ EB (GU + 3) fun N9 n13 Ox => LQ σ b1 0 fun et => Pq et fun bu nX => ∃ AC6 Zh AC7 AC8, Dn σ bu (nX + 7) [.int .i64 AC6, .int .i64 Zh, .int .i64 AC7, .bool AC8] ∧ Spec prog 104 #[.string s9, .slice N9 n13 Ox, .agg #[.int .i64 AC6, .int .i64 Zh, .int .i64 AC7, .bool AC8]] σ (AB R (fun z y => ∃ AJR Oy, z = (.tuple #[.int .i64 AJR, .int .i64 Oy]) ∧ Br (Oy = 0) (R (.returned (.int .i64 0)) y) (Br (Oy = 151) (R (.returned (.int .i64 4)) y) (R (.returned (.int .i64 3)) y))))) : Spec prog 103 #[(.pointer (aD b0 0)), (.pointer (aD b1 0))] σ R := M.start h ok
end Cu
namespace B7
variable {s0 : ByteArray} {p1 p8 UT xV UR : Option Addr} {n1 c1 n8 c8 n36 WR xW xX n43 VN : Nat} {Zk x2b x2c J8 M8 x9 Zl Zm pZ Zf : Int} {t2d : Bool}
def M : Fw := ⟨prog, 104, f104, [191, 192], [5, 10], false, [], [], [(488, [(8, wL), (36, wL), (37, wI), (38, wI)]), (125336, [(8, wL), (9, wI), (10, .X 25 [.L, .I .i64, .I .u64]), (36, wL), (37, wI), (38, wI), (43, wL), (44, wI), (45, wI)])]⟩
theorem ok : M.Ok := ⟨.cons call191 (.cons call192 (AK.nil)), mixed, func104, by kernel_rfl⟩
def Ua := M.pt 0
def Nc := M.pt 1
theorem start (h : ∀ b5 : Nat, Spec prog 191 #[.string s0] σ (AB R (CB fun t16 y => Bn t16 (R (.returned (.tuple #[.int .i64 0, .int .i64 150])) y) (Br ((n1 : Int) = 0) (R (.returned (.tuple #[.int .i64 0, .int .i64 151])) y) (Br (x2c < (n1 : Int)) (R (.returned (.tuple #[.int .i64 0, .int .i64 151])) y) (Br (256 < (n1 : Int)) (R (.returned (.tuple #[.int .i64 0, .int .i64 151])) y) (Spec prog 192 #[.agg #[.int .i64 Zk, .int .i64 x2b, .int .i64 x2c, .bool t2d]] y (AB R (CS fun p35 n35 c35 AI => Ua R p35 n35 c35 p1 n1 c1 (n1 : Int) 0 AI))))))))) : Spec prog 104 #[.string s0, .slice p1 n1 c1, .agg #[.int .i64 Zk, .int .i64 x2b, .int .i64 x2c, .bool t2d]] σ R := M.start h ok
theorem MS (h : Br (M8 < J8) (Pq UT fun pn tF => In M8 (n36 : Int) ∧ ∃ AC9 ADA ADB ADC ADD, Dn σ pn (tF + Int.toNat M8 * 3) [.slice AC9 ADA ADB, .int .i64 ADC, .int .u64 ADD] ∧ ∀ D8 : Nat, Nc R p8 n8 c8 M8 AC9 ADA ADB ADC ADD (aD pn tF) n36 WR J8 M8 p8 n8 c8 (n8 : Int) 0 σ) (R (.returned (.tuple #[.int .i64 0, .int .i64 0])) σ)) : Ua R p8 n8 c8 UT n36 WR J8 M8 σ := M.of h ok rfl
theorem JB (h : Br (Zf < pZ) (Pq UR fun cI ju => In Zf (n43 : Int) ∧ ∃ v48, Hp.ld σ ⟨cI, (ju + Int.toNat Zf * 1), none⟩ = some v48 ∧ ∃ (f51 : Nat) (tP tQ : Array Value), v48 = .func (.func f51) tP tQ ∧ Enters prog f51 ∧ Spec prog f51 (tP ++ #[.agg #[.slice xV xW xX, .int .i64 Zl, .int .u64 Zm]] ++ tQ) σ (AB R (CI .i64 fun YS y => Br (YS ≠ 0) (R (.returned (.tuple #[.int .i64 x9, .int .i64 YS])) y) (AN (Zf + 1) ∧ Nc R p8 n8 c8 x9 xV xW xX Zl Zm UT n36 WR J8 M8 (aD cI ju) n43 VN pZ (Zf + 1) y)))) (AN (M8 + 1) ∧ Ua R p8 n8 c8 UT n36 WR J8 (M8 + 1) σ)) : Nc R p8 n8 c8 x9 xV xW xX Zl Zm UT n36 WR J8 M8 UR n43 VN pZ Zf σ := M.bm h ok rfl fun _ => by kernel_rfl
end B7
namespace Bd
variable {b0 b1 b2 : Nat}
def M : Fw := ⟨prog, 110, f110, [27, 111], [], false, [], [], []⟩
theorem ok : M.Ok := ⟨.cons call27 (.cons call111 (AK.nil)), mixed, func110, by kernel_rfl⟩
theorem start (h : LQ σ b0 0 fun q4 => Pq q4 fun b5 o5 => LT σ b5 (o5 + 2) fun s7 => Bo ((ByteArray.toList s7 == ByteArray.toList (ByteArray.mk #[]))) (R (.returned (.int .i64 0)) σ) (LQ σ b1 0 fun q9 => LQ σ b2 0 fun q10 => LQ σ b0 0 fun pE => Pq pE fun Ov QB => LT σ Ov QB fun cE => LQ σ b0 0 fun pa => Pq pa fun KY UQ => LT σ KY (UQ + 1) fun s18 => LQ σ b0 0 fun q20 => Pq q20 fun nT o0 => LT σ nT (o0 + 2) fun s23 => LQ σ b0 0 fun q24 => Pq q24 fun pd o25 => LI .i64 σ pd (o25 + 4) fun Kl => Spec prog 27 #[.string cE, .string s18] σ (AB R (CT fun s19 y => Kp [pd, b0, nT, b0, b2, b1] σ y ∧ Spec prog 111 #[.pointer q9, .pointer q10, .string s19, .string s23, .int .i64 Kl] y (AB R (CI .i64 fun Gq AI => R (.returned (.int .i64 Gq)) AI)))))) : Spec prog 110 #[(.pointer (aD b0 0)), (.pointer (aD b1 0)), (.pointer (aD b2 0))] σ R := M.start h ok
end Bd
namespace KB
variable {p0 : Option Addr} {n0 c0 : Nat} {v1 : Value}
end KB
namespace EJ
def K0 := f125.body.getD .skip
def K1 := cl K0
def K2 := cr K0
def K3 := cl K2
def K4 := cl K3
def K5 := cl K4
def K6 := cr K4
def K7 := cl K6
def K8 := cl K7
def K9 := cr K7
def Lm := cr K6
def Ss := cl Lm
def MM := cl Ss
def QC := cl MM
def ZV := cr MM
def eb := cl ZV
def Su := cr ZV
def N5 := cl Su
def YL := cr Su
def UO := cr Lm
abbrev gl (R : Rr) : Gl := Gl.fn prog 125 24 R
def pt5 (R : Rr) (v0 : Value) (b1 b2 : Nat) (x6 x7 : Int) (σ : Hp) : Prop := ∀ (J : Env), At (gl R) [.code K5, .code K6, .inLoop K4, .inBlock 0] (Gg J [(0, v0), (1, (.pointer (some ⟨b1, 0, none⟩))), (2, (.pointer (some ⟨b2, 0, none⟩))), (6, (.int .i64 x6)), (7, (.int .i64 x7))]) [] σ
theorem start {R : Rr} {v0 : Value} {b1 b2 : Nat} {σ : Hp} (h : ∃ p5 : Option Addr, ∃ n5 : Nat, ∃ c5 : Nat, Hp.ld σ ⟨b1, 0, none⟩ = some (.slice p5 n5 c5) ∧ pt5 R v0 b1 b2 ((n5 : Int)) 0 σ) : Spec prog 125 #[v0, (.pointer (some ⟨b1, 0, none⟩)), (.pointer (some ⟨b2, 0, none⟩))] σ R := by
 refine Spec.Js (fn := f125) (c := K0) func125 (by kernel_rfl) (Nat.le_of_ble_eq_true (by kernel_rfl)) (fun e he => ?_)
 refine At.oO (l := [(0, v0), (1, (.pointer (some ⟨b1, 0, none⟩))), (2, (.pointer (some ⟨b2, 0, none⟩)))]) ⟨he 0, he 1, he 2, trivial⟩ (fun J => ?_)
 show At (gl R) _ _ _ _
 refine At.s K1 K2 ?_
 refine At.rg 0 [0, 1, 2] ?_
 obtain ⟨p5, n5, c5, hl, h⟩ := h
 refine Seq.z 5 (.load 213 (.tmp 1)) 213 (.slice p5 n5 c5) (Y.ld isAgg213 rfl hl) ?_
 refine Seq.z 6 (.call { callee := .builtin .len, args := #[(.tmp 5)], argTypes := #[213] }) 3 (.int .i64 (n5 : Int)) (Y.Yp underlying213 rfl rfl) ?_
 refine Seq.u 7 (.int .i64 0) (Seq.done ?_)
 refine At.b 0 K3 ?_
 refine At.loop (x := K4) (by kernel_rfl) ?_
 refine At.s K5 K6 ?_
 exact At.v [(0, v0), (1, (.pointer (some ⟨b1, 0, none⟩))), (2, (.pointer (some ⟨b2, 0, none⟩))), (6, (.int .i64 (n5 : Int))), (7, (.int .i64 0))] (h _)
theorem kX {R : Rr} {v0 : Value} {b1 b2 : Nat} {x6 x7 : Int} {σ : Hp} (h : ((x7 : Int) < x6 → ∃ WE : Option Addr, ∃ n11 : Nat, ∃ ZU : Nat, Hp.ld σ ⟨b1, 0, none⟩ = some (.slice WE n11 ZU) ∧ ∃ DU : Int, Hp.ld σ ⟨b2, 0, none⟩ = some (.int .i64 DU) ∧ AN (DU + x7) ∧ ∃ p15 : Option Addr, ∃ n15 : Nat, ∃ c15 : Nat, Hp.ld σ ⟨b1, 0, none⟩ = some (.slice p15 n15 c15) ∧ (n15 : Int) ≠ (0 : Int) ∧ ∀ I7 : Int, I7 = Int.tmod (DU + x7) (n15 : Int) → ∃ (PM YV : Nat), WE = some ⟨PM, YV, none⟩ ∧ ((0 : Int) ≤ I7 ∧ I7 < (n11 : Int)) ∧ ∃ Jr : Int, Hp.ld σ ⟨PM, ((YV + Int.toNat I7 * 2) + 1), none⟩ = some (.int .i64 Jr) ∧ ∃ l21 : Nat, v0 = .func (.yield l21) #[] #[] ∧ H8 prog l21 #[(.int .i64 Jr)] σ (AB R (fun v σ1 => ∃ t21 : Bool, v = (.bool t21) ∧ (t21 = false → R (.returned (.tuple #[])) σ1) ∧ (t21 = true → AN (x7 + 1) ∧ pt5 R v0 b1 b2 x6 ((x7 + 1)) σ1)))) ∧ (¬ ((x7 : Int) < x6) → R (.returned (.tuple #[])) σ)) : pt5 R v0 b1 b2 x6 x7 σ := by
 intro J
 show At (gl R) _ _ _ _
 refine At.rg 1 [0] ?_
 refine Seq.u 8 (.bool (decide ((x7 : Int) < x6))) (Seq.done ?_)
 refine At.s K7 Lm ?_
 cases hb : (decide ((x7 : Int) < x6)) with
 | true =>
  replace h := h.1 (of_decide_eq_true hb)
  refine At.cT 8 K8 K9 ?_
  refine At.skip ?_
  refine At.s Ss UO ?_
  refine At.b 1 MM ?_
  refine At.s QC ZV ?_
  refine At.rg 2 [0, 1] ?_
  refine Seq.us [(9, .int .i64 x7), (4, .int .i64 x7)] (Seq.done ?_)
  refine At.s eb Su ?_
  refine At.draw (id := 3) (ops := cO eb) (n := 13) (q := (some [])) (plan := [(0, true), (1, true), (2, true), (3, true), (4, true), (5, true), (6, true), (7, true), (8, true), (9, true), (10, true), (11, false), (12, true)]) (tl := []) mixed (by kernel_rfl) (by kernel_rfl) ?_
  refine Head.u 10 v0 ?_
  obtain ⟨WE, n11, ZU, hl, h⟩ := h
  refine Head.yl b1 [[11, 10, 9, 8]] rfl (by kernel_rfl) (d := (some 11)) (op := (.load 213 (.tmp 1))) (ty := 213) (v := (.slice WE n11 ZU)) (by kernel_rfl) rfl (Y.ld isAgg213 rfl (Tt hl)) ?_
  obtain ⟨DU, hl, h⟩ := h
  refine Head.yl b2 [[11, 10, 9, 8, 7, 4]] rfl (by kernel_rfl) (d := (some 12)) (op := (.load 3 (.tmp 2))) (ty := 3) (v := (.int .i64 DU)) (by kernel_rfl) rfl (Y.ld isAgg3 rfl (Tt hl)) ?_
  refine Head.u 13 (.int .i64 x7) ?_
  obtain ⟨hi, h⟩ := h
  refine Head.z 14 (.binOp .add 3 (.tmp 12) (.tmp 13) 3) 3 (.int .i64 (DU + x7)) (Y.Pe hi rfl rfl) ?_
  obtain ⟨p15, n15, c15, hl, h⟩ := h
  refine Head.yl b1 [[11, 10, 9, 8, 7, 6]] rfl (by kernel_rfl) (d := (some 15)) (op := (.load 213 (.tmp 1))) (ty := 213) (v := (.slice p15 n15 c15)) (by kernel_rfl) rfl (Y.ld isAgg213 rfl (Tt hl)) ?_
  refine Head.z 16 (.call { callee := .builtin .len, args := #[(.tmp 15)], argTypes := #[213] }) 3 (.int .i64 (n15 : Int)) (Y.Yp underlying213 rfl rfl) ?_
  obtain ⟨hc, h⟩ := h
  obtain ⟨I7, tS⟩ : ∃ y, y = Int.tmod (DU + x7) (n15 : Int) := ⟨_, rfl⟩
  replace h := h I7 tS
  refine Head.y (d := (some 17)) (op := (.binOp .rem 3 (.tmp 14) (.tmp 16) 3)) (ty := 3) (v := (.int .i64 I7)) (by kernel_rfl) rfl (tS ▸ Y.rem hc rfl rfl) ?_
  obtain ⟨PM, YV, hq, h⟩ := h
  subst hq
  obtain ⟨hi, h⟩ := h
  refine Head.z 18 (.indexAddr 213 (.tmp 11) (.tmp 17)) 0 (.pointer (some ⟨PM, (YV + Int.toNat I7 * 2), none⟩)) (Y.idx underlying213 sizeOf215 rfl rfl hi rfl) ?_
  refine Head.z 19 (.fieldAddr 215 (.tmp 18) 1) 0 (.pointer (some ⟨PM, ((YV + Int.toNat I7 * 2) + 1), none⟩)) (Y.fieldAddr (fd := (Ts prog 215 1)) underlying215 (by kernel_rfl) sizeOf3 rfl rfl) ?_
  obtain ⟨Jr, hl, h⟩ := h
  refine Head.yl PM [[11]] rfl (by kernel_rfl) (d := (some 20)) (op := (.load 3 (.tmp 19))) (ty := 3) (v := (.int .i64 Jr)) (by kernel_rfl) rfl (Y.ld isAgg3 rfl (Tt hl)) ?_
  obtain ⟨l21, hfv, h⟩ := h
  refine Head.o (q' := (some [])) rfl ?_
  refine AV.yield (g := (gl R)) (l := l21) (vs := #[(.int .i64 Jr)]) (u := v0) (d := (some 21)) (x := (.tmp 10)) (xs := #[(.tmp 20)]) (ts := #[3]) (ty := 4) (gd := none) (by kernel_rfl) rfl rfl rfl rfl hfv (h.cont (fun v σ1 h2 => ?_)); replace h := h2; clear h2
  obtain ⟨t21, rfl, h⟩ := h
  refine ⟨⟨fun _ h => h, AHz (L := []) Kp.nil⟩, ?_⟩
  refine Head.u 22 (.bool (!t21)) ?_
  refine Head.done ?_
  refine Seq.done ?_
  cases hb : (!t21) with
  | true =>
   replace h := h.1 (Tw.nt hb)
   refine At.cT 22 N5 YL ?_
   exact At.rt [] [] func125 rfl h
  | false =>
   replace h := h.2 (Tw.nf hb)
   refine At.cF 22 N5 YL ?_
   refine At.skip ?_
   refine At.inBlock ?_
   refine At.rg 4 [0, 1] ?_
   obtain ⟨hi, h⟩ := h
   refine Seq.z 23 (.binOp .add 3 (.tmp 7) (.const (.int .i64 1)) 3) 3 (.int .i64 (x7 + 1)) (Y.Pe hi rfl rfl) ?_
   refine Seq.u 7 (.int .i64 (x7 + 1)) (Seq.done ?_)
   refine At.inLoop ?_
   refine At.s K5 K6 ?_
   exact At.v [(0, v0), (1, (.pointer (some ⟨b1, 0, none⟩))), (2, (.pointer (some ⟨b2, 0, none⟩))), (6, (.int .i64 x6)), (7, (.int .i64 (x7 + 1)))] (h _)
 | false =>
  replace h := h.2 (of_decide_eq_false hb)
  refine At.cF 8 K8 K9 ?_
  refine At.x 0 [] ?_
  exact At.sI (rs := []) (vs := []) func125 (by kernel_rfl) rfl h
end EJ
namespace Cv
variable {s0 s1 : ByteArray}
def M : Fw := ⟨prog, 169, f169, [], [], false, [], [], []⟩
theorem ok : M.Ok := ⟨AK.nil, mixed, func169, by kernel_rfl⟩
theorem start (h : Br ((((ByteArray.size s1 : Nat) : Int) : Int) ≤ ((ByteArray.size s0 : Nat) : Int)) (∃ cE, YF prog (Instr.sliceAt 9 (.string s0) none (some (.int .i64 ((ByteArray.size s1 : Nat) : Int))) none) σ (.string cE) ∧ R (.returned (.bool (ByteArray.toList cE == ByteArray.toList s1))) σ) (R (.returned (.bool false)) σ)) : Spec prog 169 #[.string s0, .string s1] σ R := M.start h ok
end Cv
namespace FR
variable {s0 : ByteArray} {x3 : Int}
def M : Fw := ⟨prog, 171, f171, [], [], false, [], [], [(464, [(0, wT), (3, wI)])]⟩
theorem ok : M.Ok := ⟨AK.nil, mixed, func171, by kernel_rfl⟩
def Am := M.pt 0
theorem start (h : Bo ((ByteArray.toList s0 == ByteArray.toList (ByteArray.mk #[]))) (R (.returned (.bool false)) σ) (Br ((64 : Int) < ((ByteArray.size s0 : Nat) : Int)) (R (.returned (.bool false)) σ) (Am R s0 0 σ))) : Spec prog 171 #[.string s0] σ R := M.start h ok
theorem BB (h : Br (x3 < ((ByteArray.size s0 : Nat) : Int)) (∃ Ll : UInt8, 0 ≤ x3 ∧ (ByteArray.data s0)[Int.toNat x3]? = some Ll ∧ Br ((((UInt8.toNat Ll : Nat) : Int) : Int) < 97) (Br ((((UInt8.toNat Ll : Nat) : Int) : Int) < 48) (Br ((((UInt8.toNat Ll : Nat) : Int) : Int) ≠ 47) (Br ((((UInt8.toNat Ll : Nat) : Int) : Int) ≠ 46) (Br ((((UInt8.toNat Ll : Nat) : Int) : Int) ≠ 45) (R (.returned (.bool false)) σ) (AN (x3 + 1) ∧ Am R s0 (x3 + 1) σ)) (AN (x3 + 1) ∧ Am R s0 (x3 + 1) σ)) (AN (x3 + 1) ∧ Am R s0 (x3 + 1) σ)) (Br ((57 : Int) < ((UInt8.toNat Ll : Nat) : Int)) (Br ((((UInt8.toNat Ll : Nat) : Int) : Int) ≠ 47) (Br ((((UInt8.toNat Ll : Nat) : Int) : Int) ≠ 46) (Br ((((UInt8.toNat Ll : Nat) : Int) : Int) ≠ 45) (R (.returned (.bool false)) σ) (AN (x3 + 1) ∧ Am R s0 (x3 + 1) σ)) (AN (x3 + 1) ∧ Am R s0 (x3 + 1) σ)) (AN (x3 + 1) ∧ Am R s0 (x3 + 1) σ)) (AN (x3 + 1) ∧ Am R s0 (x3 + 1) σ))) (Br ((122 : Int) < ((UInt8.toNat Ll : Nat) : Int)) (Br ((((UInt8.toNat Ll : Nat) : Int) : Int) < 48) (Br ((((UInt8.toNat Ll : Nat) : Int) : Int) ≠ 47) (Br ((((UInt8.toNat Ll : Nat) : Int) : Int) ≠ 46) (Br ((((UInt8.toNat Ll : Nat) : Int) : Int) ≠ 45) (R (.returned (.bool false)) σ) (AN (x3 + 1) ∧ Am R s0 (x3 + 1) σ)) (AN (x3 + 1) ∧ Am R s0 (x3 + 1) σ)) (AN (x3 + 1) ∧ Am R s0 (x3 + 1) σ)) (Br ((57 : Int) < ((UInt8.toNat Ll : Nat) : Int)) (Br ((((UInt8.toNat Ll : Nat) : Int) : Int) ≠ 47) (Br ((((UInt8.toNat Ll : Nat) : Int) : Int) ≠ 46) (Br ((((UInt8.toNat Ll : Nat) : Int) : Int) ≠ 45) (R (.returned (.bool false)) σ) (AN (x3 + 1) ∧ Am R s0 (x3 + 1) σ)) (AN (x3 + 1) ∧ Am R s0 (x3 + 1) σ)) (AN (x3 + 1) ∧ Am R s0 (x3 + 1) σ)) (AN (x3 + 1) ∧ Am R s0 (x3 + 1) σ))) (AN (x3 + 1) ∧ Am R s0 (x3 + 1) σ))) (R (.returned (.bool true)) σ)) : Am R s0 x3 σ := M.of h ok rfl
end FR
namespace An
variable {q0 p1 Ou kI : Option Addr} {n1 c1 n10 Hj n39 Rs : Nat} {Eb DU PN LK : Int} {s5 : ByteArray}
def M : Fw := ⟨prog, 173, f173, [132, 138, 229, 257], [], false, [(5, 11, false)], [], [(40, [(0, wQ), (1, wL), (10, wL), (11, wI), (12, wI)]), (56, [(0, wQ), (39, wL), (40, wI), (41, wI)]), (231, [(0, wQ), (39, wL), (40, wI), (41, wI)]), (1331, [(0, wQ), (1, wL), (5, wT), (10, wL), (11, wI), (12, wI)])]⟩
theorem ok : M.Ok := ⟨.cons call132 (.cons call138 (.cons call229 (.cons call257 (AK.nil)))), mixed, func173, by kernel_rfl⟩
def ZW := M.pt 0
def Ru := M.pt 1
def G0 := M.pt 2
def WW := M.pt 3
theorem start (h : ZW R q0 p1 n1 c1 p1 n1 c1 (n1 : Int) 0 σ) : Spec prog 173 #[.pointer q0, .slice p1 n1 c1] σ R := M.start h ok
theorem Ln (h : Br (DU < Eb) (Pq Ou fun Hk J6 => In DU (n10 : Int) ∧ LT σ Hk (J6 + Int.toNat DU * 1) fun nc => Spec prog 229 #[.pointer q0] σ (AB R (CT fun s18 y => Bo (ByteArray.toList nc == ByteArray.toList s18) (Pq q0 fun nT o0 => LQ y nT o0 fun q23 => Spec prog 138 #[.pointer q23, .string nc] y (AB R (CI .i64 fun M4 AI => Spec prog 132 #[.int .i64 M4] AI (AB R (fun z AZ => z = (.tuple #[]) ∧ WW R (aD nT o0) p1 n1 c1 nc (aD Hk J6) n10 Hj Eb DU AZ))))) (WW R q0 p1 n1 c1 nc (aD Hk J6) n10 Hj Eb DU y)))) (Ru R q0 p1 n1 c1 (n1 : Int) 0 σ)) : ZW R q0 p1 n1 c1 Ou n10 Hj Eb DU σ := M.of h ok rfl
theorem MX (h : Br (LK < PN) (Pq kI fun F9 PO => In LK (n39 : Int) ∧ LT σ F9 (PO + Int.toNat LK * 1) fun eh => Spec prog 257 #[.pointer q0, (.string (ByteArray.mk #[99])), .string eh] σ (AB R (CI .i64 fun Rq y => Spec prog 257 #[.pointer q0, (.string (ByteArray.mk #[115])), .string eh] y (AB R (CI .i64 fun Rb AI => Br (0 < Rq) (Pq q0 fun VO VP => LI .i64 AI VO (VP + 2) fun wv => Br (Rq < wv) (LQ AI VO VP fun tT => Spec prog 138 #[.pointer tT, .string eh] AI (AB R (CI .i64 fun tU AZ => Spec prog 132 #[.int .i64 tU] AZ (AB R (fun z Av => z = (.tuple #[]) ∧ G0 R (aD VO VP) (aD F9 PO) n39 Rs PN LK Av))))) (Br (0 < Rb) (LI .i64 AI VO (VP + 2) fun wx => Br (Rb ≤ wx) (LQ AI VO VP fun tT => Spec prog 138 #[.pointer tT, .string eh] AI (AB R (CI .i64 fun tU AZ => Spec prog 132 #[.int .i64 tU] AZ (AB R (fun z Av => z = (.tuple #[]) ∧ G0 R (aD VO VP) (aD F9 PO) n39 Rs PN LK Av))))) (Br (0 < Rb) (LS AI VO (VP + 3) fun iS ng iT => Al AI fun YZ => AJ prog (Builtin.append_ #[26, 26] 26 #[.slice iS ng iT, (.slice (aD YZ 0) 1 1)]) (Hp.set AI YZ (.cells #[.int .i64 Rb] 3 (0, 0))) (CS fun nh ni c91 AZ => AJ prog (Instr.storeAt 26 (.pointer (aD VO (VP + 3))) (.slice nh ni c91)) AZ (fun _ Av => G0 R (aD VO VP) (aD F9 PO) n39 Rs PN LK Av))) (G0 R (aD VO VP) (aD F9 PO) n39 Rs PN LK AI))) (Br (0 < Rb) (LS AI VO (VP + 3) fun iS ng iT => Al AI fun YZ => AJ prog (Builtin.append_ #[26, 26] 26 #[.slice iS ng iT, (.slice (aD YZ 0) 1 1)]) (Hp.set AI YZ (.cells #[.int .i64 Rb] 3 (0, 0))) (CS fun nh ni c91 AZ => AJ prog (Instr.storeAt 26 (.pointer (aD VO (VP + 3))) (.slice nh ni c91)) AZ (fun _ Av => G0 R (aD VO VP) (aD F9 PO) n39 Rs PN LK Av))) (G0 R (aD VO VP) (aD F9 PO) n39 Rs PN LK AI)))) (Br (0 < Rb) (Pq q0 fun iR xY => LI .i64 AI iR (xY + 2) fun wx => Br (Rb ≤ wx) (LQ AI iR xY fun tT => Spec prog 138 #[.pointer tT, .string eh] AI (AB R (CI .i64 fun tU AZ => Spec prog 132 #[.int .i64 tU] AZ (AB R (fun z Av => z = (.tuple #[]) ∧ G0 R (aD iR xY) (aD F9 PO) n39 Rs PN LK Av))))) (Br (0 < Rb) (LS AI iR (xY + 3) fun iS ng iT => Al AI fun YZ => AJ prog (Builtin.append_ #[26, 26] 26 #[.slice iS ng iT, (.slice (aD YZ 0) 1 1)]) (Hp.set AI YZ (.cells #[.int .i64 Rb] 3 (0, 0))) (CS fun nh ni c91 AZ => AJ prog (Instr.storeAt 26 (.pointer (aD iR (xY + 3))) (.slice nh ni c91)) AZ (fun _ Av => G0 R (aD iR xY) (aD F9 PO) n39 Rs PN LK Av))) (G0 R (aD iR xY) (aD F9 PO) n39 Rs PN LK AI))) (Br (0 < Rb) (Pq q0 fun b86 o86 => LS AI b86 (o86 + 3) fun iS ng iT => Al AI fun YZ => AJ prog (Builtin.append_ #[26, 26] 26 #[.slice iS ng iT, (.slice (aD YZ 0) 1 1)]) (Hp.set AI YZ (.cells #[.int .i64 Rb] 3 (0, 0))) (CS fun nh ni c91 AZ => AJ prog (Instr.storeAt 26 (.pointer (aD b86 (o86 + 3))) (.slice nh ni c91)) AZ (fun _ Av => G0 R (aD b86 o86) (aD F9 PO) n39 Rs PN LK Av))) (G0 R q0 (aD F9 PO) n39 Rs PN LK AI)))))))) (R (.returned (.tuple #[])) σ)) : Ru R q0 kI n39 Rs PN LK σ := M.of h ok rfl
theorem PT (h : AN (LK + 1) ∧ Ru R q0 kI n39 Rs PN (LK + 1) σ) : G0 R q0 kI n39 Rs PN LK σ := M.of h ok rfl
theorem Uc (h : Pq q0 fun JN S4 => LI .i64 σ JN (S4 + 2) fun Fp => Spec prog 257 #[(.pointer (aD JN S4)), (.string (ByteArray.mk #[99])), .string s5] σ (AB R (CI .i64 fun ea y => Kp [JN] σ y ∧ AJ prog (Instr.storeAt 3 (.pointer (aD JN (S4 + 2))) (.int .i64 (if Fp < ea then ea else Fp))) y (fun _ AI => AN (DU + 1) ∧ ZW R (aD JN S4) p1 n1 c1 Ou n10 Hj Eb (DU + 1) AI)))) : WW R q0 p1 n1 c1 s5 Ou n10 Hj Eb DU σ := M.of h ok rfl
end An
namespace QM
variable {v0 : Value}
def M : Fw := ⟨prog, 197, f197, [], [], false, [], [], []⟩
theorem ok : M.Ok := ⟨AK.nil, mixed, func197, by kernel_rfl⟩
theorem start (h : ∃ t5, YF prog ((do eqGuard .neq 272 (.tmp 3) (.tmp 4) v0 v0; binOp .neq 272 v0 v0)) σ (.bool t5) ∧ R (.returned (.bool t5)) σ) : Spec prog 197 #[v0] σ R := M.Lk h ok [(0, .o (.V v0))] rfl rfl (by kernel_rfl)
end QM
namespace DP
variable {x0 x2 : Int}
def M : Fw := ⟨prog, 211, f211, [], [], false, [], [], [(28, [(0, wU), (2, wI)]), (60, [(0, wU), (2, wI)]), (62, [(0, wU), (2, wI)])]⟩
theorem ok : M.Ok := ⟨AK.nil, mixed, func211, by kernel_rfl⟩
def Gp := M.pt 0
def NV := M.pt 1
def xZ := M.pt 2
theorem start (h : Br (4294967296 ≤ x0) (((0 : Int) ≤ 32 ∧ 32 ≤ ((IntKind.bits .u64 : Nat) : Int)) ∧ Df (x0 / 2 ^ Int.toNat 32) fun x6 => Gp R x6 32 σ) (Gp R x0 0 σ)) : Spec prog 211 #[.int .u64 x0] σ R := M.start h ok
theorem Fb (h : Br (65536 ≤ x0) (((0 : Int) ≤ 16 ∧ 16 ≤ ((IntKind.bits .u64 : Nat) : Int)) ∧ Df (x0 / 2 ^ Int.toNat 16) fun Db => AN (x2 + 16) ∧ NV R Db (x2 + 16) σ) (NV R x0 x2 σ)) : Gp R x0 x2 σ := M.of h ok rfl
theorem I5 (h : Br (256 ≤ x0) (((0 : Int) ≤ 8 ∧ 8 ≤ ((IntKind.bits .u64 : Nat) : Int)) ∧ Df (x0 / 2 ^ Int.toNat 8) fun Hi => AN (x2 + 8) ∧ xZ R Hi (x2 + 8) σ) (xZ R x0 x2 σ)) : NV R x0 x2 σ := M.of h ok rfl
theorem qD (h : Df (IntKind.u8.wrap x0) fun IE => ∃ u22 : UInt8, 0 ≤ IE ∧ (ByteArray.data (ByteArray.mk #[0, 1, 2, 2, 3, 3, 3, 3, 4, 4, 4, 4, 4, 4, 4, 4, 5, 5, 5, 5, 5, 5, 5, 5, 5, 5, 5, 5, 5, 5, 5, 5, 6, 6, 6, 6, 6, 6, 6, 6, 6, 6, 6, 6, 6, 6, 6, 6, 6, 6, 6, 6, 6, 6, 6, 6, 6, 6, 6, 6, 6, 6, 6, 6, 7, 7, 7, 7, 7, 7, 7, 7, 7, 7, 7, 7, 7, 7, 7, 7, 7, 7, 7, 7, 7, 7, 7, 7, 7, 7, 7, 7, 7, 7, 7, 7, 7, 7, 7, 7, 7, 7, 7, 7, 7, 7, 7, 7, 7, 7, 7, 7, 7, 7, 7, 7, 7, 7, 7, 7, 7, 7, 7, 7, 7, 7, 7, 7, 8, 8, 8, 8, 8, 8, 8, 8, 8, 8, 8, 8, 8, 8, 8, 8, 8, 8, 8, 8, 8, 8, 8, 8, 8, 8, 8, 8, 8, 8, 8, 8, 8, 8, 8, 8, 8, 8, 8, 8, 8, 8, 8, 8, 8, 8, 8, 8, 8, 8, 8, 8, 8, 8, 8, 8, 8, 8, 8, 8, 8, 8, 8, 8, 8, 8, 8, 8, 8, 8, 8, 8, 8, 8, 8, 8, 8, 8, 8, 8, 8, 8, 8, 8, 8, 8, 8, 8, 8, 8, 8, 8, 8, 8, 8, 8, 8, 8, 8, 8, 8, 8, 8, 8, 8, 8, 8, 8, 8, 8, 8, 8, 8, 8, 8, 8, 8, 8, 8, 8, 8, 8, 8, 8, 8, 8, 8, 8]))[Int.toNat IE]? = some u22 ∧ Df (IntKind.i64.wrap ((UInt8.toNat u22 : Nat) : Int)) fun Sp => AN (x2 + Sp) ∧ R (.returned (.int .i64 (x2 + Sp))) σ) : xZ R x0 x2 σ := M.of h ok rfl
end DP
namespace Cw
variable {q0 : Option Addr} {s1 s2 s7 : ByteArray} {x9 : Int}
def M : Fw := ⟨prog, 257, f257, [300, 301], [], false, [], [], [(976, [(7, wT), (9, wI)])]⟩
theorem ok : M.Ok := ⟨.cons call300 (.cons call301 (AK.nil)), mixed, func257, by kernel_rfl⟩
def Ko := M.pt 0
theorem start (h : Pq q0 fun bu nX => LT σ bu (nX + 1) fun s17 => (ByteArray.size s17 + ByteArray.size (ByteArray.mk #[47]) ≤ 9223372036854775807) ∧ (ByteArray.size (s17 ++ (ByteArray.mk #[47])) + ByteArray.size s1 ≤ 9223372036854775807) ∧ Spec prog 300 #[.string s2, (.string ((s17 ++ (ByteArray.mk #[47])) ++ s1))] σ (AB R (fun z y => ∃ xa WS, z = (.tuple #[.string xa, .bool WS]) ∧ Bn WS (R (.returned (.int .i64 0)) y) (Br ((((ByteArray.size xa : Nat) : Int) : Int) ≠ 8) (R (.returned (.int .i64 0)) y) (Ko R xa 0 y))))) : Spec prog 257 #[.pointer q0, .string s1, .string s2] σ R := M.start h ok
theorem PR (h : Br (x9 < 8) (∃ u37 : UInt8, 0 ≤ x9 ∧ (ByteArray.data s7)[Int.toNat x9]? = some u37 ∧ Br ((((UInt8.toNat u37 : Nat) : Int) : Int) < 48) (R (.returned (.int .i64 0)) σ) (∃ u42 : UInt8, 0 ≤ x9 ∧ (ByteArray.data s7)[Int.toNat x9]? = some u42 ∧ Br ((57 : Int) < ((UInt8.toNat u42 : Nat) : Int)) (R (.returned (.int .i64 0)) σ) (AN (x9 + 1) ∧ Ko R s7 (x9 + 1) σ))) (Spec prog 301 #[.string s7] σ (AB R (fun z y => ∃ ADF AJX, z = (.tuple #[.int .i64 ADF, AJX]) ∧ R (.returned (.int .i64 ADF)) y)))) : Ko R s7 x9 σ := M.of h ok rfl
end Cw
namespace JU
variable {s0a s0b : ByteArray} {b1 : Nat}
def M : Fw := ⟨prog, 270, f270, [271], [2], false, [], [], []⟩
theorem ok : M.Ok := ⟨.cons call271 (AK.nil), mixed, func270, by kernel_rfl⟩
theorem start (h : ∀ b2 : Nat, LS σ b1 0 fun p4 n4 c4 => Spec prog 271 #[.slice p4 n4 c4, .string s0a] σ (AB R (CB fun t7 y => R (.returned (.bool (!t7))) y))) : Spec prog 270 #[.agg #[.string s0a, .string s0b], (.pointer (aD b1 0))] σ R := M.start h ok
end JU
namespace Bp
variable {En I6 Hl j9 kA kB kC kD kE kF tV tW tX tY tZ ta x5 x2 x3 x4 : Int} {b1 : Nat}
def M : Fw := ⟨prog, 289, f289, [], [0], false, [], [], [(232, [(0, .X 338 [.I .u32, .I .u32, .I .u32, .I .u32, .I .u32, .I .u32, .I .u32, .I .u32, .I .u32, .I .u32, .I .u32, .I .u32, .I .u32, .I .u32, .I .u32, .I .u32]), (1, wA), (5, wI)]), (478416, [(0, .X 338 [.I .u32, .I .u32, .I .u32, .I .u32, .I .u32, .I .u32, .I .u32, .I .u32, .I .u32, .I .u32, .I .u32, .I .u32, .I .u32, .I .u32, .I .u32, .I .u32]), (1, wA), (2, wI), (3, bp), (4, wI), (5, wI)]), (478419, [(0, .X 338 [.I .u32, .I .u32, .I .u32, .I .u32, .I .u32, .I .u32, .I .u32, .I .u32, .I .u32, .I .u32, .I .u32, .I .u32, .I .u32, .I .u32, .I .u32, .I .u32]), (1, wA), (2, wI), (3, bp), (4, wI), (5, wI)])]⟩
theorem ok : M.Ok := ⟨AK.nil, mixed, func289, by kernel_rfl⟩
def A4 := M.pt 0
def Ru := M.pt 1
def Nc := M.pt 2
theorem start (h : ∀ b0 : Nat, Al σ fun b1 => A4 R 0 0 0 0 0 0 0 0 0 0 0 0 0 0 0 0 b1 0 (Hp.set σ b1 (.cells #[.int .u32 0, .int .u32 0, .int .u32 0, .int .u32 0, .int .u32 0, .int .u32 0, .int .u32 0, .int .u32 0, .int .u32 0, .int .u32 0, .int .u32 0, .int .u32 0, .int .u32 0, .int .u32 0, .int .u32 0, .int .u32 0] 338 (0, 0)))) : Spec prog 289 #[] σ R := M.start h ok
theorem AW (h : Br (x5 < 16) (Df (IntKind.u32.wrap x5) fun x9 => Ru R En I6 Hl j9 kA kB kC kD kE kF tV tW tX tY tZ ta b1 x5 x9 0 x5 σ) (∃ ADG ADH ADI ADJ ADK ADL ADM ADN ADO ADP ADQ ADR ADS ADT ADU ADV, Dn σ b1 0 [.int .u32 ADG, .int .u32 ADH, .int .u32 ADI, .int .u32 ADJ, .int .u32 ADK, .int .u32 ADL, .int .u32 ADM, .int .u32 ADN, .int .u32 ADO, .int .u32 ADP, .int .u32 ADQ, .int .u32 ADR, .int .u32 ADS, .int .u32 ADT, .int .u32 ADU, .int .u32 ADV] ∧ R (.returned (.agg #[.int .u32 ADG, .int .u32 ADH, .int .u32 ADI, .int .u32 ADJ, .int .u32 ADK, .int .u32 ADL, .int .u32 ADM, .int .u32 ADN, .int .u32 ADO, .int .u32 ADP, .int .u32 ADQ, .int .u32 ADR, .int .u32 ADS, .int .u32 ADT, .int .u32 ADU, .int .u32 ADV])) σ)) : A4 R En I6 Hl j9 kA kB kC kD kE kF tV tW tX tY tZ ta b1 x5 σ := M.bm h ok rfl fun _ => by kernel_rfl
theorem MX (h : Br (x4 < 4) (Df (Go.bits .and .u32 x3 1) fun Hh => Br (Hh = 0) (((0 : Int) ≤ 1 ∧ 1 ≤ ((IntKind.bits .u32 : Nat) : Int)) ∧ Df (x3 / 2 ^ Int.toNat 1) fun Fc => Nc R En I6 Hl j9 kA kB kC kD kE kF tV tW tX tY tZ ta b1 x2 Fc x4 x5 σ) (((0 : Int) ≤ 1 ∧ 1 ≤ ((IntKind.bits .u32 : Nat) : Int)) ∧ Df (x3 / 2 ^ Int.toNat 1) fun Jr => Df (Go.bits .xor .u32 Jr 3988292384) fun IE => Nc R En I6 Hl j9 kA kB kC kD kE kF tV tW tX tY tZ ta b1 x2 IE x4 x5 σ)) (In x2 16 ∧ AJ prog (Instr.storeAt 70 (.pointer (aD b1 (0 + Int.toNat x2 * 1))) (.int .u32 x3)) σ (fun _ y => AN (x5 + 1) ∧ A4 R En I6 Hl j9 kA kB kC kD kE kF tV tW tX tY tZ ta b1 (x5 + 1) y))) : Ru R En I6 Hl j9 kA kB kC kD kE kF tV tW tX tY tZ ta b1 x2 x3 x4 x5 σ := M.bm h ok rfl fun _ => by kernel_rfl
theorem JB (h : AN (x4 + 1) ∧ Ru R En I6 Hl j9 kA kB kC kD kE kF tV tW tX tY tZ ta b1 x2 x3 (x4 + 1) x5 σ) : Nc R En I6 Hl j9 kA kB kC kD kE kF tV tW tX tY tZ ta b1 x2 x3 x4 x5 σ := M.bm h ok rfl fun _ => by kernel_rfl
end Bp
namespace QN
variable {v0 v1 : Value}
def M : Fw := ⟨prog, 342, f342, [], [], false, [], [], []⟩
theorem ok : M.Ok := ⟨AK.nil, mixed, func342, by kernel_rfl⟩
theorem start (h : ∃ (f10 : Nat) (tc te : Array Value), v0 = .func (.func f10) tc te ∧ Enters prog f10 ∧ Spec prog f10 (tc ++ #[] ++ te) σ (AB R (fun z y => ∃ ADW Zl, z = (.tuple #[.int .i64 ADW, .int .i64 Zl]) ∧ Br (Zl ≠ 0) (R (.returned (.tuple #[.slice none 0 0, .int .i64 Zl])) y) (∃ (f18 : Nat) (tf tg : Array Value), v1 = .func (.func f18) tf tg ∧ Enters prog f18 ∧ Spec prog f18 (tf ++ #[.int .i64 ADW] ++ tg) y (AB R (fun z AI => ∃ ADX ADY ADZ Zh, z = (.tuple #[.slice ADX ADY ADZ, .int .i64 Zh]) ∧ R (.returned (.tuple #[.slice ADX ADY ADZ, .int .i64 Zh])) AI)))))) : Spec prog 342 #[v0, v1] σ R := M.Lk h ok [(0, .o (.V v0)), (1, .o (.V v1))] rfl rfl (by kernel_rfl)
end QN
namespace GM
variable {q0 : Option Addr}
def M : Fw := ⟨prog, 343, f343, [177], [], false, [], [], []⟩
theorem ok : M.Ok := ⟨.cons call177 (AK.nil), mixed, func343, by kernel_rfl⟩
theorem start (h : Pq q0 fun b9 o9 => LS σ b9 o9 fun WE n11 ZU => LI .i64 σ b9 (o9 + 1) fun Hh => Spec prog 177 #[.slice WE n11 ZU, .int .i64 Hh] σ (AB R (fun z y => ∃ fG qE xb, z = (.tuple #[.int .u64 fG, .int .i64 qE, .int .i64 xb]) ∧ AJ prog (Instr.storeAt 3 (.pointer (aD b9 (o9 + 1))) (.int .i64 qE)) y (fun _ AI => Br (xb ≠ 0) (R (.returned (.tuple #[.int .i64 0, .int .i64 xb])) AI) (Br (65536 < fG) (R (.returned (.tuple #[.int .i64 0, .int .i64 23])) AI) (Df (IntKind.i64.wrap fG) fun sk => R (.returned (.tuple #[.int .i64 sk, .int .i64 0])) AI)))))) : Spec prog 343 #[.pointer q0] σ R := M.start h ok
end GM
end TwW
end
end
section
set_option maxRecDepth 100000
noncomputable section
namespace TwW
open Go Tw Go.Proofs.Tryz
variable [Iq] {R : Rr} {σ : Hp}

namespace MY
variable {q0 : Option Addr} {s1 : ByteArray}
def M : Fw := ⟨prog, 39, f39, [91, 94], [7], false, [], [], []⟩
theorem ok : M.Ok := ⟨.cons call91 (.cons call94 (AK.nil)), mixed, func39, by kernel_rfl⟩
theorem start (h : Spec prog 94 #[.string s1] σ (AB R (CB fun t10 y => Bn t10 (R (.returned (.tuple #[.slice none 0 0, .int .u64 0, .int .i64 120])) y) (Pq q0 fun Hk J6 => LQ y Hk (J6 + 1) fun wk => Spec prog 91 #[.pointer wk] y (AB R (CB fun t17 AI => Bn t17 (R (.returned (.tuple #[.slice none 0 0, .int .u64 0, .int .i64 60])) AI) (LM AI Hk (J6 + 2) fun m22 => AJ prog (Instr.lookup 159 (.map m22) (.string s1) false) AI (fun z AZ => ∃ ADa ADb ADc Ls, z = (.agg #[.slice ADa ADb ADc, .int .u64 Ls]) ∧ ∀ b7 : Nat, Al AZ fun pd => AJ prog (Builtin.append_ #[84, 84] 84 #[(.slice (aD pd 0) 0 0), .slice ADa ADb ADc]) (Hp.set AZ pd (.cells #[] 5 (0, 0))) (CS fun xD n28 c28 Av => R (.returned (.tuple #[.slice xD n28 c28, .int .u64 Ls, .int .i64 0])) Av))))))))) : Spec prog 39 #[.pointer q0, .string s1] σ R := M.start h ok
end MY
namespace IQ
variable {x0 : Int}
def M : Fw := ⟨prog, 51, f51, [], [], false, [], [], []⟩
theorem ok : M.Ok := ⟨AK.nil, mixed, func51, by kernel_rfl⟩
theorem start (h : Br (x0 = 1) (R (.returned (.bool true)) σ) (R (.returned (.bool (decide (x0 = 2)))) σ)) : Spec prog 51 #[.int .i64 x0] σ R := M.start h ok
end IQ
namespace BG
variable {En x1 E7 FD JL N4 Jr IE : Int} {HF Jq pW Zb : Option Addr} {GL HG b5 n12 c12 D8 nb pX n19 YX : Nat}
def M : Fw := ⟨prog, 55, f55, [120], [2, 7], false, [], [], [(232, [(1, bp), (5, wA), (12, wL), (13, wI), (14, wI)]), (2016, [(1, bp), (5, wA), (10, wA)]), (59800, [(1, bp), (5, wA), (7, .X 196 [.I .i64, .I .i64, .L]), (12, wL), (13, wI), (14, wI), (19, wL), (20, wI), (21, wI)]), (239207, [(1, bp), (5, wA), (7, .X 196 [.I .i64, .I .i64, .L]), (12, wL), (13, wI), (14, wI), (19, wL), (20, wI), (21, wI)])]⟩
theorem ok : M.Ok := ⟨.cons call120 (AK.nil), mixed, func55, by kernel_rfl⟩
def A4 := M.pt 0
def G0 := M.pt 1
def GV := M.pt 2
def Zg := M.pt 3
theorem start (h : ∀ b2 : Nat, Al σ fun b5 => A4 R x1 b5 HF GL HG (GL : Int) 0 (Hp.set σ b5 (.cells #[.slice none 0 0] 213 (0, 0)))) : Spec prog 55 #[.agg #[.int .u64 En, .slice HF GL HG], .int .u32 x1] σ R := M.start h ok
theorem AW (h : Br (FD < E7) (Pq Jq fun KY UQ => In FD (n12 : Int) ∧ ∃ ADd J7 xc qF xd, Dn σ KY (UQ + Int.toNat FD * 3) [.int .i64 ADd, .int .i64 J7, .slice xc qF xd] ∧ ∀ b7 : Nat, GV R x1 b5 ADd J7 xc qF xd (aD KY UQ) n12 c12 E7 FD xc qF xd (qF : Int) 0 σ) (LS σ b5 0 fun Ra n37 c37 => Spec prog 120 #[.slice Ra n37 c37, (.func (.func 121) #[] #[])] σ (AB R (fun z y => z = (.tuple #[]) ∧ Al y fun D8 => AJ prog (Instr.storeAt 3 (.pointer (aD D8 0)) (.int .i64 0)) (Hp.set y D8 (.cells #[.int .i64 0] 3 (0, 0))) (fun _ AI => G0 R x1 b5 D8 AI))))) : A4 R x1 b5 Jq n12 c12 E7 FD σ := M.of h ok rfl
theorem PT (h : LI .i64 σ D8 0 fun ej => LS σ b5 0 fun N6 n40 c40 => Br (ej < (n40 : Int)) (LS σ b5 0 fun VU n44 Wg => LI .i64 σ D8 0 fun Zf => Pq VU fun Iv o46 => In Zf (n44 : Int) ∧ LI .u32 σ Iv (o46 + Int.toNat Zf * 2) fun JO => Br (JO < x1) (LI .i64 σ D8 0 fun S7 => AN (S7 + 1) ∧ AJ prog (Instr.storeAt 3 (.pointer (aD D8 0)) (.int .i64 (S7 + 1))) σ (fun _ y => G0 R x1 b5 D8 y)) (R (.returned (.func (.func 125) #[] #[(.pointer (aD b5 0)), (.pointer (aD D8 0))])) σ)) (R (.returned (.func (.func 125) #[] #[(.pointer (aD b5 0)), (.pointer (aD D8 0))])) σ)) : G0 R x1 b5 D8 σ := M.of h ok rfl
theorem Fe (h : Br (IE < Jr) (Pq Zb fun VK iH => In IE (n19 : Int) ∧ LI .u32 σ VK (iH + Int.toNat IE * 1) fun Kk => Br (N4 = 2) (LS σ b5 0 fun xD n28 c28 => Al σ fun YU => AJ prog (Builtin.append_ #[213, 213] 213 #[.slice xD n28 c28, (.slice (aD YU 0) 1 1)]) (Hp.set σ YU (.cells #[.int .u32 Kk, .int .i64 JL] 215 (0, 0))) (CS fun p34 n34 c34 y => AJ prog (Instr.storeAt 213 (.pointer (aD b5 0)) (.slice p34 n34 c34)) y (fun _ AI => Zg R x1 b5 JL N4 pW nb pX Jq n12 c12 E7 FD (aD VK iH) n19 YX Jr IE AI))) (Zg R x1 b5 JL N4 pW nb pX Jq n12 c12 E7 FD (aD VK iH) n19 YX Jr IE σ)) (AN (FD + 1) ∧ A4 R x1 b5 Jq n12 c12 E7 (FD + 1) σ)) : GV R x1 b5 JL N4 pW nb pX Jq n12 c12 E7 FD Zb n19 YX Jr IE σ := M.bm h ok rfl fun _ => by kernel_rfl
theorem MT (h : AN (IE + 1) ∧ GV R x1 b5 JL N4 pW nb pX Jq n12 c12 E7 FD Zb n19 YX Jr (IE + 1) σ) : Zg R x1 b5 JL N4 pW nb pX Jq n12 c12 E7 FD Zb n19 YX Jr IE σ := M.bm h ok rfl fun _ => by kernel_rfl
end BG
namespace G1
variable {x0 x1 : Int}
def M : Fw := ⟨prog, 58, f58, [126], [], false, [], [], []⟩
theorem ok : M.Ok := ⟨.cons call126 (AK.nil), mixed, func58, by kernel_rfl⟩
theorem start (h : Spec prog 126 #[.int .u64 x0, .int .i64 x1] σ (AB R (CT fun s7 y => R (.returned (.string s7)) y))) : Spec prog 58 #[.int .u64 x0, .int .i64 x1] σ R := M.start h ok
end G1
namespace Fy
variable {q0 p1 p7 : Option Addr} {n1 c1 b2 b3 n7 c7 : Nat} {x8 x9 : Int}
def M : Fw := ⟨prog, 67, f67, [129], [], false, [], [], [(104, [(2, wA), (3, wA), (7, wL), (8, wI), (9, wI)])]⟩
theorem ok : M.Ok := ⟨.cons call129 (AK.nil), mixed, func67, by kernel_rfl⟩
def NY := M.pt 0
theorem start (h : Al σ fun b2 => Al (Hp.set σ b2 (.cells #[.pointer q0] 158 (0, 0))) fun b3 => LS (Hp.set (Hp.set σ b2 (.cells #[.pointer q0] 158 (0, 0))) b3 (.cells #[.slice p1 n1 c1] 165 (0, 0))) b3 0 fun p7 n7 c7 => NY R b2 b3 p7 n7 c7 (n7 : Int) 0 (Hp.set (Hp.set σ b2 (.cells #[.pointer q0] 158 (0, 0))) b3 (.cells #[.slice p1 n1 c1] 165 (0, 0)))) : Spec prog 67 #[.pointer q0, .slice p1 n1 c1] σ R := M.start h ok
theorem D7 (h : Br (x9 < x8) (Pq p7 fun EB GU => In x9 (n7 : Int) ∧ LS σ EB (GU + Int.toNat x9 * 1) fun Jq n12 c12 => Br (65536 < (n12 : Int)) (R (.returned (.int .i64 70)) σ) (AN (x9 + 1) ∧ NY R b2 b3 (aD EB GU) n7 c7 x8 (x9 + 1) σ)) (Spec prog 129 #[(.func (.func 136) #[] #[(.pointer (aD b2 0)), (.pointer (aD b3 0))])] σ (AB R (CI .i64 fun Fc y => R (.returned (.int .i64 Fc)) y)))) : NY R b2 b3 p7 n7 c7 x8 x9 σ := M.of h ok rfl
end Fy
namespace LP
variable {q0 : Option Addr}
def M : Fw := ⟨prog, 71, f71, [141, 144], [], false, [], [], []⟩
theorem ok : M.Ok := ⟨.cons call141 (.cons call144 (AK.nil)), mixed, func71, by kernel_rfl⟩
theorem start (h : Pq q0 fun b4 o4 => LI .i64 σ b4 (o4 + 3) fun x6 => Br (x6 < 0) (R (.returned (.int .i64 0)) σ) (LQ σ b4 o4 fun pE => LI .i64 σ b4 (o4 + 2) fun Hi => Spec prog 141 #[(.pointer (aD b4 o4)), .int .i64 Hi] σ (AB R (CT fun s17 y => Kp [b4] σ y ∧ Spec prog 144 #[.pointer pE, .string s17] y (AB R (CI .i64 fun Fc AI => R (.returned (.int .i64 Fc)) AI)))))) : Spec prog 71 #[.pointer q0] σ R := M.start h ok
end LP
namespace HU
variable {q0 : Option Addr}
def M : Fw := ⟨prog, 73, f73, [], [], false, [], [], []⟩
theorem ok : M.Ok := ⟨AK.nil, mixed, func73, by kernel_rfl⟩
theorem start (h : Pq q0 fun b4 o4 => LI .i64 σ b4 (o4 + 3) fun x6 => Br (0 ≤ x6) (LI .i64 σ b4 (o4 + 5) fun Eb => AN (Eb + 1) ∧ R (.returned (.int .i64 (Eb + 1))) σ) (LI .i64 σ b4 (o4 + 5) fun Hi => R (.returned (.int .i64 Hi)) σ)) : Spec prog 73 #[.pointer q0] σ R := M.start h ok
end HU
namespace Cy
variable {p0 VL N9 VS ADe : Option Addr} {n0 c0 b6 b7 b8 b9 n17 VM n13 Ox n27 Rt ADf ADg : Nat} {v10 : Value} {Fc Iu Gq UP Wa ADh : Int}
def M : Fw := ⟨prog, 106, f106, [21, 194], [12, 15], false, [(19, 7, true)], [], [(488, [(0, wL), (6, wA), (7, wA), (8, wA), (9, wA), (10, wV), (17, wL), (18, wI), (19, wI)]), (2024, [(6, wA), (7, wA), (8, wA), (9, wA), (13, wL), (27, wL), (28, wI), (29, wI)]), (259279, [(6, wA), (7, wA), (8, wA), (9, wA), (13, wL), (15, .X 25 [.L, .I .i64, .I .u64]), (27, wL), (28, wI), (29, wI)])]⟩
theorem ok : M.Ok := ⟨.cons call21 (.cons call194 (AK.nil)), mixed, func106, by kernel_rfl⟩
def Gp := M.pt 0
def qG := M.pt 1
def QG := M.pt 2
theorem start (h : Al σ fun b6 => Al (Hp.set σ b6 (.cells #[(.string (ByteArray.mk #[]))] 9 (0, 0))) fun b7 => Al (Hp.set (Hp.set σ b6 (.cells #[(.string (ByteArray.mk #[]))] 9 (0, 0))) b7 (.cells #[(.string (ByteArray.mk #[]))] 9 (0, 0))) fun b8 => Al (Hp.set (Hp.set (Hp.set σ b6 (.cells #[(.string (ByteArray.mk #[]))] 9 (0, 0))) b7 (.cells #[(.string (ByteArray.mk #[]))] 9 (0, 0))) b8 (.cells #[.bool false] 4 (0, 0))) fun b9 => AJ prog (Instr.storeAt 9 (.pointer (aD b6 0)) (.string (ByteArray.mk #[]))) (Hp.set (Hp.set (Hp.set (Hp.set σ b6 (.cells #[(.string (ByteArray.mk #[]))] 9 (0, 0))) b7 (.cells #[(.string (ByteArray.mk #[]))] 9 (0, 0))) b8 (.cells #[.bool false] 4 (0, 0))) b9 (.cells #[.bool false] 4 (0, 0))) (fun _ y => AJ prog (Instr.storeAt 9 (.pointer (aD b7 0)) (.string (ByteArray.mk #[]))) y (fun _ AI => AJ prog (Instr.storeAt 4 (.pointer (aD b8 0)) (.bool false)) AI (fun _ AZ => AJ prog (Instr.storeAt 4 (.pointer (aD b9 0)) (.bool true)) AZ (fun _ Av => Gp R p0 n0 c0 b6 b7 b8 b9 ((.func (.func 193) #[] #[(.pointer (aD b8 0)), (.pointer (aD b6 0)), (.pointer (aD b7 0)), (.pointer (aD b9 0))])) p0 n0 c0 (n0 : Int) 0 Av))))) : Spec prog 106 #[.slice p0 n0 c0] σ R := M.start h ok
theorem Fb (h : Br (Iu < Fc) (Pq VL fun nT o0 => In Iu (n17 : Int) ∧ ∃ ph pj pk fB fC, Dn σ nT (o0 + Int.toNat Iu * 3) [.slice ph pj pk, .int .i64 fB, .int .u64 fC] ∧ ∀ Ov : Nat, ∃ (f25 : Nat) (th ti : Array Value), v10 = .func (.func f25) th ti ∧ Enters prog f25 ∧ Spec prog f25 (th ++ #[.agg #[.slice ph pj pk, .int .i64 fB, .int .u64 fC]] ++ ti) σ (AB R (fun z y => z = (.tuple #[]) ∧ AN (Iu + 1) ∧ Gp R p0 n0 c0 b6 b7 b8 b9 v10 (aD nT o0) n17 VM Fc (Iu + 1) y))) (qG R b6 b7 b8 b9 none 0 0 p0 n0 c0 (n0 : Int) 0 σ)) : Gp R p0 n0 c0 b6 b7 b8 b9 v10 VL n17 VM Fc Iu σ := M.of h ok rfl
theorem ca (h : Br (UP < Gq) (Pq VS fun Jp pc => In UP (n27 : Int) ∧ ∃ kY kZ ka kb ke, Dn σ Jp (pc + Int.toNat UP * 3) [.slice kY kZ ka, .int .i64 kb, .int .u64 ke] ∧ ∀ bu : Nat, LB σ b8 0 fun t33 => Bo t33 (LB σ b9 0 fun t35 => Bn t35 (R (.returned (.tuple #[(.string (ByteArray.mk #[])), (.string (ByteArray.mk #[])), .slice none 0 0, .int .i64 160])) σ) (LT σ b6 0 fun s41 => Spec prog 21 #[.slice kY kZ ka, (.string (ByteArray.mk #[99, 108, 117, 115, 116, 101, 114]))] σ (AB R (CT fun s40 y => Kp [b6] σ y ∧ Bn (ByteArray.toList s40 == ByteArray.toList s41) (R (.returned (.tuple #[(.string (ByteArray.mk #[])), (.string (ByteArray.mk #[])), .slice none 0 0, .int .i64 160])) y) (LT y b7 0 fun s48 => Spec prog 21 #[.slice kY kZ ka, (.string (ByteArray.mk #[114, 101, 112, 108, 105, 99, 97]))] y (AB R (CT fun wZ AI => Kp [b7] y AI ∧ Bn (ByteArray.toList wZ == ByteArray.toList s48) (R (.returned (.tuple #[(.string (ByteArray.mk #[])), (.string (ByteArray.mk #[])), .slice none 0 0, .int .i64 160])) AI) (Al AI fun kW => AJ prog (Builtin.append_ #[22, 22] 22 #[(.slice (aD kW 0) 0 0), .slice kY kZ ka]) (Hp.set AI kW (.cells #[] 61 (0, 0))) (CS fun qH nj qI AZ => LB AZ b8 0 fun t57 => Bo t57 (Al AZ fun Rc => Spec prog 194 #[.slice qH nj qI, (.slice (aD Rc 0) 1 1)] (Hp.set AZ Rc (.cells #[(.string (ByteArray.mk #[114, 101, 112, 108, 105, 99, 97]))] 9 (0, 0))) (AB R (CS fun w5 n61 sx Av => QG R b6 b7 b8 b9 N9 n13 Ox w5 n61 sx kb ke (aD Jp pc) n27 Rt Gq UP Av))) (QG R b6 b7 b8 b9 N9 n13 Ox qH nj qI kb ke (aD Jp pc) n27 Rt Gq UP AZ)))))))))) (Al σ fun kW => AJ prog (Builtin.append_ #[22, 22] 22 #[(.slice (aD kW 0) 0 0), .slice kY kZ ka]) (Hp.set σ kW (.cells #[] 61 (0, 0))) (CS fun qH nj qI y => LB y b8 0 fun t57 => Bo t57 (Al y fun Rc => Spec prog 194 #[.slice qH nj qI, (.slice (aD Rc 0) 1 1)] (Hp.set y Rc (.cells #[(.string (ByteArray.mk #[114, 101, 112, 108, 105, 99, 97]))] 9 (0, 0))) (AB R (CS fun w5 n61 sx AI => QG R b6 b7 b8 b9 N9 n13 Ox w5 n61 sx kb ke (aD Jp pc) n27 Rt Gq UP AI))) (QG R b6 b7 b8 b9 N9 n13 Ox qH nj qI kb ke (aD Jp pc) n27 Rt Gq UP y)))) (LT σ b6 0 fun s68 => LT σ b7 0 fun s69 => R (.returned (.tuple #[.string s68, .string s69, .slice N9 n13 Ox, .int .i64 0])) σ)) : qG R b6 b7 b8 b9 N9 n13 Ox VS n27 Rt Gq UP σ := M.of h ok rfl
theorem qJ (h : Al σ fun b65 => AJ prog (Builtin.append_ #[46, 46] 46 #[.slice N9 n13 Ox, (.slice (aD b65 0) 1 1)]) (Hp.set σ b65 (.cells #[.slice ADe ADf ADg, .int .i64 Wa, .int .u64 ADh] 25 (0, 0))) (CS fun p66 n66 c66 y => AN (UP + 1) ∧ qG R b6 b7 b8 b9 p66 n66 c66 VS n27 Rt Gq (UP + 1) y)) : QG R b6 b7 b8 b9 N9 n13 Ox ADe ADf ADg Wa ADh VS n27 Rt Gq UP σ := M.bm h ok rfl fun _ => by kernel_rfl
end Cy
namespace slices_Index_int
variable {p0 : Option Addr} {n0 c0 : Nat} {x1 x7 x8 : Int}
def M : Fw := ⟨prog, 114, f114, [], [], false, [], [], [(104, [(0, wL), (1, wI), (7, wI), (8, wI)])]⟩
theorem ok : M.Ok := ⟨AK.nil, mixed, func114, by kernel_rfl⟩
def NY := M.pt 0
theorem start (h : NY R p0 n0 c0 x1 (n0 : Int) 0 σ) : Spec prog 114 #[.slice p0 n0 c0, .int .i64 x1] σ R := M.start h ok
theorem D7 (h : Br (x8 < x7) (Pq p0 fun Hk J6 => In x8 (n0 : Int) ∧ LI .i64 σ Hk (J6 + Int.toNat x8 * 1) fun Hh => Br (x1 = Hh) (R (.returned (.int .i64 x8)) σ) (AN (x8 + 1) ∧ NY R (aD Hk J6) n0 c0 x1 x7 (x8 + 1) σ)) (R (.returned (.int .i64 (-1))) σ)) : NY R p0 n0 c0 x1 x7 x8 σ := M.of h ok rfl
end slices_Index_int
namespace CF
variable {p0 : Option Addr} {n0 c0 : Nat} {x3 : Int}
def M : Fw := ⟨prog, 118, f118, [], [], false, [(4, 10, true)], [], [(208, [(0, wL), (3, wI)])]⟩
theorem ok : M.Ok := ⟨AK.nil, mixed, func118, by kernel_rfl⟩
def Jh := M.pt 0
theorem start (h : Jh R p0 n0 c0 1 σ) : Spec prog 118 #[.slice p0 n0 c0] σ R := M.start h ok
theorem CU (h : Br (x3 < (n0 : Int)) (Pq p0 fun Ov QB => In x3 (n0 : Int) ∧ LI .u32 σ Ov (QB + Int.toNat x3 * 1) fun E7 => AN (x3 - 1) ∧ In (x3 - 1) (n0 : Int) ∧ LI .u32 σ Ov (QB + Int.toNat (x3 - 1) * 1) fun Fc => Br (E7 ≤ Fc) (R (.returned (.bool false)) σ) (AN (x3 + 1) ∧ Jh R (aD Ov QB) n0 c0 (x3 + 1) σ)) (R (.returned (.bool true)) σ)) : Jh R p0 n0 c0 x3 σ := M.of h ok rfl
end CF
namespace QO
variable {x0 : Int}
def M : Fw := ⟨prog, 132, f132, [], [], false, [], [], []⟩
theorem ok : M.Ok := ⟨AK.nil, mixed, func132, by kernel_rfl⟩
theorem start (h : Br (x0 ≠ 0) (R (.panicked [{ v := (.iface 295 (.agg #[.int .i64 x0])), recovered := false }]) σ) (R (.returned (.tuple #[])) σ)) : Spec prog 132 #[.int .i64 x0] σ R := M.start h ok
end QO
namespace KC
variable {q0 : Option Addr} {s1 : ByteArray}
def M : Fw := ⟨prog, 133, f133, [221], [], false, [], [], []⟩
theorem ok : M.Ok := ⟨.cons call221 (AK.nil), mixed, func133, by kernel_rfl⟩
theorem start (h : Al σ fun b2 => Al (Hp.set σ b2 (.cells #[.pointer q0] 106 (0, 0))) fun b3 => LQ (Hp.set (Hp.set σ b2 (.cells #[.pointer q0] 106 (0, 0))) b3 (.cells #[.string s1] 9 (0, 0))) b2 0 fun q5 => Spec prog 221 #[.pointer q5, (.func (.func 222) #[] #[(.pointer (aD b2 0)), (.pointer (aD b3 0))]), (.func (.func 224) #[] #[(.pointer (aD b2 0)), (.pointer (aD b3 0))]), (.func (.func 225) #[] #[])] (Hp.set (Hp.set σ b2 (.cells #[.pointer q0] 106 (0, 0))) b3 (.cells #[.string s1] 9 (0, 0))) (AB R (CI .i64 fun x8 y => R (.returned (.int .i64 x8)) y))) : Spec prog 133 #[.pointer q0, .string s1] σ R := M.start h ok
end KC
namespace JV
variable {q0 p2 : Option Addr} {s1 : ByteArray} {n2 c2 : Nat}
def M : Fw := ⟨prog, 137, f137, [132, 133, 135, 229, 230, 231], [], false, [(0, 8, false), (1, 6, false), (2, 7, false)], [], []⟩
theorem ok : M.Ok := ⟨.cons call132 (.cons call133 (.cons call135 (.cons call229 (.cons call230 (.cons call231 (AK.nil)))))), mixed, func137, by kernel_rfl⟩
theorem start (h : Pq q0 fun b7 o7 => LQ σ b7 o7 fun q9 => Spec prog 229 #[(.pointer (aD b7 o7))] σ (AB R (CT fun nJ y => Kp [b7] σ y ∧ Spec prog 230 #[.slice p2 n2 c2] y (AB R (CS fun N9 n13 Ox AI => Kp [b7] y AI ∧ Spec prog 135 #[.pointer q9, .string nJ, .slice N9 n13 Ox] AI (AB R (CI .i64 fun FD AZ => Spec prog 132 #[.int .i64 FD] AZ (AB R (fun z Av => z = (.tuple #[]) ∧ LQ Av b7 o7 fun q19 => Spec prog 229 #[(.pointer (aD b7 o7))] Av (AB R (CT fun s21 Cg => Kp [b7] Av Cg ∧ Spec prog 133 #[.pointer q19, .string s21] Cg (AB R (CI .i64 fun js FE => Spec prog 132 #[.int .i64 js] FE (AB R (fun z Ek => z = (.tuple #[]) ∧ LQ Ek b7 o7 fun q27 => Spec prog 229 #[(.pointer (aD b7 o7))] Ek (AB R (CT fun s29 IL => Kp [b7] Ek IL ∧ Spec prog 231 #[.pointer q27, .string s29, .string s1] IL (AB R (CI .i64 fun Fp kJ => Spec prog 132 #[.int .i64 Fp] kJ (AB R (fun z kK => z = (.tuple #[]) ∧ R (.returned (.tuple #[])) kK))))))))))))))))))))) : Spec prog 137 #[.pointer q0, .string s1, .slice p2 n2 c2] σ R := M.start h ok
end JV
namespace QP
variable {p0 : Option Addr} {n0 c0 : Nat}
def M : Fw := ⟨prog, 139, f139, [143, 234, 235], [], false, [], [], []⟩
theorem ok : M.Ok := ⟨.cons call143 (.cons call234 (.cons call235 (AK.nil))), mixed, func139, by kernel_rfl⟩
theorem start (h : Br (65536 < (n0 : Int)) (R (.returned (.tuple #[.slice none 0 0, .int .i64 23])) σ) (Df (IntKind.u64.wrap (n0 : Int)) fun x9 => Spec prog 143 #[.slice none 0 0, .int .u64 x9] σ (AB R (CS fun Ou n10 Hj y => Spec prog 235 #[.slice p0 n0 c0] y (AB R (CI .u32 fun DU AI => Spec prog 234 #[.int .u32 DU] AI (AB R (CS fun N9 n13 Ox AZ => AJ prog (Builtin.append_ #[84, 84] 84 #[.slice Ou n10 Hj, .slice N9 n13 Ox]) AZ (CS fun UY n14 UZ Av => AJ prog (Builtin.append_ #[84, 84] 84 #[.slice UY n14 UZ, .slice p0 n0 c0]) Av (CS fun VT n16 We Cg => R (.returned (.tuple #[.slice VT n16 We, .int .i64 0])) Cg)))))))))) : Spec prog 139 #[.slice p0 n0 c0] σ R := M.start h ok
end QP
namespace FT
variable {q0 p2 xe : Option Addr} {s1 xf : ByteArray} {n2 c2 qK xg : Nat} {t9 : Bool} {Zm : Int}
def M : Fw := ⟨prog, 140, f140, [236, 237, 238, 239, 240], [10], false, [], [], [(252, [(0, wQ), (2, wL), (9, wB), (10, .X 305 [.T, .L, .I .i64])])]⟩
theorem ok : M.Ok := ⟨.cons call236 (.cons call237 (.cons call238 (.cons call239 (.cons call240 (AK.nil))))), mixed, func140, by kernel_rfl⟩
def GV := M.pt 0
theorem start (h : Spec prog 236 #[.pointer q0, .string s1, .bool false] σ (AB R (CI .i64 fun FD y => Br (FD ≠ 0) (R (.returned (.int .i64 FD)) y) (Spec prog 237 #[.pointer q0, .string s1] y (AB R (fun z AI => ∃ UU WS, z = (.tuple #[.int .i64 UU, .bool WS]) ∧ ∀ D8 : Nat, Bo WS (Pq q0 fun QA br => LS AI QA br fun p30 n30 c30 => Pq p30 fun kG kH => In UU (n30 : Int) ∧ ∃ ADi MZ Ma Mb ADj, Dn AI kG (kH + Int.toNat UU * 3) [.string ADi, .slice MZ Ma Mb, .int .i64 ADj] ∧ GV R (aD QA br) p2 n2 c2 true ADi MZ Ma Mb ADj AI) (GV R q0 p2 n2 c2 false s1 none 0 0 0 AI))))))) : Spec prog 140 #[.pointer q0, .string s1, .slice p2 n2 c2] σ R := M.start h ok
theorem Fe (h : Br (4194304 < (n2 : Int)) (R (.returned (.int .i64 63)) σ) (AN (4194304 - (n2 : Int)) ∧ Br (((4194304 - (n2 : Int)) : Int) < (qK : Int)) (R (.returned (.int .i64 63)) σ) (Bn t9 (Pq q0 fun Zc Zd => LS σ Zc Zd fun p53 n53 c53 => Br (1048576 ≤ (n53 : Int)) (R (.returned (.int .i64 63)) σ) (Spec prog 238 #[(.pointer (aD Zc Zd))] σ (AB R (CB fun t59 y => Al y fun Rc => AJ prog (Builtin.append_ #[84, 84] 84 #[(.slice (aD Rc 0) 0 0), .slice xe qK xg]) (Hp.set y Rc (.cells #[] 5 (0, 0))) (CS fun p63 n63 c63 AI => AJ prog (Builtin.append_ #[84, 84] 84 #[.slice p63 n63 c63, .slice p2 n2 c2]) AI (CS fun p65 n65 c65 AZ => Spec prog 239 #[(.pointer (aD Zc Zd)), .agg #[.string xf, .slice p65 n65 c65, .int .i64 Zm]] AZ (AB R (fun z Av => z = (.tuple #[]) ∧ Bo t59 (LI .i64 Av Zc (Zd + 4) fun tG => Spec prog 240 #[(.pointer (aD Zc Zd)), .int .i64 tG] Av (AB R (fun z Cg => z = (.tuple #[]) ∧ R (.returned (.int .i64 60)) Cg))) (R (.returned (.int .i64 0)) Av))))))))) (Spec prog 238 #[.pointer q0] σ (AB R (CB fun t59 y => Al y fun Rc => AJ prog (Builtin.append_ #[84, 84] 84 #[(.slice (aD Rc 0) 0 0), .slice xe qK xg]) (Hp.set y Rc (.cells #[] 5 (0, 0))) (CS fun p63 n63 c63 AI => AJ prog (Builtin.append_ #[84, 84] 84 #[.slice p63 n63 c63, .slice p2 n2 c2]) AI (CS fun p65 n65 c65 AZ => Spec prog 239 #[.pointer q0, .agg #[.string xf, .slice p65 n65 c65, .int .i64 Zm]] AZ (AB R (fun z Av => z = (.tuple #[]) ∧ Bo t59 (Pq q0 fun b73 o73 => LI .i64 Av b73 (o73 + 4) fun tG => Spec prog 240 #[(.pointer (aD b73 o73)), .int .i64 tG] Av (AB R (fun z Cg => z = (.tuple #[]) ∧ R (.returned (.int .i64 60)) Cg))) (R (.returned (.int .i64 0)) Av))))))))))) : GV R q0 p2 n2 c2 t9 xf xe qK xg Zm σ := M.bm h ok rfl fun _ => by kernel_rfl
end FT
namespace Ex
variable {p0 p5 : Option Addr} {n0 c0 n5 c5 : Nat} {x1 : Int}
def M : Fw := ⟨prog, 143, f143, [], [], false, [], [], [(224, [(1, wU), (5, wL)])]⟩
theorem ok : M.Ok := ⟨AK.nil, mixed, func143, by kernel_rfl⟩
def Jh := M.pt 0
theorem start (h : Al σ fun b6 => AJ prog (Builtin.append_ #[84, 84] 84 #[(.slice (aD b6 0) 0 0), .slice p0 n0 c0]) (Hp.set σ b6 (.cells #[] 5 (0, 0))) (CS fun p8 n8 c8 y => Jh R x1 p8 n8 c8 y)) : Spec prog 143 #[.slice p0 n0 c0, .int .u64 x1] σ R := M.start h ok
theorem CU (h : Br (128 ≤ x1) (Df (Go.bits .and .u64 x1 127) fun E7 => Df (Go.bits .or .u64 E7 128) fun FD => Df (IntKind.u8.wrap FD) fun Hh => Al σ fun KY => AJ prog (Builtin.append_ #[84, 84] 84 #[.slice p5 n5 c5, (.slice (aD KY 0) 1 1)]) (Hp.set σ KY (.cells #[.int .u8 Hh] 5 (0, 0))) (CS fun VL n17 VM y => ((0 : Int) ≤ 7 ∧ 7 ≤ ((IntKind.bits .u64 : Nat) : Int)) ∧ Df (x1 / 2 ^ Int.toNat 7) fun Iu => Jh R Iu VL n17 VM y)) (Df (IntKind.u8.wrap x1) fun js => Al σ fun VK => AJ prog (Builtin.append_ #[84, 84] 84 #[.slice p5 n5 c5, (.slice (aD VK 0) 1 1)]) (Hp.set σ VK (.cells #[.int .u8 js] 5 (0, 0))) (CS fun bq n24 c24 y => R (.returned (.slice bq n24 c24)) y))) : Jh R x1 p5 n5 c5 σ := M.of h ok rfl
end Ex
namespace IS
variable {s0 : ByteArray} {x3 : Int}
def M : Fw := ⟨prog, 178, f178, [], [], false, [], [], [(464, [(0, wT), (3, wI)])]⟩
theorem ok : M.Ok := ⟨AK.nil, mixed, func178, by kernel_rfl⟩
def Am := M.pt 0
theorem start (h : Br ((((ByteArray.size s0 : Nat) : Int) : Int) < 1) (R (.returned (.bool false)) σ) (Br ((64 : Int) < ((ByteArray.size s0 : Nat) : Int)) (R (.returned (.bool false)) σ) (Am R s0 0 σ))) : Spec prog 178 #[.string s0] σ R := M.start h ok
theorem BB (h : Br (x3 < ((ByteArray.size s0 : Nat) : Int)) (∃ Ue : UInt8, 0 ≤ x3 ∧ (ByteArray.data s0)[Int.toNat x3]? = some Ue ∧ Br ((97 : Int) ≤ ((UInt8.toNat Ue : Nat) : Int)) (Br ((((UInt8.toNat Ue : Nat) : Int) : Int) ≤ 122) (AN (x3 + 1) ∧ Am R s0 (x3 + 1) σ) (Br ((48 : Int) ≤ ((UInt8.toNat Ue : Nat) : Int)) (Br ((((UInt8.toNat Ue : Nat) : Int) : Int) ≤ 57) (AN (x3 + 1) ∧ Am R s0 (x3 + 1) σ) (Br ((((UInt8.toNat Ue : Nat) : Int) : Int) = 47) (AN (x3 + 1) ∧ Am R s0 (x3 + 1) σ) (Br ((((UInt8.toNat Ue : Nat) : Int) : Int) = 46) (AN (x3 + 1) ∧ Am R s0 (x3 + 1) σ) (Bm ((((UInt8.toNat Ue : Nat) : Int) : Int) = 45) (R (.returned (.bool false)) σ) (AN (x3 + 1) ∧ Am R s0 (x3 + 1) σ))))) (Br ((((UInt8.toNat Ue : Nat) : Int) : Int) = 47) (AN (x3 + 1) ∧ Am R s0 (x3 + 1) σ) (Br ((((UInt8.toNat Ue : Nat) : Int) : Int) = 46) (AN (x3 + 1) ∧ Am R s0 (x3 + 1) σ) (Bm ((((UInt8.toNat Ue : Nat) : Int) : Int) = 45) (R (.returned (.bool false)) σ) (AN (x3 + 1) ∧ Am R s0 (x3 + 1) σ)))))) (Br ((48 : Int) ≤ ((UInt8.toNat Ue : Nat) : Int)) (Br ((((UInt8.toNat Ue : Nat) : Int) : Int) ≤ 57) (AN (x3 + 1) ∧ Am R s0 (x3 + 1) σ) (Br ((((UInt8.toNat Ue : Nat) : Int) : Int) = 47) (AN (x3 + 1) ∧ Am R s0 (x3 + 1) σ) (Br ((((UInt8.toNat Ue : Nat) : Int) : Int) = 46) (AN (x3 + 1) ∧ Am R s0 (x3 + 1) σ) (Bm ((((UInt8.toNat Ue : Nat) : Int) : Int) = 45) (R (.returned (.bool false)) σ) (AN (x3 + 1) ∧ Am R s0 (x3 + 1) σ))))) (Br ((((UInt8.toNat Ue : Nat) : Int) : Int) = 47) (AN (x3 + 1) ∧ Am R s0 (x3 + 1) σ) (Br ((((UInt8.toNat Ue : Nat) : Int) : Int) = 46) (AN (x3 + 1) ∧ Am R s0 (x3 + 1) σ) (Bm ((((UInt8.toNat Ue : Nat) : Int) : Int) = 45) (R (.returned (.bool false)) σ) (AN (x3 + 1) ∧ Am R s0 (x3 + 1) σ)))))) (R (.returned (.bool true)) σ)) : Am R s0 x3 σ := M.of h ok rfl
end IS
namespace JW
variable {q0 : Option Addr} {v1 v2 v3 : Value}
def M : Fw := ⟨prog, 221, f221, [290], [], true, [], [], []⟩
theorem ok : M.Ok := ⟨.cons call290 (AK.nil), mixed, func221, by kernel_rfl⟩
theorem start (h : Pq q0 fun EB GU => LB σ EB (GU + 1) fun t13 => Bn t13 (R (.returned (.int .i64 60)) σ) (∃ (f16 : Nat) (OD OE : Array Value), v1 = .func (.func f16) OD OE ∧ Enters prog f16 ∧ Spec prog f16 (OD ++ #[] ++ OE) σ (AB R (CI .i64 fun Hi y => Br (Hi ≠ 0) (R (.returned (.int .i64 Hi)) y) (LI .u64 y EB (GU + 5) fun Sp => Df (IntKind.u64.wrap (Sp + 1)) fun Kk => AJ prog (Instr.storeAt 23 (.pointer (aD EB (GU + 5))) (.int .u64 Kk)) y (fun _ AI => LB AI EB (GU + 2) fun t30 => Bo t30 (LI .i64 AI EB (GU + 3) fun Za => Br (Za = 0) (∃ (f39 : Nat) (tj tm : Array Value), v3 = .func (.func f39) tj tm ∧ Enters prog f39 ∧ Spec prog f39 (tj ++ #[] ++ tm) AI (AB R (fun z AZ => z = (.tuple #[]) ∧ LI .i64 AZ EB (GU + 4) fun pZ => Spec prog 290 #[(.pointer (aD EB GU)), .int .i64 pZ] AZ (AB R (fun z Av => z = (.tuple #[]) ∧ R (.returned (.int .i64 60)) Av))))) (LI .i64 AI EB (GU + 3) fun WZ => Df (IntKind.i64.wrap (WZ - 1)) fun Rb => AJ prog (Instr.storeAt 3 (.pointer (aD EB (GU + 3))) (.int .i64 Rb)) AI (fun _ AZ => ∃ (f54 : Nat) (OI OJ : Array Value), v2 = .func (.func f54) OI OJ ∧ Enters prog f54 ∧ Spec prog f54 (OI ++ #[] ++ OJ) AZ (AB R (fun z Av => z = (.tuple #[]) ∧ R (.returned (.int .i64 0)) Av))))) (LI .i64 AI EB (GU + 3) fun WZ => Df (IntKind.i64.wrap (WZ - 1)) fun Rb => AJ prog (Instr.storeAt 3 (.pointer (aD EB (GU + 3))) (.int .i64 Rb)) AI (fun _ AZ => ∃ (f54 : Nat) (OI OJ : Array Value), v2 = .func (.func f54) OI OJ ∧ Enters prog f54 ∧ Spec prog f54 (OI ++ #[] ++ OJ) AZ (AB R (fun z Av => z = (.tuple #[]) ∧ R (.returned (.int .i64 0)) Av)))))))))) : Spec prog 221 #[.pointer q0, v1, v2, v3] σ R := M.Lk h ok [(0, .o (.Q q0)), (1, .o (.V v1)), (2, .o (.V v2)), (3, .o (.V v3))] rfl rfl (by kernel_rfl)
end JW
namespace Mc
def M : Fw := ⟨prog, 225, f225, [], [], false, [], [], []⟩
theorem ok : M.Ok := ⟨AK.nil, mixed, func225, by kernel_rfl⟩
theorem start (h : R (.returned (.tuple #[])) σ) : Spec prog 225 #[] σ R := M.start h ok
end Mc
namespace G2
variable {p0 : Option Addr} {n0 c0 : Nat}
def M : Fw := ⟨prog, 264, f264, [113, 305], [], false, [], [], []⟩
theorem ok : M.Ok := ⟨.cons call113 (.cons call305 (AK.nil)), mixed, func264, by kernel_rfl⟩
theorem start (h : Df (IntKind.u64.wrap (n0 : Int)) fun x8 => Spec prog 113 #[.int .u64 x8] σ (AB R (CI .i64 fun x9 y => Spec prog 305 #[.slice p0 n0 c0, .int .i64 0, (.int .i64 (n0 : Int)), .int .i64 x9] y (AB R (fun z AI => z = (.tuple #[]) ∧ R (.returned (.tuple #[])) AI))))) : Spec prog 264 #[.slice p0 n0 c0] σ R := M.start h ok
end G2
namespace LR
variable {j0 : Option Addr} {ew j7 : Nat} {I6 Hl : Int}
def M : Fw := ⟨prog, 268, f268, [], [1], false, [], [], []⟩
theorem ok : M.Ok := ⟨AK.nil, mixed, func268, by kernel_rfl⟩
theorem start (h : ∀ b1 : Nat, Br (I6 < (-1099511627776)) (R (.returned (.int .i64 153)) σ) (Br (1099511627776 < I6) (R (.returned (.int .i64 153)) σ) (R (.returned (.int .i64 0)) σ))) : Spec prog 268 #[.agg #[.slice j0 ew j7, .int .i64 I6, .int .u64 Hl]] σ R := M.start h ok
end LR
namespace DE
variable {p0 p5 p8 : Option Addr} {n0 c0 n5 c5 n8 c8 : Nat} {v1 : Value} {x9 Db : Int}
def M : Fw := ⟨prog, 269, f269, [], [7], false, [], [], [(232, [(1, wV), (5, wL), (8, wL), (9, wI), (10, wI)]), (935, [(1, wV), (5, wL), (8, wL), (9, wI), (10, wI)])]⟩
theorem ok : M.Ok := ⟨AK.nil, mixed, func269, by kernel_rfl⟩
def A4 := M.pt 0
def GV := M.pt 1
theorem start (h : A4 R v1 none 0 0 p0 n0 c0 (n0 : Int) 0 σ) : Spec prog 269 #[.slice p0 n0 c0, v1] σ R := M.Lk h ok [(0, .o (.L p0 n0 c0)), (1, .o (.V v1))] rfl rfl (by kernel_rfl)
theorem AW (h : Br (Db < x9) (Pq p8 fun Ov QB => In Db (n8 : Int) ∧ ∃ Zj xh, Dn σ Ov (QB + Int.toNat Db * 2) [.string Zj, .string xh] ∧ ∀ b7 : Nat, ∃ (f16 : Nat) (OD OE : Array Value), v1 = .func (.func f16) OD OE ∧ Enters prog f16 ∧ Spec prog f16 (OD ++ #[.agg #[.string Zj, .string xh]] ++ OE) σ (AB R (CB fun t16 y => Bo t16 (Al y fun UL => AJ prog (Builtin.append_ #[22, 22] 22 #[.slice p5 n5 c5, (.slice (aD UL 0) 1 1)]) (Hp.set y UL (.cells #[.string Zj, .string xh] 61 (0, 0))) (CS fun sw n20 c20 AI => GV R v1 sw n20 c20 (aD Ov QB) n8 c8 x9 Db AI)) (GV R v1 p5 n5 c5 (aD Ov QB) n8 c8 x9 Db y)))) (R (.returned (.slice p5 n5 c5)) σ)) : A4 R v1 p5 n5 c5 p8 n8 c8 x9 Db σ := M.of h ok rfl
theorem Fe (h : AN (Db + 1) ∧ A4 R v1 p5 n5 c5 p8 n8 c8 x9 (Db + 1) σ) : GV R v1 p5 n5 c5 p8 n8 c8 x9 Db σ := M.of h ok rfl
end DE
namespace G3
variable {b0 b1 b2 : Nat}
def M : Fw := ⟨prog, 292, f292, [171, 223], [], false, [], [], []⟩
theorem ok : M.Ok := ⟨.cons call171 (.cons call223 (AK.nil)), mixed, func292, by kernel_rfl⟩
theorem start (h : LT σ b0 0 fun s4 => Spec prog 171 #[.string s4] σ (AB R (CB fun t5 y => Bn t5 (R (.returned (.int .i64 61)) y) (LQ y b1 0 fun q7 => LT y b2 0 fun s8 => Spec prog 223 #[.pointer q7, .string s8] y (AB R (CI .i64 fun x9 AI => R (.returned (.int .i64 x9)) AI)))))) : Spec prog 292 #[(.pointer (aD b0 0)), (.pointer (aD b1 0)), (.pointer (aD b2 0))] σ R := M.start h ok
end G3
namespace strings_CutPrefix
variable {s0 s1 : ByteArray}
def M : Fw := ⟨prog, 300, f300, [317], [], false, [], [], []⟩
theorem ok : M.Ok := ⟨.cons call317 (AK.nil), mixed, func300, by kernel_rfl⟩
theorem start (h : Spec prog 317 #[.string s0, .string s1] σ (AB R (fun z y => ∃ s8a t8b, z = (.tuple #[.string s8a, .bool t8b]) ∧ R (.returned (.tuple #[.string s8a, .bool t8b])) y))) : Spec prog 300 #[.string s0, .string s1] σ R := M.start h ok
end strings_CutPrefix
end TwW
end
end
section
set_option maxRecDepth 100000
noncomputable section
namespace TwW
open Go Tw Go.Proofs.Tryz
variable [Iq] {R : Rr} {σ : Hp}

namespace AT
variable {x0 x1 JL N4 eS eT eU eV eW eX eY eZ fH Hh Hi Iu Jr : Int} {p2 kf Ud UY VL : Option Addr} {n2 c2 kg kh n14 UZ n17 VM : Nat} {nk : Bool}
def M : Fw := ⟨prog, 5, f5, [7, 8, 9, 10, 11, 12, 13, 14, 16, 20, 22, 23, 24, 25, 26], [7, 8], false, [(3, 8, false)], [], [(262096, [(2, wL), (7, .X 30 [.I .i64, .I .i64, .I .i64, .I .i64, .I .i64, .I .i64, .I .i64, .I .i64, .I .i64, .I .i64, .B]), (8, .X 41 [.I .u64, .L]), (12, wQ), (14, wL), (15, wI), (16, wI)]), (536777680, [(2, wL), (7, .X 30 [.I .i64, .I .i64, .I .i64, .I .i64, .I .i64, .I .i64, .I .i64, .I .i64, .I .i64, .I .i64, .B]), (8, .X 41 [.I .u64, .L]), (12, wQ), (14, wL), (15, wI), (16, wI), (17, wL), (19, wI), (20, wI)]), (536777683, [(2, wL), (7, .X 30 [.I .i64, .I .i64, .I .i64, .I .i64, .I .i64, .I .i64, .I .i64, .I .i64, .I .i64, .I .i64, .B]), (8, .X 41 [.I .u64, .L]), (12, wQ), (14, wL), (15, wI), (16, wI), (17, wL), (19, wI), (20, wI)])]⟩
theorem ok : M.Ok := ⟨.cons call7 (.cons call8 (.cons call9 (.cons call10 (.cons call11 (.cons call12 (.cons call13 (.cons call14 (.cons call16 (.cons call20 (.cons call22 (.cons call23 (.cons call24 (.cons call25 (.cons call26 (AK.nil))))))))))))))), mixed, func5, by kernel_rfl⟩
def Zn := M.pt 0
def fI := M.pt 1
def qL := M.pt 2
theorem start (h : Spec prog 7 #[.int .i64 x0, .int .i64 5, .int .i64 30] σ (AB R (fun z y => ∃ Zo Ls Zp Zq Zr Zs Zt Zu Zv Zw AJa, z = (.agg #[.int .i64 Zo, .int .i64 Ls, .int .i64 Zp, .int .i64 Zq, .int .i64 Zr, .int .i64 Zs, .int .i64 Zt, .int .i64 Zu, .int .i64 Zv, .int .i64 Zw, .bool AJa]) ∧ ∀ b7 : Nat, (Spec prog 8 #[.int .i64 x1] y (AB R (CI .i64 fun bw AI => 4 ≠ (0 : Int) ∧ Df (Int.tmod bw 4) fun Fp => AN (Ls + Fp) ∧ (Spec prog 11 #[(.int .i64 (Ls + Fp))] AI (AB R (fun z AZ => ∃ QQ MZ Ma Mb, z = (.agg #[.int .u64 QQ, .slice MZ Ma Mb]) ∧ ∀ b8 : Nat, Spec prog 9 #[.agg #[.int .i64 Zo, .int .i64 Ls, .int .i64 Zp, .int .i64 Zq, .int .i64 Zr, .int .i64 Zs, .int .i64 Zt, .int .i64 Zu, .int .i64 Zv, .int .i64 Zw, .bool false]] AZ (AB R (CQ fun iN Av => Spec prog 10 #[.agg #[.int .u64 QQ, .slice MZ Ma Mb]] Av (AB R (fun z Cg => ∃ QR ki, z = (.tuple #[.pointer QR, .pointer ki]) ∧ Bo (Option.isNone iN) (R (.returned (.bool false)) Cg) (Bo (Option.isNone QR) (R (.returned (.bool false)) Cg) (Spec prog 22 #[.slice p2 n2 c2] Cg (AB R (CS fun Rp n50 S5 FE => Spec prog 12 #[.pointer iN, (.string (ByteArray.mk #[116])), .slice Rp n50 S5, .int .i64 0, .pointer QR] FE (AB R (fun z Ek => ∃ Fz IT, z = (.tuple #[.pointer Fz, .int .i64 IT]) ∧ Br (IT ≠ 0) (Br (IT = 3) (Bo (Option.isNone Fz) (Spec prog 13 #[] Ek (AB R (CB fun t72 IL => R (.returned (.bool t72)) IL))) (R (.returned (.bool false)) Ek)) (Br (IT = 4) (Bo (Option.isNone Fz) (Spec prog 13 #[] Ek (AB R (CB fun t72 IL => R (.returned (.bool t72)) IL))) (R (.returned (.bool false)) Ek)) (R (.returned (.bool false)) Ek))) (Bo (Option.isNone Fz) (Br (IT = 3) (Bo (Option.isNone Fz) (Spec prog 13 #[] Ek (AB R (CB fun t72 IL => R (.returned (.bool t72)) IL))) (R (.returned (.bool false)) Ek)) (Br (IT = 4) (Bo (Option.isNone Fz) (Spec prog 13 #[] Ek (AB R (CB fun t72 IL => R (.returned (.bool t72)) IL))) (R (.returned (.bool false)) Ek)) (R (.returned (.bool false)) Ek))) (Spec prog 14 #[.pointer Fz] Ek (AB R (CS fun Zi YY c75 IL => Zn R p2 n2 c2 Zo Ls Zp Zq Zr Zs Zt Zu Zv Zw false QQ MZ Ma Mb Fz Zi YY c75 0 0 IL))))))))))))))))) ∧ (∀ b8 : Nat, Spec prog 11 #[(.int .i64 (Ls + Fp))] AI (AB R (fun z AZ => ∃ QQ MZ Ma Mb, z = (.agg #[.int .u64 QQ, .slice MZ Ma Mb]) ∧ Spec prog 9 #[.agg #[.int .i64 Zo, .int .i64 Ls, .int .i64 Zp, .int .i64 Zq, .int .i64 Zr, .int .i64 Zs, .int .i64 Zt, .int .i64 Zu, .int .i64 Zv, .int .i64 Zw, .bool false]] AZ (AB R (CQ fun iN Av => Spec prog 10 #[.agg #[.int .u64 QQ, .slice MZ Ma Mb]] Av (AB R (fun z Cg => ∃ QR ki, z = (.tuple #[.pointer QR, .pointer ki]) ∧ Bo (Option.isNone iN) (R (.returned (.bool false)) Cg) (Bo (Option.isNone QR) (R (.returned (.bool false)) Cg) (Spec prog 22 #[.slice p2 n2 c2] Cg (AB R (CS fun Rp n50 S5 FE => Spec prog 12 #[.pointer iN, (.string (ByteArray.mk #[116])), .slice Rp n50 S5, .int .i64 0, .pointer QR] FE (AB R (fun z Ek => ∃ Fz IT, z = (.tuple #[.pointer Fz, .int .i64 IT]) ∧ Br (IT ≠ 0) (Br (IT = 3) (Bo (Option.isNone Fz) (Spec prog 13 #[] Ek (AB R (CB fun t72 IL => R (.returned (.bool t72)) IL))) (R (.returned (.bool false)) Ek)) (Br (IT = 4) (Bo (Option.isNone Fz) (Spec prog 13 #[] Ek (AB R (CB fun t72 IL => R (.returned (.bool t72)) IL))) (R (.returned (.bool false)) Ek)) (R (.returned (.bool false)) Ek))) (Bo (Option.isNone Fz) (Br (IT = 3) (Bo (Option.isNone Fz) (Spec prog 13 #[] Ek (AB R (CB fun t72 IL => R (.returned (.bool t72)) IL))) (R (.returned (.bool false)) Ek)) (Br (IT = 4) (Bo (Option.isNone Fz) (Spec prog 13 #[] Ek (AB R (CB fun t72 IL => R (.returned (.bool t72)) IL))) (R (.returned (.bool false)) Ek)) (R (.returned (.bool false)) Ek))) (Spec prog 14 #[.pointer Fz] Ek (AB R (CS fun Zi YY c75 IL => Zn R p2 n2 c2 Zo Ls Zp Zq Zr Zs Zt Zu Zv Zw false QQ MZ Ma Mb Fz Zi YY c75 0 0 IL)))))))))))))))))))) ∧ (∀ b8 : Nat, Spec prog 8 #[.int .i64 x1] y (AB R (CI .i64 fun bw AI => 4 ≠ (0 : Int) ∧ Df (Int.tmod bw 4) fun Fp => AN (Ls + Fp) ∧ Spec prog 11 #[(.int .i64 (Ls + Fp))] AI (AB R (fun z AZ => ∃ QQ MZ Ma Mb, z = (.agg #[.int .u64 QQ, .slice MZ Ma Mb]) ∧ Spec prog 9 #[.agg #[.int .i64 Zo, .int .i64 Ls, .int .i64 Zp, .int .i64 Zq, .int .i64 Zr, .int .i64 Zs, .int .i64 Zt, .int .i64 Zu, .int .i64 Zv, .int .i64 Zw, .bool false]] AZ (AB R (CQ fun iN Av => Spec prog 10 #[.agg #[.int .u64 QQ, .slice MZ Ma Mb]] Av (AB R (fun z Cg => ∃ QR ki, z = (.tuple #[.pointer QR, .pointer ki]) ∧ Bo (Option.isNone iN) (R (.returned (.bool false)) Cg) (Bo (Option.isNone QR) (R (.returned (.bool false)) Cg) (Spec prog 22 #[.slice p2 n2 c2] Cg (AB R (CS fun Rp n50 S5 FE => Spec prog 12 #[.pointer iN, (.string (ByteArray.mk #[116])), .slice Rp n50 S5, .int .i64 0, .pointer QR] FE (AB R (fun z Ek => ∃ Fz IT, z = (.tuple #[.pointer Fz, .int .i64 IT]) ∧ Br (IT ≠ 0) (Br (IT = 3) (Bo (Option.isNone Fz) (Spec prog 13 #[] Ek (AB R (CB fun t72 IL => R (.returned (.bool t72)) IL))) (R (.returned (.bool false)) Ek)) (Br (IT = 4) (Bo (Option.isNone Fz) (Spec prog 13 #[] Ek (AB R (CB fun t72 IL => R (.returned (.bool t72)) IL))) (R (.returned (.bool false)) Ek)) (R (.returned (.bool false)) Ek))) (Bo (Option.isNone Fz) (Br (IT = 3) (Bo (Option.isNone Fz) (Spec prog 13 #[] Ek (AB R (CB fun t72 IL => R (.returned (.bool t72)) IL))) (R (.returned (.bool false)) Ek)) (Br (IT = 4) (Bo (Option.isNone Fz) (Spec prog 13 #[] Ek (AB R (CB fun t72 IL => R (.returned (.bool t72)) IL))) (R (.returned (.bool false)) Ek)) (R (.returned (.bool false)) Ek))) (Spec prog 14 #[.pointer Fz] Ek (AB R (CS fun Zi YY c75 IL => Zn R p2 n2 c2 Zo Ls Zp Zq Zr Zs Zt Zu Zv Zw false QQ MZ Ma Mb Fz Zi YY c75 0 0 IL)))))))))))))))))))))) : Spec prog 5 #[.int .i64 x0, .int .i64 x1, .slice p2 n2 c2] σ R := M.start h ok
theorem cb (h : Br (Hi < 16) (Spec prog 20 #[.pointer Ud, .int .i64 Hi] σ (AB R (fun z y => ∃ xi Wi xj xk, z = (.tuple #[.slice xi Wi xj, .int .u64 xk]) ∧ Spec prog 16 #[.slice UY n14 UZ, .int .i64 Hi] y (AB R (CB fun t91 AI => Br (0 < (Wi : Int)) (Bo t91 (Br (xk ≠ fH) (R (.returned (.bool false)) AI) (AN (Hh + (Wi : Int)) ∧ fI R p2 n2 c2 JL N4 eS eT eU eV eW eX eY eZ nk fH kf kg kh Ud UY n14 UZ ((Hh + (Wi : Int))) Hi xi Wi xj 0 0 AI)) (R (.returned (.bool false)) AI)) (Bo t91 (R (.returned (.bool false)) AI) (Br (xk ≠ fH) (R (.returned (.bool false)) AI) (AN (Hh + (Wi : Int)) ∧ fI R p2 n2 c2 JL N4 eS eT eU eV eW eX eY eZ nk fH kf kg kh Ud UY n14 UZ ((Hh + (Wi : Int))) Hi xi Wi xj 0 0 AI)))))))) (AN (N4 * (n2 : Int)) ∧ Br (Hh = (N4 * (n2 : Int))) (Spec prog 13 #[] σ (AB R (CB fun t176 y => R (.returned (.bool t176)) y))) (R (.returned (.bool false)) σ))) : Zn R p2 n2 c2 JL N4 eS eT eU eV eW eX eY eZ nk fH kf kg kh Ud UY n14 UZ Hh Hi σ := M.zn h ok rfl fun _ _ => by kernel_rfl
theorem cg (h : Br (Jr < (n2 : Int)) (Pq p2 fun fJ fK => In Jr (n2 : Int) ∧ LS σ fJ (fK + Int.toNat Jr * 3) fun AJb n115 AJc => Spec prog 25 #[.slice AJb n115 AJc] σ (AB R (CS fun AJd n116 c116 y => Spec prog 24 #[.slice AJd n116 c116] y (AB R (CI .u32 fun AJe AI => Spec prog 23 #[.agg #[.int .u64 fH, .slice kf kg kh], .int .u32 AJe, .int .i64 N4] AI (AB R (fun z AZ => ∃ tn tp tq tr, z = (.tuple #[.slice tn tp tq, .int .i64 tr]) ∧ Br (tr ≠ 0) (qL R (aD fJ fK) n2 c2 JL N4 eS eT eU eV eW eX eY eZ nk fH kf kg kh Ud UY n14 UZ Hh Hi VL n17 VM Iu Jr AZ) (Spec prog 16 #[.slice tn tp tq, .int .i64 Hi] AZ (AB R (CB fun t128 Av => Bn t128 (qL R (aD fJ fK) n2 c2 JL N4 eS eT eU eV eW eX eY eZ nk fH kf kg kh Ud UY n14 UZ Hh Hi VL n17 VM Iu Jr Av) (Br ((n17 : Int) ≤ Iu) (R (.returned (.bool false)) Av) (Pq VL fun xl xm => In Iu (n17 : Int) ∧ LS Av xl (xm + Int.toNat Iu * 3) fun AJf n140 AJg => In Jr (n2 : Int) ∧ LS Av fJ (fK + Int.toNat Jr * 3) fun AJh n145 c145 => Spec prog 26 #[.slice AJf n140 AJg, .slice AJh n145 c145] Av (AB R (CB fun t146 Cg => Bn t146 (R (.returned (.bool false)) Cg) (In Iu (n17 : Int) ∧ LI .i64 Cg xl ((xm + Int.toNat Iu * 3) + 1) fun AJi => In Jr (n2 : Int) ∧ LI .i64 Cg fJ ((fK + Int.toNat Jr * 3) + 1) fun AJj => Br (AJi ≠ AJj) (R (.returned (.bool false)) Cg) (AN (Iu + 1) ∧ qL R (aD fJ fK) n2 c2 JL N4 eS eT eU eV eW eX eY eZ nk fH kf kg kh Ud UY n14 UZ Hh Hi (aD xl xm) n17 VM (Iu + 1) Jr Cg)))))))))))))))) (Br (Iu ≠ (n17 : Int)) (R (.returned (.bool false)) σ) (AN (Hi + 1) ∧ Zn R p2 n2 c2 JL N4 eS eT eU eV eW eX eY eZ nk fH kf kg kh Ud UY n14 UZ Hh (Hi + 1) σ))) : fI R p2 n2 c2 JL N4 eS eT eU eV eW eX eY eZ nk fH kf kg kh Ud UY n14 UZ Hh Hi VL n17 VM Iu Jr σ := M.zn h ok rfl fun _ _ => by kernel_rfl
theorem cn (h : AN (Jr + 1) ∧ fI R p2 n2 c2 JL N4 eS eT eU eV eW eX eY eZ nk fH kf kg kh Ud UY n14 UZ Hh Hi VL n17 VM Iu (Jr + 1) σ) : qL R p2 n2 c2 JL N4 eS eT eU eV eW eX eY eZ nk fH kf kg kh Ud UY n14 UZ Hh Hi VL n17 VM Iu Jr σ := M.zn h ok rfl fun _ _ => by kernel_rfl
end AT
namespace Ak
variable {q0 p2 OA : Option Addr} {x1 x8 Hw Kl : Int} {n2 c2 n25 M7 : Nat}
def M : Fw := ⟨prog, 15, f15, [20, 50, 51], [10], false, [(8, 7, true)], [], [(120, [(1, wI), (2, wL), (8, wI), (25, wL), (26, wI), (27, wI)]), (487, [(1, wI), (2, wL), (8, wI), (25, wL), (26, wI), (27, wI)]), (7783, [(1, wI), (2, wL), (8, wI), (25, wL), (26, wI), (27, wI)])]⟩
theorem ok : M.Ok := ⟨.cons call20 (.cons call50 (.cons call51 (AK.nil))), mixed, func15, by kernel_rfl⟩
def Km := M.pt 0
def QF := M.pt 1
def xn := M.pt 2
theorem start (h : Spec prog 20 #[.pointer q0, .int .i64 x1] σ (AB R (fun z y => ∃ xL pg xM xN, z = (.tuple #[.slice xL pg xM, .int .u64 xN]) ∧ Br ((pg : Int) ≠ (n2 : Int)) (R (.returned (.tuple #[])) y) (Pq q0 fun VK iH => LS y VK (iH + 2) fun OA n25 M7 => Km R x1 p2 n2 c2 0 OA n25 M7 (n25 : Int) 0 y)))) : Spec prog 15 #[.pointer q0, .int .i64 x1, .slice p2 n2 c2] σ R := M.start h ok
theorem HT (h : Br (Kl < Hw) (Pq OA fun JN S4 => In Kl (n25 : Int) ∧ ∃ AJk AJl AJm qB qC ADk ADl ADm xo, Dn σ JN (S4 + Int.toNat Kl * 5) [.slice AJk AJl AJm, .int .i64 qB, .int .u64 qC, .slice ADk ADl ADm, .map xo] ∧ ∀ D8 : Nat, Spec prog 50 #[.slice ADk ADl ADm, .int .i64 x1] σ (AB R (CB fun t34 y => Bn t34 (QF R x1 p2 n2 c2 x8 (aD JN S4) n25 M7 Hw Kl y) (AJ prog (Instr.lookup 127 (.map xo) (.int .i64 x1) false) y (CI .i64 fun ej AI => Spec prog 51 #[.int .i64 ej] AI (AB R (CB fun t40 AZ => Bn t40 (Pq p2 fun cI ju => In x8 (n2 : Int) ∧ LI .i64 AZ cI (ju + Int.toNat x8 * 1) fun JO => AJ prog (Instr.mapUpdate 127 (.map xo) (.int .i64 x1) (.int .i64 JO)) AZ (fun _ Av => xn R x1 (aD cI ju) n2 c2 x8 (aD JN S4) n25 M7 Hw Kl Av)) (xn R x1 p2 n2 c2 x8 (aD JN S4) n25 M7 Hw Kl AZ)))))))) (R (.returned (.tuple #[])) σ)) : Km R x1 p2 n2 c2 x8 OA n25 M7 Hw Kl σ := M.of h ok rfl
theorem US (h : AN (Kl + 1) ∧ Km R x1 p2 n2 c2 x8 OA n25 M7 Hw (Kl + 1) σ) : QF R x1 p2 n2 c2 x8 OA n25 M7 Hw Kl σ := M.of h ok rfl
theorem cp (h : AN (x8 + 1) ∧ QF R x1 p2 n2 c2 (x8 + 1) OA n25 M7 Hw Kl σ) : xn R x1 p2 n2 c2 x8 OA n25 M7 Hw Kl σ := M.of h ok rfl
end Ak
namespace As
variable {q0 p4 VT : Option Addr} {n4 c4 n16 We : Nat} {t5 t6 : Bool} {I7 Fc x9 : Int} {v24 : Value}
def M : Fw := ⟨prog, 17, f17, [51], [8], false, [], [(24, 127)], [(488, [(0, wQ), (4, wL), (5, wB), (6, wB), (16, wL), (17, wI), (18, wI)]), (501352, [(0, wQ), (4, wL), (5, wB), (6, wB), (9, wI), (16, wL), (17, wI), (18, wI), (24, wV)])]⟩
theorem ok : M.Ok := ⟨.cons call51 (AK.nil), mixed, func17, by kernel_rfl⟩
def Gp := M.pt 0
def QL := M.pt 1
theorem start (h : Pq q0 fun Hk J6 => LS σ Hk (J6 + 2) fun VT n16 We => Gp R (aD Hk J6) none 0 0 true false VT n16 We (n16 : Int) 0 σ) : Spec prog 17 #[.pointer q0] σ R := M.start h ok
theorem Fb (h : Br (Fc < I7) (Pq VT fun BI cG => In Fc (n16 : Int) ∧ ∃ AJn AJo AJp pz qA AJq AJr AJs ADn, Dn σ BI (cG + Int.toNat Fc * 5) [.slice AJn AJo AJp, .int .i64 pz, .int .u64 qA, .slice AJq AJr AJs, .map ADn] ∧ ∀ b8 : Nat, AJ prog (Instr.range 127 (.map ADn)) σ (fun z y => ∃ v24, v24 = z ∧ QL R q0 p4 n4 c4 t5 t6 0 (aD BI cG) n16 We I7 Fc v24 y)) (Bo t5 (R (.returned (.tuple #[.int .i64 1, .slice p4 n4 c4])) σ) (Bo t6 (R (.returned (.tuple #[.int .i64 6, .slice p4 n4 c4])) σ) (R (.returned (.tuple #[.int .i64 5, .slice p4 n4 c4])) σ)))) : Gp R q0 p4 n4 c4 t5 t6 VT n16 We I7 Fc σ := M.of h ok rfl
theorem PS (h : AJ prog (Instr.next v24 false 0) σ (fun v y => (v = (.tuple #[.bool false]) ∧ Pq q0 fun b35 o35 => LI .i64 y b35 (o35 + 1) fun J8 => Bo t5 (Bo t6 (Al y fun M6 => AJ prog (Builtin.append_ #[51, 51] 51 #[.slice p4 n4 c4, (.slice (aD M6 0) 1 1)]) (Hp.set y M6 (.cells #[(.bool (decide (J8 ≤ x9)))] 4 (0, 0))) (CS fun Rp n50 S5 AI => AN (Fc + 1) ∧ Gp R (aD b35 o35) Rp n50 S5 ((decide (J8 ≤ x9))) true VT n16 We I7 (Fc + 1) AI)) (Al y fun M6 => AJ prog (Builtin.append_ #[51, 51] 51 #[.slice p4 n4 c4, (.slice (aD M6 0) 1 1)]) (Hp.set y M6 (.cells #[(.bool (decide (J8 ≤ x9)))] 4 (0, 0))) (CS fun Rp n50 S5 AI => AN (Fc + 1) ∧ Gp R (aD b35 o35) Rp n50 S5 ((decide (J8 ≤ x9))) ((decide (J8 ≤ x9))) VT n16 We I7 (Fc + 1) AI))) (Bo t6 (Al y fun M6 => AJ prog (Builtin.append_ #[51, 51] 51 #[.slice p4 n4 c4, (.slice (aD M6 0) 1 1)]) (Hp.set y M6 (.cells #[(.bool (decide (J8 ≤ x9)))] 4 (0, 0))) (CS fun Rp n50 S5 AI => AN (Fc + 1) ∧ Gp R (aD b35 o35) Rp n50 S5 false true VT n16 We I7 (Fc + 1) AI)) (Al y fun M6 => AJ prog (Builtin.append_ #[51, 51] 51 #[.slice p4 n4 c4, (.slice (aD M6 0) 1 1)]) (Hp.set y M6 (.cells #[(.bool (decide (J8 ≤ x9)))] 4 (0, 0))) (CS fun Rp n50 S5 AI => AN (Fc + 1) ∧ Gp R (aD b35 o35) Rp n50 S5 false ((decide (J8 ≤ x9))) VT n16 We I7 (Fc + 1) AI)))) ∨ (∃ E8 py, v = (.tuple #[.bool true, .int .i64 E8, .int .i64 py]) ∧ AJ prog (Instr.entry v24) y (fun z AI => ∃ AJt ADq, z = (.tuple #[.int .i64 AJt, .int .i64 ADq]) ∧ Spec prog 51 #[.int .i64 ADq] AI (AB R (CB fun t30 AZ => Bo t30 (AN (x9 + 1) ∧ QL R q0 p4 n4 c4 t5 t6 (x9 + 1) VT n16 We I7 Fc v24 AZ) (QL R q0 p4 n4 c4 t5 t6 x9 VT n16 We I7 Fc v24 AZ))))))) : QL R q0 p4 n4 c4 t5 t6 x9 VT n16 We I7 Fc v24 σ := M.of h ok rfl
end As
namespace JX
variable {q0 : Option Addr} {s1 : ByteArray}
def M : Fw := ⟨prog, 29, f29, [61, 62], [], false, [], [], []⟩
theorem ok : M.Ok := ⟨.cons call61 (.cons call62 (AK.nil)), mixed, func29, by kernel_rfl⟩
theorem start (h : Spec prog 61 #[.string s1] σ (AB R (CB fun t10 y => Bn t10 (R (.returned (.tuple #[.slice none 0 0, .int .u64 0, .int .i64 120])) y) (Pq q0 fun IJ kS => LQ y IJ kS fun pa => Pq pa fun KY UQ => LQ y KY UQ fun q18 => Pq q18 fun UL iG => LB y UL (iG + 1) fun t21 => Bo t21 (R (.returned (.tuple #[.slice none 0 0, .int .u64 0, .int .i64 60])) y) (Spec prog 62 #[(.pointer (aD IJ kS)), .string s1] y (AB R (fun z AI => ∃ E8 er, z = (.tuple #[.int .i64 E8, .bool er]) ∧ Bn er (R (.returned (.tuple #[.slice none 0 0, .int .u64 0, .int .i64 0])) AI) (LS AI IJ (kS + 1) fun p34 n34 c34 => Pq p34 fun pF pG => In E8 (n34 : Int) ∧ LS AI pF ((pG + Int.toNat E8 * 3) + 1) fun nU n38 nV => LS AI IJ (kS + 1) fun UR n43 VN => Pq UR fun WY z8 => In E8 (n43 : Int) ∧ LI .u64 AI WY ((z8 + Int.toNat E8 * 3) + 2) fun Rq => Al AI fun S6 => AJ prog (Builtin.append_ #[84, 84] 84 #[(.slice (aD S6 0) 0 0), .slice nU n38 nV]) (Hp.set AI S6 (.cells #[] 5 (0, 0))) (CS fun kI n39 Rs AZ => Kp [WY, IJ] (Hp.set AI S6 (.cells #[] 5 (0, 0))) AZ ∧ R (.returned (.tuple #[.slice kI n39 Rs, .int .u64 Rq, .int .i64 0])) AZ))))))))) : Spec prog 29 #[.pointer q0, .string s1] σ R := M.start h ok
end JX
namespace TB
variable {s0 : ByteArray}
def M : Fw := ⟨prog, 61, f61, [], [], false, [], [], []⟩
theorem ok : M.Ok := ⟨AK.nil, mixed, func61, by kernel_rfl⟩
theorem start (h : Br ((1 : Int) ≤ ((ByteArray.size s0 : Nat) : Int)) (R (.returned (.bool (decide ((((ByteArray.size s0 : Nat) : Int) : Int) ≤ 64)))) σ) (R (.returned (.bool false)) σ)) : Spec prog 61 #[.string s0] σ R := M.start h ok
end TB
namespace Cz
variable {sn q1a : Option Addr} {I6 Hl YK ep x3 : Int}
def M : Fw := ⟨prog, 101, f101, [188, 189], [1], false, [(4, 22, true), (6, 18, false)], [], [(480, [(1, .X 201 [.Q, .I .i64, .I .i64]), (3, wI)])]⟩
theorem ok : M.Ok := ⟨.cons call188 (.cons call189 (AK.nil)), mixed, func101, by kernel_rfl⟩
def Am := M.pt 0
theorem start (h : ∀ b1 : Nat, Br (0 ≤ Hl) (R (.returned (.int .i64 131)) σ) (Am R sn I6 Hl 0 σ)) : Spec prog 101 #[.agg #[.pointer sn, .int .i64 I6, .int .i64 Hl]] σ R := M.start h ok
theorem BB (h : Pq q1a fun D8 LF => LS σ D8 (LF + 1) fun Jq n12 c12 => Br (x3 < (n12 : Int)) (LS σ D8 (LF + 1) fun sw n20 c20 => Pq sw fun NW WL => In x3 (n20 : Int) ∧ LI .i64 σ NW (WL + Int.toNat x3 * 3) fun Kk => Br (Kk < YK) (AN (x3 + 1) ∧ Am R (aD D8 LF) YK ep (x3 + 1) σ) (LS σ D8 (LF + 1) fun Ra n37 c37 => Spec prog 189 #[.int .i64 YK] σ (AB R (CS fun UR n43 VN y => Kp [D8] σ y ∧ Al y fun WY => Spec prog 188 #[.slice Ra n37 c37, .int .i64 x3, (.slice (aD WY 0) 1 1)] (Hp.set y WY (.cells #[.int .i64 YK, .int .i64 1, .slice UR n43 VN] 196 (0, 0))) (AB R (CS fun cU n46 c46 AI => AJ prog (Instr.storeAt 39 (.pointer (aD D8 (LF + 1))) (.slice cU n46 c46)) AI (fun _ AZ => R (.returned (.int .i64 0)) AZ))))))) (LS σ D8 (LF + 1) fun Ra n37 c37 => Spec prog 189 #[.int .i64 YK] σ (AB R (CS fun UR n43 VN y => Kp [D8] σ y ∧ Al y fun WY => Spec prog 188 #[.slice Ra n37 c37, .int .i64 x3, (.slice (aD WY 0) 1 1)] (Hp.set y WY (.cells #[.int .i64 YK, .int .i64 1, .slice UR n43 VN] 196 (0, 0))) (AB R (CS fun cU n46 c46 AI => AJ prog (Instr.storeAt 39 (.pointer (aD D8 (LF + 1))) (.slice cU n46 c46)) AI (fun _ AZ => R (.returned (.int .i64 0)) AZ))))))) : Am R q1a YK ep x3 σ := M.bm h ok rfl fun _ => by kernel_rfl
end Cz
namespace CY
variable {p0 iO cR p9c : Option Addr} {n0 c0 b1 iP iQ b5 cP cQ n9c c9c : Nat} {Zk JL x8 x9a wM Db : Int} {v6 : Value}
def M : Fw := ⟨prog, 108, f108, [44, 195, 196], [2, 7, 9], false, [(11, 8, false)], [], [(2000, [(1, wA), (2, .X 41 [.I .u64, .L]), (5, wA), (6, wV), (7, .X 41 [.I .u64, .L]), (8, wU)]), (512592, [(1, wA), (2, .X 41 [.I .u64, .L]), (5, wA), (6, wV), (7, .X 41 [.I .u64, .L]), (8, wU), (9, .X 196 [.I .i64, .I .i64, .L]), (10, wU)])]⟩
theorem ok : M.Ok := ⟨.cons call44 (.cons call195 (.cons call196 (AK.nil))), mixed, func108, by kernel_rfl⟩
def Km := M.pt 0
def MQ := M.pt 1
theorem start (h : Al σ fun b1 => ∀ b2 : Nat, Al (Hp.set σ b1 (.cells #[.slice p0 n0 c0] 84 (0, 0))) fun b4 => Al (Hp.set (Hp.set σ b1 (.cells #[.slice p0 n0 c0] 84 (0, 0))) b4 (.cells #[.int .i64 0] 3 (0, 0))) fun b5 => AJ prog (Instr.storeAt 3 (.pointer (aD b4 0)) (.int .i64 0)) (Hp.set (Hp.set (Hp.set σ b1 (.cells #[.slice p0 n0 c0] 84 (0, 0))) b4 (.cells #[.int .i64 0] 3 (0, 0))) b5 (.cells #[.bool false] 4 (0, 0))) (fun _ y => AJ prog (Instr.storeAt 4 (.pointer (aD b5 0)) (.bool false)) y (fun _ AI => Spec prog 195 #[.int .u64 18446744073709551615, (.pointer (aD b1 0)), (.pointer (aD b4 0)), (.pointer (aD b5 0))] AI (AB R (CI .u64 fun Hh AZ => ∀ b7 : Nat, Spec prog 195 #[.int .u64 16, (.pointer (aD b1 0)), (.pointer (aD b4 0)), (.pointer (aD b5 0))] AZ (AB R (CI .u64 fun Fc Av => Km R b1 0 none 0 0 b5 ((.func (.func 195) #[] #[(.pointer (aD b1 0)), (.pointer (aD b4 0)), (.pointer (aD b5 0))])) Hh none 0 0 Fc Av))))))) : Spec prog 108 #[.slice p0 n0 c0] σ R := M.start h ok
theorem HT (h : Br (0 < x8) (LB σ b5 0 fun t22 => Bn t22 (∃ (f28 : Nat) (tu tw : Array Value), v6 = .func (.func f28) tu tw ∧ Enters prog f28 ∧ Spec prog f28 (tu ++ #[.int .u64 16] ++ tw) σ (AB R (CI .u64 fun Gq y => Df (IntKind.i64.wrap Gq) fun UP => ∃ (f31 : Nat) (Wc Wd : Array Value), v6 = .func (.func f31) Wc Wd ∧ Enters prog f31 ∧ Spec prog f31 (Wc ++ #[.int .u64 3] ++ Wd) y (AB R (CI .u64 fun Fp AI => Df (IntKind.i64.wrap Fp) fun sk => ∀ b9 : Nat, ∃ (f35 : Nat) (tx tz : Array Value), v6 = .func (.func f35) tx tz ∧ Enters prog f35 ∧ Spec prog f35 (tx ++ #[.int .u64 64] ++ tz) AI (AB R (CI .u64 fun Za AZ => MQ R b1 Zk iO iP iQ b5 v6 JL cR cP cQ x8 UP sk none 0 0 Za AZ))))))) (Spec prog 44 #[.agg #[.int .u64 JL, .slice cR cP cQ]] σ (AB R (fun z y => ∃ Wj Wk Wm Uf, z = (.tuple #[.slice Wj Wk Wm, .int .i64 Uf]) ∧ LB y b5 0 fun t63 => Bo t63 (R (.returned (.tuple #[.agg #[.int .u64 0, .slice none 0 0], .int .i64 130])) y) (Br (Uf ≠ 0) (R (.returned (.tuple #[.agg #[.int .u64 0, .slice none 0 0], .int .i64 130])) y) (LS y b1 0 fun nZ na c70 => Spec prog 196 #[.slice Wj Wk Wm, .slice nZ na c70] y (AB R (CB fun t71 AI => Bn t71 (R (.returned (.tuple #[.agg #[.int .u64 0, .slice none 0 0], .int .i64 130])) AI) (R (.returned (.tuple #[.agg #[.int .u64 JL, .slice cR cP cQ], .int .i64 0])) AI))))))))) (Spec prog 44 #[.agg #[.int .u64 JL, .slice cR cP cQ]] σ (AB R (fun z y => ∃ Wj Wk Wm Uf, z = (.tuple #[.slice Wj Wk Wm, .int .i64 Uf]) ∧ LB y b5 0 fun t63 => Bo t63 (R (.returned (.tuple #[.agg #[.int .u64 0, .slice none 0 0], .int .i64 130])) y) (Br (Uf ≠ 0) (R (.returned (.tuple #[.agg #[.int .u64 0, .slice none 0 0], .int .i64 130])) y) (LS y b1 0 fun nZ na c70 => Spec prog 196 #[.slice Wj Wk Wm, .slice nZ na c70] y (AB R (CB fun t71 AI => Bn t71 (R (.returned (.tuple #[.agg #[.int .u64 0, .slice none 0 0], .int .i64 130])) AI) (R (.returned (.tuple #[.agg #[.int .u64 JL, .slice cR cP cQ], .int .i64 0])) AI))))))))) : Km R b1 Zk iO iP iQ b5 v6 JL cR cP cQ x8 σ := M.zn h ok rfl fun _ _ => by kernel_rfl
theorem I8 (h : Br (0 < Db) (LB σ b5 0 fun t39 => Bn t39 (∃ (f47 : Nat) (uA uB : Array Value), v6 = .func (.func f47) uA uB ∧ Enters prog f47 ∧ Spec prog f47 (uA ++ #[.int .u64 4294967295] ++ uB) σ (AB R (CI .u64 fun Rq y => Df (IntKind.u32.wrap Rq) fun JO => Al y fun M6 => AJ prog (Builtin.append_ #[194, 194] 194 #[.slice p9c n9c c9c, (.slice (aD M6 0) 1 1)]) (Hp.set y M6 (.cells #[.int .u32 JO] 70 (0, 0))) (CS fun Rp n50 S5 AI => Df (IntKind.u64.wrap (Db - 1)) fun w7 => MQ R b1 Zk iO iP iQ b5 v6 JL cR cP cQ x8 x9a wM Rp n50 S5 w7 AI)))) (Al σ fun VR => AJ prog (Builtin.append_ #[39, 39] 39 #[.slice cR cP cQ, (.slice (aD VR 0) 1 1)]) (Hp.set σ VR (.cells #[.int .i64 x9a, .int .i64 wM, .slice p9c n9c c9c] 196 (0, 0))) (CS fun p56 n56 c56 y => Df (IntKind.u64.wrap (x8 - 1)) fun Hw => Km R b1 Zk iO iP iQ b5 v6 JL p56 n56 c56 Hw y))) (Al σ fun VR => AJ prog (Builtin.append_ #[39, 39] 39 #[.slice cR cP cQ, (.slice (aD VR 0) 1 1)]) (Hp.set σ VR (.cells #[.int .i64 x9a, .int .i64 wM, .slice p9c n9c c9c] 196 (0, 0))) (CS fun p56 n56 c56 y => Df (IntKind.u64.wrap (x8 - 1)) fun Hw => Km R b1 Zk iO iP iQ b5 v6 JL p56 n56 c56 Hw y))) : MQ R b1 Zk iO iP iQ b5 v6 JL cR cP cQ x8 x9a wM p9c n9c c9c Db σ := M.of3 h ok rfl fun _ _ _ => by kernel_rfl
end CY
namespace LU
variable {x0 : Int}
def M : Fw := ⟨prog, 113, f113, [211], [], false, [], [], []⟩
theorem ok : M.Ok := ⟨.cons call211 (AK.nil), mixed, func113, by kernel_rfl⟩
theorem start (h : Spec prog 211 #[.int .u64 x0] σ (AB R (CI .i64 fun x7 y => R (.returned (.int .i64 x7)) y))) : Spec prog 113 #[.int .u64 x0] σ R := M.start h ok
end LU
namespace OK
variable {q0 : Option Addr}
def M : Fw := ⟨prog, 131, f131, [], [], false, [(1, 26, true)], [], []⟩
theorem ok : M.Ok := ⟨AK.nil, mixed, func131, by kernel_rfl⟩
theorem start (h : Pq q0 fun b4 o4 => LS σ b4 (o4 + 3) fun p6 n6 c6 => Br (0 < (n6 : Int)) (LS σ b4 (o4 + 3) fun N9 n13 Ox => LS σ b4 (o4 + 3) fun VL n17 VM => AN ((n17 : Int) - 1) ∧ Pq N9 fun BI cG => In (((n17 : Int) - 1)) (n13 : Int) ∧ LI .i64 σ BI (cG + Int.toNat ((n17 : Int) - 1) * 1) fun IE => LI .i64 σ b4 (o4 + 4) fun M4 => R (.returned (.bool (decide (IE = M4)))) σ) (R (.returned (.bool false)) σ)) : Spec prog 131 #[.pointer q0] σ R := M.start h ok
end OK
namespace IU
variable {q0 p2 : Option Addr} {s1 : ByteArray} {n2 c2 : Nat}
def M : Fw := ⟨prog, 135, f135, [221], [], false, [], [], []⟩
theorem ok : M.Ok := ⟨.cons call221 (AK.nil), mixed, func135, by kernel_rfl⟩
theorem start (h : Al σ fun b3 => Al (Hp.set σ b3 (.cells #[.pointer q0] 106 (0, 0))) fun b4 => Al (Hp.set (Hp.set σ b3 (.cells #[.pointer q0] 106 (0, 0))) b4 (.cells #[.string s1] 9 (0, 0))) fun b5 => LQ (Hp.set (Hp.set (Hp.set σ b3 (.cells #[.pointer q0] 106 (0, 0))) b4 (.cells #[.string s1] 9 (0, 0))) b5 (.cells #[.slice p2 n2 c2] 84 (0, 0))) b3 0 fun q9 => Spec prog 221 #[.pointer q9, (.func (.func 228) #[] #[(.pointer (aD b4 0)), (.pointer (aD b3 0)), (.pointer (aD b5 0))]), (.func (.func 227) #[] #[(.pointer (aD b3 0)), (.pointer (aD b4 0)), (.pointer (aD b5 0))]), (.func (.func 227) #[] #[(.pointer (aD b3 0)), (.pointer (aD b4 0)), (.pointer (aD b5 0))])] (Hp.set (Hp.set (Hp.set σ b3 (.cells #[.pointer q0] 106 (0, 0))) b4 (.cells #[.string s1] 9 (0, 0))) b5 (.cells #[.slice p2 n2 c2] 84 (0, 0))) (AB R (CI .i64 fun E7 y => R (.returned (.int .i64 E7)) y))) : Spec prog 135 #[.pointer q0, .string s1, .slice p2 n2 c2] σ R := M.start h ok
end IU
namespace F0
variable {x0 x4 : Int} {s3 : ByteArray}
def M : Fw := ⟨prog, 147, f147, [], [], false, [], [], [(464, [(0, wI), (3, wT), (4, wI)])]⟩
theorem ok : M.Ok := ⟨AK.nil, mixed, func147, by kernel_rfl⟩
def Bu := M.pt 0
theorem start (h : Bu R x0 (ByteArray.mk #[]) 0 σ) : Spec prog 147 #[.int .i64 x0] σ R := M.start h ok
theorem BF (h : Br (x4 < 8) (10 ≠ (0 : Int) ∧ Df (Int.tmod x0 10) fun Db => AN (48 + Db) ∧ Df (IntKind.u8.wrap (48 + Db)) fun DU => Al σ fun IJ => AJ prog (convert 84 9 (.slice (aD IJ 0) 1 1)) (Hp.set σ IJ (.cells #[.int .u8 DU] 5 (0, 0))) (CT fun cE y => (ByteArray.size cE + ByteArray.size s3 ≤ 9223372036854775807) ∧ 10 ≠ (0 : Int) ∧ Df (IntKind.i64.wrap (Int.tdiv x0 10)) fun Fc => AN (x4 + 1) ∧ Bu R Fc (cE ++ s3) (x4 + 1) y)) (R (.returned (.string s3)) σ)) : Bu R x0 s3 x4 σ := M.of h ok rfl
end F0
namespace Ey
variable {q0 p5 : Option Addr} {s1 : ByteArray} {n5 c5 : Nat} {uC : Value}
def M : Fw := ⟨prog, 174, f174, [92, 93], [], false, [], [(16, 186)], [(488, [(1, wT), (5, wL), (16, wV)])]⟩
theorem ok : M.Ok := ⟨.cons call92 (.cons call93 (AK.nil)), mixed, func174, by kernel_rfl⟩
def GR := M.pt 0
theorem start (h : Pq q0 fun b8 o8 => LB σ b8 (o8 + 1) fun t10 => Bn t10 (R (.returned (.slice none 0 0)) σ) (LM σ b8 o8 fun m15 => AJ prog (Instr.range 186 (.map m15)) σ (fun z y => ∃ uC, uC = z ∧ GR R s1 none 0 0 uC y))) : Spec prog 174 #[.pointer q0, .string s1] σ R := M.start h ok
theorem GS (h : AJ prog (Instr.next uC false 0) σ (fun v y => (v = (.tuple #[.bool false]) ∧ Spec prog 93 #[.slice p5 n5 c5] y (AB R (fun z AI => z = (.tuple #[]) ∧ R (.returned (.slice p5 n5 c5)) AI))) ∨ (∃ AJu xU, v = (.tuple #[.bool true, .string AJu, .pointer xU]) ∧ AJ prog (Instr.entry uC) y (fun z AI => ∃ ez AJv, z = (.tuple #[.string ez, .pointer AJv]) ∧ Spec prog 92 #[.string ez, .string s1] AI (AB R (CB fun t23 AZ => Bo t23 (Al AZ fun PQ => AJ prog (Builtin.append_ #[97, 97] 97 #[.slice p5 n5 c5, (.slice (aD PQ 0) 1 1)]) (Hp.set AZ PQ (.cells #[.string ez] 9 (0, 0))) (CS fun VS n27 Rt Av => GR R s1 VS n27 Rt uC Av)) (GR R s1 p5 n5 c5 uC AZ))))))) : GR R s1 p5 n5 c5 uC σ := M.of h ok rfl
end Ey
namespace IV
variable {q0 p6 : Option Addr} {s1 : ByteArray} {n6 c6 : Nat} {x7 x8 DU : Int}
def M : Fw := ⟨prog, 179, f179, [148, 149, 150, 237], [], false, [], [], [(976, [(0, wQ), (1, wT), (6, wL), (7, wI), (8, wI)]), (252, [(0, wQ), (1, wT), (6, wL), (7, wI)]), (4048, [(0, wQ), (1, wT), (6, wL), (7, wI), (12, wI)]), (4051, [(0, wQ), (1, wT), (6, wL), (7, wI), (12, wI)])]⟩
theorem ok : M.Ok := ⟨.cons call148 (.cons call149 (.cons call150 (.cons call237 (AK.nil)))), mixed, func179, by kernel_rfl⟩
def xp := M.pt 0
def Nc := M.pt 1
def ADr := M.pt 2
def Ev := M.pt 3
theorem start (h : (ByteArray.size s1 + ByteArray.size (ByteArray.mk #[47]) ≤ 9223372036854775807) ∧ Spec prog 149 #[.pointer q0, (.string (s1 ++ (ByteArray.mk #[47])))] σ (AB R (CS fun Zb n19 YX y => xp R q0 s1 Zb n19 YX 0 0 y))) : Spec prog 179 #[.pointer q0, .string s1] σ R := M.start h ok
theorem qM (h : Br (x8 < (n6 : Int)) (Pq p6 fun JN S4 => In x8 (n6 : Int) ∧ LT σ JN (S4 + Int.toNat x8 * 1) fun s30 => (ByteArray.size s1 + ByteArray.size (ByteArray.mk #[47, 99]) ≤ 9223372036854775807) ∧ Spec prog 150 #[.string s30, (.string (s1 ++ (ByteArray.mk #[47, 99])))] σ (AB R (CI .i64 fun sy y => AN (x8 + 1) ∧ xp R q0 s1 (aD JN S4) n6 c6 (if x7 < sy then sy else x7) (x8 + 1) y))) ((ByteArray.size s1 + ByteArray.size (ByteArray.mk #[47, 110, 101, 119]) ≤ 9223372036854775807) ∧ Spec prog 237 #[.pointer q0, (.string (s1 ++ (ByteArray.mk #[47, 110, 101, 119])))] σ (AB R (fun z y => ∃ AJw ADs, z = (.tuple #[.int .i64 AJw, .bool ADs]) ∧ Bo ADs ((ByteArray.size s1 + ByteArray.size (ByteArray.mk #[47, 110, 101, 119]) ≤ 9223372036854775807) ∧ Spec prog 148 #[.pointer q0, (.string (s1 ++ (ByteArray.mk #[47, 110, 101, 119])))] y (AB R (CI .i64 fun ef AI => Br (ef ≠ 0) (R (.returned (.tuple #[.int .i64 0, .int .i64 ef])) AI) (Nc R q0 s1 p6 n6 c6 x7 AI)))) (Nc R q0 s1 p6 n6 c6 x7 y))))) : xp R q0 s1 p6 n6 c6 x7 x8 σ := M.of h ok rfl
theorem JB (h : ADr R q0 s1 p6 n6 c6 x7 0 σ) : Nc R q0 s1 p6 n6 c6 x7 σ := M.of h ok rfl
theorem qN (h : Br (DU < (n6 : Int)) (Pq p6 fun M9 iU => In DU (n6 : Int) ∧ LT σ M9 (iU + Int.toNat DU * 1) fun s59 => (ByteArray.size s1 + ByteArray.size (ByteArray.mk #[47, 99]) ≤ 9223372036854775807) ∧ In DU (n6 : Int) ∧ LT σ M9 (iU + Int.toNat DU * 1) fun s66 => (ByteArray.size s1 + ByteArray.size (ByteArray.mk #[47, 115]) ≤ 9223372036854775807) ∧ Spec prog 150 #[.string s59, (.string (s1 ++ (ByteArray.mk #[47, 99])))] σ (AB R (CI .i64 fun wS y => Kp [M9] σ y ∧ Spec prog 150 #[.string s66, (.string (s1 ++ (ByteArray.mk #[47, 115])))] y (AB R (CI .i64 fun x69 AI => Br (1 ≤ wS) (Br (wS < x7) (In DU (n6 : Int) ∧ LT AI M9 (iU + Int.toNat DU * 1) fun s90 => Spec prog 148 #[.pointer q0, .string s90] AI (AB R (CI .i64 fun uD AZ => Br (uD ≠ 0) (R (.returned (.tuple #[.int .i64 0, .int .i64 uD])) AZ) (Ev R q0 s1 (aD M9 iU) n6 c6 x7 DU AZ)))) (Br (1 ≤ x69) (Br (x69 ≤ x7) (In DU (n6 : Int) ∧ LT AI M9 (iU + Int.toNat DU * 1) fun s90 => Spec prog 148 #[.pointer q0, .string s90] AI (AB R (CI .i64 fun uD AZ => Br (uD ≠ 0) (R (.returned (.tuple #[.int .i64 0, .int .i64 uD])) AZ) (Ev R q0 s1 (aD M9 iU) n6 c6 x7 DU AZ)))) (Ev R q0 s1 (aD M9 iU) n6 c6 x7 DU AI)) (Ev R q0 s1 (aD M9 iU) n6 c6 x7 DU AI))) (Br (1 ≤ x69) (Br (x69 ≤ x7) (In DU (n6 : Int) ∧ LT AI M9 (iU + Int.toNat DU * 1) fun s90 => Spec prog 148 #[.pointer q0, .string s90] AI (AB R (CI .i64 fun uD AZ => Br (uD ≠ 0) (R (.returned (.tuple #[.int .i64 0, .int .i64 uD])) AZ) (Ev R q0 s1 (aD M9 iU) n6 c6 x7 DU AZ)))) (Ev R q0 s1 (aD M9 iU) n6 c6 x7 DU AI)) (Ev R q0 s1 (aD M9 iU) n6 c6 x7 DU AI))))))) (R (.returned (.tuple #[.int .i64 x7, .int .i64 0])) σ)) : ADr R q0 s1 p6 n6 c6 x7 DU σ := M.of h ok rfl
end IV
namespace G4
variable {q0 p4 : Option Addr} {x1 x5 x6 : Int} {n4 c4 : Nat}
def M : Fw := ⟨prog, 183, f183, [149, 150, 180], [], false, [(8, 18, false)], [], [(4048, [(0, wQ), (1, wI), (4, wL), (5, wI)]), (4051, [(0, wQ), (1, wI), (4, wL), (5, wI)]), (518458, [(0, wQ), (1, wI), (4, wL), (5, wI), (6, wI)])]⟩
theorem ok : M.Ok := ⟨.cons call149 (.cons call150 (.cons call180 (AK.nil))), mixed, func183, by kernel_rfl⟩
def Am := M.pt 0
def AJx := M.pt 1
def QF := M.pt 2
theorem start (h : Pq q0 fun D8 LF => LQ σ D8 LF fun Ud => LT σ D8 (LF + 1) fun s16 => (ByteArray.size s16 + ByteArray.size (ByteArray.mk #[47]) ≤ 9223372036854775807) ∧ Spec prog 149 #[.pointer Ud, (.string (s16 ++ (ByteArray.mk #[47])))] σ (AB R (CS fun eR n18 nI y => AJ prog (Instr.storeAt 3 (.pointer (aD D8 (LF + 4))) (.int .i64 0)) y (fun _ AI => AJ prog (Instr.storeAt 3 (.pointer (aD D8 (LF + 2))) (.int .i64 0)) AI (fun _ AZ => AJ prog (Instr.storeAt 3 (.pointer (aD D8 (LF + 3))) (.int .i64 (-1))) AZ (fun _ Av => AJ prog (Instr.storeAt 3 (.pointer (aD D8 (LF + 5))) (.int .i64 0)) Av (fun _ Cg => Am R (aD D8 LF) x1 eR n18 nI 0 Cg))))))) : Spec prog 183 #[.pointer q0, .int .i64 x1] σ R := M.start h ok
theorem BB (h : Br (x5 < (n4 : Int)) (Pq q0 fun Nb cX => LI .i64 σ Nb (cX + 4) fun LK => Pq p4 fun WN YR => In x5 (n4 : Int) ∧ LT σ WN (YR + Int.toNat x5 * 1) fun s45 => LT σ Nb (cX + 1) fun s49 => (ByteArray.size s49 + ByteArray.size (ByteArray.mk #[47, 99]) ≤ 9223372036854775807) ∧ Spec prog 150 #[.string s45, (.string (s49 ++ (ByteArray.mk #[47, 99])))] σ (AB R (CI .i64 fun YS y => Kp [Nb] σ y ∧ AJ prog (Instr.storeAt 3 (.pointer (aD Nb (cX + 4))) (.int .i64 (if LK < YS then YS else LK))) y (fun _ AI => In x5 (n4 : Int) ∧ LT AI WN (YR + Int.toNat x5 * 1) fun s58 => LT AI Nb (cX + 1) fun s62 => (ByteArray.size s62 + ByteArray.size (ByteArray.mk #[47, 115]) ≤ 9223372036854775807) ∧ Spec prog 150 #[.string s58, (.string (s62 ++ (ByteArray.mk #[47, 115])))] AI (AB R (CI .i64 fun x64 AZ => Br (0 < x64) (LI .i64 AZ Nb (cX + 3) fun wx => Br (0 ≤ wx) (LI .i64 AZ Nb (cX + 5) fun tG => AN (tG + 1) ∧ AJ prog (Instr.storeAt 3 (.pointer (aD Nb (cX + 5))) (.int .i64 (tG + 1))) AZ (fun _ Av => QF R (aD Nb cX) x1 (aD WN YR) n4 c4 x5 x64 Av)) (QF R (aD Nb cX) x1 (aD WN YR) n4 c4 x5 x64 AZ)) (AJx R (aD Nb cX) x1 (aD WN YR) n4 c4 x5 AZ))))))) (Pq q0 fun xq xr => LI .i64 σ xq (xr + 3) fun AJz => Br (AJz < 0) (LI .i64 σ xq (xr + 4) fun qO => AN ((if x1 < qO then qO else x1) + 1) ∧ AJ prog (Instr.storeAt 3 (.pointer (aD xq (xr + 2))) (.int .i64 ((if x1 < qO then qO else x1) + 1))) σ (fun _ y => R (.returned (.tuple #[])) y)) (R (.returned (.tuple #[])) σ))) : Am R q0 x1 p4 n4 c4 x5 σ := M.of h ok rfl
end G4
namespace IW
variable {En Zk xT Eb DU : Int} {HF iO fD Ou : Option Addr} {GL HG iP iQ fE fF n10 Hj : Nat}
def M : Fw := ⟨prog, 186, f186, [], [1, 2, 3, 5], false, [], [], [(232, [(2, .X 41 [.I .u64, .L]), (3, .X 41 [.I .u64, .L]), (10, wL), (11, wI), (12, wI)])]⟩
theorem ok : M.Ok := ⟨AK.nil, mixed, func186, by kernel_rfl⟩
def A4 := M.pt 0
theorem start (h : ∀ b1 : Nat, ∀ b2 : Nat, ∀ b3 : Nat, A4 R 0 none 0 0 En none 0 0 HF GL HG (GL : Int) 0 σ) : Spec prog 186 #[.agg #[.int .u64 En, .slice HF GL HG]] σ R := M.start h ok
theorem AW (h : Br (DU < Eb) (Pq Ou fun Hk J6 => In DU (n10 : Int) ∧ ∃ kO Wa kP kQ kR, Dn σ Hk (J6 + Int.toNat DU * 3) [.int .i64 kO, .int .i64 Wa, .slice kP kQ kR] ∧ ∀ b5 : Nat, Al σ fun KY => AJ prog (Builtin.append_ #[194, 194] 194 #[(.slice (aD KY 0) 0 0), .slice kP kQ kR]) (Hp.set σ KY (.cells #[] 70 (0, 0))) (CS fun Zb n19 YX y => Al y fun M5 => AJ prog (Builtin.append_ #[39, 39] 39 #[.slice fD fE fF, (.slice (aD M5 0) 1 1)]) (Hp.set y M5 (.cells #[.int .i64 kO, .int .i64 Wa, .slice Zb n19 YX] 196 (0, 0))) (CS fun OA n25 M7 AI => AN (DU + 1) ∧ A4 R Zk iO iP iQ xT OA n25 M7 (aD Hk J6) n10 Hj Eb (DU + 1) AI))) (R (.returned (.agg #[.int .u64 xT, .slice fD fE fF])) σ)) : A4 R Zk iO iP iQ xT fD fE fF Ou n10 Hj Eb DU σ := M.zn h ok rfl fun _ _ => by kernel_rfl
end IW
namespace IX
variable {sn : Option Addr} {I6 Hl x1 x2 : Int}
def M : Fw := ⟨prog, 190, f190, [], [3], false, [(3, 13, true), (5, 10, true)], [], []⟩
theorem ok : M.Ok := ⟨AK.nil, mixed, func190, by kernel_rfl⟩
theorem start (h : ∀ b3 : Nat, Br (Hl < 0) (R (.returned (.int .i64 131)) σ) (Pq sn fun Hk J6 => LS σ Hk (J6 + 1) fun VT n16 We => Pq VT fun UL iG => In Hl (n16 : Int) ∧ LI .i64 σ UL ((iG + Int.toNat Hl * 3) + 1) fun IE => Br (IE ≠ x1) (R (.returned (.int .i64 132)) σ) (LS σ Hk (J6 + 1) fun xD n28 c28 => Pq xD fun kG kH => In Hl (n28 : Int) ∧ AJ prog (Instr.storeAt 3 (.pointer (aD kG ((kH + Int.toNat Hl * 3) + 1))) (.int .i64 x2)) σ (fun _ y => R (.returned (.int .i64 0)) y)))) : Spec prog 190 #[.agg #[.pointer sn, .int .i64 I6, .int .i64 Hl], .int .i64 x1, .int .i64 x2] σ R := M.start h ok
end IX
namespace bytes_Equal
variable {p0 p1 : Option Addr} {n0 c0 n1 c1 : Nat}
def M : Fw := ⟨prog, 196, f196, [], [], false, [], [], []⟩
theorem ok : M.Ok := ⟨AK.nil, mixed, func196, by kernel_rfl⟩
theorem start (h : AJ prog (convert 84 9 (.slice p0 n0 c0)) σ (CT fun s6 y => AJ prog (convert 84 9 (.slice p1 n1 c1)) y (CT fun s8 AI => R (.returned (.bool (ByteArray.toList s6 == ByteArray.toList s8))) AI))) : Spec prog 196 #[.slice p0 n0 c0, .slice p1 n1 c1] σ R := M.start h ok
end bytes_Equal
namespace KD
variable {p0 p3 p8 : Option Addr} {n0 c0 n3 c3 n8 c8 : Nat} {x9 Db : Int}
def M : Fw := ⟨prog, 230, f230, [128], [], false, [], [], [(232, [(3, wL), (8, wL), (9, wI), (10, wI)])]⟩
theorem ok : M.Ok := ⟨.cons call128 (AK.nil), mixed, func230, by kernel_rfl⟩
def A4 := M.pt 0
theorem start (h : A4 R none 0 0 p0 n0 c0 (n0 : Int) 0 σ) : Spec prog 230 #[.slice p0 n0 c0] σ R := M.start h ok
theorem AW (h : Br (Db < x9) (Pq p8 fun Ov QB => In Db (n8 : Int) ∧ LS σ Ov (QB + Int.toNat Db * 1) fun N9 n13 Ox => Spec prog 128 #[.slice N9 n13 Ox] σ (AB R (fun z y => ∃ ADu ADv ADw qE, z = (.tuple #[.slice ADu ADv ADw, .int .i64 qE]) ∧ AJ prog (Builtin.append_ #[84, 84] 84 #[.slice p3 n3 c3, .slice ADu ADv ADw]) y (CS fun p21 n21 c21 AI => AN (Db + 1) ∧ A4 R p21 n21 c21 (aD Ov QB) n8 c8 x9 (Db + 1) AI)))) (R (.returned (.slice p3 n3 c3)) σ)) : A4 R p3 n3 c3 p8 n8 c8 x9 Db σ := M.of h ok rfl
end KD
namespace IY
variable {q0 : Option Addr} {s1 s2 : ByteArray}
def M : Fw := ⟨prog, 231, f231, [221], [], false, [], [], []⟩
theorem ok : M.Ok := ⟨.cons call221 (AK.nil), mixed, func231, by kernel_rfl⟩
theorem start (h : Al σ fun b3 => Al (Hp.set σ b3 (.cells #[.pointer q0] 106 (0, 0))) fun b4 => Al (Hp.set (Hp.set σ b3 (.cells #[.pointer q0] 106 (0, 0))) b4 (.cells #[.string s1] 9 (0, 0))) fun b5 => LQ (Hp.set (Hp.set (Hp.set σ b3 (.cells #[.pointer q0] 106 (0, 0))) b4 (.cells #[.string s1] 9 (0, 0))) b5 (.cells #[.string s2] 9 (0, 0))) b3 0 fun q7 => Spec prog 221 #[.pointer q7, (.func (.func 292) #[] #[(.pointer (aD b5 0)), (.pointer (aD b3 0)), (.pointer (aD b4 0))]), (.func (.func 293) #[] #[(.pointer (aD b3 0)), (.pointer (aD b4 0)), (.pointer (aD b5 0))]), (.func (.func 225) #[] #[])] (Hp.set (Hp.set (Hp.set σ b3 (.cells #[.pointer q0] 106 (0, 0))) b4 (.cells #[.string s1] 9 (0, 0))) b5 (.cells #[.string s2] 9 (0, 0))) (AB R (CI .i64 fun Db y => R (.returned (.int .i64 Db)) y))) : Spec prog 231 #[.pointer q0, .string s1, .string s2] σ R := M.start h ok
end IY
namespace slices_Contains_string
variable {p0 : Option Addr} {n0 c0 : Nat} {s1 : ByteArray}
def M : Fw := ⟨prog, 271, f271, [308], [], false, [], [], []⟩
theorem ok : M.Ok := ⟨.cons call308 (AK.nil), mixed, func271, by kernel_rfl⟩
theorem start (h : Spec prog 308 #[.slice p0 n0 c0, .string s1] σ (AB R (CI .i64 fun x7 y => R (.returned (.bool (decide (0 ≤ x7)))) y))) : Spec prog 271 #[.slice p0 n0 c0, .string s1] σ R := M.start h ok
end slices_Contains_string
namespace slices_Index_string
variable {p0 : Option Addr} {n0 c0 : Nat} {s1 : ByteArray} {x7 x8 : Int}
def M : Fw := ⟨prog, 308, f308, [], [], false, [], [], [(104, [(0, wL), (1, wT), (7, wI), (8, wI)])]⟩
theorem ok : M.Ok := ⟨AK.nil, mixed, func308, by kernel_rfl⟩
def NY := M.pt 0
theorem start (h : NY R p0 n0 c0 s1 (n0 : Int) 0 σ) : Spec prog 308 #[.slice p0 n0 c0, .string s1] σ R := M.start h ok
theorem D7 (h : Br (x8 < x7) (Pq p0 fun Hk J6 => In x8 (n0 : Int) ∧ LT σ Hk (J6 + Int.toNat x8 * 1) fun nc => Bo (ByteArray.toList s1 == ByteArray.toList nc) (R (.returned (.int .i64 x8)) σ) (AN (x8 + 1) ∧ NY R (aD Hk J6) n0 c0 s1 x7 (x8 + 1) σ)) (R (.returned (.int .i64 (-1))) σ)) : NY R p0 n0 c0 s1 x7 x8 σ := M.of h ok rfl
end slices_Index_string
end TwW
end
end
section
namespace TwW
open Go Tw Go.Proofs.Tryz
instance : sM prog 186 9 298 := ⟨underlying186, underlying9⟩
theorem xt : ∀ w, (zeroValue 298).run prog w = .ok (.pointer none) w := fun w => by
 have h : prog.info? 298 = some t298 := by kernel_rfl
 have hz : t298.zero = some (.pointer none) := by kernel_rfl
 simp [zeroValue, typeInfo, h, hz, Result.andThen]
def fL (u : UInt8) : Bool := (97 ≤ u.toNat && u.toNat ≤ 122) || (48 ≤ u.toNat && u.toNat ≤ 57) || u.toNat == 47 || u.toNat == 46 || u.toNat == 45
def Ah (s : ByteArray) : Bool := decide (0 < s.size) && decide (s.size ≤ 64) && s.data.toList.all fL
structure Fl where
 data : List Int
 GF : Nat
structure Dk where
 files : ByteArray → Option Fl
 up : Bool
 armed : Bool
 cnt : Nat
structure Row where
 name : ByteArray
 f : Nat
 born : Nat
 T : TypeId
 p : Option Addr
 c : Nat
 fl : Fl
abbrev Row.n (r : Row) : Nat := r.fl.data.length
def Row.Cd (r : Row) : MapEntry := Tw.Cd r.name (.pointer (some ⟨r.f, 0, none⟩)) r.born
def Row.blocks (r : Row) : List Nat := r.f :: DL r.p
structure Md (σ : Hp) (r : Row) : Prop where
 obj : σ r.f = some (.cells #[.slice r.p r.n r.c, .int .i64 r.fl.GF] r.T (0, 0))
 own : AR .u8 σ r.p r.n r.c r.fl.data
 GF : r.fl.GF ≤ r.n
 small : r.n ≤ 4194304
 nm : Ah r.name = true
def Row.look (rows : List Row) (s : ByteArray) : Option Fl := (rows.find? fun r => decide (r.name = s)).map (·.fl)
def ET (d m : Nat) (rows : List Row) : List Nat := d :: m :: rows.flatMap Row.blocks
structure Ap (σ : Hp) (d : Nat) (D : Dk) (S : List Nat) (m clock : Nat) (rows : List Row) (T : TypeId) (left keep writes : Int) : Prop where
 ET : S = ET d m rows
 ne : m ≠ d
 sep : rows.Pairwise fun r s => ∀ b ∈ r.blocks, b ∉ s.blocks
 out : ∀ r ∈ rows, r.f ∉ DL r.p ∧ d ∉ r.blocks ∧ m ∉ r.blocks
 obj : σ d = some (.cells #[.map (some m), .bool D.up, .bool D.armed, .int .i64 left, .int .i64 keep, .int .u64 writes] T (0, 0))
 map : A1 σ m (rows.map Row.Cd) clock
 row : ∀ r ∈ rows, Md σ r
 files : D.files = Row.look rows
 cnt : rows.length ≤ D.cnt
def A5 (σ : Hp) (d : Nat) (D : Dk) (S : List Nat) : Prop := ∃ m clock rows T left keep writes, Ap σ d D S m clock rows T left keep writes
theorem Own.loc {s : Nat} {σ σ' : Hp} {p : Option Addr} {n c : Nat} {cs : List Value} (h : Own s σ p n c cs) (hs : ∀ b ∈ DL p, σ' b = σ b) : Own s σ' p n c cs := by
 refine ⟨h.1, h.2.1, h.2.2.imp id ?_⟩
 rintro ⟨b, o, arr, T, rfl, hb, r⟩
 exact ⟨b, o, arr, T, rfl, (hs b (by simp [DL])).trans hb, r⟩
theorem Md.loc {σ σ' : Hp} {r : Row} (h : Md σ r) (hs : ∀ b ∈ r.blocks, σ' b = σ b) : Md σ' r :=
 ⟨(hs _ (by simp [Row.blocks])).trans h.obj, Own.loc h.own fun b hb => hs b (by simp [Row.blocks, hb]), h.GF, h.small, h.nm⟩
theorem Md.known {σ : Hp} {r : Row} (h : Md σ r) : ∀ b ∈ r.blocks, σ b ≠ none := by
 intro b hb
 rcases List.mem_cons.1 hb with rfl | hb
 · rw [h.obj]; simp
 · cases hp : r.p with
   | none => rw [hp] at hb; cases hb
   | some a => rw [hp] at hb; simp [DL] at hb; subst hb; exact h.own.block a hp
theorem F1 {d m b : Nat} {rows : List Row} : b ∈ ET d m rows ↔ b = d ∨ b = m ∨ ∃ r ∈ rows, b ∈ r.blocks := by simp [ET]
section
variable {σ σ' : Hp} {d : Nat} {D : Dk} {S : List Nat} {m clock : Nat} {rows : List Row} {T : TypeId} {left keep writes : Int}
theorem Ap.loc (h : Ap σ d D S m clock rows T left keep writes) (hs : ∀ b ∈ S, σ' b = σ b) : Ap σ' d D S m clock rows T left keep writes := by
 have hS := h.ET
 subst hS
 refine ⟨rfl, h.ne, h.sep, h.out, (hs d (by simp [TwW.ET])).trans h.obj, h.map.loc (hs m (by simp [TwW.ET])), fun r hr => (h.row r hr).loc fun b hb => hs b (F1.2 (.inr (.inr ⟨r, hr, hb⟩))), h.files, h.cnt⟩
theorem Ap.known (h : Ap σ d D S m clock rows T left keep writes) : ∀ b ∈ S, σ b ≠ none := by
 have hS := h.ET
 subst hS
 intro b hb
 rcases F1.1 hb with rfl | rfl | ⟨r, hr, hb⟩
 · rw [h.obj]; simp
 · rw [h.map.1]; simp
 · exact (h.row r hr).known b hb
theorem Ap.mono (h : Ap σ d D S m clock rows T left keep writes) (hx : Ext σ σ') : Ap σ' d D S m clock rows T left keep writes := h.loc fun b hb => by
 cases hs : σ b with
 | none => exact absurd hs (h.known b hb)
 | some o => exact hx b o hs
theorem A5.mono (h : A5 σ d D S) (hx : Ext σ σ') : A5 σ' d D S := by
 obtain ⟨m, c, r, T, a, b, e, h⟩ := h; exact ⟨m, c, r, T, a, b, e, h.mono hx⟩
theorem A5.known (h : A5 σ d D S) : ∀ b ∈ S, σ b ≠ none := by obtain ⟨m, c, r, T, a, b, e, h⟩ := h; exact h.known
theorem A5.loc (h : A5 σ d D S) (hs : ∀ b ∈ S, σ' b = σ b) : A5 σ' d D S := by
 obtain ⟨m, c, r, T, a, b, e, h⟩ := h; exact ⟨m, c, r, T, a, b, e, h.loc hs⟩
theorem Ap.QS (h : Ap σ d D S m clock rows T left keep writes) : d ∈ S := by rw [h.ET]; simp [TwW.ET]
theorem Ap.Me (h : Ap σ d D S m clock rows T left keep writes) : m ∈ S := by rw [h.ET]; simp [TwW.ET]
theorem Ap.OL (h : Ap σ d D S m clock rows T left keep writes) {r : Row} (hr : r ∈ rows) {b : Nat} (hb : b ∈ r.blocks) : b ∈ S := by rw [h.ET]; exact F1.2 (.inr (.inr ⟨r, hr, hb⟩))
theorem Ap.put (h : Ap σ d D S m clock rows T left keep writes) {up armed : Bool} {left' Wn writes' : Int} {cnt : Nat} (hc : rows.length ≤ cnt) :
   Ap (σ.set d (.cells #[.map (some m), .bool up, .bool armed, .int .i64 left', .int .i64 Wn, .int .u64 writes'] T (0, 0))) d ⟨D.files, up, armed, cnt⟩ S m clock rows T left' Wn writes' := by
 have hS := h.ET
 subst hS
 refine ⟨rfl, h.ne, h.sep, h.out, Hp.AA _ _ _, h.map.loc (Hp.AH h.ne), fun r hr => (h.row r hr).loc fun b hb => Hp.AH fun e => (h.out r hr).2.1 (e ▸ hb), h.files, hc⟩
theorem Row.FU {s : ByteArray} (h : ∀ r ∈ rows, r.name ≠ s) : Row.look rows s = none := by
 unfold Row.look
 rw [List.find?_eq_none.2 (by simpa using h)]; rfl
theorem Row.cu {r : Row} {r1 r2 : List Row} (hn : ((r1 ++ r :: r2).map (·.name)).Nodup) : Row.look (r1 ++ r :: r2) r.name = some r.fl := by
 unfold Row.look
 have : ∀ x ∈ r1, ¬ (decide (x.name = r.name)) = true := fun x hx => by
   simp only [List.map_append, List.map_cons] at hn
   have := (List.nodup_append.1 hn).2.2 x.name (List.mem_map.2 ⟨x, hx, rfl⟩) r.name (by simp)
   simpa using this
 rw [List.find?_append, List.find?_eq_none.2 this]
 simp
theorem Ap.names (h : Ap σ d D S m clock rows T left keep writes) : (rows.map (·.name)).Nodup := by
 have := h.map.nodup
 rw [List.map_map] at this
 have e : (rows.map ((fun e : MapEntry => e.key) ∘ Row.Cd)) = (rows.map (·.name)).map Value.string := by rw [List.map_map]; rfl
 rw [e] at this
 rw [List.Nodup, List.pairwise_map] at this
 exact this.imp fun Ae e => Ae (by rw [e])
def BE (fs : ByteArray → Option Fl) (s : ByteArray) (x : Option Fl) : ByteArray → Option Fl := fun n => if n = s then x else fs n
theorem Row.Nf {r : Row} {s : ByteArray} : Row.look (r :: rows) s = if r.name = s then some r.fl else Row.look rows s := by
 unfold Row.look
 rw [List.find?_cons]
 by_cases h : r.name = s <;> simp [h]
theorem Row.KE {r1 r2 : List Row} {s : ByteArray} : Row.look (r1 ++ r2) s = (Row.look r1 s).or (Row.look r2 s) := by
 unfold Row.look
 rw [List.find?_append]
 cases List.find? (fun r => decide (r.name = s)) r1 <;> simp
theorem HV {r : Row} {r1 r2 : List Row} (hn : ((r1 ++ r :: r2).map (·.name)).Nodup) : (∀ x ∈ r1, x.name ≠ r.name) ∧ ∀ x ∈ r2, x.name ≠ r.name := by
 simp only [List.map_append, List.map_cons] at hn
 have h := List.nodup_append.1 hn
 have h2 := List.nodup_cons.1 h.2.1
 exact ⟨fun x hx => h.2.2 x.name (List.mem_map.2 ⟨x, hx, rfl⟩) r.name (by simp), fun x hx e => h2.1 (e ▸ List.mem_map.2 ⟨x, hx, rfl⟩)⟩
theorem Row.OM {r r' : Row} {r1 r2 : List Row} (hn : ((r1 ++ r :: r2).map (·.name)).Nodup) (h : r'.name = r.name) : Row.look (r1 ++ r' :: r2) = BE (Row.look (r1 ++ r :: r2)) r.name (some r'.fl) := by
 funext s
 have h1 := (HV hn).1
 simp only [Row.KE, Row.Nf, BE, h]
 by_cases hs : s = r.name
 · subst hs
   simp [Row.FU h1]
 · simp [hs, Ne.symm hs]
theorem Row.TC {r : Row} (h : ∀ x ∈ rows, x.name ≠ r.name) : Row.look (rows ++ [r]) = BE (Row.look rows) r.name (some r.fl) := by
 funext s
 simp only [Row.KE, Row.Nf, BE]
 by_cases hs : s = r.name
 · subst hs
   simp [Row.FU h]
 · simp [hs, Ne.symm hs, Row.look]
theorem Row.Wo {r : Row} {r1 r2 : List Row} (hn : ((r1 ++ r :: r2).map (·.name)).Nodup) : Row.look (r1 ++ r2) = BE (Row.look (r1 ++ r :: r2)) r.name none := by
 funext s
 have h1 := HV hn
 simp only [Row.KE, Row.Nf, BE]
 by_cases hs : s = r.name
 · subst hs
   simp [Row.FU h1.1, Row.FU h1.2]
 · simp [hs, Ne.symm hs]
theorem Ap.change {r r' : Row} {r1 r2 : List Row} (h : Ap σ d D S m clock (r1 ++ r :: r2) T left keep writes) (Ez : r'.name = r.name) (hf : r'.f = r.f) (hb : r'.born = r.born) (hr : Md σ' r') (Ae : r'.f ∉ DL r'.p)
   (hx : Ext (σ.off r.blocks) (σ'.off r'.blocks)) :
   Ap σ' d { D with files := BE D.files r.name (some r'.fl) } (TwW.ET d m (r1 ++ r' :: r2)) m clock (r1 ++ r' :: r2) T left keep writes ∧ Ext (σ.off S) (σ'.off (TwW.ET d m (r1 ++ r' :: r2))) := by
 have E9 := h.out
 have Wp := h.sep
 have fM := h.row
 have Ck : r ∈ r1 ++ r :: r2 := by simp
 have keep : ∀ b, b ∉ r.blocks → σ b ≠ none → σ' b = σ b ∧ b ∉ r'.blocks := fun b h1 h2 => by
   cases hs : σ b with
   | none => exact absurd hs h2
   | some o =>
     have := Hp.AG.1 (hx b o (Hp.AG.2 ⟨h1, hs⟩))
     exact ⟨this.2, this.1⟩
 have hd := keep d (E9 r Ck).2.1 (by rw [h.obj]; simp)
 have hm := keep m (E9 r Ck).2.2 (by rw [h.map.1]; simp)
 rw [List.pairwise_append, List.pairwise_cons] at Wp
 have o1 : ∀ x ∈ r1, ∀ b ∈ x.blocks, σ' b = σ b ∧ b ∉ r'.blocks := fun x hx b hb => keep b (Wp.2.2 x hx r (by simp) b hb) ((fM x (by simp [hx])).known b hb)
 have o2 : ∀ x ∈ r2, ∀ b ∈ x.blocks, σ' b = σ b ∧ b ∉ r'.blocks := fun x hx b hb => keep b (fun Jf => Wp.2.1.1 x hx b Jf hb) ((fM x (by simp [hx])).known b hb)
 refine ⟨⟨rfl, h.ne, ?_, ?_, hd.1.trans h.obj, ?_, ?_, ?_, ?_⟩, ?_⟩
 · rw [List.pairwise_append, List.pairwise_cons]
   refine ⟨Wp.1, ⟨fun x hx b hb Jf => (o2 x hx b Jf).2 hb, Wp.2.1.2⟩, fun x BM y hy b HD => ?_⟩
   rcases List.mem_cons.1 hy with rfl | hy
   · exact (o1 x BM b HD).2
   · exact Wp.2.2 x BM y (by simp [hy]) b HD
 · intro x hx
   rcases List.mem_append.1 hx with hx | hx
   · exact E9 x (by simp [hx])
   · rcases List.mem_cons.1 hx with rfl | hx
     · exact ⟨Ae, hd.2, hm.2⟩
     · exact E9 x (by simp [hx])
 · have : (r1 ++ r' :: r2).map Row.Cd = (r1 ++ r :: r2).map Row.Cd := by simp [Row.Cd, Ez, hf, hb]
   rw [this]; exact h.map.loc hm.1
 · intro x hx
   rcases List.mem_append.1 hx with hx | hx
   · exact (fM x (by simp [hx])).loc fun b hb => (o1 x hx b hb).1
   · rcases List.mem_cons.1 hx with rfl | hx
     · exact hr
     · exact (fM x (by simp [hx])).loc fun b hb => (o2 x hx b hb).1
 · show BE D.files r.name _ = _
   rw [h.files, Row.OM h.names Ez]
 · have := h.cnt; simpa using this
 · intro b o hb
   obtain ⟨VV, uE⟩ := Hp.AG.1 hb
   rw [h.ET, F1] at VV
   have hk := keep b (fun Jf => VV (.inr (.inr ⟨r, Ck, Jf⟩))) (by rw [uE]; simp)
   refine Hp.AG.2 ⟨fun Jf => ?_, hk.1.trans uE⟩
   rcases F1.1 Jf with e | e | ⟨x, hx, QT⟩
   · exact VV (.inl e)
   · exact VV (.inr (.inl e))
   · rcases List.mem_append.1 hx with hx | hx
     · exact VV (.inr (.inr ⟨x, by simp [hx], QT⟩))
     · rcases List.mem_cons.1 hx with rfl | hx
       · exact hk.2 QT
       · exact VV (.inr (.inr ⟨x, by simp [hx], QT⟩))
theorem Ap.kj (h : Ap σ d D S m clock rows T left keep writes) {rows' : List Row} {clock' : Nat} {fs : ByteArray → Option Fl} {cnt : Nat} (hσ : ∀ b, b ≠ m → σ' b = σ b) (hm : A1 σ' m (rows'.map Row.Cd) clock')
   (fM : ∀ r ∈ rows', Md σ r) (Ck : ∀ r ∈ rows', ∀ b ∈ r.blocks, b ∈ S ∧ b ≠ d ∧ b ≠ m) (ADx : ∀ r ∈ rows', r.f ∉ DL r.p) (Wp : rows'.Pairwise fun r s => ∀ b ∈ r.blocks, b ∉ s.blocks) (JY : fs = Row.look rows') (hc : rows'.length ≤ cnt) :
   Ap σ' d ⟨fs, D.up, D.armed, cnt⟩ (TwW.ET d m rows') m clock' rows' T left keep writes ∧ Ext (σ.off S) (σ'.off (TwW.ET d m rows')) := by
 refine ⟨⟨rfl, h.ne, Wp, fun r hr => ⟨ADx r hr, fun hd => (Ck r hr d hd).2.1 rfl, fun hm => (Ck r hr m hm).2.2 rfl⟩, (hσ d (Ne.symm h.ne)).trans h.obj, hm, fun r hr => (fM r hr).loc fun b hb => hσ b (Ck r hr b hb).2.2, JY, hc⟩, fun b o hb => ?_⟩
 obtain ⟨VV, uE⟩ := Hp.AG.1 hb
 refine Hp.AG.2 ⟨fun Jf => ?_, (hσ b fun e => VV (e ▸ h.Me)).trans uE⟩
 rcases F1.1 Jf with e | e | ⟨x, hx, QT⟩
 · exact VV (e ▸ h.QS)
 · exact VV (e ▸ h.Me)
 · exact VV (Ck x hx b QT).1
theorem Ap.push (h : Ap σ d D S m clock rows T left keep writes) {r : Row} (BX : ∀ x ∈ rows, x.name ≠ r.name) (hb : σ r.f = none) (hp : r.p = none) (hσ : ∀ b, b ≠ m → b ≠ r.f → σ' b = σ b) (hr : Md σ' r) {clock' : Nat} (hm : A1 σ' m ((rows ++ [r]).map Row.Cd) clock') :
   Ap σ' d ⟨BE D.files r.name (some r.fl), D.up, D.armed, D.cnt + 1⟩ (TwW.ET d m (rows ++ [r])) m clock' (rows ++ [r]) T left keep writes ∧ Ext (σ.off S) (σ'.off (TwW.ET d m (rows ++ [r]))) := by
 have fN : r.blocks = [r.f] := by simp [Row.blocks, hp, DL]
 have hS : r.f ∉ S := fun hs => h.known _ hs hb
 have hk : ∀ x ∈ rows, ∀ b ∈ x.blocks, b ≠ r.f := fun x hx b Jf e => hS (e ▸ h.OL hx Jf)
 refine ⟨⟨rfl, h.ne, ?_, ?_, (hσ d (Ne.symm h.ne) fun e => hS (e ▸ h.QS)).trans h.obj, hm, ?_, ?_, ?_⟩, fun b o Jf => ?_⟩
 · rw [List.pairwise_append]
   refine ⟨h.sep, by simp, fun x hx y hy b Jf => ?_⟩
   simp only [List.mem_singleton] at hy
   subst hy
   rw [fN]; simpa using hk x hx b Jf
 · intro x hx
   rcases List.mem_append.1 hx with hx | hx
   · exact h.out x hx
   · simp only [List.mem_singleton] at hx
     subst hx
     rw [fN, hp]
     exact ⟨by simp [DL], fun e => hS (List.mem_singleton.1 e ▸ h.QS), fun e => hS (List.mem_singleton.1 e ▸ h.Me)⟩
 · intro x hx
   rcases List.mem_append.1 hx with hx | hx
   · exact (h.row x hx).loc fun b Jf => hσ b (fun e => (h.out x hx).2.2 (e ▸ Jf)) (hk x hx b Jf)
   · simp only [List.mem_singleton] at hx
     subst hx; exact hr
 · show BE D.files r.name _ = _
   rw [h.files, Row.TC BX]
 · have := h.cnt; simpa using this
 · obtain ⟨VV, uE⟩ := Hp.AG.1 Jf
   have h1 : b ≠ r.f := fun e => by rw [e, hb] at uE; cases uE
   refine Hp.AG.2 ⟨fun HD => ?_, (hσ b (fun e => VV (e ▸ h.Me)) h1).trans uE⟩
   rcases F1.1 HD with e | e | ⟨x, hx, QT⟩
   · exact VV (e ▸ h.QS)
   · exact VV (e ▸ h.Me)
   · rcases List.mem_append.1 hx with hx | hx
     · exact VV (h.OL hx QT)
     · simp only [List.mem_singleton] at hx
       subst hx
       rw [fN] at QT
       exact h1 (by simpa using QT)
theorem EU {l1 l2 : List MapEntry} {e : MapEntry} (h : rows.map Row.Cd = l1 ++ e :: l2) : ∃ r1 r r2, rows = r1 ++ r :: r2 ∧ r1.map Row.Cd = l1 ∧ r.Cd = e ∧ r2.map Row.Cd = l2 := by
 obtain ⟨r1, r', rfl, h1, h2⟩ := List.map_eq_append_iff.1 h
 obtain ⟨r, r2, rfl, h3, h4⟩ := List.map_eq_cons_iff.1 h2
 exact ⟨r1, r, r2, rfl, h1, h3, h4⟩
theorem GX {r : Row} {s : ByteArray} : r.Cd.key = .string s ↔ r.name = s := by simp [Row.Cd]
theorem IZ {s : ByteArray} (h : ∀ x ∈ rows.map Row.Cd, x.key ≠ .string s) : ∀ r ∈ rows, r.name ≠ s := fun r hr e => h r.Cd (List.mem_map.2 ⟨r, hr, rfl⟩) (GX.2 e)
theorem A5.names (h : A5 σ d D S) : ∀ s, (D.files s).isSome = true → Ah s = true := fun s hs => by
 obtain ⟨m, c, rows, T, a, b, e, h⟩ := h
 rw [h.files, Row.look] at hs
 cases hf : rows.find? (fun r => decide (r.name = s)) with
 | none => rw [hf] at hs; cases hs
 | some r =>
   have h1 := (h.row r (List.mem_of_find?_eq_some hf)).nm
   have h2 := List.find?_some hf
   simp only [decide_eq_true_eq] at h2
   rw [← h2]; exact h1
theorem Ap.look (h : Ap σ d D S m clock rows T left keep writes) {s : ByteArray} {Φ : Value → Hp → Prop} (h0 : (∀ r ∈ rows, r.name ≠ s) → D.files s = none → Φ (.pointer none) σ)
   (h1 : ∀ r1 r r2, rows = r1 ++ r :: r2 → r.name = s → D.files s = some r.fl → Φ (.pointer (some ⟨r.f, 0, none⟩)) σ) : AJ prog (Instr.lookup 186 (.map (some m)) (.string s) false) σ Φ := by
 refine Iz h.map xt (fun hn => h0 (IZ hn) (by rw [h.files]; exact Row.FU (IZ hn))) fun l1 e l2 hl he => ?_
 obtain ⟨r1, r, r2, CO, _, rfl, _⟩ := EU hl
 have hn := h.names
 rw [CO] at hn
 refine h1 r1 r r2 CO (GX.1 he) ?_
 rw [h.files, CO, ← GX.1 he, Row.cu hn]
end
end TwW
end
section
namespace TwW
open Go Tw Go.Proofs.Tryz
theorem AD {σ : Hp} {b o : Nat} {c : Array Value} {t : TypeId} {fr : Nat × Nat} {v : Value} (h : σ b = some (.cells c t fr)) (hv : c[o]? = some v) : σ.ld ⟨b, o, none⟩ = some v := by simp [Hp.ld, h, hv]
theorem Ug : ∀ w, (Go.sizeOf 84).run prog w = .ok 1 w := fun w => by
 have h : prog.info? 84 = some t84 := by kernel_rfl
 simp [Go.sizeOf, typeInfo, h, show t84.size = 1 from rfl]
theorem JZ : ∀ w, (Go.sizeOf 4).run prog w = .ok 1 w := fun w => by
 have h : prog.info? 4 = some t4 := by kernel_rfl
 simp [Go.sizeOf, typeInfo, h, show t4.size = 1 from rfl]
theorem HW : ∀ w, (Go.sizeOf 3).run prog w = .ok 1 w := fun w => by
 have h : prog.info? 3 = some t3 := by kernel_rfl
 simp [Go.sizeOf, typeInfo, h, show t3.size = 1 from rfl]
theorem Zx : ∀ w, (Go.sizeOf 23).run prog w = .ok 1 w := fun w => by
 have h : prog.info? 23 = some t23 := by kernel_rfl
 simp [Go.sizeOf, typeInfo, h, show t23.size = 1 from rfl]
theorem KZ {R : Rr} {σ : Hp} {s : ByteArray} (h : R (.returned (.bool (Ah s))) σ) : Spec prog 171 #[.string s] σ R := by
 refine FR.start ⟨fun h0 => ?_, fun h0 => ⟨fun h1 => ?_, fun h1 => ?_⟩⟩
 · have : Ah s = false := by
     have : s = ⟨#[]⟩ := by
       have := eq_of_beq h0
       rw [ByteArray.toList_eq, ByteArray.toList_eq] at this
       exact ByteArray.ext (Array.toList_inj.1 this)
     subst this; rfl
   rwa [this] at h
 · have : Ah s = false := by
     have : ¬ s.size ≤ 64 := by omega
     simp [Ah, this]
   rwa [this] at h
 · have kk : 0 < s.size := by
     rcases Nat.eq_zero_or_pos s.size with hz | hz
     · exfalso
       have : s = ⟨#[]⟩ := ByteArray.ext (Array.eq_empty_of_size_eq_zero hz)
       subst this; simp at h0
     · exact hz
   have Re : s.size ≤ 64 := by omega
   have EY : s.data.toList.length = s.size := rfl
   suffices H : ∀ d k : Nat, s.size - k = d → k ≤ s.size → (s.data.toList.take k).all fL = true → FR.Am R s k σ from H s.size 0 rfl (Nat.zero_le _) rfl
   intro d
   induction d with
   | zero =>
     intro k hd hk D3
     rw [List.take_of_length_le (by omega)] at D3
     have hn : Ah s = true := by simp only [Ah, D3, decide_eq_true kk, decide_eq_true Re, Bool.and_true]
     rw [hn] at h
     exact FR.BB ⟨fun Ag => by omega, fun _ => h⟩
   | succ d ih =>
     intro k hd hk D3
     have DK : k < s.size := by omega
     obtain ⟨u, hu⟩ : ∃ u, s.data.toList[k]? = some u := ⟨_, List.getElem?_eq_getElem (by omega)⟩
     have Ya : s.data[Int.toNat (k : Int)]? = some u := by simpa using hu
     have hi : AN ((k : Int) + 1) := by unfold AN; omega
     have step : fL u = true → FR.Am R s ((k : Int) + 1) σ := fun hc => ih (k + 1) (by omega) (by omega) (by rw [AO hu, List.all_append, D3]; simpa using hc)
     have bad : fL u = false → R (.returned (.bool false)) σ := fun hc => by
       have : Ah s = false := by
         have : s.data.toList.all fL = false := by
           rw [List.all_eq_false]
           exact ⟨u, List.mem_of_getElem? hu, by simp [hc]⟩
         simp [Ah, this]
       rwa [this] at h
     have e1 : (fL u = true) ↔ ((97 ≤ u.toNat ∧ u.toNat ≤ 122) ∨ (48 ≤ u.toNat ∧ u.toNat ≤ 57) ∨ u.toNat = 47 ∨ u.toNat = 46 ∨ u.toNat = 45) := by
       simp [fL, or_assoc]
     have good : ((97 ≤ u.toNat ∧ u.toNat ≤ 122) ∨ (48 ≤ u.toNat ∧ u.toNat ≤ 57) ∨ u.toNat = 47 ∨ u.toNat = 46 ∨ u.toNat = 45) → AN ((k : Int) + 1) ∧ FR.Am R s ((k : Int) + 1) σ := fun hc => ⟨hi, step (e1.2 hc)⟩
     have Rv : ¬ ((97 ≤ u.toNat ∧ u.toNat ≤ 122) ∨ (48 ≤ u.toNat ∧ u.toNat ≤ 57) ∨ u.toNat = 47 ∨ u.toNat = 46 ∨ u.toNat = 45) → R (.returned (.bool false)) σ := fun hc => bad (by
       cases ho : fL u with
       | false => rfl
       | true => exact absurd (e1.1 ho) hc)
     clear step bad e1 h ih
     refine FR.BB ⟨fun Ag => ⟨u, by omega, Ya, ?_⟩, fun FB => by omega⟩
     generalize u.toNat = n at good Rv
     repeat' (first | refine ⟨fun _ => ?_, fun _ => ?_⟩ | exact good (by omega) | exact Rv (by omega))
def GN (fs gs : ByteArray → Option Fl) : Prop := ∀ s, (fs s = none → gs s = none) ∧ ∀ f, fs s = some f → ∃ k, f.GF ≤ k ∧ k ≤ f.data.length ∧ gs s = some ⟨f.data.take k, k⟩
section
variable {σ : Hp} {d : Nat} {D : Dk} {S : List Nat} {R : Rr}
theorem JC {s : ByteArray} (hd : A5 σ d D S) (h0 : Ah s = false → R (.returned (.int .i64 61)) σ) (h1 : Ah s = true → D.files s = none → R (.returned (.int .i64 62)) σ) (h2 : ∀ f, Ah s = true → D.files s = some f → R (.returned (.int .i64 0)) σ) :
   Spec prog 223 #[.pointer (some ⟨d, 0, none⟩), .string s] σ R := by
 refine JS.start (KZ ⟨_, rfl, fun hf => h0 hf, fun ht => ?_⟩)
 obtain ⟨m, c, rows, T, a, b, e, h⟩ := hd
 refine ⟨d, 0, rfl, some m, AD h.obj rfl, h.look (fun hn JY => ⟨none, rfl, fun _ => h1 ht JY, fun hh => by simp at hh⟩) fun r1 r r2 _ _ JY => ⟨_, rfl, fun hh => by simp at hh, fun _ => h2 _ ht JY⟩⟩
theorem QU {s : ByteArray} {p : Option Addr} {n c b2 : Nat} {xs : List Int} {m clock : Nat} {r1 r2 : List Row} {r : Row} {T : TypeId} {a b e : Int} (hd : Ap σ d D S m clock (r1 ++ r :: r2) T a b e)
   (h2 : (σ.off S) b2 = some (.cells #[.slice p n c] 84 (0, 0))) (hx : B9 .u8 (σ.off S) p n xs) (hlen : r.fl.data.length + n ≤ 4194304) (hs : r.name = s)
   (h : ∀ σ' S', A5 σ' d { D with files := BE D.files s (some ⟨r.fl.data ++ xs, r.fl.GF⟩) } S' → Ext (σ.off S) (σ'.off S') → R (.returned (.tuple #[])) σ') :
   DD.A4 R b2 (some ⟨r.f, 0, none⟩) σ := by
 have hr := hd.row r (by simp)
 have E9 := hd.out r (by simp)
 refine DD.AW ⟨r.f, 0, rfl, r.p, r.n, r.c, AD hr.obj rfl, p, n, c, AD (Hp.AG.1 h2).2 rfl, ?_⟩
 refine MB (T := 84) hr.own (GP.of_map (hx.mono (Ext.Cn _ _))) CR.Cj (by simp only [Row.n]; omega) fun p' c' σ' AY Di _ => ⟨p', r.n + n, c', rfl, ?_⟩
 have qP : σ' r.f = some (.cells #[.slice r.p r.n r.c, .int .i64 r.fl.GF] r.T (0, 0)) ∧ r.f ∉ DL p' := by
   rw [Hp.DY, Hp.DY] at Di
   have := Hp.AG.1 (Di r.f _ (Hp.AG.2 ⟨E9.1, hr.obj⟩))
   exact ⟨this.2, this.1⟩
 refine AJ.store (v := .slice p' (r.n + n) c') Ug qP.1 rfl (by simp) (by simp [Value.cells, Value.oneCell']) ?_
 have hlx : (r.fl.data ++ xs).length = r.n + n := by rw [List.length_append, hx.1]
 have hw : DT #[Value.slice r.p r.n r.c, .int .i64 r.fl.GF] 0 (Value.slice p' (r.n + n) c').cells.toList = #[.slice p' (r.n + n) c', .int .i64 r.fl.GF] := rfl
 rw [hw]
 have key := hd.change (σ' := σ'.set r.f (.cells #[.slice p' (r.n + n) c', .int .i64 r.fl.GF] r.T (0, 0))) (r' := { r with p := p', c := c', fl := ⟨r.fl.data ++ xs, r.fl.GF⟩ }) rfl rfl rfl
   ⟨by simp [Hp.AA, hlx], ?_, by simp only [hlx]; have := hr.GF; omega, by show (r.fl.data ++ xs).length ≤ _; rw [hlx]; exact hlen, hr.nm⟩ qP.2 ?_
 · rw [← hs] at h
   exact h _ _ ⟨_, _, _, _, _, _, _, key.1⟩ key.2
 · have : AR .u8 σ' p' (r.n + n) c' (r.fl.data ++ xs) := by simpa [AR] using AY
   simp only [hlx]
   refine Own.loc this fun b hb => Hp.AH fun e => qP.2 (e ▸ hb)
 · intro b o hb
   obtain ⟨h3, h4⟩ := Hp.AG.1 hb
   simp only [Row.blocks, List.mem_cons, not_or] at h3
   rw [Hp.DY, Hp.DY] at Di
   have := Hp.AG.1 (Di b o (Hp.AG.2 ⟨h3.2, h4⟩))
   exact Hp.AG.2 ⟨by simp [Row.blocks, h3.1, this.1], by rw [Hp.AH h3.1]; exact this.2⟩
def EV (fs : ByteArray → Option Fl) (s : ByteArray) (xs : List Int) : ByteArray → Option Fl := BE fs s (some ⟨((fs s).getD ⟨[], 0⟩).data ++ xs, ((fs s).getD ⟨[], 0⟩).GF⟩)
theorem Mf {s : ByteArray} {p : Option Addr} {n c b0 b1 b2 : Nat} {xs : List Int} (Ji : Ah s = true) (hd : A5 σ d D S) (h0 : (σ.off S) b0 = some (.cells #[.pointer (some ⟨d, 0, none⟩)] 106 (0, 0))) (h1 : (σ.off S) b1 = some (.cells #[.string s] 9 (0, 0)))
   (h2 : (σ.off S) b2 = some (.cells #[.slice p n c] 84 (0, 0))) (hx : B9 .u8 (σ.off S) p n xs) (hlen : ((D.files s).getD ⟨[], 0⟩).data.length + n ≤ 4194304)
   (h : ∀ σ' S', A5 σ' d ⟨EV D.files s xs, D.up, D.armed, D.cnt + 1⟩ S' → Ext (σ.off S) (σ'.off S') → R (.returned (.tuple #[])) σ') :
   Spec prog 227 #[.pointer (some ⟨b0, 0, none⟩), .pointer (some ⟨b1, 0, none⟩), .pointer (some ⟨b2, 0, none⟩)] σ R := by
 obtain ⟨m, cl, rows, T, a, b, e, hd⟩ := hd
 have Yb := Hp.AG.1 h0
 have Uh := Hp.AG.1 h1
 refine DD.start ⟨_, AD Yb.2 rfl, d, 0, rfl, some m, AD hd.obj rfl, s, AD Uh.2 rfl, hd.look (fun hn JY => ⟨none, rfl, fun _ IJ fO => ?_, fun hh => by simp at hh⟩) fun r1 r r2 CO Ez JY => ⟨_, rfl, fun hh => by simp at hh, fun _ => ?_⟩⟩
 · have qQ : b0 ≠ IJ := fun e => by rw [e, fO] at Yb; cases Yb.2
   have AJ0 : b1 ≠ IJ := fun e => by rw [e, fO] at Uh; cases Uh.2
   have hS : IJ ∉ S := fun hs => hd.known _ hs fO
   have hdn : d ≠ IJ := fun e => hS (e ▸ hd.QS)
   have Zy : m ≠ IJ := fun e => hS (e ▸ hd.Me)
   refine ⟨_, AD (by rw [Hp.AH qQ]; exact Yb.2) rfl, d, 0, rfl, some m, AD (by rw [Hp.AH hdn]; exact hd.obj) rfl, s, AD (by rw [Hp.AH AJ0]; exact Uh.2) rfl, ?_⟩
   have oM : A1 (σ.set IJ (.cells #[.slice none 0 0, .int .i64 0] 300 (0, 0))) m (rows.map Row.Cd) cl := hd.map.loc (Hp.AH Zy)
   refine EE oM (fun _ σ' Rl L5 => ?_) fun l1 e l2 hl he => ?_
   · have key := hd.push (σ' := σ') (r := ⟨s, IJ, cl, 300, none, 0, ⟨[], 0⟩⟩) hn fO rfl (fun b h1 h2 => by rw [Rl, Hp.AH h1, Hp.AH h2]) ⟨by rw [Rl, Hp.AH (Ne.symm Zy), Hp.AA]; rfl, Own.nil, Nat.le_refl _, Nat.zero_le _, Ji⟩ (clock' := cl + 1) (by simpa [Row.Cd] using L5)
     refine QU (r2 := []) key.1 (key.2 _ _ h2) (hx.mono key.2) ?_ rfl fun Ph S'' hD hE => h Ph S'' ?_ (key.2.trans hE)
     · simpa [JY] using hlen
     · have : EV D.files s xs = BE (BE D.files s (some ⟨[], 0⟩)) s (some ⟨[] ++ xs, 0⟩) := by
         funext k; simp only [EV, JY, BE, Option.getD_none]; split <;> rfl
       rw [this]; exact hD
   · exfalso
     obtain ⟨r1, r, r2, CO, _, rfl, _⟩ := EU hl
     exact hn r (by simp [CO]) (GX.1 he)
 · subst CO
   refine QU hd h2 hx (by simpa [JY] using hlen) Ez fun σ' S' hD hE => h σ' S' ?_ hE
   have : EV D.files s xs = BE D.files s (some ⟨r.fl.data ++ xs, r.fl.GF⟩) := by simp [EV, JY]
   rw [this]
   obtain ⟨m, cl, rows, T, a, b, e, hD⟩ := hD
   exact ⟨m, cl, rows, T, a, b, e, { hD with cnt := by have := hD.cnt; simp only at this ⊢; omega }⟩
end
end TwW
end
section
namespace TwW
open Go Tw Go.Proofs.Tryz
section
variable {σ : Hp} {d : Nat} {D : Dk} {S : List Nat} {R : Rr}
theorem Ap.qR {m clock : Nat} {rows : List Row} {T : TypeId} {left keep writes : Int} (h : Ap σ d D S m clock rows T left keep writes) {o : Obj} : Ext (σ.off S) ((σ.set d o).off S) := Ext.GQ h.QS
theorem Ap.st {m clock : Nat} {rows : List Row} {T : TypeId} {left keep writes : Int} (h : Ap σ d D S m clock rows T left keep writes) {i : Nat} {E : TypeId} {v : Value} {up armed : Bool} {left' Wn writes' : Int} (hz : ∀ w, (Go.sizeOf E).run prog w = .ok 1 w) (hv : v.cells.size = 1)
   (hi : i + 1 ≤ 6) (h1 : ∀ u ∈ v.cells.toList, u.oneCell' = true)
   (hw : DT #[.map (some m), .bool D.up, .bool D.armed, .int .i64 left, .int .i64 keep, .int .u64 writes] i v.cells.toList = #[.map (some m), .bool up, .bool armed, .int .i64 left', .int .i64 Wn, .int .u64 writes'])
   {Φ : Unit → Hp → Prop} (hΦ : ∀ σ', Ap σ' d ⟨D.files, up, armed, D.cnt⟩ S m clock rows T left' Wn writes' → Ext (σ.off S) (σ'.off S) → (∀ b, b ≠ d → σ' b = σ b) → Φ () σ') : AJ prog (Instr.storeAt E (.pointer (some ⟨d, i, none⟩)) v) σ Φ := by
 refine AJ.store hz h.obj hv (by simp; omega) h1 ?_
 rw [hw]
 exact hΦ _ (h.put h.cnt) h.qR fun b hb => Hp.AH hb
def AJ1 (x1 : Int) (fs gs : ByteArray → Option Fl) (L : List MapEntry) : Prop :=
 ∀ s, (fs s = none → gs s = none) ∧ ∀ f, fs s = some f → (gs s = some f ∧ ∃ e ∈ L, e.key = .string s) ∨ ∃ k, f.GF ≤ k ∧ k ≤ f.data.length ∧ gs s = some ⟨f.data.take k, k⟩ ∧ (x1 = 0 → k = f.GF)
def kl (fs gs : ByteArray → Option Fl) : Prop := ∀ s f, fs s = some f → gs s = some ⟨f.data.take f.GF, f.GF⟩
theorem fP {x n : Int} (hx : 0 ≤ x) (hn : 0 ≤ n) : 0 ≤ Int.tmod x (n + 1) ∧ Int.tmod x (n + 1) ≤ n := by
 rw [Int.tmod_eq_emod_of_nonneg hx]
 have h1 := Int.emod_nonneg x (show n + 1 ≠ 0 by omega)
 have h2 := Int.emod_lt_of_pos x (show 0 < n + 1 by omega)
 omega
theorem Own.shrink {σ : Hp} {p : Option Addr} {n c k : Nat} {xs : List Int} {kd : IntKind} (h : AR kd σ p n c xs) (hk : k ≤ n) : AR kd σ p k c (xs.take k) := by
 have := Own.take h hk
 rw [Nat.mul_one, ← List.map_take] at this
 exact this
theorem Own.cap {s : Nat} {σ : Hp} {p : Option Addr} {n c : Nat} {cs : List Value} (h : Own s σ p n c cs) : n ≤ c := by
 rcases h.2.2 with ⟨_, h1, h2⟩ | ⟨b, o, arr, T, _, _, h3, _⟩
 · omega
 · exact h3
theorem xu {σ0 : Hp} {S0 : List Nat} {i m clock : Nat} {x1 : Int} {fs : ByteArray → Option Fl} {cnt : Nat} (km : σ0 i = none)
   (hR : ∀ σ' S' gs, GN fs gs → (x1 = 0 → kl fs gs) → A5 σ' d ⟨gs, false, false, cnt⟩ S' → Ext (σ0.off S0) (σ'.off S') → R (.returned (.tuple #[])) σ') :
   ∀ (n : Nat) (σ : Hp) (D : Dk) (S : List Nat) (rows : List Row) (L : List MapEntry) (T : TypeId) (a b e : Int), L.length = n → D.cnt = cnt → Ap σ d D S m clock rows T a b e → Co σ i m (rows.map Row.Cd) L clock → (∀ x ∈ L, x ∈ rows.map Row.Cd) → i ∉ S → AJ1 x1 fs D.files L →
     Ext (σ0.off S0) (σ.off S) → DS.ZW R (some ⟨d, 0, none⟩) x1 (.pointer (some ⟨i, 0, none⟩)) σ := by
 intro n
 induction n using Nat.strongRecOn with
 | _ n ih =>
 intro σ D S rows L T a b e hL Hn hd hi Lt nn hh hx
 refine DS.Ln (Jy hd.map hi (fun h0 => .inl ⟨rfl, d, 0, rfl, ?_⟩) fun en Ju Ui o Oz Zz => .inr ?_)
 · subst h0
   refine hd.st (i := 1) (up := false) (armed := D.armed) JZ rfl (by omega) (by simp [Value.cells, Value.oneCell']) rfl fun σ1 h1 e1 _ => ?_
   refine h1.st (i := 2) (up := false) (armed := false) JZ rfl (by omega) (by simp [Value.cells, Value.oneCell']) rfl fun σ2 h2 e2 _ => ?_
   have D3 : ∀ s f, fs s = some f → ∃ k, f.GF ≤ k ∧ k ≤ f.data.length ∧ D.files s = some ⟨f.data.take k, k⟩ ∧ (x1 = 0 → k = f.GF) := fun s f hf => by
     rcases (hh s).2 f hf with ⟨_, e, he, _⟩ | h
     · cases he
     · exact h
   refine hR σ2 S D.files (fun s => ⟨(hh s).1, fun f hf => ?_⟩) (fun hz s f hf => ?_) ⟨_, _, _, _, _, _, _, Hn ▸ h2⟩ (hx.trans (e1.trans e2))
   · obtain ⟨k, h1, h2, h3, _⟩ := D3 s f hf
     exact ⟨k, h1, h2, h3⟩
   · obtain ⟨k, h1, h2, h3, h4⟩ := D3 s f hf
     rw [h3, h4 hz]
 · obtain ⟨l1, l2, hl⟩ := List.append_of_mem Ui
   obtain ⟨r1, r, r2, rfl, _, rfl, _⟩ := EU hl
   have hτ : ∀ b ∈ S, (σ.set i o) b = σ b := fun b hb => Hp.AH fun e => nn (e ▸ hb)
   have Wq := hd.loc hτ
   have uF : m ≠ i := fun e => nn (e ▸ hd.Me)
   have Uj : Ext (σ0.off S0) ((σ.set i o).off S) := fun b u hb => by
     have hbi : b ≠ i := fun e => by rw [e, Hp.ME km] at hb; cases hb
     have h2 := Hp.AG.1 (hx b u hb)
     exact Hp.AG.2 ⟨h2.1, by rw [Hp.AH hbi]; exact h2.2⟩
   have hr := Wq.row r (by simp)
   have E9 := Wq.out r (by simp)
   have ADy := hr.GF
   have FV := hr.own.rd.big
   have xv := Own.cap hr.own
   have AN9 := Oz _ (Hp.AA σ i o)
   have main : ∀ y : Int, 0 ≤ y → y ≤ (r.n : Int) - r.fl.GF → (x1 = 0 → y = 0) → DS.WV R (some ⟨d, 0, none⟩) x1 (some ⟨r.f, 0, none⟩) y (.pointer (some ⟨i, 0, none⟩)) (σ.set i o) := by
     intro y hy0 hy1 hyz
     obtain ⟨k, hk⟩ : ∃ k : Nat, (k : Int) = (r.fl.GF : Int) + y := ⟨((r.fl.GF : Int) + y).toNat, by omega⟩
     refine DS.Ub ⟨r.f, 0, rfl, r.p, r.n, r.c, AD hr.obj rfl, r.fl.GF, AD hr.obj rfl, by unfold AN; omega, by omega, ?_⟩
     refine AJ.store (v := .slice r.p (Int.toNat ((r.fl.GF : Int) + y)) r.c) Ug hr.obj rfl (by simp) (by simp [Value.cells, Value.oneCell']) ?_
     have hkt : Int.toNat ((r.fl.GF : Int) + y) = k := by omega
     rw [hkt]
     have hw : DT #[Value.slice r.p r.n r.c, .int .i64 r.fl.GF] 0 (Value.slice r.p k r.c).cells.toList = #[.slice r.p k r.c, .int .i64 r.fl.GF] := rfl
     rw [hw]
     refine ⟨r.p, k, r.c, AD (Hp.AA _ _ _) rfl, ?_⟩
     refine AJ.store (v := .int .i64 k) HW (Hp.AA _ _ _) rfl (by simp) (by simp [Value.cells, Value.oneCell']) ?_
     have hw : DT #[Value.slice r.p k r.c, .int .i64 r.fl.GF] (0 + 1) (Value.int .i64 k).cells.toList = #[.slice r.p k r.c, .int .i64 k] := rfl
     rw [hw, Hp.set_set]
     have Pd : k ≤ r.fl.data.length := by simp only [Row.n] at hy1; omega
     have Rj : (r.fl.data.take k).length = k := by rw [List.length_take, Nat.min_eq_left Pd]
     have key := Wq.change (σ' := (σ.set i o).set r.f (.cells #[.slice r.p k r.c, .int .i64 k] r.T (0, 0))) (r' := { r with fl := ⟨r.fl.data.take k, k⟩ }) rfl rfl rfl
       ⟨by simp only [Hp.AA, Rj], ?_, by simp [Row.n, Rj], by simp only [Row.n, Rj]; exact Nat.le_trans Pd hr.small, hr.nm⟩ E9.1 ?_
     · have VW : r.f ≠ i := fun e => nn (e ▸ hd.OL (r := r) (by simp) (by simp [Row.blocks]))
       have uG : (r1 ++ { r with fl := ⟨r.fl.data.take k, k⟩ } :: r2).map Row.Cd = (r1 ++ r :: r2).map Row.Cd := by simp [Row.Cd]
       have AJ4 : ((σ.set i o).set r.f (.cells #[.slice r.p k r.c, .int .i64 k] r.T (0, 0))) i = some o := by rw [Hp.AH (Ne.symm VW), Hp.AA]
       refine ih _ (hL ▸ KS Ju) _ { D with files := BE D.files r.name (some ⟨r.fl.data.take k, k⟩) } _ _ _ _ _ _ _ rfl Hn key.1 (by rw [uG]; exact Oz _ AJ4) (fun x hx => by rw [uG]; exact Lt x (List.mem_filter.1 hx).1) (fun HI => ?_) (fun s => ?_) (Uj.trans key.2)
       · rcases F1.1 HI with e | e | ⟨x, hx, QT⟩
         · exact nn (e ▸ hd.QS)
         · exact uF e.symm
         · rcases List.mem_append.1 hx with hx | hx
           · exact nn (hd.OL (by simp [hx]) QT)
           · rcases List.mem_cons.1 hx with rfl | hx
             · exact nn (hd.OL (r := r) (by simp) QT)
             · exact nn (hd.OL (by simp [hx]) QT)
       · have Vb : D.files r.name = some r.fl := by rw [hd.files, Row.cu hd.names]
         have hhs := hh s
         by_cases hs : s = r.name
         · subst hs
           refine ⟨fun h0 => ?_, fun f hf => .inr ?_⟩
           · rw [hhs.1 h0] at Vb; cases Vb
           · simp only [BE, if_true]
             rcases hhs.2 f hf with ⟨h1, _⟩ | ⟨k', h1, h2, h3, h4⟩
             · rw [h1] at Vb; cases Vb
               exact ⟨k, by omega, Pd, rfl, fun hz => by have := hyz hz; omega⟩
             · rw [h3] at Vb
               have Z0 : r.fl = ⟨f.data.take k', k'⟩ := (Option.some.inj Vb).symm
               refine ⟨k, ?_, ?_, ?_, fun hz => ?_⟩
               · rw [Z0] at hk; simp only at hk; omega
               · rw [Z0] at Pd; simp at Pd; omega
               · rw [Z0, List.take_take, Nat.min_eq_left]
                 rw [Z0] at Pd; simp at Pd; omega
               · have e1 := hyz hz
                 have e2 := h4 hz
                 rw [Z0] at hk; simp only at hk; omega
         · simp only [BE, hs, if_false]
           refine ⟨hhs.1, fun f hf => (hhs.2 f hf).imp (fun ⟨h1, x, hx, hk⟩ => ⟨h1, x, List.mem_filter.2 ⟨hx, ?_⟩, hk⟩) id⟩
           have : x.born ≠ r.Cd.born := fun e => by
             have := born_inj hd.map.Vh (Lt x hx) Ui e
             rw [this, GX] at hk
             exact hs hk.symm
           simpa using this
     · simp only [Rj]
       exact Own.loc (Own.shrink hr.own Pd) fun b hb => Hp.AH fun e => E9.1 (e ▸ hb)
     · intro b u hb
       have h3 := Hp.AG.1 hb
       exact Hp.AG.2 ⟨h3.1, by rw [Hp.AH fun e => h3.1 (by simp [Row.blocks, e])]; exact h3.2⟩
   refine ⟨_, _, rfl, Zz _ (Hp.AA _ _ _) (Hp.AH uF) ⟨_, _, rfl, fun h0 => ⟨r.f, 0, rfl, r.p, r.n, r.c, AD hr.obj rfl, r.fl.GF, AD hr.obj rfl, by unfold AN; omega, by unfold AN; omega, by omega, ?_⟩, fun _ => main 0 (by omega) (by omega) (fun _ => rfl)⟩⟩
   rintro x rfl
   have := fP h0 (show 0 ≤ (r.n : Int) - r.fl.GF by omega)
   exact main _ this.1 this.2 (fun hz => by rw [hz, Int.zero_tmod])
theorem kn {x1 : Int} (hd : A5 σ d D S) (hR : ∀ σ' S' gs, GN D.files gs → (x1 = 0 → kl D.files gs) → A5 σ' d ⟨gs, false, false, D.cnt⟩ S' → Ext (σ.off S) (σ'.off S') → R (.returned (.tuple #[])) σ') :
   Spec prog 290 #[.pointer (some ⟨d, 0, none⟩), .int .i64 x1] σ R := by
 obtain ⟨m, cl, rows, T, a, b, e, hd⟩ := hd
 refine DS.start ⟨d, 0, rfl, some m, AD hd.obj rfl, H9 hd.map fun i o hi Oz => ⟨_, rfl, ?_⟩⟩
 have nn : i ∉ S := fun hs => hd.known _ hs hi
 refine xu hi hR _ _ D S rows _ T a b e rfl rfl (hd.loc fun b hb => Hp.AH fun e => nn (e ▸ hb)) Oz (fun x hx => hx) nn (fun s => ⟨id, fun f hf => .inl ⟨hf, ?_⟩⟩) ((Ext.set hi).off S)
 rw [hd.files, Row.look] at hf
 cases iV : rows.find? (fun r => decide (r.name = s)) with
 | none => rw [iV] at hf; cases hf
 | some r => exact ⟨r.Cd, List.mem_map.2 ⟨r, List.mem_of_find?_eq_some iV, rfl⟩, GX.2 (by simpa using List.find?_some iV)⟩
end
end TwW
end
section
namespace TwW
open Go Tw Go.Proofs.Tryz
structure Wr (σ : Hp) (S : List Nat) (d : Nat) (D : Dk) (fs FF : ByteArray → Option Fl) (c : Nat) (R : Rr) : Prop where
 ok : ∀ σ' S', A5 σ' d ⟨fs, true, D.armed, c⟩ S' → Ext (σ.off S) (σ'.off S') → R (.returned (.int .i64 0)) σ'
 bad : D.armed = true → ∀ σ' S' gs, GN FF gs → A5 σ' d ⟨gs, false, false, c⟩ S' → Ext (σ.off S) (σ'.off S') → R (.returned (.int .i64 60)) σ'
section
variable {σ : Hp} {d : Nat} {D : Dk} {S : List Nat} {R : Rr}
def fQ (σ : Hp) (d : Nat) (D : Dk) (S : List Nat) (f : Nat) (cap : Array Value) (fs : ByteArray → Option Fl) (c : Nat) : Prop :=
 ∀ σ1, A5 σ1 d D S → Ext (σ.off S) (σ1.off S) → ∀ R : Rr, (∀ σ' S', A5 σ' d ⟨fs, D.up, D.armed, c⟩ S' → Ext (σ1.off S) (σ'.off S') → R (.returned (.tuple #[])) σ') → Spec prog f cap σ1 R
theorem Ap.ADz {m clock : Nat} {rows : List Row} {T : TypeId} {left keep writes : Int} {c : Nat} (h : Ap σ d D S m clock rows T left keep writes) (hc : D.cnt ≤ c) : Ap σ d { D with cnt := c } S m clock rows T left keep writes :=
 { h with cnt := Nat.le_trans h.cnt hc }
theorem JD {f1 f2 f3 : Nat} {c1 c2 c3 : Array Value} {fs FF : ByteArray → Option Fl} {c : Nat} (hd : A5 σ d D S) (Ed : D.up = true) (e1 : Enters prog f1) (e2 : Enters prog f2) (e3 : Enters prog f3)
   (h1 : ∀ R : Rr, R (.returned (.int .i64 0)) σ → Spec prog f1 c1 σ R) (h2 : fQ σ d D S f2 c2 fs c) (h3 : fQ σ d D S f3 c3 FF c) (hw : Wr σ S d D fs FF c R) :
   Spec prog 221 #[.pointer (some ⟨d, 0, none⟩), .func (.func f1) #[] c1, .func (.func f2) #[] c2, .func (.func f3) #[] c3] σ R := by
 obtain ⟨m, cl, rows, T, a, b, e, hd⟩ := hd
 obtain ⟨dfs, dup, qS, AJ5⟩ := D
 simp only at Ed
 subst Ed
 have SF : ∀ (σ1 : Hp) (e' : Int), Ap σ1 d ⟨dfs, true, qS, AJ5⟩ S m cl rows T a b e' → Ext (σ.off S) (σ1.off S) → ∀ (x : Int), x = IntKind.i64.wrap (a - 1) → AJ prog (Instr.storeAt 3 (.pointer (some ⟨d, 0 + 3, none⟩)) (.int .i64 x)) σ1 (fun _ A0 => ∃ (f54 : Nat) (OI OJ : Array Value), Value.func (.func f2) #[] c2 = .func (.func f54) OI OJ ∧ Enters prog f54 ∧ Spec prog f54 (OI ++ #[] ++ OJ) A0 (AB R (fun MO OB => MO = (.tuple #[]) ∧ R (.returned (.int .i64 0)) OB))) := by
   intro σ1 e' h e1 x _
   refine h.st (i := 0 + 3) (up := true) (armed := qS) (left' := x) HW rfl (by omega) (by simp [Value.cells, Value.oneCell']) rfl fun σ2 h' e2' _ => ?_
   refine ⟨f2, #[], c2, rfl, e2, ?_⟩
   have := h2 σ2 ⟨m, cl, rows, T, x, b, e', h'⟩ (e1.trans e2')
   simp only [Array.empty_append]
   exact this _ fun σ' S' hD hE => ⟨rfl, hw.ok σ' S' hD (e1.trans (e2'.trans hE))⟩
 refine JW.start ⟨d, 0, rfl, true, AD hd.obj rfl, fun h => by simp at h, fun _ => ⟨f1, #[], c1, rfl, e1, ?_⟩⟩
 simp only [Array.empty_append]
 refine h1 _ ⟨0, rfl, fun h => absurd rfl h, fun _ => ⟨e, AD hd.obj rfl, fun Kk _ => ?_⟩⟩
 refine hd.st (i := 0 + 5) (up := true) (armed := qS) (writes' := Kk) Zx rfl (by omega) (by simp [Value.cells, Value.oneCell']) rfl fun σ1 h ex _ => ?_
 refine ⟨qS, AD h.obj rfl, fun ht => ⟨a, AD h.obj rfl, fun ha => ⟨f3, #[], c3, rfl, e3, ?_⟩, fun _ => ⟨a, AD h.obj rfl, fun x hx => SF σ1 Kk h ex x hx⟩⟩, fun _ => ⟨a, AD h.obj rfl, fun x hx => SF σ1 Kk h ex x hx⟩⟩
 simp only [Array.empty_append]
 refine h3 σ1 ⟨m, cl, rows, T, a, b, Kk, h⟩ ex _ fun σ2 S2 hD hE => ⟨rfl, ?_⟩
 have hD' := hD
 obtain ⟨m2, cl2, Ws, T2, a2, b2, e2', hDi⟩ := hD'
 refine ⟨b2, AD hDi.obj rfl, ?_⟩
 exact kn hD fun σ3 S3 gs hc _ hD3 hE3 => ⟨rfl, hw.bad ht σ3 S3 gs hc hD3 (ex.trans (hE.trans hE3))⟩
theorem AD0 : Enters prog 227 := fun args w => call227 args w
theorem AJ7 : Enters prog 228 := fun args w => call228 args w
theorem AJ8 : Enters prog 222 := fun args w => call222 args w
theorem AJ9 : Enters prog 224 := fun args w => call224 args w
theorem xw : Enters prog 225 := fun args w => call225 args w
theorem AKA : Enters prog 232 := fun args w => call232 args w
theorem AKB : Enters prog 233 := fun args w => call233 args w
theorem AD1 : Enters prog 292 := fun args w => call292 args w
theorem AD2 : Enters prog 293 := fun args w => call293 args w
theorem JE {c : Nat} (hc : D.cnt ≤ c) : fQ σ d D S 225 #[] D.files c := fun σ1 hd _ R h => by
 refine Mc.start (h σ1 S ?_ (Ext.refl _))
 obtain ⟨m, cl, rows, T, a, b, e, hd⟩ := hd
 exact ⟨m, cl, rows, T, a, b, e, hd.ADz hc⟩
theorem Wt {L M : List ByteArray} (hn : L.Nodup) (h : ∀ x ∈ L, x ∈ M) : L.length ≤ M.length := by
 induction L generalizing M with
 | nil => simp
 | cons a L ih =>
   rw [List.nodup_cons] at hn
   obtain ⟨m1, m2, rfl⟩ := List.append_of_mem (h a (by simp))
   have := ih hn.2 (M := m1 ++ m2) fun x hx => by
     have h1 := h x (by simp [hx])
     simp only [List.mem_append, List.mem_cons] at h1 ⊢
     rcases h1 with h1 | rfl | h1
     · exact .inl h1
     · exact absurd hx hn.1
     · exact .inr h1
   simp only [List.length_append, List.length_cons] at this ⊢
   omega
def ON (D : Dk) : Prop := D.cnt < 1048576 ∨ ∃ F : List ByteArray, F.length < 1048576 ∧ ∀ s, (D.files s).isSome = true → s ∈ F
theorem ON.sub {D D' : Dk} (h : ON D) (hc : D'.cnt ≤ D.cnt) (hs : ∀ s, (D'.files s).isSome = true → (D.files s).isSome = true) : ON D' := by
 rcases h with h | ⟨F, h1, h2⟩
 · exact .inl (by omega)
 · exact .inr ⟨F, h1, fun s h => h2 s (hs s h)⟩
theorem ko {rows : List Row} (hf : D.files = Row.look rows) (hn : (rows.map (·.name)).Nodup) (hc : rows.length ≤ D.cnt) (h : ON D) : rows.length < 1048576 := by
 rcases h with h | ⟨F, h1, h2⟩
 · omega
 · have := Wt hn (M := F) fun s hs => h2 s (by
     rw [hf, Row.look]
     cases hh : rows.find? (fun r => decide (r.name = s)) with
     | some r => rfl
     | none =>
       obtain ⟨r, hr, rfl⟩ := List.mem_map.1 hs
       have := List.find?_eq_none.1 hh r hr
       simp at this)
   rw [List.length_map] at this; omega
theorem Uk {s : ByteArray} {p : Option Addr} {n c b0 b1 b2 : Nat} (hd : A5 σ d D S) (h0 : (σ.off S) b0 = some (.cells #[.pointer (some ⟨d, 0, none⟩)] 106 (0, 0))) (h1 : (σ.off S) b1 = some (.cells #[.string s] 9 (0, 0)))
   (h2 : (σ.off S) b2 = some (.cells #[.slice p n c] 84 (0, 0))) (hn : Ah s = true) (hc : ON D) (hlen : ((D.files s).getD ⟨[], 0⟩).data.length + n ≤ 4194304) (h : R (.returned (.int .i64 0)) σ) :
   Spec prog 228 #[.pointer (some ⟨b1, 0, none⟩), .pointer (some ⟨b0, 0, none⟩), .pointer (some ⟨b2, 0, none⟩)] σ R := by
 obtain ⟨m, cl, rows, T, a, b, e, hd⟩ := hd
 have Yb := Hp.AG.1 h0
 have Uh := Hp.AG.1 h1
 have fR := Hp.AG.1 h2
 have Rx : (rows.map (·.name)).Nodup := by
   have := hd.map.nodup
   rw [List.map_map] at this
   have e : (rows.map ((fun e : MapEntry => e.key) ∘ Row.Cd)) = (rows.map (·.name)).map Value.string := by rw [List.map_map]; rfl
   rw [e, List.Nodup, List.pairwise_map] at this
   exact this.imp fun Ae e => Ae (by rw [e])
 have hcn := ko hd.files Rx hd.cnt hc
 refine Gx.start ⟨s, AD Uh.2 rfl, KZ ⟨_, rfl, fun hf => (by rw [hn] at hf; cases hf), fun _ => ⟨_, AD Yb.2 rfl, d, 0, rfl, some m, AD hd.obj rfl, s, AD Uh.2 rfl, hd.look (fun _ JY => ⟨none, rfl, fun _ => ?_, fun hh => by simp at hh⟩) fun r1 r r2 CO Ez JY => ⟨_, rfl, fun hh => by simp at hh, fun _ => ?_⟩⟩⟩⟩
 · refine ⟨_, AD Yb.2 rfl, d, 0, rfl, some m, AD hd.obj rfl, _, vV hd.map, fun hh => ?_, fun _ => ⟨p, n, c, AD fR.2 rfl, fun hh => ?_, fun _ => ⟨fun hh => by simp at hh, fun _ => h⟩⟩⟩
   · simp at hh; omega
   · rw [JY] at hlen; simp at hlen; omega
 · rw [JY] at hlen
   simp only [Option.getD_some] at hlen
   have hr := hd.row r (by simp [CO])
   refine ⟨fun _ => ⟨p, n, c, AD fR.2 rfl, r.f, 0, rfl, r.p, r.n, r.c, AD hr.obj rfl, by unfold AN; simp only [Row.n]; omega, fun hh => ?_, fun _ => h⟩, fun hh => by simp at hh⟩
   simp only [Row.n] at hh; omega
theorem Ff {o : Obj} {b : Nat} (hd : A5 σ d D S) (hb : σ b = none) : ((σ.set b o).off S) b = some o ∧ A5 (σ.set b o) d D S ∧ Ext (σ.off S) ((σ.set b o).off S) := by
 have VV : b ∉ S := fun hs => hd.known _ hs hb
 exact ⟨by rw [Hp.EP VV, Hp.AA], hd.mono (.set hb), (Ext.set hb).off S⟩
theorem OO {s : ByteArray} {p : Option Addr} {n c : Nat} {xs : List Int} (hd : A5 σ d D S) (Ed : D.up = true) (hn : Ah s = true) (hc : ON D) (hx : B9 .u8 (σ.off S) p n xs) (hlen : ((D.files s).getD ⟨[], 0⟩).data.length + n ≤ 4194304)
   (hw : Wr σ S d D (EV D.files s xs) (EV D.files s xs) (D.cnt + 1) R) : Spec prog 135 #[.pointer (some ⟨d, 0, none⟩), .string s, .slice p n c] σ R := by
 refine IU.start fun b3 Ul b4 fS b5 Wu => ?_
 obtain ⟨q3, d3, x3⟩ := Ff (o := .cells #[.pointer (some ⟨d, 0, none⟩)] 106 (0, 0)) hd Ul
 obtain ⟨q4, d4, x4⟩ := Ff (o := .cells #[.string s] 9 (0, 0)) d3 fS
 obtain ⟨q5, d5, x5⟩ := Ff (o := .cells #[.slice p n c] 84 (0, 0)) d4 Wu
 have Yc := x5 _ _ (x4 _ _ q3)
 have q4' := x5 _ _ q4
 have Ci := hx.mono (x3.trans (x4.trans x5))
 refine ⟨_, AD (Hp.AG.1 Yc).2 rfl, JD d5 Ed AJ7 AD0 AD0 (fun R h => Uk d5 Yc q4' q5 hn hc hlen h) (fun σ1 TD he R h => Mf hn TD (he _ _ Yc) (he _ _ q4') (he _ _ q5) (Ci.mono he) hlen h)
   (fun σ1 TD he R h => Mf hn TD (he _ _ Yc) (he _ _ q4') (he _ _ q5) (Ci.mono he) hlen h) ⟨fun σ' S' hD hE => ⟨0, rfl, hw.ok σ' S' hD (x3.trans (x4.trans (x5.trans hE)))⟩, fun ha σ' S' gs hg hD hE => ⟨60, rfl, hw.bad ha σ' S' gs hg hD (x3.trans (x4.trans (x5.trans hE)))⟩⟩⟩
theorem Z1 {s : ByteArray} {f : Fl} {b0 b1 : Nat} (h0 : (σ.off S) b0 = some (.cells #[.pointer (some ⟨d, 0, none⟩)] 106 (0, 0))) (h1 : (σ.off S) b1 = some (.cells #[.string s] 9 (0, 0))) (hf : D.files s = some f) :
   fQ σ d D S 224 #[.pointer (some ⟨b0, 0, none⟩), .pointer (some ⟨b1, 0, none⟩)] (BE D.files s (some ⟨f.data, f.data.length⟩)) D.cnt := fun σ1 hd hx R h => by
 obtain ⟨m, cl, rows, T, a, b, e, hd⟩ := hd
 have Yb := Hp.AG.1 (hx _ _ h0)
 have Uh := Hp.AG.1 (hx _ _ h1)
 refine II.start ⟨_, AD Yb.2 rfl, d, 0, rfl, some m, AD hd.obj rfl, s, AD Uh.2 rfl, hd.look (fun hn JY => (by rw [hf] at JY; cases JY)) fun r1 r r2 CO Ez JY => ⟨_, rfl, r.f, 0, rfl, r.p, r.n, r.c, ?_⟩⟩
 subst CO
 have hr := hd.row r (by simp)
 have E9 := hd.out r (by simp)
 rw [hf] at JY
 cases JY
 refine ⟨AD hr.obj rfl, AJ.store (v := .int .i64 r.n) HW hr.obj rfl (by simp) (by simp [Value.cells, Value.oneCell']) ?_⟩
 have hw : DT #[Value.slice r.p r.n r.c, .int .i64 r.fl.GF] (0 + 1) (Value.int .i64 r.n).cells.toList = #[.slice r.p r.n r.c, .int .i64 r.n] := rfl
 rw [hw]
 have key := hd.change (σ' := σ1.set r.f (.cells #[.slice r.p r.n r.c, .int .i64 r.n] r.T (0, 0))) (r' := { r with fl := ⟨r.fl.data, r.n⟩ }) rfl rfl rfl
   ⟨Hp.AA _ _ _, Own.loc hr.own fun b hb => Hp.AH fun e => E9.1 (e ▸ hb), Nat.le_refl _, hr.small, hr.nm⟩ E9.1 (fun b u hb => by
     have h3 := Hp.AG.1 hb
     exact Hp.AG.2 ⟨h3.1, by rw [Hp.AH fun e => h3.1 (by simp [Row.blocks, e])]; exact h3.2⟩)
 rw [Ez] at key
 exact h _ _ ⟨_, _, _, _, _, _, _, key.1⟩ key.2
theorem TE {s : ByteArray} {f : Fl} (hd : A5 σ d D S) (Ed : D.up = true) (hn : Ah s = true) (hf : D.files s = some f)
   (hw : Wr σ S d D (BE D.files s (some ⟨f.data, f.data.length⟩)) D.files D.cnt R) : Spec prog 133 #[.pointer (some ⟨d, 0, none⟩), .string s] σ R := by
 refine KC.start fun b3 Ul b4 fS => ?_
 obtain ⟨q3, d3, x3⟩ := Ff (o := .cells #[.pointer (some ⟨d, 0, none⟩)] 106 (0, 0)) hd Ul
 obtain ⟨q4, d4, x4⟩ := Ff (o := .cells #[.string s] 9 (0, 0)) d3 fS
 have Yc := x4 _ _ q3
 refine ⟨_, AD (Hp.AG.1 Yc).2 rfl, JD d4 Ed AJ8 AJ9 xw (fun R h => IK.start ⟨_, AD (Hp.AG.1 Yc).2 rfl, s, AD (Hp.AG.1 q4).2 rfl, JC d4 (fun hh => by rw [hn] at hh; cases hh) (fun _ hh => by rw [hf] at hh; cases hh) fun f' _ _ => ⟨0, rfl, h⟩⟩)
   (Z1 Yc q4 hf) (JE (Nat.le_refl _)) ⟨fun σ' S' hD hE => ⟨0, rfl, hw.ok σ' S' hD (x3.trans (x4.trans hE))⟩, fun ha σ' S' gs hg hD hE => ⟨60, rfl, hw.bad ha σ' S' gs hg hD (x3.trans (x4.trans hE))⟩⟩⟩
theorem Ap.AKC {m cl : Nat} {r1 r2 : List Row} {r : Row} {T : TypeId} {a b e : Int} (hd : Ap σ d D S m cl (r1 ++ r :: r2) T a b e) {σ' : Hp} (hσ : ∀ b, b ≠ m → σ' b = σ b) {cl' : Nat} (hm : A1 σ' m ((r1 ++ r2).map Row.Cd) cl') :
   Ap σ' d { D with files := BE D.files r.name none } (TwW.ET d m (r1 ++ r2)) m cl' (r1 ++ r2) T a b e ∧ Ext (σ.off S) (σ'.off (TwW.ET d m (r1 ++ r2))) := by
 have Ck : ∀ x ∈ r1 ++ r2, x ∈ r1 ++ r :: r2 := fun x hx => by
   rcases List.mem_append.1 hx with h | h <;> simp [h]
 refine hd.kj hσ hm (fun x hx => hd.row x (Ck x hx)) (fun x hx b hb => ⟨hd.OL (Ck x hx) hb, fun e => (hd.out x (Ck x hx)).2.1 (e ▸ hb), fun e => (hd.out x (Ck x hx)).2.2 (e ▸ hb)⟩) (fun x hx => (hd.out x (Ck x hx)).1) ?_ ?_ ?_
 · exact hd.sep.sublist (List.Sublist.append_left (List.sublist_cons_self ..) _)
 · rw [hd.files, Row.Wo hd.names]
 · have := hd.cnt; simp at this ⊢; omega
theorem Um {s : ByteArray} {f : Fl} {b0 b1 : Nat} (h0 : (σ.off S) b0 = some (.cells #[.pointer (some ⟨d, 0, none⟩)] 106 (0, 0))) (h1 : (σ.off S) b1 = some (.cells #[.string s] 9 (0, 0))) (hf : D.files s = some f) :
   fQ σ d D S 233 #[.pointer (some ⟨b0, 0, none⟩), .pointer (some ⟨b1, 0, none⟩)] (BE D.files s none) D.cnt := fun σ1 hd hx R h => by
 obtain ⟨m, cl, rows, T, a, b, e, hd⟩ := hd
 have Yb := Hp.AG.1 (hx _ _ h0)
 have Uh := Hp.AG.1 (hx _ _ h1)
 refine Gt.start ⟨_, AD Yb.2 rfl, d, 0, rfl, some m, AD hd.obj rfl, s, AD Uh.2 rfl, Pn (T := 186) hd.map (fun hn => ?_) (fun l1 x l2 hl hx σ' hσ hm => ?_) rfl⟩
 · exfalso
   rw [hd.files, Row.FU (IZ hn)] at hf; cases hf
 · obtain ⟨r1, r, r2, rfl, rfl, rfl, rfl⟩ := EU hl
   have key := hd.AKC (σ' := σ') (fun b hb => by rw [hσ, Hp.AH hb]) (by simpa using hm)
   rw [GX.1 hx] at key
   exact h _ _ ⟨_, _, _, _, _, _, _, key.1⟩ key.2
theorem OP {s : ByteArray} {f : Fl} (hd : A5 σ d D S) (Ed : D.up = true) (hn : Ah s = true) (hf : D.files s = some f)
   (hw : Wr σ S d D (BE D.files s none) D.files D.cnt R) : Spec prog 138 #[.pointer (some ⟨d, 0, none⟩), .string s] σ R := by
 refine IP.start fun b3 Ul b4 fS => ?_
 obtain ⟨q3, d3, x3⟩ := Ff (o := .cells #[.pointer (some ⟨d, 0, none⟩)] 106 (0, 0)) hd Ul
 obtain ⟨q4, d4, x4⟩ := Ff (o := .cells #[.string s] 9 (0, 0)) d3 fS
 have Yc := x4 _ _ q3
 refine ⟨_, AD (Hp.AG.1 Yc).2 rfl, JD d4 Ed AKA AKB xw (fun R h => Gr.start ⟨_, AD (Hp.AG.1 Yc).2 rfl, s, AD (Hp.AG.1 q4).2 rfl, JC d4 (fun hh => by rw [hn] at hh; cases hh) (fun _ hh => by rw [hf] at hh; cases hh) fun f' _ _ => ⟨0, rfl, h⟩⟩)
   (Um Yc q4 hf) (JE (Nat.le_refl _)) ⟨fun σ' S' hD hE => ⟨0, rfl, hw.ok σ' S' hD (x3.trans (x4.trans hE))⟩, fun ha σ' S' gs hg hD hE => ⟨60, rfl, hw.bad ha σ' S' gs hg hD (x3.trans (x4.trans hE))⟩⟩⟩
def fT (L : List (List Nat)) : Prop := L.Pairwise fun a b => ∀ x ∈ a, x ∉ b
theorem Ng {L L' : List (List Nat)} (h : L.Perm L') (g : fT L) : fT L' := (h.pairwise_iff (fun {x y} hxy b hb Jf => hxy b Jf hb)).1 g
theorem Nh {rows : List Row} : (rows.Pairwise fun r s => ∀ b ∈ r.blocks, b ∉ s.blocks) ↔ fT (rows.map Row.blocks) := by rw [fT, List.pairwise_map]
theorem QV {r q : Row} : ∀ {r1 r2 q1 q2 : List Row}, ((r1 ++ r :: r2).map (·.name)).Nodup → r1 ++ r :: r2 = q1 ++ q :: q2 → r.name = q.name → r1 = q1 ∧ r = q ∧ r2 = q2
 | [], _, [], _, _, h, _ => by simp at h; exact ⟨rfl, h⟩
 | [], r2, c :: q1, q2, hn, h, he => by
   simp at h
   obtain ⟨rfl, rfl⟩ := h
   exact absurd he.symm ((HV (r1 := []) hn).2 q (by simp))
 | c :: r1, r2, [], q2, hn, h, he => by
   simp at h
   obtain ⟨rfl, rfl⟩ := h
   exact absurd he.symm ((HV hn).1 c (by simp))
 | c :: r1, r2, c' :: q1, q2, hn, h, he => by
   simp at h
   obtain ⟨rfl, h⟩ := h
   have := QV (by simp at hn ⊢; exact hn.2) h he
   exact ⟨by rw [this.1], this.2⟩
theorem Un {s t : ByteArray} {f : Fl} {b0 b1 b2 : Nat} (hnt : Ah t = true) (h0 : (σ.off S) b0 = some (.cells #[.pointer (some ⟨d, 0, none⟩)] 106 (0, 0))) (h1 : (σ.off S) b1 = some (.cells #[.string s] 9 (0, 0))) (h2 : (σ.off S) b2 = some (.cells #[.string t] 9 (0, 0))) (hf : D.files s = some f) :
   fQ σ d D S 293 #[.pointer (some ⟨b0, 0, none⟩), .pointer (some ⟨b1, 0, none⟩), .pointer (some ⟨b2, 0, none⟩)] (BE (BE D.files s none) t (some f)) D.cnt := fun σ1 hd hx R h => by
 obtain ⟨m, cl, rows, T, a, b, e, hd⟩ := hd
 have h0 := hx _ _ h0
 have h1 := hx _ _ h1
 have h2 := hx _ _ h2
 have Yb := Hp.AG.1 h0
 have Uh := Hp.AG.1 h1
 have fR := Hp.AG.1 h2
 have n0 : b0 ≠ m := fun e => Yb.1 (e ▸ hd.Me)
 have n2 : b2 ≠ m := fun e => fR.1 (e ▸ hd.Me)
 refine Gy.start ⟨_, AD Yb.2 rfl, d, 0, rfl, some m, AD hd.obj rfl, s, AD Uh.2 rfl, hd.look (fun hn JY => (by rw [hf] at JY; cases JY)) fun r1 r r2 CO Ez JY => ⟨_, rfl, _, AD Yb.2 rfl, d, 0, rfl, some m, AD hd.obj rfl, s, AD Uh.2 rfl, ?_⟩⟩
 refine Pn (T := 186) hd.map (fun hn => ?_) (fun l1 x l2 hl Ay σ2 ZZ hm2 => ?_) rfl
 · exfalso
   rw [hd.files, Row.FU (IZ hn)] at hf; cases hf
 · obtain ⟨q1, q, q2, xx, rfl, rfl, rfl⟩ := EU hl
   have Rx := hd.names
   rw [CO] at Rx
   obtain ⟨rfl, rfl, rfl⟩ := QV Rx (CO.symm.trans xx) (Ez.trans (GX.1 Ay).symm)
   subst CO
   have Ck : ∀ x ∈ r1 ++ r2, x ∈ r1 ++ r :: r2 := fun x hx => by
     rcases List.mem_append.1 hx with h | h <;> simp [h]
   have C2 : ∀ x ∈ r1 ++ r :: r2, ∀ b ∈ x.blocks, b ∈ S ∧ b ≠ d ∧ b ≠ m := fun x hx b hb => ⟨hd.OL hx hb, fun e => (hd.out x hx).2.1 (e ▸ hb), fun e => (hd.out x hx).2.2 (e ▸ hb)⟩
   have AD3 : ((r1 ++ r2).map (·.name)).Nodup := Rx.sublist ((List.Sublist.append_left (List.sublist_cons_self ..) _).map _)
   rw [hf] at JY
   cases JY
   have kr : fT ((r :: (r1 ++ r2)).map Row.blocks) := Ng (List.perm_middle.map _) (Nh.1 hd.sep)
   have Nz : BE D.files s none = Row.look (r1 ++ r2) := by rw [hd.files, Row.Wo Rx, Ez]
   have hlen : (r1 ++ r2).length + 1 ≤ D.cnt := by have := hd.cnt; simp at this ⊢; omega
   have hm3 : A1 σ2 m ((r1 ++ r2).map Row.Cd) cl := by simpa using hm2
   refine ⟨_, AD (by rw [ZZ, Hp.AH n0]; exact Yb.2) rfl, d, 0, rfl, some m, AD (by rw [ZZ, Hp.AH (Ne.symm hd.ne)]; exact hd.obj) rfl, t, AD (by rw [ZZ, Hp.AH n2]; exact fR.2) rfl, EE hm3 (fun BX σ3 fU hm => ?_) fun k1 x k2 hk fV σ3 fU hm => ?_⟩
   · have key := hd.kj (σ' := σ3) (rows' := (r1 ++ r2) ++ [{ r with name := t, born := cl }]) (clock' := cl + 1) (fs := BE (BE D.files s none) t (some r.fl)) (cnt := D.cnt) (fun b hb => by rw [fU, Hp.AH hb, ZZ, Hp.AH hb]) (by simpa [Row.Cd] using hm) ?_ ?_ ?_ ?_ ?_ ?_
     · exact h σ3 _ ⟨_, _, _, _, _, _, _, key.1⟩ key.2
     · intro x hx
       rcases List.mem_append.1 hx with hx | hx
       · exact hd.row x (Ck x hx)
       · rw [List.mem_singleton] at hx; subst hx
         have := hd.row r (by simp)
         exact ⟨this.obj, this.own, this.GF, this.small, hnt⟩
     · intro x hx
       rcases List.mem_append.1 hx with hx | hx
       · exact C2 x (Ck x hx)
       · rw [List.mem_singleton] at hx; subst hx
         exact C2 r (by simp)
     · intro x hx
       rcases List.mem_append.1 hx with hx | hx
       · exact (hd.out x (Ck x hx)).1
       · rw [List.mem_singleton] at hx; subst hx
         exact (hd.out r (by simp)).1
     · rw [Nh]
       refine Ng ?_ kr
       rw [List.map_cons, List.map_append (l₁ := r1 ++ r2)]
       exact (List.perm_append_singleton (Row.blocks r) _).symm
     · rw [Nz]
       exact (Row.TC (r := { r with name := t, born := cl }) (fun x hx => IZ BX x hx)).symm
     · simp at hlen ⊢; omega
   · obtain ⟨q1, q, q2, hq, rfl, rfl, rfl⟩ := EU hk
     rw [hq] at Ck AD3 kr Nz hlen
     have key := hd.kj (σ' := σ3) (rows' := q1 ++ { r with name := t, born := q.born } :: q2) (clock' := cl) (fs := BE (BE D.files s none) t (some r.fl)) (cnt := D.cnt) (fun b hb => by rw [fU, Hp.AH hb, ZZ, Hp.AH hb]) (by simpa [Row.Cd] using hm) ?_ ?_ ?_ ?_ ?_ ?_
     · exact h σ3 _ ⟨_, _, _, _, _, _, _, key.1⟩ key.2
     · intro x hx
       rcases List.mem_append.1 hx with hx | hx
       · exact hd.row x (Ck x (by simp [hx]))
       · rcases List.mem_cons.1 hx with rfl | hx
         · have := hd.row r (by simp)
           exact ⟨this.obj, this.own, this.GF, this.small, hnt⟩
         · exact hd.row x (Ck x (by simp [hx]))
     · intro x hx
       rcases List.mem_append.1 hx with hx | hx
       · exact C2 x (Ck x (by simp [hx]))
       · rcases List.mem_cons.1 hx with rfl | hx
         · exact C2 r (by simp)
         · exact C2 x (Ck x (by simp [hx]))
     · intro x hx
       rcases List.mem_append.1 hx with hx | hx
       · exact (hd.out x (Ck x (by simp [hx]))).1
       · rcases List.mem_cons.1 hx with rfl | hx
         · exact (hd.out r (by simp)).1
         · exact (hd.out x (Ck x (by simp [hx]))).1
     · rw [Nh]
       have h1 : fT ((r :: (q1 ++ q2)).map Row.blocks) := kr.sublist (((List.Sublist.append_left (List.sublist_cons_self ..) _).cons₂ r).map _)
       refine Ng ?_ h1
       rw [List.map_cons, List.map_append, List.map_append, List.map_cons]
       exact List.perm_middle.symm
     · rw [Nz, ← GX.1 fV]
       exact (Row.OM (r' := { r with name := q.name, born := q.born }) AD3 rfl).symm
     · simp at hlen ⊢; omega
theorem Wv {s t : ByteArray} {f : Fl} (hd : A5 σ d D S) (Ed : D.up = true) (hn : Ah s = true) (Jn : Ah t = true) (hf : D.files s = some f)
   (hw : Wr σ S d D (BE (BE D.files s none) t (some f)) D.files D.cnt R) : Spec prog 231 #[.pointer (some ⟨d, 0, none⟩), .string s, .string t] σ R := by
 refine IY.start fun b3 Ul b4 fS b5 Wu => ?_
 obtain ⟨q3, d3, x3⟩ := Ff (o := .cells #[.pointer (some ⟨d, 0, none⟩)] 106 (0, 0)) hd Ul
 obtain ⟨q4, d4, x4⟩ := Ff (o := .cells #[.string s] 9 (0, 0)) d3 fS
 obtain ⟨q5, d5, x5⟩ := Ff (o := .cells #[.string t] 9 (0, 0)) d4 Wu
 have Yc := x5 _ _ (x4 _ _ q3)
 have q4' := x5 _ _ q4
 refine ⟨_, AD (Hp.AG.1 Yc).2 rfl, JD d5 Ed AD1 AD2 xw (fun R h => G3.start ⟨t, AD (Hp.AG.1 q5).2 rfl, KZ ⟨_, rfl, fun hh => (by rw [Jn] at hh; cases hh), fun _ => ⟨_, AD (Hp.AG.1 Yc).2 rfl, s, AD (Hp.AG.1 q4').2 rfl,
     JC d5 (fun hh => by rw [hn] at hh; cases hh) (fun _ hh => by rw [hf] at hh; cases hh) fun f' _ _ => ⟨0, rfl, h⟩⟩⟩⟩)
   (Un Jn Yc q4' q5 hf) (JE (Nat.le_refl _)) ⟨fun σ' S' hD hE => ⟨0, rfl, hw.ok σ' S' hD (x3.trans (x4.trans (x5.trans hE)))⟩, fun ha σ' S' gs hg hD hE => ⟨60, rfl, hw.bad ha σ' S' gs hg hD (x3.trans (x4.trans (x5.trans hE)))⟩⟩⟩
end
end TwW
end
