/-
  Part 3 of the proof that the law DistributorQuorumCardSaid of the given program answers true for every input of the given statement; the input reads behind the call as it did. (The texts: packed from 10 texts. Names are shortened by the packing program, for the bound on size.)
-/
import Derived.Test.YtaaincfenibojaaGreatDoorA2
set_option linter.all false
section
set_option maxRecDepth 100000
noncomputable section
namespace TwW
open Go Tw Go.Proofs.Tryz
variable [Ht] {R : Rr} {σ : Hp}

namespace JG
variable {En Iw Hg jt ju jv jw jx jy jz : Int} {t0k : Bool}
def M : Fw := ⟨prog, 9, f9, [], [1], false, [], [], []⟩
theorem ok : M.Ok := ⟨AK.nil, mixed, func9, by kernel_rfl⟩
theorem start (h : ∀ b1 : Nat, AJ prog (Instr.makeMap 101 none) σ (fun z y => ∃ m4, z = (.map (some m4)) ∧ Al y fun b6 => R (.returned (.pointer (aD b6 0))) (Hp.set y b6 (.cells #[.int .i64 En, .int .i64 Iw, .int .i64 Hg, .int .i64 jt, .int .i64 ju, .int .i64 jv, .int .i64 jw, .int .i64 jx, .int .i64 jy, .int .i64 jz, .bool t0k, (.map (some m4))] 103 (0, 0))))) : Spec prog 9 #[.agg #[.int .i64 En, .int .i64 Iw, .int .i64 Hg, .int .i64 jt, .int .i64 ju, .int .i64 jv, .int .i64 jw, .int .i64 jx, .int .i64 jy, .int .i64 jz, .bool t0k]] σ R := M.start h ok
end JG
namespace Lv
variable {q0 p5 q7 : Option Addr} {n5 c5 : Nat} {x8 : Int}
def M : Fw := ⟨prog, 43, f43, [72, 97, 98], [9], false, [], [], [(2000, [(5, wL), (7, wQ), (8, wI)])]⟩
theorem ok : M.Ok := ⟨.cons call72 (.cons call97 (.cons call98 (AK.nil))), mixed, func43, by kernel_rfl⟩
def Wc := M.pt 0
theorem start (h : Spec prog 97 #[.pointer q0, (.string (ByteArray.mk #[107, 118]))] σ (AB R (fun z y => ∃ AB0 pR pS pT Nl, z = (.tuple #[.pointer AB0, .slice pR pS pT, .int .i64 Nl]) ∧ Br (Nl ≠ 0) (R (.returned (.tuple #[.pointer none, .int .i64 Nl])) y) (Al y fun Nf => Wc R pR pS pT (aD Nf 0) 0 (Hp.set y Nf (.cells #[.pointer AB0, .slice none 0 0] 150 (0, 0))))))) : Spec prog 43 #[.pointer q0] σ R := M.start h ok
theorem Uk (h : Br (x8 < (n5 : Int)) (Pq p5 fun j0 j7 => In x8 (n5 : Int) ∧ LS σ j0 (j7 + Int.toNat x8 * 1) fun jb n33 jc => Spec prog 98 #[.slice jb n33 jc] σ (AB R (fun z y => ∃ sv sw sx sy tA AB1, z = (.tuple #[.agg #[.string sv, .slice sw sx sy, .int .u64 tA], .bool AB1]) ∧ ∀ b9 : Nat, Bn AB1 (R (.returned (.tuple #[.pointer none, .int .i64 71])) y) (Spec prog 72 #[.pointer q7, .agg #[.string sv, .slice sw sx sy, .int .u64 tA]] y (AB R (fun z AI => z = (.tuple #[]) ∧ AN (x8 + 1) ∧ Wc R (aD j0 j7) n5 c5 q7 (x8 + 1) AI)))))) (R (.returned (.tuple #[.pointer q7, .int .i64 0])) σ)) : Wc R p5 n5 c5 q7 x8 σ := M.of h ok rfl
end Lv
namespace BY
variable {En Lr Gm Nh hX PW LR TK O4 : Int} {HB p5 WU pU j8 p51 : Option Addr} {GI HC n5 c5 n26 TH nU pV n39 R5 n51 c51 : Nat}
def M : Fw := ⟨prog, 44, f44, [54, 99], [1, 7], false, [], [], [(488, [(5, wL), (26, wL), (27, wI), (28, wI)]), (250664, [(5, wL), (7, .X 196 [.I .i64, .I .i64, .L]), (26, wL), (27, wI), (28, wI), (39, wL), (40, wI), (41, wI)]), (250680, [(5, wL), (26, wL), (27, wI), (28, wI), (51, wL), (52, wI), (53, wI)])]⟩
theorem ok : M.Ok := ⟨.cons call54 (.cons call99 (AK.nil)), mixed, func44, by kernel_rfl⟩
def Nb := M.pt 0
def Wa := M.pt 1
def pW := M.pt 2
theorem start (h : ∀ b1 : Nat, Spec prog 54 #[.agg #[.int .u64 En, .slice HB GI HC]] σ (AB R (CI .i64 fun E8 y => Br (E8 ≠ 0) (R (.returned (.tuple #[.slice none 0 0, .int .i64 E8])) y) (Df (IntKind.u64.wrap (GI : Int)) fun QL => Spec prog 99 #[.slice none 0 0, .int .u64 En] y (AB R (CS fun J4 n19 Ke AI => Spec prog 99 #[.slice J4 n19 Ke, .int .u64 QL] AI (AB R (CS fun WI n24 c24 Ab => Nb R WI n24 c24 HB GI HC (GI : Int) 0 Ab)))))))) : Spec prog 44 #[.agg #[.int .u64 En, .slice HB GI HC]] σ R := M.start h ok
theorem Iv (h : Br (Gm < Lr) (Pq WU fun TJ Yl => In Gm (n26 : Int) ∧ ∃ w5 w6 AB3 w7 AB4, Dz σ TJ (Yl + Int.toNat Gm * 3) [.int .i64 w5, .int .i64 w6, .slice AB3 w7 AB4] ∧ ∀ b7 : Nat, Al σ fun Nn => Wa R p5 n5 c5 w5 w6 AB3 w7 AB4 (aD TJ Yl) n26 TH Lr Gm (aD Nn 0) 3 3 3 0 (Hp.set σ Nn (.cells #[.int .i64 w5, .int .i64 w6, (.int .i64 (w7 : Int))] 3 (0, 0)))) (R (.returned (.tuple #[.slice p5 n5 c5, .int .i64 0])) σ)) : Nb R p5 n5 c5 WU n26 TH Lr Gm σ := M.of h ok rfl
theorem I0 (h : Br (LR < PW) (Pq j8 fun F8 PY => In LR (n39 : Int) ∧ LI .i64 σ F8 (PY + Int.toNat LR * 1) fun pX => Df (IntKind.u64.wrap pX) fun R4 => Spec prog 99 #[.slice p5 n5 c5, .int .u64 R4] σ (AB R (CS fun p48 n48 c48 y => AN (LR + 1) ∧ Wa R p48 n48 c48 Nh hX pU nU pV WU n26 TH Lr Gm (aD F8 PY) n39 R5 PW (LR + 1) y))) (pW R p5 n5 c5 WU n26 TH Lr Gm pU nU pV (nU : Int) 0 σ)) : Wa R p5 n5 c5 Nh hX pU nU pV WU n26 TH Lr Gm j8 n39 R5 PW LR σ := M.Yb h ok rfl fun _ => by kernel_rfl
theorem cW (h : Br (O4 < TK) (Pq p51 fun VW wz => In O4 (n51 : Int) ∧ LI .u32 σ VW (wz + Int.toNat O4 * 1) fun x56 => Df (IntKind.u64.wrap x56) fun wi => Spec prog 99 #[.slice p5 n5 c5, .int .u64 wi] σ (AB R (CS fun p60 n60 c60 y => AN (O4 + 1) ∧ pW R p60 n60 c60 WU n26 TH Lr Gm (aD VW wz) n51 c51 TK (O4 + 1) y))) (AN (Gm + 1) ∧ Nb R p5 n5 c5 WU n26 TH Lr (Gm + 1) σ)) : pW R p5 n5 c5 WU n26 TH Lr Gm p51 n51 c51 TK O4 σ := M.of h ok rfl
end BY
namespace DO
variable {q0 q1 q2 : Option Addr}
def M : Fw := ⟨prog, 47, f47, [], [], false, [], [], []⟩
theorem ok : M.Ok := ⟨AK.nil, mixed, func47, by kernel_rfl⟩
theorem start (h : Al σ fun b3 => Al (Hp.set σ b3 (.cells #[.pointer q0] 33 (0, 0))) fun b4 => Al (Hp.set (Hp.set σ b3 (.cells #[.pointer q0] 33 (0, 0))) b4 (.cells #[.pointer q1] 118 (0, 0))) fun b5 => Al (Hp.set (Hp.set (Hp.set σ b3 (.cells #[.pointer q0] 33 (0, 0))) b4 (.cells #[.pointer q1] 118 (0, 0))) b5 (.cells #[.pointer q2] 35 (0, 0))) fun D7 => R (.returned (.slice (aD D7 0) 4 4)) (Hp.set (Hp.set (Hp.set (Hp.set σ b3 (.cells #[.pointer q0] 33 (0, 0))) b4 (.cells #[.pointer q1] 118 (0, 0))) b5 (.cells #[.pointer q2] 35 (0, 0))) D7 (.cells #[(.func (.func 103) #[] #[(.pointer (aD b4 0)), (.pointer (aD b3 0))]), (.func (.func 105) #[] #[(.pointer (aD b3 0)), (.pointer (aD b4 0))]), (.func (.func 107) #[] #[(.pointer (aD b5 0)), (.pointer (aD b3 0)), (.pointer (aD b4 0))]), (.func (.func 110) #[] #[(.pointer (aD b4 0)), (.pointer (aD b3 0)), (.pointer (aD b5 0))])] 123 (0, 0)))) : Spec prog 47 #[.pointer q0, .pointer q1, .pointer q2] σ R := M.start h ok
end DO
namespace JH
variable {jq : Option Addr} {ef jr : Nat} {Iw Hg : Int}
def M : Fw := ⟨prog, 53, f53, [], [1, 2], false, [], [], []⟩
theorem ok : M.Ok := ⟨AK.nil, mixed, func53, by kernel_rfl⟩
theorem start (h : ∀ b1 : Nat, ∀ b2 : Nat, Al σ fun b3 => AJ prog (Builtin.append_ #[22, 22] 22 #[(.slice (aD b3 0) 0 0), .slice jq ef jr]) (Hp.set σ b3 (.cells #[] 61 (0, 0))) (CS fun p6 n6 c6 y => R (.returned (.agg #[.slice p6 n6 c6, .int .i64 Iw, .int .u64 Hg])) y)) : Spec prog 53 #[.agg #[.slice jq ef jr, .int .i64 Iw, .int .u64 Hg]] σ R := M.start h ok
end JH
namespace TL
def K0 := f64.body.getD .skip
def K1 := cl K0
def K2 := cr K0
def K3 := cl K2
def K4 := cr K2
abbrev gl (R : Rr) : Gl := Gl.fn prog 64 14 R
theorem start {R : Rr} {s0 : ByteArray} {zx : Option Addr} {zy zz : Nat} {Ye : Int} {σ : Hp} (h : ∃ z7 : ByteArray, YF prog (convert 84 9 (.slice zx zy zz)) σ (.string z7) ∧ Spec prog 60 #[(.slice none 0 0), (.string s0)] σ (AB R (fun v σ1 => ∃ p6 : Option Addr, ∃ n6 : Nat, ∃ c6 : Nat, v = (.slice p6 n6 c6) ∧ Ext σ σ1 ∧ Spec prog 99 #[(.slice p6 n6 c6), (.int .u64 Ye)] σ1 (AB R (fun MU Az => ∃ p9 : Option Addr, ∃ n9 : Nat, ∃ c9 : Nat, MU = (.slice p9 n9 c9) ∧ Ext σ1 Az ∧ Spec prog 60 #[(.slice p9 n9 c9), (.string z7)] Az (AB R (fun Zs A0 => ∃ OI : Option Addr, ∃ n13 : Nat, ∃ O5 : Nat, Zs = (.slice OI n13 O5) ∧ Ext Az A0 ∧ R (.returned (.slice OI n13 O5)) A0))))))) : Spec prog 64 #[(.string s0), (.agg #[(.slice zx zy zz), (.int .u64 Ye)])] σ R := by
 refine Spec.Jp (fn := f64) (c := K0) func64 (by kernel_rfl) (Nat.le_of_ble_eq_true (by kernel_rfl)) (fun e he => ?_)
 refine At.oG (l := [(0, (.string s0)), (1, (.agg #[(.slice zx zy zz), (.int .u64 Ye)]))]) ⟨he 0, he 1, trivial⟩ (fun J => ?_)
 show At (gl R) _ _ _ _
 refine At.s K1 K2 ?_
 refine At.rg 0 [0, 1] ?_
 refine Seq.o ?_
 refine AV.box (T := 156) (d := (some 3)) (ty := 0) (x := (.tmp 1)) (gd := none) (cs := #[(.slice zx zy zz), (.int .u64 Ye)]) (by kernel_rfl) rfl rfl rfl (fun b3 => ?_)
 refine Seq.u 4 (.slice none 0 0) (Seq.done ?_)
 refine At.s K3 K4 ?_
 refine At.draw (id := 1) (ops := cO K3) (n := 10) (q := none) (plan := [(0, true), (2, true), (3, true), (5, true), (6, true), (7, true), (1, false), (4, false), (8, false), (9, true)]) (tl := []) mixed (by kernel_rfl) (by kernel_rfl) ?_
 refine Head.u 5 (.string s0) ?_
 refine Head.z 7 (.fieldAddr 156 (.tmp 3) 1) 0 (.pointer (some ⟨b3, 1, none⟩)) (Y.fieldAddr (fd := (T4 prog 156 1)) underlying156 (by kernel_rfl) sizeOf23 rfl rfl) ?_
 refine Head.z 8 (.load 23 (.tmp 7)) 23 (.int .u64 Ye) (Y.iW isAgg23 rfl (List.mem_cons_self ..) rfl) ?_
 refine Head.z 10 (.fieldAddr 156 (.tmp 3) 0) 0 (.pointer (some ⟨b3, 0, none⟩)) (Y.fieldAddr (fd := (T4 prog 156 0)) underlying156 (by kernel_rfl) sizeOf84 rfl rfl) ?_
 refine Head.z 11 (.load 84 (.tmp 10)) 84 (.slice zx zy zz) (Y.iW isAgg84 rfl (List.mem_cons_self ..) rfl) ?_
 obtain ⟨z7, hy, h⟩ := h
 refine Head.y (d := (some 12)) (op := (.convert 84 9 (.tmp 11))) (ty := 9) (v := (.string z7)) (by kernel_rfl) rfl (Yd.any (m := convert 84 9 (.slice zx zy zz)) (fun o ho ht => by simp only [execOp, ho]; rfl) hy) ?_
 refine Head.o (q' := none) rfl ?_
 refine AV.cl (some 6) call60 (h.cont fun v σ1 h2 => ?_); replace h := h2; clear h2
 obtain ⟨p6, n6, c6, rfl, hk, h⟩ := h
 refine ⟨⟨fun _ h => h, hk⟩, ?_⟩
 refine Head.o (q' := none) rfl ?_
 refine AV.cl (some 9) call99 (h.cont fun MU Az h2 => ?_); replace h := h2; clear h2
 obtain ⟨p9, n9, c9, rfl, hk, h⟩ := h
 refine ⟨⟨fun _ h => h, hk⟩, ?_⟩
 refine Head.o (q' := none) rfl ?_
 refine AV.cl (some 13) call60 (h.cont fun Zs A0 h2 => ?_); replace h := h2; clear h2
 obtain ⟨OI, n13, O5, rfl, hk, h⟩ := h
 refine ⟨⟨fun _ h => h, hk⟩, ?_⟩
 refine Head.u 4 (.slice OI n13 O5) ?_
 refine Head.done ?_
 refine Seq.done ?_
 exact At.rt [.tmp 4] [(.slice OI n13 O5)] func64 ⟨_, rfl, rfl⟩ h
end TL
namespace strings_HasPrefix
variable {s0 s1 : ByteArray}
def M : Fw := ⟨prog, 92, f92, [169], [], false, [], [], []⟩
theorem ok : M.Ok := ⟨.cons call169 (AK.nil), mixed, func92, by kernel_rfl⟩
theorem start (h : Spec prog 169 #[.string s0, .string s1] σ (AB R (CB fun t7 y => R (.returned (.bool t7)) y))) : Spec prog 92 #[.string s0, .string s1] σ R := M.start h ok
end strings_HasPrefix
namespace Wd
variable {q0 : Option Addr} {s1 : ByteArray}
def M : Fw := ⟨prog, 95, f95, [91, 129, 171], [], false, [(10, 5, true)], [], []⟩
theorem ok : M.Ok := ⟨.cons call91 (.cons call129 (.cons call171 (AK.nil))), mixed, func95, by kernel_rfl⟩
theorem start (h : Al σ fun b2 => Al (Hp.set σ b2 (.cells #[.pointer q0] 106 (0, 0))) fun b3 => LT (Hp.set (Hp.set σ b2 (.cells #[.pointer q0] 106 (0, 0))) b3 (.cells #[.string s1] 9 (0, 0))) b3 0 fun cS => Br ((32 : Int) < ((ByteArray.size cS : Nat) : Int)) (R (.returned (.tuple #[.pointer none, .slice none 0 0, .int .i64 71])) (Hp.set (Hp.set σ b2 (.cells #[.pointer q0] 106 (0, 0))) b3 (.cells #[.string s1] 9 (0, 0)))) (LT (Hp.set (Hp.set σ b2 (.cells #[.pointer q0] 106 (0, 0))) b3 (.cells #[.string s1] 9 (0, 0))) b3 0 fun cE => Spec prog 171 #[.string cE] (Hp.set (Hp.set σ b2 (.cells #[.pointer q0] 106 (0, 0))) b3 (.cells #[.string s1] 9 (0, 0))) (AB R (CB fun t15 y => Bn t15 (R (.returned (.tuple #[.pointer none, .slice none 0 0, .int .i64 71])) y) (LQ y b2 0 fun q18 => Spec prog 91 #[.pointer q18] y (AB R (CB fun t19 AI => Bn t19 (R (.returned (.tuple #[.pointer none, .slice none 0 0, .int .i64 60])) AI) (LQ AI b2 0 fun zu => LT AI b3 0 fun nI => Al AI fun NB => Al (Hp.set AI NB (.cells #[.pointer zu, .string nI, .int .i64 0, .slice none 0 0, .int .i64 0, .int .i64 0] 225 (0, 0))) fun b7 => AJ prog (Instr.storeAt 158 (.pointer (aD b7 0)) (.pointer (aD NB 0))) (Hp.set (Hp.set AI NB (.cells #[.pointer zu, .string nI, .int .i64 0, .slice none 0 0, .int .i64 0, .int .i64 0] 225 (0, 0))) b7 (.cells #[.pointer none] 158 (0, 0))) (fun _ Ab => Al Ab fun b8 => Spec prog 129 #[(.func (.func 172) #[] #[(.pointer (aD b7 0)), (.pointer (aD b2 0)), (.pointer (aD b3 0)), (.pointer (aD b8 0))])] (Hp.set Ab b8 (.cells #[.slice none 0 0] 165 (0, 0))) (AB R (CI .i64 fun HA A1 => Br (HA ≠ 0) (R (.returned (.tuple #[.pointer none, .slice none 0 0, .int .i64 HA])) A1) (LQ A1 b7 0 fun q30 => LS A1 b8 0 fun p31 n31 c31 => R (.returned (.tuple #[.pointer q30, .slice p31 n31 c31, .int .i64 0])) A1)))))))))))) : Spec prog 95 #[.pointer q0, .string s1] σ R := M.start h ok
end Wd
namespace Ba
variable {b0 b1 : Nat}
def M : Fw := ⟨prog, 105, f105, [106], [], false, [], [], []⟩
theorem ok : M.Ok := ⟨.cons call106 (AK.nil), mixed, func105, by kernel_rfl⟩
theorem start (h : LQ σ b0 0 fun q4 => Pq q4 fun b5 o5 => LB σ b5 ((o5 + 7) + 3) fun t9 => Bn t9 (R (.returned (.int .i64 0)) σ) (LQ σ b1 0 fun w8 => LQ σ b1 0 fun ed => LQ σ b1 0 fun eb => LQ σ b1 0 fun pY => Pq pY fun Kc UZ => LS σ Kc (UZ + 3) fun QJ n18 TB => Spec prog 106 #[.slice QJ n18 TB] σ (AB R (fun z y => ∃ ei AB6 AB7 AB8 AB9 ACA, z = (.tuple #[.string ei, .string AB6, .slice AB7 AB8 AB9, .int .i64 ACA]) ∧ Kp [b1, b1, b1] σ y ∧ Pq w8 fun NB cH => AJ prog (Instr.storeAt 9 (.pointer (aD NB (cH + 1))) (.string ei)) y (fun _ AI => Kp [b1, b1] y AI ∧ Pq ed fun PZ o26 => AJ prog (Instr.storeAt 9 (.pointer (aD PZ (o26 + 2))) (.string AB6)) AI (fun _ Ab => Kp [b1] AI Ab ∧ Pq eb fun QI bt => AJ prog (Instr.storeAt 46 (.pointer (aD QI (bt + 3))) (.slice AB7 AB8 AB9)) Ab (fun _ A1 => Br (ACA ≠ 0) (R (.returned (.int .i64 3)) A1) (R (.returned (.int .i64 0)) A1)))))))) : Spec prog 105 #[(.pointer (aD b0 0)), (.pointer (aD b1 0))] σ R := M.start h ok
end Ba
namespace Gs
variable {p0 p6 : Option Addr} {n0 c0 n6 c6 : Nat} {x3 x7 x8 : Int}
def M : Fw := ⟨prog, 122, f122, [], [], false, [], [], [(232, [(3, wI), (6, wL), (7, wI), (8, wI)])]⟩
theorem ok : M.Ok := ⟨AK.nil, mixed, func122, by kernel_rfl⟩
def A5 := M.pt 0
theorem start (h : A5 R 0 p0 n0 c0 (n0 : Int) 0 σ) : Spec prog 122 #[.slice p0 n0 c0] σ R := M.start h ok
theorem AW (h : Br (x8 < x7) (Pq p6 fun D8 LL => In x8 (n6 : Int) ∧ LI .i64 σ D8 (LL + Int.toNat x8 * 1) fun Ed => Br (Ed ≠ x3) (R (.returned (.int .i64 Ed)) σ) (AN (x8 + 1) ∧ A5 R x3 (aD D8 LL) n6 c6 x7 (x8 + 1) σ)) (R (.returned (.int .i64 x3)) σ)) : A5 R x3 p6 n6 c6 x7 x8 σ := M.of h ok rfl
end Gs
namespace Gt
variable {x0 x1 : Int}
def M : Fw := ⟨prog, 123, f123, [213], [], false, [], [], []⟩
theorem ok : M.Ok := ⟨.cons call213 (AK.nil), mixed, func123, by kernel_rfl⟩
theorem start (h : Spec prog 213 #[.int .u32 x0] σ (AB R (CB fun t8 y => Spec prog 213 #[.int .u32 x1] y (AB R (CB fun t10 AI => Bo t8 (Bo t10 (R (.returned (.int .i64 0)) AI) (R (.returned (.int .i64 (-1))) AI)) (Bo t10 (R (.returned (.int .i64 1)) AI) (Br (x0 < x1) (R (.returned (.int .i64 (-1))) AI) (Br (x1 < x0) (R (.returned (.int .i64 1)) AI) (R (.returned (.int .i64 0)) AI))))))))) : Spec prog 123 #[.int .u32 x0, .int .u32 x1] σ R := M.start h ok
end Gt
namespace OL
variable {p0 : Option Addr} {n0 c0 : Nat}
def M : Fw := ⟨prog, 128, f128, [99, 219], [], false, [], [], []⟩
theorem ok : M.Ok := ⟨.cons call99 (.cons call219 (AK.nil)), mixed, func128, by kernel_rfl⟩
theorem start (h : Br (65536 < (n0 : Int)) (R (.returned (.tuple #[.slice none 0 0, .int .i64 23])) σ) (Spec prog 219 #[.slice p0 n0 c0] σ (AB R (CI .u32 fun Dc y => Df (IntKind.u64.wrap (n0 : Int)) fun E8 => Spec prog 99 #[.slice none 0 0, .int .u64 E8] y (AB R (CS fun wv n14 wx AI => ((0 : Int) ≤ 24 ∧ 24 ≤ ((IntKind.bits .u32 : Nat) : Int)) ∧ Df (Dc / 2 ^ Int.toNat 24) fun Nc => Df (IntKind.u8.wrap Nc) fun Ix => ((0 : Int) ≤ 16 ∧ 16 ≤ ((IntKind.bits .u32 : Nat) : Int)) ∧ Df (Dc / 2 ^ Int.toNat 16) fun OD => Df (IntKind.u8.wrap OD) fun Ja => ((0 : Int) ≤ 8 ∧ 8 ≤ ((IntKind.bits .u32 : Nat) : Int)) ∧ Df (Dc / 2 ^ Int.toNat 8) fun oy => Df (IntKind.u8.wrap oy) fun QL => Df (IntKind.u8.wrap Dc) fun NA => Al AI fun PZ => AJ prog (Builtin.append_ #[84, 84] 84 #[.slice wv n14 wx, (.slice (aD PZ 0) 4 4)]) (Hp.set AI PZ (.cells #[.int .u8 Ix, .int .u8 Ja, .int .u8 QL, .int .u8 NA] 5 (0, 0))) (CS fun VX n27 R6 Ab => AJ prog (Builtin.append_ #[84, 84] 84 #[.slice VX n27 R6, .slice p0 n0 c0]) Ab (CS fun p30 n30 c30 A1 => R (.returned (.tuple #[.slice p30 n30 c30, .int .i64 0])) A1)))))))) : Spec prog 128 #[.slice p0 n0 c0] σ R := M.start h ok
end OL
namespace BM
variable {b0 b1 : Nat}
def M : Fw := ⟨prog, 130, f130, [131, 132, 133, 134, 135], [], false, [(1, 10, false), (4, 11, false), (6, 13, false), (7, 9, true)], [], [(6, [(0, wA), (1, wA)]), (15, [(0, wA), (1, wA)])]⟩
theorem ok : M.Ok := ⟨.cons call131 (.cons call132 (.cons call133 (.cons call134 (.cons call135 (AK.nil))))), mixed, func130, by kernel_rfl⟩
def CC := M.pt 0
def GO := M.pt 1
theorem start (h : LQ σ b0 0 fun q2 => Spec prog 131 #[.pointer q2] σ (AB R (CB fun t3 y => Bo t3 (LQ y b0 0 fun q5 => Pq q5 fun b6 o6 => LI .i64 y b6 (o6 + 5) fun x8 => Br (4096 ≤ x8) (LQ y b0 0 fun pC => Pq pC fun O2 QK => LQ y O2 QK fun eb => LQ y b0 0 fun pY => LQ y b0 0 fun Ud => Pq Ud fun R3 eT => LI .i64 y R3 (eT + 4) fun OD => Spec prog 134 #[.pointer pY, (.string (ByteArray.mk #[115])), .int .i64 OD] y (AB R (CT fun s20 AI => Kp [O2, b0] y AI ∧ Spec prog 133 #[.pointer eb, .string s20] AI (AB R (CI .i64 fun H9 Ab => Spec prog 132 #[.int .i64 H9] Ab (AB R (fun z A1 => z = (.tuple #[]) ∧ LQ A1 b0 0 fun q23 => Pq q23 fun NB cH => LI .i64 A1 NB (cH + 4) fun HA => AN (HA + 1) ∧ AJ prog (Instr.storeAt 3 (.pointer (aD NB (cH + 4))) (.int .i64 (HA + 1))) A1 (fun _ DD => LQ DD b0 0 fun q30 => Pq q30 fun Jm pZ => AJ prog (Instr.storeAt 3 (.pointer (aD Jm (pZ + 5))) (.int .i64 0)) DD (fun _ EA => CC R b0 b1 EA))))))))) (CC R b0 b1 y)) (CC R b0 b1 y)))) : Spec prog 130 #[(.pointer (aD b0 0)), (.pointer (aD b1 0))] σ R := M.start h ok
theorem BS (h : LQ σ b0 0 fun q33 => Pq q33 fun z8 o34 => LQ σ z8 o34 fun q36 => LQ σ b0 0 fun q37 => LQ σ b0 0 fun q38 => Pq q38 fun Nn cX => LI .i64 σ Nn (cX + 4) fun LR => LS σ b1 0 fun Ua n43 VT => Spec prog 134 #[.pointer q37, (.string (ByteArray.mk #[115])), .int .i64 LR] σ (AB R (CT fun s42 y => Kp [b1, z8, b0] σ y ∧ Spec prog 135 #[.pointer q36, .string s42, .slice Ua n43 VT] y (AB R (CI .i64 fun pX AI => Spec prog 132 #[.int .i64 pX] AI (AB R (fun z Ab => z = (.tuple #[]) ∧ LQ Ab b0 0 fun wM => Spec prog 131 #[.pointer wM] Ab (AB R (CB fun t47 A1 => Bn t47 (LQ A1 b0 0 fun q49 => LQ A1 b0 0 fun q50 => Pq q50 fun Zq Zr => LS A1 Zq (Zr + 3) fun p53 n53 c53 => LQ A1 b0 0 fun q54 => Pq q54 fun VW wz => LI .i64 A1 VW (wz + 4) fun x57 => Al A1 fun NG => AJ prog (Builtin.append_ #[26, 26] 26 #[.slice p53 n53 c53, (.slice (aD NG 0) 1 1)]) (Hp.set A1 NG (.cells #[.int .i64 x57] 3 (0, 0))) (CS fun p59 n59 c59 DD => Kp [b0] (Hp.set A1 NG (.cells #[.int .i64 x57] 3 (0, 0))) DD ∧ Pq q49 fun Rm o60 => AJ prog (Instr.storeAt 26 (.pointer (aD Rm (o60 + 3))) (.slice p59 n59 c59)) DD (fun _ EA => GO R b0 b1 EA))) (GO R b0 b1 A1)))))))))) : CC R b0 b1 σ := M.of h ok rfl
theorem GP (h : LQ σ b0 0 fun q62 => Pq q62 fun wS wW => LI .i64 σ wS (wW + 5) fun zw => LS σ b1 0 fun p66 n66 c66 => AN (zw + (n66 : Int)) ∧ AJ prog (Instr.storeAt 3 (.pointer (aD wS (wW + 5))) (.int .i64 (zw + (n66 : Int)))) σ (fun _ y => R (.returned (.tuple #[])) y)) : GO R b0 b1 σ := M.of h ok rfl
end BM
namespace QU
variable {b0 b1 b2 b3 : Nat}
def M : Fw := ⟨prog, 172, f172, [132, 134, 173, 174, 175, 176], [], false, [(0, 5, false), (1, 8, true), (5, 11, true)], [], []⟩
theorem ok : M.Ok := ⟨.cons call132 (.cons call134 (.cons call173 (.cons call174 (.cons call175 (.cons call176 (AK.nil)))))), mixed, func172, by kernel_rfl⟩
theorem start (h : LQ σ b0 0 fun q7 => LQ σ b1 0 fun q8 => LT σ b2 0 fun s9 => (ByteArray.size s9 + ByteArray.size (ByteArray.mk #[47]) ≤ 9223372036854775807) ∧ Spec prog 174 #[.pointer q8, (.string (s9 ++ (ByteArray.mk #[47])))] σ (AB R (CS fun WK n11 Zj y => Kp [b0] σ y ∧ Spec prog 173 #[.pointer q7, .slice WK n11 Zj] y (AB R (fun z AI => z = (.tuple #[]) ∧ LQ AI b0 0 fun ed => LQ AI b0 0 fun eb => Pq eb fun bw nQ => LI .i64 AI bw (nQ + 2) fun Ix => AN (Ix + 1) ∧ Pq ed fun Yc oc => AJ prog (Instr.storeAt 3 (.pointer (aD Yc (oc + 4))) (.int .i64 (Ix + 1))) AI (fun _ Ab => LQ Ab b0 0 fun zu => Spec prog 175 #[.pointer zu] Ab (AB R (CS fun p22 n22 c22 A1 => AJ prog (Instr.storeAt 165 (.pointer (aD b3 0)) (.slice p22 n22 c22)) A1 (fun _ DD => LQ DD b0 0 fun q23 => Pq q23 fun NB cH => LS DD NB (cH + 3) fun WU n26 TH => Br (0 < (n26 : Int)) (LQ DD b0 0 fun q30 => LQ DD b0 0 fun q31 => Pq q31 fun j0 j7 => LS DD j0 (j7 + 3) fun p34 n34 c34 => AN ((n26 : Int) - 1) ∧ Pq p34 fun Hr js => In (((n26 : Int) - 1)) (n34 : Int) ∧ LI .i64 DD Hr (js + Int.toNat ((n26 : Int) - 1) * 1) fun NF => Pq q30 fun Nn cX => AJ prog (Instr.storeAt 3 (.pointer (aD Nn (cX + 4))) (.int .i64 NF)) DD (fun _ EA => LQ EA b1 0 fun q42 => LQ EA b0 0 fun q43 => LQ EA b0 0 fun q44 => Pq q44 fun We o45 => LI .i64 EA We (o45 + 4) fun R4 => Spec prog 134 #[.pointer q43, (.string (ByteArray.mk #[115])), .int .i64 R4] EA (AB R (CT fun s48 Jo => Kp [b1] EA Jo ∧ Spec prog 176 #[.pointer q42, .string s48] Jo (AB R (fun z j9 => ∃ AI5 ACF AI6 ACG, z = (.tuple #[.slice AI5 ACF AI6, .int .i64 ACG]) ∧ Spec prog 132 #[.int .i64 ACG] j9 (AB R (fun z kA => z = (.tuple #[]) ∧ LQ kA b0 0 fun q54 => Pq q54 fun VU VV => AJ prog (Instr.storeAt 3 (.pointer (aD VU (VV + 5))) (.int .i64 (ACF : Int))) kA (fun _ kB => R (.returned (.tuple #[])) kB))))))))) (R (.returned (.tuple #[])) DD)))))))))) : Spec prog 172 #[(.pointer (aD b0 0)), (.pointer (aD b1 0)), (.pointer (aD b2 0)), (.pointer (aD b3 0))] σ R := M.start h ok
end QU
namespace J7
variable {q0 : Option Addr} {s1 : ByteArray}
def M : Fw := ⟨prog, 176, f176, [223], [], false, [], [], []⟩
theorem ok : M.Ok := ⟨.cons call223 (AK.nil), mixed, func176, by kernel_rfl⟩
theorem start (h : Pq q0 fun b8 o8 => LB σ b8 (o8 + 1) fun t10 => Bn t10 (R (.returned (.tuple #[.slice none 0 0, .int .i64 60])) σ) (Spec prog 223 #[(.pointer (aD b8 o8)), .string s1] σ (AB R (CI .i64 fun FF y => Br (FF ≠ 0) (R (.returned (.tuple #[.slice none 0 0, .int .i64 FF])) y) (Al y fun PU => LM (Hp.set y PU (.cells #[] 5 (0, 0))) b8 o8 fun m22 => AJ prog (Instr.lookup 186 (.map m22) (.string s1) false) (Hp.set y PU (.cells #[] 5 (0, 0))) (CQ fun q24 AI => Pq q24 fun pa o25 => LS AI pa o25 fun VX n27 R6 => AJ prog (Builtin.append_ #[84, 84] 84 #[(.slice (aD PU 0) 0 0), .slice VX n27 R6]) AI (CS fun w9 n28 c28 Ab => R (.returned (.tuple #[.slice w9 n28 c28, .int .i64 0])) Ab))))))) : Spec prog 176 #[.pointer q0, .string s1] σ R := M.start h ok
end J7
namespace Fu
def K0 := f188.body.getD .skip
def K1 := cl K0
def K2 := cr K0
def K3 := cl K2
def K4 := cr K2
def K5 := cl K4
def K6 := cr K4
def K7 := cl K6
def K8 := cl K7
def K9 := cr K7
def Lp := cl K9
def TD := cl Lp
def MS := cr Lp
def QM := cr K9
def Zl := cr K6
def eP := cl Zl
def TE := cr Zl
def OE := cl TE
def Yf := cl OE
def UX := cr OE
def TF := cl UX
def hY := cl TF
def bz := cr TF
def Yg := cr UX
def eQ := cr TE
def WL := cl eQ
def WM := cl WL
def WN := cr WL
def WO := cl WN
def WQ := cl WO
def jW := cr WO
def hZ := cl jW
def Yh := cr jW
def cA := cl Yh
def iA := cr Yh
def iB := cl iA
def nC := cr iA
def K37 := cr WN
def sP := cr eQ
def K39 := cl sP
def sQ := cr sP
def sR := cl sQ
def sS := cl sR
def zp := cr sR
def oh := cl zp
def wE := cl oh
def sT := cr oh
def nE := cl sT
def sU := cr sT
def sV := cl sU
def Yi := cr sU
def wF := cr zp
def nF := cr sQ
def zq := cl nF
def nG := cr nF
def nH := cl nG
def cB := cr nG
def zr := cl cB
def sW := cr cB
abbrev gl (R : Rr) : Gl := Gl.fn prog 188 95 R
theorem start {R : Rr} {p0 p2 : Option Addr} {n0 c0 n2 c2 : Nat} {x1 : Int} {σ : Hp} (h : ((0 : Int) ≤ x1 ∧ x1 ≤ (n0 : Int)) ∧ (((n2 : Int) : Int) = 0 → R (.returned (.slice p0 n0 c0)) σ) ∧ (¬ (((n2 : Int) : Int) = 0) → ((x1 : Int) = (n0 : Int) → AJ prog (Builtin.append_ #[39, 39] 39 #[(.slice p0 n0 c0), (.slice p2 n2 c2)]) σ (fun v σ1 => ∃ OJ : Option Addr, ∃ n25 : Nat, ∃ ND : Nat, v = (.slice OJ n25 ND) ∧ R (.returned (.slice OJ n25 ND)) σ1)) ∧ (¬ ((x1 : Int) = (n0 : Int)) → AN ((n0 : Int) + (n2 : Int)) ∧ (((c0 : Int) : Int) < ((n0 : Int) + (n2 : Int)) → ((0 : Int) ≤ x1 ∧ x1 ≤ (c0 : Int)) ∧ AN ((n0 : Int) + (n2 : Int)) ∧ AN (((n0 : Int) + (n2 : Int)) - x1) ∧ AJ prog (Builtin.append_ #[39, 3] 39 #[(.slice p0 (Int.toNat x1) c0), (.int .i64 (((n0 : Int) + (n2 : Int)) - x1))]) σ (fun v σ1 => ∃ OF : Option Addr, ∃ n40 : Nat, ∃ c40 : Nat, v = (.slice OF n40 c40) ∧ ((0 : Int) ≤ x1 ∧ x1 ≤ (n40 : Int)) ∧ AJ prog (Builtin.copy_ #[39, 39] 3 #[(.slice (Dp OF (Int.toNat x1) c40 3) (n40 - Int.toNat x1) (c40 - Int.toNat x1)), (.slice p2 n2 c2)]) σ1 (fun MU Az => ∃ Zt : Int, MU = (.int .i64 Zt) ∧ AN (x1 + (n2 : Int)) ∧ ((0 : Int) ≤ (x1 + (n2 : Int)) ∧ (x1 + (n2 : Int)) ≤ (n40 : Int)) ∧ ((0 : Int) ≤ x1 ∧ x1 ≤ (n0 : Int)) ∧ AJ prog (Builtin.copy_ #[39, 39] 3 #[(.slice (Dp OF (Int.toNat (x1 + (n2 : Int))) c40 3) (n40 - Int.toNat (x1 + (n2 : Int))) (c40 - Int.toNat (x1 + (n2 : Int)))), (.slice (Dp p0 (Int.toNat x1) c0 3) (n0 - Int.toNat x1) (c0 - Int.toNat x1))]) Az (fun Zs A0 => ∃ eV : Int, Zs = (.int .i64 eV) ∧ R (.returned (.slice OF n40 c40)) A0)))) ∧ (¬ (((c0 : Int) : Int) < ((n0 : Int) + (n2 : Int))) → AN ((n0 : Int) + (n2 : Int)) ∧ ((0 : Int) ≤ ((n0 : Int) + (n2 : Int)) ∧ ((n0 : Int) + (n2 : Int)) ≤ (c0 : Int)) ∧ AN (x1 + (n2 : Int)) ∧ ((0 : Int) ≤ (x1 + (n2 : Int)) ∧ (x1 + (n2 : Int)) ≤ (((Int.toNat ((n0 : Int) + (n2 : Int))) : Nat) : Int)) ∧ ∃ t67 : Bool, YN prog 262 #[(.slice p2 n2 c2), (.slice (Dp p0 (Int.toNat (x1 + (n2 : Int))) c0 3) ((Int.toNat ((n0 : Int) + (n2 : Int))) - Int.toNat (x1 + (n2 : Int))) (c0 - Int.toNat (x1 + (n2 : Int))))] σ (.bool t67) ∧ (t67 = false → AN (x1 + (n2 : Int)) ∧ ((0 : Int) ≤ (x1 + (n2 : Int)) ∧ (x1 + (n2 : Int)) ≤ (((Int.toNat ((n0 : Int) + (n2 : Int))) : Nat) : Int)) ∧ ((0 : Int) ≤ x1 ∧ x1 ≤ (((Int.toNat ((n0 : Int) + (n2 : Int))) : Nat) : Int)) ∧ AJ prog (Builtin.copy_ #[39, 39] 3 #[(.slice (Dp p0 (Int.toNat (x1 + (n2 : Int))) c0 3) ((Int.toNat ((n0 : Int) + (n2 : Int))) - Int.toNat (x1 + (n2 : Int))) (c0 - Int.toNat (x1 + (n2 : Int)))), (.slice (Dp p0 (Int.toNat x1) c0 3) ((Int.toNat ((n0 : Int) + (n2 : Int))) - Int.toNat x1) (c0 - Int.toNat x1))]) σ (fun MU Az => ∃ x77 : Int, MU = (.int .i64 x77) ∧ ((0 : Int) ≤ x1 ∧ x1 ≤ (((Int.toNat ((n0 : Int) + (n2 : Int))) : Nat) : Int)) ∧ AJ prog (Builtin.copy_ #[39, 39] 3 #[(.slice (Dp p0 (Int.toNat x1) c0 3) ((Int.toNat ((n0 : Int) + (n2 : Int))) - Int.toNat x1) (c0 - Int.toNat x1)), (.slice p2 n2 c2)]) Az (fun Zs A0 => ∃ x82 : Int, Zs = (.int .i64 x82) ∧ R (.returned (.slice p0 (Int.toNat ((n0 : Int) + (n2 : Int))) c0)) A0))) ∧ (t67 = true → ((0 : Int) ≤ (n0 : Int) ∧ (n0 : Int) ≤ (((Int.toNat ((n0 : Int) + (n2 : Int))) : Nat) : Int)) ∧ AJ prog (Builtin.copy_ #[39, 39] 3 #[(.slice (Dp p0 (Int.toNat (n0 : Int)) c0 3) ((Int.toNat ((n0 : Int) + (n2 : Int))) - Int.toNat (n0 : Int)) (c0 - Int.toNat (n0 : Int))), (.slice p2 n2 c2)]) σ (fun MU Az => ∃ x88 : Int, MU = (.int .i64 x88) ∧ ((0 : Int) ≤ x1 ∧ x1 ≤ (((Int.toNat ((n0 : Int) + (n2 : Int))) : Nat) : Int)) ∧ Spec prog 263 #[(.slice (Dp p0 (Int.toNat x1) c0 3) ((Int.toNat ((n0 : Int) + (n2 : Int))) - Int.toNat x1) (c0 - Int.toNat x1)), (.int .i64 (n2 : Int))] Az (AB R (fun Zs A0 => Zs = (.tuple #[]) ∧ R (.returned (.slice p0 (Int.toNat ((n0 : Int) + (n2 : Int))) c0)) A0)))))))) : Spec prog 188 #[(.slice p0 n0 c0), (.int .i64 x1), (.slice p2 n2 c2)] σ R := by
 refine Spec.Jp (fn := f188) (c := K0) func188 (by kernel_rfl) (Nat.le_of_ble_eq_true (by kernel_rfl)) (fun e he => ?_)
 refine At.oG (l := [(0, (.slice p0 n0 c0)), (1, (.int .i64 x1)), (2, (.slice p2 n2 c2))]) ⟨he 0, he 1, he 2, trivial⟩ (fun J => ?_)
 show At (gl R) _ _ _ _
 refine At.s K1 K2 ?_
 refine At.rg 0 [0] ?_
 refine Seq.u 6 (.slice none 0 0) (Seq.done ?_)
 refine At.s K3 K4 ?_
 refine At.rg 1 [0, 1, 2] ?_
 refine Seq.us [(10, .slice p0 n0 c0), (11, .int .i64 x1)] ?_
 obtain ⟨hs, h⟩ := h
 refine Seq.z 12 (.slice 39 (.tmp 10) (some (.tmp 11)) none none) 39 (.slice (Dp p0 (Int.toNat x1) c0 3) (n0 - Int.toNat x1) (c0 - Int.toNat x1)) (Y.gx underlying39 sizeOf196 rfl rfl hs) (Seq.done ?_)
 refine At.s K5 K6 ?_
 refine At.rg 2 [0, 1, 2] ?_
 refine Seq.u 13 (.slice p2 n2 c2) ?_
 refine Seq.z 14 (.call { callee := .builtin .len, args := #[(.tmp 13)], argTypes := #[39] }) 3 (.int .i64 (n2 : Int)) (Y.Y4 underlying39 rfl rfl) ?_
 refine Seq.u 7 (.int .i64 (n2 : Int)) (Seq.done ?_)
 refine At.s K7 Zl (At.s K8 K9 ?_)
 refine At.rg 3 [0, 1] ?_
 refine Seq.us [(15, .int .i64 (n2 : Int)), (16, .bool (decide (((n2 : Int) : Int) = 0)))] (Seq.done ?_)
 cases hb : (decide (((n2 : Int) : Int) = 0)) with
 | true =>
  replace h := h.1 (of_decide_eq_true hb)
  refine At.cT 16 Lp QM ?_
  refine At.s TD MS ?_
  refine At.rg 4 [0, 1] ?_
  refine Seq.us [(17, .slice p0 n0 c0), (6, .slice p0 n0 c0)] (Seq.done ?_)
  exact At.rt [.tmp 6] [(.slice p0 n0 c0)] func188 ⟨_, rfl, rfl⟩ h
 | false =>
  replace h := h.2 (of_decide_eq_false hb)
  refine At.cF 16 Lp QM ?_
  refine At.skip ?_
  refine At.s eP TE ?_
  refine At.rg 5 [0, 1, 2] ?_
  refine Seq.u 18 (.slice p0 n0 c0) ?_
  refine Seq.z 19 (.call { callee := .builtin .len, args := #[(.tmp 18)], argTypes := #[39] }) 3 (.int .i64 (n0 : Int)) (Y.Y4 underlying39 rfl rfl) ?_
  refine Seq.u 8 (.int .i64 (n0 : Int)) (Seq.done ?_)
  refine At.s OE eQ (At.s Yf UX ?_)
  refine At.rg 6 [0, 1, 2] ?_
  refine Seq.us [(20, .int .i64 x1), (21, .int .i64 (n0 : Int)), (22, .bool (decide ((x1 : Int) = (n0 : Int))))] (Seq.done ?_)
  cases hb : (decide ((x1 : Int) = (n0 : Int))) with
  | true =>
   replace h := h.1 (of_decide_eq_true hb)
   refine At.cT 22 TF Yg ?_
   refine At.s hY bz ?_
   refine At.rg 7 [0, 1, 2, 3] ?_
   refine Seq.us [(23, .slice p0 n0 c0), (24, .slice p2 n2 c2)] ?_
   refine Seq.o ?_
   refine AV.Tz (d := (some 25)) (op := (.call { callee := .builtin .append, args := #[(.tmp 23), (.tmp 24)], argTypes := #[39, 39] })) (ty := 39) (gd := none) (by kernel_rfl) rfl rfl (Builtin.append_ #[39, 39] 39 #[(.slice p0 n0 c0), (.slice p2 n2 c2)]) (fun o ho ht => ED rfl rfl o ho ht) (h.mono (fun v σ1 h2 => ?_)); replace h := h2; clear h2
   obtain ⟨OJ, n25, ND, rfl, h⟩ := h
   refine Seq.u 6 (.slice OJ n25 ND) (Seq.done ?_)
   exact At.rt [.tmp 6] [(.slice OJ n25 ND)] func188 ⟨_, rfl, rfl⟩ h
  | false =>
   replace h := h.2 (of_decide_eq_false hb)
   refine At.cF 22 TF Yg ?_
   refine At.skip ?_
   refine At.s WL sP (At.s WM WN ?_)
   refine At.rg 8 [0, 1, 2, 3, 4, 5] ?_
   refine Seq.us [(26, .int .i64 (n0 : Int)), (27, .int .i64 (n2 : Int))] ?_
   obtain ⟨hi, h⟩ := h
   refine Seq.z 28 (.binOp .add 3 (.tmp 26) (.tmp 27) 3) 3 (.int .i64 ((n0 : Int) + (n2 : Int))) (Y.Po hi rfl rfl) ?_
   refine Seq.u 29 (.slice p0 n0 c0) ?_
   refine Seq.z 30 (.call { callee := .builtin .cap, args := #[(.tmp 29)], argTypes := #[39] }) 3 (.int .i64 (c0 : Int)) (Y.AAl underlying39 rfl rfl) ?_
   refine Seq.u 31 (.bool (decide (((c0 : Int) : Int) < ((n0 : Int) + (n2 : Int))))) (Seq.done ?_)
   cases hb : (decide (((c0 : Int) : Int) < ((n0 : Int) + (n2 : Int)))) with
   | true =>
    replace h := h.1 (of_decide_eq_true hb)
    refine At.cT 31 WO K37 ?_
    refine At.s WQ jW ?_
    refine At.rg 9 [0, 1, 2, 3, 4, 5, 6, 7, 8, 9] ?_
    refine Seq.us [(32, .slice p0 n0 c0), (33, .int .i64 x1)] ?_
    obtain ⟨hs, h⟩ := h
    refine Seq.z 34 (.slice 39 (.tmp 32) none (some (.tmp 33)) none) 39 (.slice p0 (Int.toNat x1) c0) (Y.slh underlying39 sizeOf196 rfl rfl hs) ?_
    refine Seq.us [(35, .int .i64 (n0 : Int)), (36, .int .i64 (n2 : Int))] ?_
    obtain ⟨hi, h⟩ := h
    refine Seq.z 37 (.binOp .add 3 (.tmp 35) (.tmp 36) 3) 3 (.int .i64 ((n0 : Int) + (n2 : Int))) (Y.Po hi rfl rfl) ?_
    refine Seq.u 38 (.int .i64 x1) ?_
    obtain ⟨hi, h⟩ := h
    refine Seq.z 39 (.binOp .sub 3 (.tmp 37) (.tmp 38) 3) 3 (.int .i64 (((n0 : Int) + (n2 : Int)) - x1)) (Y.oC hi rfl rfl) ?_
    refine Seq.o ?_
    refine AV.Tz (d := (some 40)) (op := (.call { callee := .builtin .append, args := #[(.tmp 34), (.tmp 39)], argTypes := #[39, 3] })) (ty := 39) (gd := none) (by kernel_rfl) rfl rfl (Builtin.append_ #[39, 3] 39 #[(.slice p0 (Int.toNat x1) c0), (.int .i64 (((n0 : Int) + (n2 : Int)) - x1))]) (fun o ho ht => ED rfl rfl o ho ht) (h.mono (fun v σ1 h2 => ?_)); replace h := h2; clear h2
    obtain ⟨OF, n40, c40, rfl, h⟩ := h
    refine Seq.u 9 (.slice OF n40 c40) (Seq.done ?_)
    refine At.L [(0, (.slice p0 n0 c0)), (1, (.int .i64 x1)), (2, (.slice p2 n2 c2)), (7, (.int .i64 (n2 : Int))), (9, (.slice OF n40 c40))] fun J => ?_
    refine At.s hZ Yh ?_
    refine At.rg 10 [0, 1, 2, 3, 4] ?_
    refine Seq.us [(41, .slice OF n40 c40), (42, .int .i64 x1)] ?_
    obtain ⟨hs, h⟩ := h
    refine Seq.z 43 (.slice 39 (.tmp 41) (some (.tmp 42)) none none) 39 (.slice (Dp OF (Int.toNat x1) c40 3) (n40 - Int.toNat x1) (c40 - Int.toNat x1)) (Y.gx underlying39 sizeOf196 rfl rfl hs) ?_
    refine Seq.u 44 (.slice p2 n2 c2) ?_
    refine Seq.o ?_
    refine AV.Tz (d := (some 45)) (op := (.call { callee := .builtin .copy, args := #[(.tmp 43), (.tmp 44)], argTypes := #[39, 39] })) (ty := 3) (gd := none) (by kernel_rfl) rfl rfl (Builtin.copy_ #[39, 39] 3 #[(.slice (Dp OF (Int.toNat x1) c40 3) (n40 - Int.toNat x1) (c40 - Int.toNat x1)), (.slice p2 n2 c2)]) (fun o ho ht => Ea rfl rfl o ho ht) (h.mono (fun MU Az h2 => ?_)); replace h := h2; clear h2
    obtain ⟨Zt, rfl, h⟩ := h
    refine Seq.done ?_
    refine At.s cA iA ?_
    refine At.draw (id := 11) (ops := cO cA) (n := 8) (q := none) (plan := [(0, true), (1, true), (2, true), (3, true), (4, true), (5, true), (6, true), (7, true)]) (tl := [8]) mixed (by kernel_rfl) (by kernel_rfl) ?_
    refine Head.u 46 (.slice OF n40 c40) ?_
    refine Head.u 47 (.int .i64 x1) ?_
    refine Head.u 48 (.int .i64 (n2 : Int)) ?_
    obtain ⟨hi, h⟩ := h
    refine Head.z 49 (.binOp .add 3 (.tmp 47) (.tmp 48) 3) 3 (.int .i64 (x1 + (n2 : Int))) (Y.Po hi rfl rfl) ?_
    obtain ⟨hs, h⟩ := h
    refine Head.z 50 (.slice 39 (.tmp 46) (some (.tmp 49)) none none) 39 (.slice (Dp OF (Int.toNat (x1 + (n2 : Int))) c40 3) (n40 - Int.toNat (x1 + (n2 : Int))) (c40 - Int.toNat (x1 + (n2 : Int)))) (Y.gx underlying39 sizeOf196 rfl rfl hs) ?_
    refine Head.u 51 (.slice p0 n0 c0) ?_
    refine Head.u 52 (.int .i64 x1) ?_
    obtain ⟨hs, h⟩ := h
    refine Head.z 53 (.slice 39 (.tmp 51) (some (.tmp 52)) none none) 39 (.slice (Dp p0 (Int.toNat x1) c0 3) (n0 - Int.toNat x1) (c0 - Int.toNat x1)) (Y.gx underlying39 sizeOf196 rfl rfl hs) ?_
    refine Head.done ?_
    refine Seq.o ?_
    refine AV.Tz (d := (some 54)) (op := (.call { callee := .builtin .copy, args := #[(.tmp 50), (.tmp 53)], argTypes := #[39, 39] })) (ty := 3) (gd := none) (by kernel_rfl) rfl rfl (Builtin.copy_ #[39, 39] 3 #[(.slice (Dp OF (Int.toNat (x1 + (n2 : Int))) c40 3) (n40 - Int.toNat (x1 + (n2 : Int))) (c40 - Int.toNat (x1 + (n2 : Int)))), (.slice (Dp p0 (Int.toNat x1) c0 3) (n0 - Int.toNat x1) (c0 - Int.toNat x1))]) (fun o ho ht => Ea rfl rfl o ho ht) (h.mono (fun Zs A0 h2 => ?_)); replace h := h2; clear h2
    obtain ⟨eV, rfl, h⟩ := h
    refine Seq.done ?_
    refine At.s iB nC ?_
    refine At.rg 12 [0, 1] ?_
    refine Seq.us [(55, .slice OF n40 c40), (6, .slice OF n40 c40)] (Seq.done ?_)
    exact At.rt [.tmp 6] [(.slice OF n40 c40)] func188 ⟨_, rfl, rfl⟩ h
   | false =>
    replace h := h.2 (of_decide_eq_false hb)
    refine At.cF 31 WO K37 ?_
    refine At.skip ?_
    refine At.s K39 sQ ?_
    refine At.rg 13 [0, 1, 2, 3, 4, 5] ?_
    refine Seq.us [(56, .slice p0 n0 c0), (57, .int .i64 (n0 : Int)), (58, .int .i64 (n2 : Int))] ?_
    obtain ⟨hi, h⟩ := h
    refine Seq.z 59 (.binOp .add 3 (.tmp 57) (.tmp 58) 3) 3 (.int .i64 ((n0 : Int) + (n2 : Int))) (Y.Po hi rfl rfl) ?_
    obtain ⟨hs, h⟩ := h
    refine Seq.z 60 (.slice 39 (.tmp 56) none (some (.tmp 59)) none) 39 (.slice p0 (Int.toNat ((n0 : Int) + (n2 : Int))) c0) (Y.slh underlying39 sizeOf196 rfl rfl hs) ?_
    refine Seq.u 0 (.slice p0 (Int.toNat ((n0 : Int) + (n2 : Int))) c0) (Seq.done ?_)
    refine At.s sR nF (At.s sS zp ?_)
    refine At.rg 14 [0, 1, 2, 3, 4, 5, 6, 7] ?_
    refine Seq.us [(61, .slice p2 n2 c2), (62, .slice p0 (Int.toNat ((n0 : Int) + (n2 : Int))) c0), (63, .int .i64 x1), (64, .int .i64 (n2 : Int))] ?_
    obtain ⟨hi, h⟩ := h
    refine Seq.z 65 (.binOp .add 3 (.tmp 63) (.tmp 64) 3) 3 (.int .i64 (x1 + (n2 : Int))) (Y.Po hi rfl rfl) ?_
    obtain ⟨hs, h⟩ := h
    refine Seq.z 66 (.slice 39 (.tmp 62) (some (.tmp 65)) none none) 39 (.slice (Dp p0 (Int.toNat (x1 + (n2 : Int))) c0 3) ((Int.toNat ((n0 : Int) + (n2 : Int))) - Int.toNat (x1 + (n2 : Int))) (c0 - Int.toNat (x1 + (n2 : Int)))) (Y.gx underlying39 sizeOf196 rfl rfl hs) ?_
    obtain ⟨t67, hy, h⟩ := h
    refine Seq.y (d := (some 67)) (op := (.call { callee := .value (.func 262), args := #[(.tmp 61), (.tmp 66)], argTypes := #[39, 39] })) (ty := 4) (v := (.bool t67)) (by kernel_rfl) rfl (Yd.ext (f := 262) (args := #[(.slice p2 n2 c2), (.slice (Dp p0 (Int.toNat (x1 + (n2 : Int))) c0 3) ((Int.toNat ((n0 : Int) + (n2 : Int))) - Int.toNat (x1 + (n2 : Int))) (c0 - Int.toNat (x1 + (n2 : Int))))]) rfl rfl hy) ?_
    refine Seq.u 68 (.bool (!t67)) (Seq.done ?_)
    cases hb : (!t67) with
    | true =>
     replace h := h.1 (Tw.nt hb)
     refine At.cT 68 oh wF ?_
     refine At.s wE sT ?_
     refine At.draw (id := 15) (ops := cO wE) (n := 8) (q := none) (plan := [(0, true), (1, true), (2, true), (3, true), (4, true), (5, true), (6, true), (7, true)]) (tl := [8]) mixed (by kernel_rfl) (by kernel_rfl) ?_
     refine Head.u 69 (.slice p0 (Int.toNat ((n0 : Int) + (n2 : Int))) c0) ?_
     refine Head.u 70 (.int .i64 x1) ?_
     refine Head.u 71 (.int .i64 (n2 : Int)) ?_
     obtain ⟨hi, h⟩ := h
     refine Head.z 72 (.binOp .add 3 (.tmp 70) (.tmp 71) 3) 3 (.int .i64 (x1 + (n2 : Int))) (Y.Po hi rfl rfl) ?_
     obtain ⟨hs, h⟩ := h
     refine Head.z 73 (.slice 39 (.tmp 69) (some (.tmp 72)) none none) 39 (.slice (Dp p0 (Int.toNat (x1 + (n2 : Int))) c0 3) ((Int.toNat ((n0 : Int) + (n2 : Int))) - Int.toNat (x1 + (n2 : Int))) (c0 - Int.toNat (x1 + (n2 : Int)))) (Y.gx underlying39 sizeOf196 rfl rfl hs) ?_
     refine Head.u 74 (.slice p0 (Int.toNat ((n0 : Int) + (n2 : Int))) c0) ?_
     refine Head.u 75 (.int .i64 x1) ?_
     obtain ⟨hs, h⟩ := h
     refine Head.z 76 (.slice 39 (.tmp 74) (some (.tmp 75)) none none) 39 (.slice (Dp p0 (Int.toNat x1) c0 3) ((Int.toNat ((n0 : Int) + (n2 : Int))) - Int.toNat x1) (c0 - Int.toNat x1)) (Y.gx underlying39 sizeOf196 rfl rfl hs) ?_
     refine Head.done ?_
     refine Seq.o ?_
     refine AV.Tz (d := (some 77)) (op := (.call { callee := .builtin .copy, args := #[(.tmp 73), (.tmp 76)], argTypes := #[39, 39] })) (ty := 3) (gd := none) (by kernel_rfl) rfl rfl (Builtin.copy_ #[39, 39] 3 #[(.slice (Dp p0 (Int.toNat (x1 + (n2 : Int))) c0 3) ((Int.toNat ((n0 : Int) + (n2 : Int))) - Int.toNat (x1 + (n2 : Int))) (c0 - Int.toNat (x1 + (n2 : Int)))), (.slice (Dp p0 (Int.toNat x1) c0 3) ((Int.toNat ((n0 : Int) + (n2 : Int))) - Int.toNat x1) (c0 - Int.toNat x1))]) (fun o ho ht => Ea rfl rfl o ho ht) (h.mono (fun MU Az h2 => ?_)); replace h := h2; clear h2
     obtain ⟨x77, rfl, h⟩ := h
     refine Seq.done ?_
     refine At.L [(0, (.slice p0 (Int.toNat ((n0 : Int) + (n2 : Int))) c0)), (1, (.int .i64 x1)), (2, (.slice p2 n2 c2))] fun J => ?_
     refine At.s nE sU ?_
     refine At.rg 16 [0, 1, 2, 3, 4] ?_
     refine Seq.us [(78, .slice p0 (Int.toNat ((n0 : Int) + (n2 : Int))) c0), (79, .int .i64 x1)] ?_
     obtain ⟨hs, h⟩ := h
     refine Seq.z 80 (.slice 39 (.tmp 78) (some (.tmp 79)) none none) 39 (.slice (Dp p0 (Int.toNat x1) c0 3) ((Int.toNat ((n0 : Int) + (n2 : Int))) - Int.toNat x1) (c0 - Int.toNat x1)) (Y.gx underlying39 sizeOf196 rfl rfl hs) ?_
     refine Seq.u 81 (.slice p2 n2 c2) ?_
     refine Seq.o ?_
     refine AV.Tz (d := (some 82)) (op := (.call { callee := .builtin .copy, args := #[(.tmp 80), (.tmp 81)], argTypes := #[39, 39] })) (ty := 3) (gd := none) (by kernel_rfl) rfl rfl (Builtin.copy_ #[39, 39] 3 #[(.slice (Dp p0 (Int.toNat x1) c0 3) ((Int.toNat ((n0 : Int) + (n2 : Int))) - Int.toNat x1) (c0 - Int.toNat x1)), (.slice p2 n2 c2)]) (fun o ho ht => Ea rfl rfl o ho ht) (h.mono (fun Zs A0 h2 => ?_)); replace h := h2; clear h2
     obtain ⟨x82, rfl, h⟩ := h
     refine Seq.done ?_
     refine At.s sV Yi ?_
     refine At.rg 17 [0, 1] ?_
     refine Seq.us [(83, .slice p0 (Int.toNat ((n0 : Int) + (n2 : Int))) c0), (6, .slice p0 (Int.toNat ((n0 : Int) + (n2 : Int))) c0)] (Seq.done ?_)
     exact At.rt [.tmp 6] [(.slice p0 (Int.toNat ((n0 : Int) + (n2 : Int))) c0)] func188 ⟨_, rfl, rfl⟩ h
    | false =>
     replace h := h.2 (Tw.nf hb)
     refine At.cF 68 oh wF ?_
     refine At.skip ?_
     refine At.s zq nG ?_
     refine At.rg 18 [0, 1, 2, 3, 4] ?_
     refine Seq.us [(84, .slice p0 (Int.toNat ((n0 : Int) + (n2 : Int))) c0), (85, .int .i64 (n0 : Int))] ?_
     obtain ⟨hs, h⟩ := h
     refine Seq.z 86 (.slice 39 (.tmp 84) (some (.tmp 85)) none none) 39 (.slice (Dp p0 (Int.toNat (n0 : Int)) c0 3) ((Int.toNat ((n0 : Int) + (n2 : Int))) - Int.toNat (n0 : Int)) (c0 - Int.toNat (n0 : Int))) (Y.gx underlying39 sizeOf196 rfl rfl hs) ?_
     refine Seq.u 87 (.slice p2 n2 c2) ?_
     refine Seq.o ?_
     refine AV.Tz (d := (some 88)) (op := (.call { callee := .builtin .copy, args := #[(.tmp 86), (.tmp 87)], argTypes := #[39, 39] })) (ty := 3) (gd := none) (by kernel_rfl) rfl rfl (Builtin.copy_ #[39, 39] 3 #[(.slice (Dp p0 (Int.toNat (n0 : Int)) c0 3) ((Int.toNat ((n0 : Int) + (n2 : Int))) - Int.toNat (n0 : Int)) (c0 - Int.toNat (n0 : Int))), (.slice p2 n2 c2)]) (fun o ho ht => Ea rfl rfl o ho ht) (h.mono (fun MU Az h2 => ?_)); replace h := h2; clear h2
     obtain ⟨x88, rfl, h⟩ := h
     refine Seq.done ?_
     refine At.s nH cB ?_
     refine At.rg 19 [0, 1, 2, 3, 4] ?_
     refine Seq.us [(89, .slice p0 (Int.toNat ((n0 : Int) + (n2 : Int))) c0), (90, .int .i64 x1)] ?_
     obtain ⟨hs, h⟩ := h
     refine Seq.z 91 (.slice 39 (.tmp 89) (some (.tmp 90)) none none) 39 (.slice (Dp p0 (Int.toNat x1) c0 3) ((Int.toNat ((n0 : Int) + (n2 : Int))) - Int.toNat x1) (c0 - Int.toNat x1)) (Y.gx underlying39 sizeOf196 rfl rfl hs) ?_
     refine Seq.u 92 (.int .i64 (n2 : Int)) ?_
     refine Seq.o ?_
     refine AV.cl (some 93) call263 (h.cont fun Zs A0 h2 => ?_); replace h := h2; clear h2
     obtain ⟨rfl, h⟩ := h
     refine Seq.done ?_
     refine At.s zr sW ?_
     refine At.rg 20 [0, 1] ?_
     refine Seq.us [(94, .slice p0 (Int.toNat ((n0 : Int) + (n2 : Int))) c0), (6, .slice p0 (Int.toNat ((n0 : Int) + (n2 : Int))) c0)] (Seq.done ?_)
     exact At.rt [.tmp 6] [(.slice p0 (Int.toNat ((n0 : Int) + (n2 : Int))) c0)] func188 ⟨_, rfl, rfl⟩ h
end Fu
namespace Gu
variable {b0 b1 b2 : Nat}
def M : Fw := ⟨prog, 228, f228, [171], [], false, [(4, 30, true)], [], []⟩
theorem ok : M.Ok := ⟨.cons call171 (AK.nil), mixed, func228, by kernel_rfl⟩
theorem start (h : LT σ b0 0 fun s5 => Spec prog 171 #[.string s5] σ (AB R (CB fun t6 y => Bn t6 (R (.returned (.int .i64 61)) y) (LQ y b1 0 fun q8 => Pq q8 fun b9 o9 => LM y b9 o9 fun m11 => LT y b0 0 fun z7 => AJ prog (Instr.lookup 186 (.map m11) (.string z7) false) y (CQ fun ed AI => Bo (Option.isNone ed) (LQ AI b1 0 fun q17 => Pq q17 fun PU Yn => LM AI PU Yn fun m20 => ∃ H9, YF prog (Builtin.len_ #[186] 3 #[.map m20]) AI (.int .i64 H9) ∧ Br (1048576 ≤ H9) (R (.returned (.int .i64 63)) AI) (LS AI b2 0 fun WI n24 c24 => Br (4194304 < (n24 : Int)) (R (.returned (.int .i64 63)) AI) (Bo (Option.isSome ed) (LS AI b2 0 fun jb n33 jc => Pq ed fun pD pE => LS AI pD pE fun nN n38 nO => AN (4194304 - (n38 : Int)) ∧ Br (((4194304 - (n38 : Int)) : Int) < (n33 : Int)) (R (.returned (.int .i64 63)) AI) (R (.returned (.int .i64 0)) AI)) (R (.returned (.int .i64 0)) AI)))) (Bo (Option.isSome ed) (LS AI b2 0 fun jb n33 jc => Pq ed fun pD pE => LS AI pD pE fun nN n38 nO => AN (4194304 - (n38 : Int)) ∧ Br (((4194304 - (n38 : Int)) : Int) < (n33 : Int)) (R (.returned (.int .i64 63)) AI) (R (.returned (.int .i64 0)) AI)) (R (.returned (.int .i64 0)) AI))))))) : Spec prog 228 #[(.pointer (aD b0 0)), (.pointer (aD b1 0)), (.pointer (aD b2 0))] σ R := M.start h ok
end Gu
namespace Du
variable {q0 p2 O1 : Option Addr} {s1 : ByteArray} {n2 c2 n10 Hf : Nat} {Cd : Int}
def M : Fw := ⟨prog, 258, f258, [132, 134, 137, 138, 176, 302], [], false, [(9, 10, false)], [], [(4048, [(0, wQ), (1, wT), (2, wL), (10, wL), (12, wI)]), (510, [(10, wL)])]⟩
theorem ok : M.Ok := ⟨.cons call132 (.cons call134 (.cons call137 (.cons call138 (.cons call176 (.cons call302 (AK.nil)))))), mixed, func258, by kernel_rfl⟩
def Wb := M.pt 0
def Zu := M.pt 1
theorem start (h : Pq q0 fun bw nQ => LQ σ bw nQ fun q17 => Spec prog 176 #[.pointer q17, .string s1] σ (AB R (fun z y => ∃ kC kD kE O6, z = (.tuple #[.slice kC kD kE, .int .i64 O6]) ∧ Spec prog 132 #[.int .i64 O6] y (AB R (fun z AI => z = (.tuple #[]) ∧ Spec prog 302 #[.slice kC kD kE] AI (AB R (fun z Ab => ∃ xA xB xC ACH, z = (.tuple #[.slice xA xB xC, .bool ACH]) ∧ Bn ACH (R (.returned (.tuple #[.slice xA xB xC, .bool true])) Ab) (AN ((n2 : Int) - 1) ∧ Wb R (aD bw nQ) s1 p2 n2 c2 xA xB xC (((n2 : Int) - 1)) Ab)))))))) : Spec prog 258 #[.pointer q0, .string s1, .slice p2 n2 c2] σ R := M.start h ok
theorem Uj (h : Br (0 ≤ Cd) (Pq q0 fun OG ej => LQ σ OG ej fun q42 => Pq p2 fun Ik o46 => In Cd (n2 : Int) ∧ LI .i64 σ Ik (o46 + Int.toNat Cd * 1) fun R4 => Spec prog 134 #[(.pointer (aD OG ej)), (.string (ByteArray.mk #[115])), .int .i64 R4] σ (AB R (CT fun s48 y => Kp [OG] σ y ∧ Spec prog 138 #[.pointer q42, .string s48] y (AB R (CI .i64 fun Wf AI => Spec prog 132 #[.int .i64 Wf] AI (AB R (fun z Ab => z = (.tuple #[]) ∧ AN (Cd - 1) ∧ Wb R (aD OG ej) s1 (aD Ik o46) n2 c2 O1 n10 Hf (Cd - 1) Ab))))))) (Br (0 < (n10 : Int)) (Spec prog 137 #[.pointer q0, .string s1, .slice O1 n10 Hf] σ (AB R (fun z y => z = (.tuple #[]) ∧ Zu R O1 n10 Hf y))) (Pq q0 fun jo nR => LQ σ jo nR fun q61 => Spec prog 138 #[.pointer q61, .string s1] σ (AB R (CI .i64 fun x63 y => Spec prog 132 #[.int .i64 x63] y (AB R (fun z AI => z = (.tuple #[]) ∧ Zu R O1 n10 Hf AI))))))) : Wb R q0 s1 p2 n2 c2 O1 n10 Hf Cd σ := M.of h ok rfl
theorem MZ (h : R (.returned (.tuple #[.slice O1 n10 Hf, .bool false])) σ) : Zu R O1 n10 Hf σ := M.of h ok rfl
end Du
namespace BN
variable {p0 : Option Addr} {n0 c0 : Nat} {v1 : Value} {x7 x8 : Int}
def M : Fw := ⟨prog, 260, f260, [], [], false, [], [], [(104, [(0, wL), (1, wV), (7, wI), (8, wI)])]⟩
theorem ok : M.Ok := ⟨AK.nil, mixed, func260, by kernel_rfl⟩
def Ni := M.pt 0
theorem start (h : Ni R p0 n0 c0 v1 (n0 : Int) 0 σ) : Spec prog 260 #[.slice p0 n0 c0, v1] σ R := M.Ln h ok [(0, .o (.L p0 n0 c0)), (1, .o (.V v1))] rfl rfl (by kernel_rfl)
theorem D6 (h : Br (x8 < x7) (Pq p0 fun Jl MD => In x8 (n0 : Int) ∧ ∃ kF Wg kG kH kI, Dz σ Jl (MD + Int.toNat x8 * 3) [.int .i64 kF, .int .i64 Wg, .slice kG kH kI] ∧ ∃ (f16 : Nat) (OM ON : Array Value), v1 = .func (.func f16) OM ON ∧ Enters prog f16 ∧ Spec prog f16 (OM ++ #[.agg #[.int .i64 kF, .int .i64 Wg, .slice kG kH kI]] ++ ON) σ (AB R (CB fun t16 y => Bo t16 (R (.returned (.int .i64 x8)) y) (AN (x8 + 1) ∧ Ni R (aD Jl MD) n0 c0 v1 x7 (x8 + 1) y)))) (R (.returned (.int .i64 (-1))) σ)) : Ni R p0 n0 c0 v1 x7 x8 σ := M.of h ok rfl
end BN
namespace Ee
variable {p0 p8 : Option Addr} {n0 c0 n8 c8 : Nat} {x9 Dc : Int}
def M : Fw := ⟨prog, 267, f267, [306, 307], [4], false, [(10, 14, true)], [], [(232, [(0, wL), (8, wL), (9, wI), (10, wI)])]⟩
theorem ok : M.Ok := ⟨.cons call306 (.cons call307 (AK.nil)), mixed, func267, by kernel_rfl⟩
def ek := M.pt 0
theorem start (h : Br (16 < (n0 : Int)) (R (.returned (.int .i64 30)) σ) (ek R p0 n0 c0 p0 n0 c0 (n0 : Int) 0 σ)) : Spec prog 267 #[.slice p0 n0 c0] σ R := M.start h ok
theorem cY (h : Br (Dc < x9) (Pq p8 fun IE kJ => In Dc (n8 : Int) ∧ ∃ eh pc, Dz σ IE (kJ + Int.toNat Dc * 2) [.string eh, .string pc] ∧ ∀ b4 : Nat, Spec prog 306 #[.string eh] σ (AB R (CB fun t18 y => Bn t18 (R (.returned (.int .i64 31)) y) (Bo ((ByteArray.toList pc == ByteArray.toList (ByteArray.mk #[]))) (R (.returned (.int .i64 32)) y) (Br ((256 : Int) < ((ByteArray.size pc : Nat) : Int)) (R (.returned (.int .i64 32)) y) (Spec prog 307 #[.string pc] y (AB R (CB fun t33 AI => Bn t33 (R (.returned (.int .i64 32)) AI) (Br (0 < Dc) (AN (Dc - 1) ∧ Pq p0 fun We o45 => In (Dc - 1) (n0 : Int) ∧ LT AI We (o45 + Int.toNat (Dc - 1) * 2) fun wR => ∃ t48, YF prog ((do eqGuard .leq 9 (.tmp 41) (.tmp 47) (.string eh) (.string wR); binOp .leq 9 (.string eh) (.string wR))) AI (.bool t48) ∧ Bo t48 (R (.returned (.int .i64 33)) AI) (AN (Dc + 1) ∧ ek R (aD We o45) n0 c0 (aD IE kJ) n8 c8 x9 (Dc + 1) AI)) (AN (Dc + 1) ∧ ek R p0 n0 c0 (aD IE kJ) n8 c8 x9 (Dc + 1) AI)))))))))) (R (.returned (.int .i64 0)) σ)) : ek R p0 n0 c0 p8 n8 c8 x9 Dc σ := M.of h ok rfl
end Ee
namespace OO
variable {s0 : ByteArray} {x1 : Int}
def M : Fw := ⟨prog, 291, f291, [315], [], false, [], [], []⟩
theorem ok : M.Ok := ⟨.cons call315 (AK.nil), mixed, func291, by kernel_rfl⟩
theorem start (h : AN (x1 - ((ByteArray.size s0 : Nat) : Int)) ∧ Spec prog 315 #[(.string (ByteArray.mk #[48])), (.int .i64 (if ((x1 - ((ByteArray.size s0 : Nat) : Int)) : Int) < 0 then 0 else (x1 - ((ByteArray.size s0 : Nat) : Int))))] σ (AB R (CT fun cS y => (ByteArray.size cS + ByteArray.size s0 ≤ 9223372036854775807) ∧ R (.returned (.string (cS ++ s0))) y))) : Spec prog 291 #[.string s0, .int .i64 x1] σ R := M.start h ok
end OO
namespace Gv
variable {b0 b1 b2 : Nat}
def M : Fw := ⟨prog, 293, f293, [], [], false, [(1, 5, true), (2, 6, true)], [], []⟩
theorem ok : M.Ok := ⟨AK.nil, mixed, func293, by kernel_rfl⟩
theorem start (h : LQ σ b0 0 fun q4 => Pq q4 fun b5 o5 => LM σ b5 o5 fun m7 => LT σ b1 0 fun s8 => AJ prog (Instr.lookup 186 (.map m7) (.string s8) false) σ (CQ fun q9 y => LQ y b0 0 fun q10 => Pq q10 fun D7 GQ => LM y D7 GQ fun m13 => LT y b1 0 fun cE => AJ prog (Builtin.delete_ #[186, 9] 0 #[.map m13, .string cE]) y (fun _ AI => LQ AI b0 0 fun pY => Pq pY fun Kc UZ => LM AI Kc UZ fun m18 => LT AI b2 0 fun s19 => AJ prog (Instr.mapUpdate 186 (.map m18) (.string s19) (.pointer q9)) AI (fun _ Ab => R (.returned (.tuple #[])) Ab)))) : Spec prog 293 #[(.pointer (aD b0 0)), (.pointer (aD b1 0)), (.pointer (aD b2 0))] σ R := M.start h ok
end Gv
namespace LU
variable {p0 : Option Addr} {n0 c0 : Nat} {x1 : Int}
def M : Fw := ⟨prog, 320, f320, [342], [], false, [(5, 8, true)], [], []⟩
theorem ok : M.Ok := ⟨.cons call342 (AK.nil), mixed, func320, by kernel_rfl⟩
theorem start (h : Al σ fun IE => Spec prog 342 #[(.func (.func 343) #[(.pointer (aD IE 0))] #[]), (.func (.func 344) #[(.pointer (aD IE 0))] #[])] (Hp.set σ IE (.cells #[.slice p0 n0 c0, .int .i64 x1] 381 (0, 0))) (AB R (fun z y => ∃ kC kD kE O6, z = (.tuple #[.slice kC kD kE, .int .i64 O6]) ∧ Br (O6 ≠ 0) (R (.returned (.tuple #[.slice none 0 0, .int .i64 0, .int .i64 O6])) y) (LI .i64 y IE 1 fun UY => R (.returned (.tuple #[.slice kC kD kE, .int .i64 UY, .int .i64 0])) y)))) : Spec prog 320 #[.slice p0 n0 c0, .int .i64 x1] σ R := M.start h ok
end LU
namespace JI
variable {x0 x1 : Int}
def M : Fw := ⟨prog, 328, f328, [213], [], false, [], [], []⟩
theorem ok : M.Ok := ⟨.cons call213 (AK.nil), mixed, func328, by kernel_rfl⟩
theorem start (h : Spec prog 213 #[.int .u32 x0] σ (AB R (CB fun t6 y => Bo t6 (Spec prog 213 #[.int .u32 x1] y (AB R (CB fun t9 AI => Bn t9 (R (.returned (.bool true)) AI) (R (.returned (.bool (decide (x0 < x1)))) AI)))) (R (.returned (.bool (decide (x0 < x1)))) y)))) : Spec prog 328 #[.int .u32 x0, .int .u32 x1] σ R := M.start h ok
end JI
end TwW
end
end
section
set_option maxRecDepth 100000
noncomputable section
namespace TwW
open Go Tw Go.Proofs.Tryz
variable [Ht] {R : Rr} {σ : Hp}

namespace Wh
variable {x0 : Int}
def M : Fw := ⟨prog, 8, f8, [], [], false, [], [], []⟩
theorem ok : M.Ok := ⟨AK.nil, mixed, func8, by kernel_rfl⟩
theorem start (h : Df (Go.bits .and .i64 x0 9223372036854775807) fun x4 => R (.returned (.int .i64 x4)) σ) : Spec prog 8 #[.int .i64 x0] σ R := M.start h ok
end Wh
namespace Ma
variable {En : Int} {HB : Option Addr} {GI HC : Nat}
def M : Fw := ⟨prog, 10, f10, [30, 31, 41, 42, 43, 44], [1], false, [], [], []⟩
theorem ok : M.Ok := ⟨.cons call30 (.cons call31 (.cons call41 (.cons call42 (.cons call43 (.cons call44 (AK.nil)))))), mixed, func10, by kernel_rfl⟩
theorem start (h : ∀ b1 : Nat, Spec prog 42 #[] σ (AB R (CQ fun pC y => Spec prog 41 #[.pointer pC] y (AB R (fun z AI => ∃ Zi Ng, z = (.tuple #[.pointer Zi, .int .i64 Ng]) ∧ Al AI fun R3 => Spec prog 43 #[(.pointer (aD R3 0))] (Hp.set AI R3 (.cells #[.slice none 0 0, .bool false, .bool false, .int .i64 0, .int .i64 0, .int .u64 0] 113 (0, 0))) (AB R (fun z Ab => ∃ xD Zv, z = (.tuple #[.pointer xD, .int .i64 Zv]) ∧ Spec prog 44 #[.agg #[.int .u64 En, .slice HB GI HC]] Ab (AB R (fun z A1 => ∃ xE xF xG jm, z = (.tuple #[.slice xE xF xG, .int .i64 jm]) ∧ Bo (Option.isNone Zi) (R (.returned (.tuple #[.pointer none, .pointer none])) A1) (Br (jm ≠ 0) (R (.returned (.tuple #[.pointer none, .pointer none])) A1) (Spec prog 30 #[.pointer Zi, (.string (ByteArray.mk #[114, 105, 110, 103])), .slice xE xF xG, .int .u64 0] A1 (AB R (fun z DD => ∃ AJB AJC, z = (.tuple #[.int .u64 AJB, .int .i64 AJC]) ∧ Spec prog 31 #[.pointer xD, (.string (ByteArray.mk #[114, 105, 110, 103])), .slice xE xF xG, .int .u64 0] DD (AB R (fun z EA => ∃ AJD AJE, z = (.tuple #[.int .u64 AJD, .int .i64 AJE]) ∧ R (.returned (.tuple #[.pointer Zi, .pointer xD])) EA))))))))))))))) : Spec prog 10 #[.agg #[.int .u64 En, .slice HB GI HC]] σ R := M.start h ok
end Ma
namespace AT
variable {q0 p2 q4 w8 WI : Option Addr} {s1 : ByteArray} {n2 c2 n24 c24 : Nat} {x3 NA HA : Int}
def M : Fw := ⟨prog, 12, f12, [47], [], false, [], [], [(232, [(12, wQ), (24, wL), (25, wI), (26, wI)])]⟩
theorem ok : M.Ok := ⟨.cons call47 (AK.nil), mixed, func12, by kernel_rfl⟩
def A5 := M.pt 0
theorem start (h : Al σ fun BG => Spec prog 47 #[.pointer q0, (.pointer (aD BG 0)), .pointer q4] (Hp.set σ BG (.cells #[.string s1, (.string (ByteArray.mk #[])), (.string (ByteArray.mk #[])), .slice p2 n2 c2, .int .i64 x3, .pointer none] 120 (0, 0))) (AB R (CS fun WI n24 c24 y => A5 R (aD BG 0) WI n24 c24 (n24 : Int) 0 y))) : Spec prog 12 #[.pointer q0, .string s1, .slice p2 n2 c2, .int .i64 x3, .pointer q4] σ R := M.start h ok
theorem AW (h : Br (HA < NA) (Pq WI fun QI bt => In HA (n24 : Int) ∧ ∃ v29, Hp.ld σ ⟨QI, (bt + Int.toNat HA * 1), none⟩ = some v29 ∧ ∃ (f31 : Nat) (Wi Wj : Array Value), v29 = .func (.func f31) Wi Wj ∧ Enters prog f31 ∧ Spec prog f31 (Wi ++ #[] ++ Wj) σ (AB R (CI .i64 fun HP y => Br (HP ≠ 0) (R (.returned (.tuple #[.pointer none, .int .i64 HP])) y) (AN (HA + 1) ∧ A5 R w8 (aD QI bt) n24 c24 NA (HA + 1) y)))) (Pq w8 fun Hr js => LQ σ Hr (js + 5) fun q39 => R (.returned (.tuple #[.pointer q39, .int .i64 0])) σ)) : A5 R w8 WI n24 c24 NA HA σ := M.of h ok rfl
end AT
namespace BU
variable {q0 p3 p9 : Option Addr} {n3 c3 n9 c9 : Nat} {Dc Ed : Int}
def M : Fw := ⟨prog, 14, f14, [48, 49], [5], false, [], [], [(232, [(3, wL), (9, wL), (10, wI), (11, wI)])]⟩
theorem ok : M.Ok := ⟨.cons call48 (.cons call49 (AK.nil)), mixed, func14, by kernel_rfl⟩
def A5 := M.pt 0
theorem start (h : Pq q0 fun b7 o7 => LS σ b7 (o7 + 2) fun p9 n9 c9 => A5 R none 0 0 p9 n9 c9 (n9 : Int) 0 σ) : Spec prog 14 #[.pointer q0] σ R := M.start h ok
theorem AW (h : Br (Ed < Dc) (Pq p9 fun IE kJ => In Ed (n9 : Int) ∧ ∃ xH pd xI xJ AJF ACJ ACK ACL AJG, Dz σ IE (kJ + Int.toNat Ed * 5) [.slice xH pd xI, .int .i64 xJ, .int .u64 AJF, .slice ACJ ACK ACL, .map AJG] ∧ ∀ b5 : Nat, AJ prog (Builtin.append_ #[26, 26] 26 #[.slice p3 n3 c3, .slice ACJ ACK ACL]) σ (CS fun QJ n18 TB y => AN (Ed + 1) ∧ A5 R QJ n18 TB (aD IE kJ) n9 c9 Dc (Ed + 1) y)) (Spec prog 48 #[.slice p3 n3 c3] σ (AB R (fun z y => z = (.tuple #[]) ∧ Spec prog 49 #[.slice p3 n3 c3] y (AB R (CS fun oe n23 og AI => R (.returned (.slice oe n23 og)) AI)))))) : A5 R p3 n3 c3 p9 n9 c9 Dc Ed σ := M.of h ok rfl
end BU
namespace IG
variable {p0 : Option Addr} {n0 c0 : Nat} {x1 x5 : Int}
def M : Fw := ⟨prog, 16, f16, [], [], false, [], [], [(208, [(0, wL), (1, wI), (5, wI)])]⟩
theorem ok : M.Ok := ⟨AK.nil, mixed, func16, by kernel_rfl⟩
def JZ := M.pt 0
theorem start (h : JZ R p0 n0 c0 x1 0 σ) : Spec prog 16 #[.slice p0 n0 c0, .int .i64 x1] σ R := M.start h ok
theorem CP (h : Br (x5 < (n0 : Int)) (Pq p0 fun Jl MD => In x5 (n0 : Int) ∧ LI .i64 σ Jl (MD + Int.toNat x5 * 1) fun MQ => Br (MQ = x1) (R (.returned (.bool true)) σ) (AN (x5 + 1) ∧ JZ R (aD Jl MD) n0 c0 x1 (x5 + 1) σ)) (R (.returned (.bool false)) σ)) : JZ R p0 n0 c0 x1 x5 σ := M.of h ok rfl
end IG
namespace GS
variable {q0 p2 AJH : Option Addr} {s1 : ByteArray} {n2 c2 AJI AJJ : Nat} {x3 HE : Int}
def M : Fw := ⟨prog, 30, f30, [39, 63, 64, 65, 66, 67, 68], [13], false, [(13, 6, true)], [], [(1022, [(13, .X 156 [.L, .I .u64])])]⟩
theorem ok : M.Ok := ⟨.cons call39 (.cons call63 (.cons call64 (.cons call65 (.cons call66 (.cons call67 (.cons call68 (AK.nil))))))), mixed, func30, by kernel_rfl⟩
def xK := M.pt 0
theorem start (h : Spec prog 39 #[.pointer q0, .string s1] σ (AB R (fun z y => ∃ AJK AJL AJM xL kK, z = (.tuple #[.slice AJK AJL AJM, .int .u64 xL, .int .i64 kK]) ∧ Br (kK ≠ 0) (R (.returned (.tuple #[.int .u64 0, .int .i64 kK])) y) (Br (xL ≠ x3) (R (.returned (.tuple #[.int .u64 xL, .int .i64 121])) y) (Al y fun Ym => AJ prog (Builtin.append_ #[84, 84] 84 #[(.slice (aD Ym 0) 0 0), .slice p2 n2 c2]) (Hp.set y Ym (.cells #[] 5 (0, 0))) (CS fun p35 n35 c35 AI => Df (IntKind.u64.wrap (x3 + 1)) fun J6 => ∀ IE : Nat, Pq q0 fun OG ej => LQ AI OG ej fun q42 => Spec prog 64 #[.string s1, .agg #[.slice p35 n35 c35, .int .u64 J6]] AI (AB R (CS fun xM n45 c45 Ab => Kp [OG] AI Ab ∧ Spec prog 63 #[.pointer q42, .slice xM n45 c45] Ab (AB R (CI .i64 fun eR A1 => Br (eR ≠ 0) (R (.returned (.tuple #[.int .u64 0, .int .i64 eR])) A1) (LQ A1 OG ej fun q53 => Spec prog 65 #[.pointer q53] A1 (AB R (CI .i64 fun eV DD => Br (eV ≠ 0) (R (.returned (.tuple #[.int .u64 0, .int .i64 eV])) DD) (LM DD OG (ej + 2) fun m61 => AJ prog (Instr.mapUpdate 159 (.map m61) (.string s1) (.agg #[.slice p35 n35 c35, .int .u64 J6])) DD (fun _ EA => LQ EA OG ej fun q67 => Spec prog 66 #[.pointer q67] EA (AB R (CI .i64 fun x68 Jo => Br (64 < x68) (LQ Jo OG ej fun q73 => Spec prog 68 #[(.pointer (aD OG ej))] Jo (AB R (CS fun p75 n75 c75 j9 => Kp [OG] Jo j9 ∧ Spec prog 67 #[.pointer q73, .slice p75 n75 c75] j9 (AB R (CI .i64 fun x76 kA => Br (x76 ≠ 0) (R (.returned (.tuple #[.int .u64 0, .int .i64 x76])) kA) (xK R p35 n35 c35 J6 kA)))))) (xK R p35 n35 c35 J6 Jo)))))))))))))))))) : Spec prog 30 #[.pointer q0, .string s1, .slice p2 n2 c2, .int .u64 x3] σ R := M.start h ok
theorem cZ (h : R (.returned (.tuple #[.int .u64 HE, .int .i64 0])) σ) : xK R AJH AJI AJJ HE σ := M.Yb h ok rfl fun _ => by kernel_rfl
end GS
namespace GC
variable {q0 p2 pR Yq : Option Addr} {s1 Zw : ByteArray} {n2 c2 pS pT n16 Zx : Nat} {x3 Nl Ix : Int}
def M : Fw := ⟨prog, 31, f31, [29, 69, 70, 71, 72, 73, 74], [13], false, [], [], [(2046, [(13, .X 154 [.T, .L, .I .u64])]), (523600, [(0, wQ), (13, .X 154 [.T, .L, .I .u64]), (16, wL), (17, wI)])]⟩
theorem ok : M.Ok := ⟨.cons call29 (.cons call69 (.cons call70 (.cons call71 (.cons call72 (.cons call73 (.cons call74 (AK.nil))))))), mixed, func31, by kernel_rfl⟩
def ACN := M.pt 0
def AJP := M.pt 1
theorem start (h : Spec prog 29 #[.pointer q0, .string s1] σ (AB R (fun z y => ∃ pe pg ph eo ep, z = (.tuple #[.slice pe pg ph, .int .u64 eo, .int .i64 ep]) ∧ Br (ep ≠ 0) (R (.returned (.tuple #[.int .u64 0, .int .i64 ep])) y) (Br (eo ≠ x3) (R (.returned (.tuple #[.int .u64 eo, .int .i64 121])) y) (Al y fun z8 => AJ prog (Builtin.append_ #[84, 84] 84 #[(.slice (aD z8 0) 0 0), .slice p2 n2 c2]) (Hp.set y z8 (.cells #[] 5 (0, 0))) (CS fun Ue n36 WW AI => Df (IntKind.u64.wrap (x3 + 1)) fun NF => ∀ IE : Nat, Pq q0 fun pj tB => LQ AI pj tB fun q43 => Spec prog 70 #[.agg #[.string s1, .slice Ue n36 WW, .int .u64 NF]] AI (AB R (CS fun xM n45 c45 Ab => Kp [pj] AI Ab ∧ Spec prog 69 #[.pointer q43, .slice xM n45 c45] Ab (AB R (CI .i64 fun eR A1 => Br (eR ≠ 0) (R (.returned (.tuple #[.int .u64 0, .int .i64 eR])) A1) (LQ A1 pj tB fun q53 => Spec prog 71 #[.pointer q53] A1 (AB R (CI .i64 fun eV DD => Br (eV ≠ 0) (R (.returned (.tuple #[.int .u64 0, .int .i64 eV])) DD) (Spec prog 72 #[(.pointer (aD pj tB)), .agg #[.string s1, .slice Ue n36 WW, .int .u64 NF]] DD (AB R (fun z EA => z = (.tuple #[]) ∧ LQ EA pj tB fun q64 => Spec prog 73 #[.pointer q64] EA (AB R (CI .i64 fun zw Jo => Br (64 < zw) (AJP R (aD pj tB) s1 Ue n36 WW NF none 0 0 0 Jo) (ACN R s1 Ue n36 WW NF Jo))))))))))))))))))) : Spec prog 31 #[.pointer q0, .string s1, .slice p2 n2 c2, .int .u64 x3] σ R := M.start h ok
theorem pk (h : R (.returned (.tuple #[.int .u64 Nl, .int .i64 0])) σ) : ACN R Zw pR pS pT Nl σ := M.Yb h ok rfl fun _ => by kernel_rfl
end GC
namespace Wk
def M : Fw := ⟨prog, 42, f42, [], [], false, [], [], []⟩
theorem ok : M.Ok := ⟨AK.nil, mixed, func42, by kernel_rfl⟩
theorem start (h : AJ prog (Instr.makeMap 186 none) σ (fun z y => ∃ m1, z = (.map (some m1)) ∧ Al y fun b3 => R (.returned (.pointer (aD b3 0))) (Hp.set y b3 (.cells #[(.map (some m1)), .bool true, .bool false, .int .i64 0, .int .i64 0, .int .u64 0] 188 (0, 0))))) : Spec prog 42 #[] σ R := M.start h ok
end Wk
namespace Mb
variable {q0 : Option Addr}
def M : Fw := ⟨prog, 65, f65, [131, 133, 134], [], false, [], [], []⟩
theorem ok : M.Ok := ⟨.cons call131 (.cons call133 (.cons call134 (AK.nil))), mixed, func65, by kernel_rfl⟩
theorem start (h : Spec prog 131 #[.pointer q0] σ (AB R (CB fun t4 y => Bn t4 (R (.returned (.int .i64 0)) y) (Pq q0 fun b7 o7 => LQ y b7 o7 fun q9 => LI .i64 y b7 (o7 + 4) fun FF => Spec prog 134 #[(.pointer (aD b7 o7)), (.string (ByteArray.mk #[115])), .int .i64 FF] y (AB R (CT fun nV AI => Kp [b7] y AI ∧ Spec prog 133 #[.pointer q9, .string nV] AI (AB R (CI .i64 fun Nc Ab => R (.returned (.int .i64 Nc)) Ab)))))))) : Spec prog 65 #[.pointer q0] σ R := M.start h ok
end Mb
namespace IH
variable {q0 : Option Addr}
def M : Fw := ⟨prog, 66, f66, [], [], false, [], [], []⟩
theorem ok : M.Ok := ⟨AK.nil, mixed, func66, by kernel_rfl⟩
theorem start (h : Pq q0 fun b4 o4 => LS σ b4 (o4 + 3) fun p6 n6 c6 => R (.returned (.int .i64 (n6 : Int))) σ) : Spec prog 66 #[.pointer q0] σ R := M.start h ok
end IH
namespace Mc
variable {s0a : ByteArray} {HB : Option Addr} {GI HC : Nat} {Hg : Int}
def M : Fw := ⟨prog, 70, f70, [142, 143], [1], false, [], [], []⟩
theorem ok : M.Ok := ⟨.cons call142 (.cons call143 (AK.nil)), mixed, func70, by kernel_rfl⟩
theorem start (h : ∀ b1 : Nat, (Spec prog 142 #[.slice none 0 0, .string s0a] σ (AB R (CS fun p5 n5 c5 y => (Spec prog 143 #[.slice p5 n5 c5, .int .u64 Hg] y (AB R (CS fun p8 n8 c8 AI => AJ prog (convert 84 9 (.slice HB GI HC)) AI (CT fun nA Ab => Spec prog 142 #[.slice p8 n8 c8, .string nA] Ab (AB R (CS fun Jn n12 c12 A1 => R (.returned (.slice Jn n12 c12)) A1)))))) ∧ (AJ prog (convert 84 9 (.slice HB GI HC)) y (CT fun nA AI => Spec prog 143 #[.slice p5 n5 c5, .int .u64 Hg] AI (AB R (CS fun p8 n8 c8 Ab => Spec prog 142 #[.slice p8 n8 c8, .string nA] Ab (AB R (CS fun Jn n12 c12 A1 => R (.returned (.slice Jn n12 c12)) A1))))))))) ∧ (AJ prog (convert 84 9 (.slice HB GI HC)) σ (CT fun nA y => Spec prog 142 #[.slice none 0 0, .string s0a] y (AB R (CS fun p5 n5 c5 AI => Spec prog 143 #[.slice p5 n5 c5, .int .u64 Hg] AI (AB R (CS fun p8 n8 c8 Ab => Spec prog 142 #[.slice p8 n8 c8, .string nA] Ab (AB R (CS fun Jn n12 c12 A1 => R (.returned (.slice Jn n12 c12)) A1))))))))) : Spec prog 70 #[.agg #[.string s0a, .slice HB GI HC, .int .u64 Hg]] σ R := M.start h ok
end Mc
namespace cmp_Compare_int
variable {x0 x1 : Int}
def M : Fw := ⟨prog, 124, f124, [214], [], false, [], [], []⟩
theorem ok : M.Ok := ⟨.cons call214 (AK.nil), mixed, func124, by kernel_rfl⟩
theorem start (h : Spec prog 214 #[.int .i64 x0] σ (AB R (CB fun t8 y => Spec prog 214 #[.int .i64 x1] y (AB R (CB fun t10 AI => Bo t8 (Bo t10 (R (.returned (.int .i64 0)) AI) (R (.returned (.int .i64 (-1))) AI)) (Bo t10 (R (.returned (.int .i64 1)) AI) (Br (x0 < x1) (R (.returned (.int .i64 (-1))) AI) (Br (x1 < x0) (R (.returned (.int .i64 1)) AI) (R (.returned (.int .i64 0)) AI))))))))) : Spec prog 124 #[.int .i64 x0, .int .i64 x1] σ R := M.start h ok
end cmp_Compare_int
namespace Da
variable {x0 x1 : Int}
def M : Fw := ⟨prog, 126, f126, [215, 216, 217, 218], [], false, [], [], []⟩
theorem ok : M.Ok := ⟨.cons call215 (.cons call216 (.cons call217 (.cons call218 (AK.nil)))), mixed, func126, by kernel_rfl⟩
theorem start (h : Br (x1 = 10) (Br (x0 < 100) (Df (IntKind.i64.wrap x0) fun FF => Spec prog 215 #[.int .i64 FF] σ (AB R (CT fun nV y => R (.returned (.string nV)) y))) (Al σ fun b5 => Spec prog 216 #[.int .u64 x0] (Hp.set σ b5 (.cells #[.int .u8 0, .int .u8 0, .int .u8 0, .int .u8 0, .int .u8 0, .int .u8 0, .int .u8 0, .int .u8 0, .int .u8 0, .int .u8 0, .int .u8 0, .int .u8 0, .int .u8 0, .int .u8 0, .int .u8 0, .int .u8 0, .int .u8 0, .int .u8 0, .int .u8 0, .int .u8 0, .int .u8 0, .int .u8 0, .int .u8 0, .int .u8 0] 290 (0, 0))) (AB R (CI .i64 fun Ix y => ∃ J4 n19 Ke, YF prog (Instr.sliceAt 290 (.pointer (aD b5 0)) none (some (.int .i64 Ix)) none) y (.slice J4 n19 Ke) ∧ Spec prog 217 #[.slice J4 n19 Ke, .int .u64 x0] y (AB R (fun z AI => z = (.tuple #[]) ∧ ∃ oe n23 og, YF prog (Instr.sliceAt 290 (.pointer (aD b5 0)) none (some (.int .i64 Ix)) none) AI (.slice oe n23 og) ∧ AJ prog (convert 84 9 (.slice oe n23 og)) AI (CT fun s24 Ab => R (.returned (.string s24)) Ab))))))) (Spec prog 218 #[.slice none 0 0, .int .u64 x0, .int .i64 x1, .bool false, .bool false] σ (AB R (fun z y => ∃ AJQ AJR AJS ACO, z = (.tuple #[.slice AJQ AJR AJS, .string ACO]) ∧ R (.returned (.string ACO)) y)))) : Spec prog 126 #[.int .u64 x0, .int .i64 x1] σ R := M.start h ok
end Da
namespace II
variable {q0 : Option Addr} {s1 : ByteArray}
def M : Fw := ⟨prog, 138, f138, [221], [], false, [], [], []⟩
theorem ok : M.Ok := ⟨.cons call221 (AK.nil), mixed, func138, by kernel_rfl⟩
theorem start (h : Al σ fun b2 => Al (Hp.set σ b2 (.cells #[.pointer q0] 106 (0, 0))) fun b3 => LQ (Hp.set (Hp.set σ b2 (.cells #[.pointer q0] 106 (0, 0))) b3 (.cells #[.string s1] 9 (0, 0))) b2 0 fun q5 => Spec prog 221 #[.pointer q5, (.func (.func 232) #[] #[(.pointer (aD b2 0)), (.pointer (aD b3 0))]), (.func (.func 233) #[] #[(.pointer (aD b2 0)), (.pointer (aD b3 0))]), (.func (.func 225) #[] #[])] (Hp.set (Hp.set σ b2 (.cells #[.pointer q0] 106 (0, 0))) b3 (.cells #[.string s1] 9 (0, 0))) (AB R (CI .i64 fun x8 y => R (.returned (.int .i64 x8)) y))) : Spec prog 138 #[.pointer q0, .string s1] σ R := M.start h ok
end II
namespace EV
variable {p0 : Option Addr} {n0 c0 : Nat} {x1 x7 x8 : Int}
def M : Fw := ⟨prog, 177, f177, [], [], false, [], [], [(976, [(0, wL), (1, wI), (7, wU), (8, wI)])]⟩
theorem ok : M.Ok := ⟨AK.nil, mixed, func177, by kernel_rfl⟩
def Kv := M.pt 0
theorem start (h : Br (x1 < 0) (R (.returned (.tuple #[.int .u64 0, .int .i64 0, .int .i64 20])) σ) (Br ((n0 : Int) < x1) (R (.returned (.tuple #[.int .u64 0, .int .i64 0, .int .i64 20])) σ) (Kv R p0 n0 c0 x1 0 0 σ))) : Spec prog 177 #[.slice p0 n0 c0, .int .i64 x1] σ R := M.start h ok
theorem Pa (h : AN (x1 + x8) ∧ Br (((x1 + x8) : Int) < (n0 : Int)) (AN (x1 + x8) ∧ Pq p0 fun TJ Yl => In (x1 + x8) (n0 : Int) ∧ LI .u8 σ TJ (Yl + Int.toNat (x1 + x8) * 1) fun HP => Br (x8 = 9) (Br (1 < HP) (R (.returned (.tuple #[.int .u64 0, .int .i64 0, .int .i64 21])) σ) (Br (0 < x8) (Br (HP = 0) (R (.returned (.tuple #[.int .u64 0, .int .i64 0, .int .i64 21])) σ) (Df (Go.bits .and .u8 HP 127) fun JF => Df (IntKind.u64.wrap JF) fun Wf => AN (7 * x8) ∧ ((0 : Int) ≤ (7 * x8) ∧ (7 * x8) ≤ ((IntKind.bits .u64 : Nat) : Int)) ∧ Df (IntKind.u64.wrap (Wf * 2 ^ Int.toNat (7 * x8))) fun TK => Df (Go.bits .or .u64 x7 TK) fun O4 => Br (HP < 128) (AN (x1 + x8) ∧ AN ((x1 + x8) + 1) ∧ R (.returned (.tuple #[.int .u64 O4, (.int .i64 ((x1 + x8) + 1)), .int .i64 0])) σ) (AN (x8 + 1) ∧ Kv R (aD TJ Yl) n0 c0 x1 O4 (x8 + 1) σ))) (Df (Go.bits .and .u8 HP 127) fun JF => Df (IntKind.u64.wrap JF) fun Wf => AN (7 * x8) ∧ ((0 : Int) ≤ (7 * x8) ∧ (7 * x8) ≤ ((IntKind.bits .u64 : Nat) : Int)) ∧ Df (IntKind.u64.wrap (Wf * 2 ^ Int.toNat (7 * x8))) fun TK => Df (Go.bits .or .u64 x7 TK) fun O4 => Br (HP < 128) (AN (x1 + x8) ∧ AN ((x1 + x8) + 1) ∧ R (.returned (.tuple #[.int .u64 O4, (.int .i64 ((x1 + x8) + 1)), .int .i64 0])) σ) (AN (x8 + 1) ∧ Kv R (aD TJ Yl) n0 c0 x1 O4 (x8 + 1) σ)))) (Br (0 < x8) (Br (HP = 0) (R (.returned (.tuple #[.int .u64 0, .int .i64 0, .int .i64 21])) σ) (Df (Go.bits .and .u8 HP 127) fun JF => Df (IntKind.u64.wrap JF) fun Wf => AN (7 * x8) ∧ ((0 : Int) ≤ (7 * x8) ∧ (7 * x8) ≤ ((IntKind.bits .u64 : Nat) : Int)) ∧ Df (IntKind.u64.wrap (Wf * 2 ^ Int.toNat (7 * x8))) fun TK => Df (Go.bits .or .u64 x7 TK) fun O4 => Br (HP < 128) (AN (x1 + x8) ∧ AN ((x1 + x8) + 1) ∧ R (.returned (.tuple #[.int .u64 O4, (.int .i64 ((x1 + x8) + 1)), .int .i64 0])) σ) (AN (x8 + 1) ∧ Kv R (aD TJ Yl) n0 c0 x1 O4 (x8 + 1) σ))) (Df (Go.bits .and .u8 HP 127) fun JF => Df (IntKind.u64.wrap JF) fun Wf => AN (7 * x8) ∧ ((0 : Int) ≤ (7 * x8) ∧ (7 * x8) ≤ ((IntKind.bits .u64 : Nat) : Int)) ∧ Df (IntKind.u64.wrap (Wf * 2 ^ Int.toNat (7 * x8))) fun TK => Df (Go.bits .or .u64 x7 TK) fun O4 => Br (HP < 128) (AN (x1 + x8) ∧ AN ((x1 + x8) + 1) ∧ R (.returned (.tuple #[.int .u64 O4, (.int .i64 ((x1 + x8) + 1)), .int .i64 0])) σ) (AN (x8 + 1) ∧ Kv R (aD TJ Yl) n0 c0 x1 O4 (x8 + 1) σ)))) (R (.returned (.tuple #[.int .u64 0, .int .i64 0, .int .i64 20])) σ)) : Kv R p0 n0 c0 x1 x7 x8 σ := M.of h ok rfl
end EV
namespace OP
variable {En x1 : Int} {HB : Option Addr} {GI HC : Nat}
def M : Fw := ⟨prog, 187, f187, [260], [2], false, [], [], []⟩
theorem ok : M.Ok := ⟨.cons call260 (AK.nil), mixed, func187, by kernel_rfl⟩
theorem start (h : ∀ b2 : Nat, Al σ fun b3 => Spec prog 260 #[.slice HB GI HC, (.func (.func 261) #[] #[(.pointer (aD b3 0))])] (Hp.set σ b3 (.cells #[.int .i64 x1] 3 (0, 0))) (AB R (CI .i64 fun x8 y => R (.returned (.int .i64 x8)) y))) : Spec prog 187 #[.agg #[.int .u64 En, .slice HB GI HC], .int .i64 x1] σ R := M.start h ok
end OP
namespace cmp_isNaN_int
variable {x0 : Int}
def M : Fw := ⟨prog, 214, f214, [], [], false, [], [], []⟩
theorem ok : M.Ok := ⟨AK.nil, mixed, func214, by kernel_rfl⟩
theorem start (h : R (.returned (.bool (decide (x0 ≠ x0)))) σ) : Spec prog 214 #[.int .i64 x0] σ R := M.start h ok
end cmp_isNaN_int
namespace JJ
variable {q0 : Option Addr} {s1 : ByteArray}
def M : Fw := ⟨prog, 223, f223, [171], [], false, [], [], []⟩
theorem ok : M.Ok := ⟨.cons call171 (AK.nil), mixed, func223, by kernel_rfl⟩
theorem start (h : Spec prog 171 #[.string s1] σ (AB R (CB fun t6 y => Bn t6 (R (.returned (.int .i64 61)) y) (Pq q0 fun b9 o9 => LM y b9 o9 fun m11 => AJ prog (Instr.lookup 186 (.map m11) (.string s1) false) y (CQ fun ed AI => Bo (Option.isNone ed) (R (.returned (.int .i64 62)) AI) (R (.returned (.int .i64 0)) AI)))))) : Spec prog 223 #[.pointer q0, .string s1] σ R := M.start h ok
end JJ
namespace LV
variable {q0 : Option Addr}
def M : Fw := ⟨prog, 229, f229, [], [], false, [], [], []⟩
theorem ok : M.Ok := ⟨AK.nil, mixed, func229, by kernel_rfl⟩
theorem start (h : Pq q0 fun b4 o4 => LT σ b4 (o4 + 1) fun s6 => (ByteArray.size s6 + ByteArray.size (ByteArray.mk #[47, 110, 101, 119]) ≤ 9223372036854775807) ∧ R (.returned (.string (s6 ++ (ByteArray.mk #[47, 110, 101, 119])))) σ) : Spec prog 229 #[.pointer q0] σ R := M.start h ok
end LV
namespace Hh
variable {q0 nJ er : Option Addr} {eW s3a : ByteArray} {nK nL et eu : Nat} {eX x3c : Int}
def M : Fw := ⟨prog, 239, f239, [237, 241], [3], false, [(6, 16, false)], [], [(14, [(0, wQ), (3, .X 305 [.T, .L, .I .i64])])]⟩
theorem ok : M.Ok := ⟨.cons call237 (.cons call241 (AK.nil)), mixed, func239, by kernel_rfl⟩
def CC := M.pt 0
theorem start (h : ∀ b3 : Nat, Spec prog 237 #[.pointer q0, .string eW] σ (AB R (fun z y => ∃ Ug ACQ, z = (.tuple #[.int .i64 Ug, .bool ACQ]) ∧ Bo ACQ (Spec prog 241 #[.pointer q0, .string eW] y (AB R (fun z AI => ∃ AJT AJU AJV AJW kK, z = (.agg #[.string AJT, .slice AJU AJV AJW, .int .i64 kK]) ∧ CC R q0 eW nJ nK nL eX AI))) (CC R q0 eW nJ nK nL eX y)))) : Spec prog 239 #[.pointer q0, .agg #[.string eW, .slice nJ nK nL, .int .i64 eX]] σ R := M.start h ok
theorem BS (h : Spec prog 237 #[.pointer q0, .string s3a] σ (AB R (fun z y => ∃ E9 ea, z = (.tuple #[.int .i64 E9, .bool ea]) ∧ Al y fun QI => Pq q0 fun TJ Yl => LS (Hp.set y QI (.cells #[] 305 (0, 0))) TJ Yl fun zv n32 wh => (0 ≤ E9 ∧ E9 ≤ (n32 : Int)) ∧ AJ prog (Builtin.append_ #[111, 111] 111 #[(.slice (aD QI 0) 0 0), (.slice (Dp zv (Int.toNat E9) wh 3) (n32 - Int.toNat E9) (wh - Int.toNat E9))]) (Hp.set y QI (.cells #[] 305 (0, 0))) (CS fun p35 n35 c35 AI => LS AI TJ Yl fun o0 n41 nP => (0 ≤ E9 ∧ E9 ≤ (nP : Int)) ∧ (Al AI fun Hr => (AJ prog (Builtin.append_ #[111, 111] 111 #[(.slice (aD Hr 0) 0 0), (.slice o0 (Int.toNat E9) nP)]) (Hp.set AI Hr (.cells #[] 305 (0, 0))) (CS fun VY n44 Wm Ab => Al Ab fun Ik => AJ prog (Builtin.append_ #[111, 111] 111 #[.slice VY n44 Wm, (.slice (aD Ik 0) 1 1)]) (Hp.set Ab Ik (.cells #[.string s3a, .slice er et eu, .int .i64 x3c] 305 (0, 0))) (CS fun xN n47 xO A1 => AJ prog (Builtin.append_ #[111, 111] 111 #[.slice xN n47 xO, .slice p35 n35 c35]) A1 (CS fun WV n49 c49 DD => AJ prog (Instr.storeAt 111 (.pointer (aD TJ Yl)) (.slice WV n49 c49)) DD (fun _ EA => R (.returned (.tuple #[])) EA))))) ∧ (Al (Hp.set AI Hr (.cells #[] 305 (0, 0))) fun Ik => AJ prog (Builtin.append_ #[111, 111] 111 #[(.slice (aD Hr 0) 0 0), (.slice o0 (Int.toNat E9) nP)]) (Hp.set (Hp.set AI Hr (.cells #[] 305 (0, 0))) Ik (.cells #[.string s3a, .slice er et eu, .int .i64 x3c] 305 (0, 0))) (CS fun VY n44 Wm Ab => AJ prog (Builtin.append_ #[111, 111] 111 #[.slice VY n44 Wm, (.slice (aD Ik 0) 1 1)]) Ab (CS fun xN n47 xO A1 => AJ prog (Builtin.append_ #[111, 111] 111 #[.slice xN n47 xO, .slice p35 n35 c35]) A1 (CS fun WV n49 c49 DD => AJ prog (Instr.storeAt 111 (.pointer (aD TJ Yl)) (.slice WV n49 c49)) DD (fun _ EA => R (.returned (.tuple #[])) EA)))))) ∧ (Al AI fun Ik => Al (Hp.set AI Ik (.cells #[.string s3a, .slice er et eu, .int .i64 x3c] 305 (0, 0))) fun Hr => AJ prog (Builtin.append_ #[111, 111] 111 #[(.slice (aD Hr 0) 0 0), (.slice o0 (Int.toNat E9) nP)]) (Hp.set (Hp.set AI Ik (.cells #[.string s3a, .slice er et eu, .int .i64 x3c] 305 (0, 0))) Hr (.cells #[] 305 (0, 0))) (CS fun VY n44 Wm Ab => AJ prog (Builtin.append_ #[111, 111] 111 #[.slice VY n44 Wm, (.slice (aD Ik 0) 1 1)]) Ab (CS fun xN n47 xO A1 => AJ prog (Builtin.append_ #[111, 111] 111 #[.slice xN n47 xO, .slice p35 n35 c35]) A1 (CS fun WV n49 c49 DD => AJ prog (Instr.storeAt 111 (.pointer (aD TJ Yl)) (.slice WV n49 c49)) DD (fun _ EA => R (.returned (.tuple #[])) EA))))))))) : CC R q0 s3a er et eu x3c σ := M.Yb h ok rfl fun _ => by kernel_rfl
end Hh
namespace LW
variable {En Iw : Int} {p0c : Option Addr} {n0c c0c b1 : Nat}
def M : Fw := ⟨prog, 261, f261, [], [2], false, [], [], []⟩
theorem ok : M.Ok := ⟨AK.nil, mixed, func261, by kernel_rfl⟩
theorem start (h : ∀ b2 : Nat, LI .i64 σ b1 0 fun x6 => R (.returned (.bool (decide (En = x6)))) σ) : Spec prog 261 #[.agg #[.int .i64 En, .int .i64 Iw, .slice p0c n0c c0c], (.pointer (aD b1 0))] σ R := M.start h ok
end LW
namespace Gw
def K0 := f302.body.getD .skip
def K1 := cl K0
def K2 := cr K0
def K3 := cl K2
def K4 := cl K3
def K5 := cr K3
def K6 := cl K5
def K7 := cr K5
def K8 := cl K7
def K9 := cr K7
def Lp := cl K9
def TD := cl Lp
def MS := cr Lp
def QM := cl MS
def Zl := cl QM
def eP := cr QM
def TE := cr MS
def OE := cr K9
def Yf := cl OE
def UX := cr OE
def TF := cl UX
def hY := cl TF
def bz := cr TF
def Yg := cl bz
def eQ := cl Yg
def WL := cr Yg
def WM := cr bz
def WN := cr UX
def WO := cl WN
def WQ := cr WN
def jW := cl WQ
def hZ := cr WQ
abbrev gl (R : Rr) : Gl := Gl.fn prog 302 29 R
def CC (R : Rr) (p0 : Option Addr) (n0 c0 : Nat) (p4 : Option Addr) (n4 c4 : Nat) (x5 : Int) (σ : Hp) : Prop := ∀ (J : Env), At (gl R) [.code TD, .code MS, .code OE, .inScope K3] (Ge J [(0, (.slice p0 n0 c0)), (4, (.slice p4 n4 c4)), (5, (.int .i64 x5))]) [] σ
theorem start {R : Rr} {p0 : Option Addr} {n0 c0 : Nat} {σ : Hp} (h : CC R p0 n0 c0 none 0 0 0 σ) : Spec prog 302 #[(.slice p0 n0 c0)] σ R := by
 refine Spec.Jp (fn := f302) (c := K0) func302 (by kernel_rfl) (Nat.le_of_ble_eq_true (by kernel_rfl)) (fun e he => ?_)
 refine At.oG (l := [(0, (.slice p0 n0 c0))]) ⟨he 0, trivial⟩ (fun J => ?_)
 show At (gl R) _ _ _ _
 refine At.s K1 K2 ?_
 refine At.rg 0 [0, 1] ?_
 refine Seq.us [(2, .slice none 0 0), (3, .bool false)] (Seq.done ?_)
 refine At.scope (x := K3) (by kernel_rfl) ?_
 refine At.s K4 K5 ?_
 refine At.rg 1 [0] ?_
 refine Seq.u 4 (.slice none 0 0) (Seq.done ?_)
 refine At.s K6 K7 ?_
 refine At.rg 2 [0] ?_
 refine Seq.u 5 (.int .i64 0) (Seq.done ?_)
 refine At.s K8 K9 ?_
 refine At.label (l := 0) ?_
 refine At.s Lp OE (At.s TD MS ?_)
 exact At.v [(0, (.slice p0 n0 c0)), (4, (.slice none 0 0)), (5, (.int .i64 0))] (h _)
theorem BS {R : Rr} {p0 p4 : Option Addr} {n0 c0 n4 c4 : Nat} {x5 : Int} {σ : Hp} (h : ((x5 : Int) = (n0 : Int) → R (.returned (.tuple #[(.slice p4 n4 c4), (.bool false)])) σ) ∧ (¬ ((x5 : Int) = (n0 : Int)) → Spec prog 320 #[(.slice p0 n0 c0), (.int .i64 x5)] σ (AB R (fun v σ1 => ∃ Ls : Option Addr, ∃ Lt : Nat, ∃ Lu : Nat, ∃ J5 : Int, ∃ Ku : Int, v = (.tuple #[(.slice Ls Lt Lu), (.int .i64 J5), (.int .i64 Ku)]) ∧ ((Ku : Int) ≠ 0 → R (.returned (.tuple #[(.slice p4 n4 c4), (.bool true)])) σ1) ∧ (¬ ((Ku : Int) ≠ 0) → ∀ PZ : Nat, σ1 PZ = none → AJ prog (Builtin.append_ #[165, 165] 165 #[(.slice p4 n4 c4), (.slice (some ⟨PZ, 0, none⟩) 1 1)]) (Hp.set σ1 PZ (.cells #[(.slice Ls Lt Lu)] 84 (0, 0))) (fun MU Az => ∃ VX : Option Addr, ∃ n27 : Nat, ∃ R6 : Nat, MU = (.slice VX n27 R6) ∧ CC R p0 n0 c0 VX n27 R6 J5 Az)))))) : CC R p0 n0 c0 p4 n4 c4 x5 σ := by
 intro J
 show At (gl R) _ _ _ _
 refine At.rg 3 [0, 1, 2, 3] ?_
 refine Seq.us [(9, .int .i64 x5), (10, .slice p0 n0 c0)] ?_
 refine Seq.z 11 (.call { callee := .builtin .len, args := #[(.tmp 10)], argTypes := #[84] }) 3 (.int .i64 (n0 : Int)) (Y.Y4 underlying84 rfl rfl) ?_
 refine Seq.u 12 (.bool (decide ((x5 : Int) = (n0 : Int)))) (Seq.done ?_)
 cases hb : (decide ((x5 : Int) = (n0 : Int))) with
 | true =>
  replace h := h.1 (of_decide_eq_true hb)
  refine At.cT 12 QM TE ?_
  refine At.s Zl eP ?_
  refine At.rg 4 [0, 1, 2] ?_
  refine Seq.us [(13, .slice p4 n4 c4), (2, .slice p4 n4 c4), (3, .bool false)] (Seq.done ?_)
  exact At.rt [.tmp 2, .tmp 3] [(.slice p4 n4 c4), (.bool false)] func302 ⟨_, rfl, ⟨_, rfl, rfl⟩⟩ h
 | false =>
  replace h := h.2 (of_decide_eq_false hb)
  refine At.cF 12 QM TE ?_
  refine At.skip ?_
  refine At.s Yf UX ?_
  refine At.rg 5 [0, 1, 2, 3, 4, 5, 6, 7, 8, 9] ?_
  refine Seq.us [(15, .slice p0 n0 c0), (16, .int .i64 x5)] ?_
  refine Seq.o ?_
  refine AV.cl (some 17) call320 (h.cont fun v σ1 h2 => ?_); replace h := h2; clear h2
  obtain ⟨Ls, Lt, Lu, J5, Ku, rfl, h⟩ := h
  refine Seq.us [(14, .tuple #[(.slice Ls Lt Lu), (.int .i64 J5), (.int .i64 Ku)]), (18, .slice Ls Lt Lu), (19, .int .i64 J5), (20, .int .i64 Ku), (6, .slice Ls Lt Lu), (7, .int .i64 J5), (8, .int .i64 Ku)] (Seq.done ?_)
  refine At.s TF WN (At.s hY bz ?_)
  refine At.rg 6 [0, 1] ?_
  refine Seq.us [(21, .int .i64 Ku), (22, .bool (decide ((Ku : Int) ≠ 0)))] (Seq.done ?_)
  cases hb : (decide ((Ku : Int) ≠ 0)) with
  | true =>
   replace h := h.1 (of_decide_eq_true hb)
   refine At.cT 22 Yg WM ?_
   refine At.s eQ WL ?_
   refine At.rg 7 [0, 1, 2] ?_
   refine Seq.us [(23, .slice p4 n4 c4), (2, .slice p4 n4 c4), (3, .bool true)] (Seq.done ?_)
   exact At.rt [.tmp 2, .tmp 3] [(.slice p4 n4 c4), (.bool true)] func302 ⟨_, rfl, ⟨_, rfl, rfl⟩⟩ h
  | false =>
   replace h := h.2 (of_decide_eq_false hb)
   refine At.cF 22 Yg WM ?_
   refine At.skip ?_
   refine At.s WO WQ ?_
   refine At.rg 8 [0, 1, 2, 3, 4] ?_
   refine Seq.us [(24, .slice p4 n4 c4), (25, .slice Ls Lt Lu)] ?_
   refine Seq.o ?_
   refine AV.Js (T := 165) (E := 84) (m := 1) (ps := #[(0, (.tmp 25))]) (d := (some 26)) (ty := 165) (gd := none) (vs := [(0, (.slice Ls Lt Lu))]) (cs := #[(.slice Ls Lt Lu)]) underlying165 (by kernel_rfl) rfl rfl rfl (by kernel_rfl) (fun PZ hn => ?_)
   replace h := h PZ hn
   refine Seq.o ?_
   refine AV.Tz (d := (some 27)) (op := (.call { callee := .builtin .append, args := #[(.tmp 24), (.tmp 26)], argTypes := #[165, 165] })) (ty := 165) (gd := none) (by kernel_rfl) rfl rfl (Builtin.append_ #[165, 165] 165 #[(.slice p4 n4 c4), (.slice (some ⟨PZ, 0, none⟩) 1 1)]) (fun o ho ht => ED rfl rfl o ho ht) (h.mono (fun MU Az h2 => ?_)); replace h := h2; clear h2
   obtain ⟨VX, n27, R6, rfl, h⟩ := h
   refine Seq.u 4 (.slice VX n27 R6) (Seq.done ?_)
   refine At.s jW hZ ?_
   refine At.rg 9 [0, 1] ?_
   refine Seq.us [(28, .int .i64 J5), (5, .int .i64 J5)] (Seq.done ?_)
   refine At.goto (i := 0) (k' := [.code (.seq .skip K9), .inScope K3]) (by kernel_rfl) (by kernel_rfl) ?_
   refine At.s .skip K9 (At.skip ?_)
   refine At.s Lp OE (At.s TD MS ?_)
   exact At.v [(0, (.slice p0 n0 c0)), (4, (.slice VX n27 R6)), (5, (.int .i64 J5))] (h _)
end Gw
namespace BW
variable {q0 Ue : Option Addr} {x1 x6 J6 NF : Int} {n36 WW : Nat}
def M : Fw := ⟨prog, 344, f344, [219], [], false, [(1, 13, true), (4, 16, true), (9, 18, true)], [], [(488, [(0, wQ), (1, wI), (6, br), (36, wL), (37, wI), (38, wI)])]⟩
theorem ok : M.Ok := ⟨.cons call219 (AK.nil), mixed, func344, by kernel_rfl⟩
def GO := M.pt 0
theorem start (h : Pq q0 fun D7 GQ => LS σ D7 GQ fun OI n13 O5 => LI .i64 σ D7 (GQ + 1) fun Fe => AN ((n13 : Int) - Fe) ∧ AN (4 + x1) ∧ Br ((((n13 : Int) - Fe) : Int) < (4 + x1)) (R (.returned (.tuple #[.slice none 0 0, .int .i64 20])) σ) (LS σ D7 GQ fun WU n26 TH => LI .i64 σ D7 (GQ + 1) fun nB => LI .i64 σ D7 (GQ + 1) fun Zk => AN (Zk + 4) ∧ (0 ≤ nB ∧ nB ≤ (Zk + 4) ∧ (Zk + 4) ≤ (TH : Int)) ∧ GO R (aD D7 GQ) x1 0 ((Dp WU (Int.toNat nB) TH 1)) ((Int.toNat (Zk + 4) - Int.toNat nB)) (TH - Int.toNat nB) ((((Int.toNat (Zk + 4) - Int.toNat nB) : Nat) : Int)) 0 σ)) : Spec prog 344 #[.pointer q0, .int .i64 x1] σ R := M.start h ok
theorem GP (h : Br (NF < J6) (Pq Ue fun OG ej => In NF (n36 : Int) ∧ LI .u8 σ OG (ej + Int.toNat NF * 1) fun LR => ((0 : Int) ≤ 8 ∧ 8 ≤ ((IntKind.bits .u32 : Nat) : Int)) ∧ Df (IntKind.u32.wrap (x6 * 2 ^ Int.toNat 8)) fun wy => Df (IntKind.u32.wrap LR) fun Zt => Df (Go.bits .or .u32 wy Zt) fun eR => AN (NF + 1) ∧ GO R q0 x1 eR (aD OG ej) n36 WW J6 (NF + 1) σ) (Pq q0 fun NC o49 => LS σ NC o49 fun p51 n51 c51 => LI .i64 σ NC (o49 + 1) fun pn => AN (pn + 4) ∧ LI .i64 σ NC (o49 + 1) fun x60 => AN (x60 + 4) ∧ AN ((x60 + 4) + x1) ∧ ((0 : Int) ≤ (pn + 4) ∧ (pn + 4) ≤ ((x60 + 4) + x1) ∧ ((x60 + 4) + x1) ≤ (c51 : Int)) ∧ LI .i64 σ NC (o49 + 1) fun x68 => AN (4 + x1) ∧ AN (x68 + (4 + x1)) ∧ AJ prog (Instr.storeAt 3 (.pointer (aD NC (o49 + 1))) (.int .i64 (x68 + (4 + x1)))) σ (fun _ y => Spec prog 219 #[(.slice (Dp p51 (Int.toNat (pn + 4)) c51 1) (Int.toNat ((x60 + 4) + x1) - Int.toNat (pn + 4)) (c51 - Int.toNat (pn + 4)))] y (AB R (CI .u32 fun tC AI => Br (tC ≠ x6) (R (.returned (.tuple #[.slice none 0 0, .int .i64 22])) AI) (Al AI fun b78 => AJ prog (Builtin.append_ #[84, 84] 84 #[(.slice (aD b78 0) 0 0), (.slice (Dp p51 (Int.toNat (pn + 4)) c51 1) (Int.toNat ((x60 + 4) + x1) - Int.toNat (pn + 4)) (c51 - Int.toNat (pn + 4)))]) (Hp.set AI b78 (.cells #[] 5 (0, 0))) (CS fun p80 n80 c80 Ab => R (.returned (.tuple #[.slice p80 n80 c80, .int .i64 0])) Ab))))))) : GO R q0 x1 x6 Ue n36 WW J6 NF σ := M.of h ok rfl
end BW
end TwW
end
end
section
set_option maxRecDepth 100000
noncomputable section
namespace TwW
open Go Tw Go.Proofs.Tryz
variable [Ht] {R : Rr} {σ : Hp}

namespace Fv
variable {x0 Zy xP x4 : Int} {iD er : Option Addr} {iE iF et eu : Nat}
def M : Fw := ⟨prog, 11, f11, [45, 46], [2, 3], false, [], [], [(464, [(0, wI), (2, .X 41 [.I .u64, .L]), (3, .X 41 [.I .u64, .L]), (4, wI)])]⟩
theorem ok : M.Ok := ⟨.cons call45 (.cons call46 (AK.nil)), mixed, func11, by kernel_rfl⟩
def CC := M.pt 0
theorem start (h : ∀ b2 : Nat, ∀ b3 : Nat, CC R x0 0 none 0 0 0 none 0 0 0 σ) : Spec prog 11 #[.int .i64 x0] σ R := M.start h ok
theorem BS (h : Br (x4 < x0) (Spec prog 45 #[.agg #[.int .u64 xP, .slice er et eu], .int .i64 x4] σ (AB R (fun z y => ∃ tD tE tF tG HE, z = (.tuple #[.agg #[.int .u64 tD, .slice tE tF tG], .int .i64 HE]) ∧ Spec prog 46 #[.agg #[.int .u64 tD, .slice tE tF tG], .int .i64 x4] y (AB R (fun z AI => ∃ tH tI tJ tK O6, z = (.tuple #[.agg #[.int .u64 tH, .slice tI tJ tK], .int .i64 O6]) ∧ AN (x4 + 1) ∧ CC R x0 Zy iD iE iF tH tI tJ tK (x4 + 1) AI))))) (R (.returned (.agg #[.int .u64 xP, .slice er et eu])) σ)) : CC R x0 Zy iD iE iF xP er et eu x4 σ := M.of2 h ok rfl fun _ _ => by kernel_rfl
end Fv
namespace OQ
def M : Fw := ⟨prog, 13, f13, [7, 9, 10, 11, 12, 14, 15, 17, 18, 20], [], false, [], [], []⟩
theorem ok : M.Ok := ⟨.cons call7 (.cons call9 (.cons call10 (.cons call11 (.cons call12 (.cons call14 (.cons call15 (.cons call17 (.cons call18 (.cons call20 (AK.nil)))))))))), mixed, func13, by kernel_rfl⟩
theorem start (h : Spec prog 7 #[.int .i64 1, .int .i64 5, .int .i64 30] σ (AB R (fun z y => ∃ Ug HE Nl ACS ACT ACU ACV ACW ACX ACY ACZ, z = (.agg #[.int .i64 Ug, .int .i64 HE, .int .i64 Nl, .int .i64 ACS, .int .i64 ACT, .int .i64 ACU, .int .i64 ACV, .int .i64 ACW, .int .i64 ACX, .int .i64 ACY, .bool ACZ]) ∧ Spec prog 9 #[.agg #[.int .i64 Ug, .int .i64 HE, .int .i64 Nl, .int .i64 ACS, .int .i64 ACT, .int .i64 ACU, .int .i64 ACV, .int .i64 ACW, .int .i64 ACX, .int .i64 ACY, .bool ACZ]] y (AB R (CQ fun eb AI => Spec prog 11 #[.int .i64 3] AI (AB R (fun z Ab => ∃ ew ACa ACb ACc, z = (.agg #[.int .u64 ew, .slice ACa ACb ACc]) ∧ Spec prog 10 #[.agg #[.int .u64 ew, .slice ACa ACb ACc]] Ab (AB R (fun z A1 => ∃ po xQ, z = (.tuple #[.pointer po, .pointer xQ]) ∧ Bo (Option.isNone eb) (R (.returned (.bool false)) A1) (Bo (Option.isNone po) (R (.returned (.bool false)) A1) (Al A1 fun Kd => Al (Hp.set A1 Kd (.cells #[(.string (ByteArray.mk #[97])), (.string (ByteArray.mk #[120]))] 61 (0, 0))) fun Jm => Spec prog 12 #[.pointer eb, (.string (ByteArray.mk #[116])), (.slice (aD Jm 0) 1 1), .int .i64 0, .pointer po] (Hp.set (Hp.set A1 Kd (.cells #[(.string (ByteArray.mk #[97])), (.string (ByteArray.mk #[120]))] 61 (0, 0))) Jm (.cells #[(.slice (aD Kd 0) 1 1), .int .i64 5, .int .u64 1] 25 (0, 0))) (AB R (fun z DD => ∃ Wn ACd, z = (.tuple #[.pointer Wn, .int .i64 ACd]) ∧ Br (ACd ≠ 0) (R (.returned (.bool false)) DD) (Bo (Option.isNone Wn) (R (.returned (.bool false)) DD) (Spec prog 14 #[.pointer Wn] DD (AB R (CS fun VY n44 Wm EA => Br ((n44 : Int) ≠ 3) (R (.returned (.bool false)) EA) (Spec prog 14 #[.pointer Wn] EA (AB R (CS fun WV n49 c49 Jo => Pq WV fun sn so => In 0 (n49 : Int) ∧ LI .i64 Jo sn so fun eV => Spec prog 20 #[.pointer Wn, .int .i64 eV] Jo (AB R (fun z j9 => ∃ AJX ACe AJY ACf, z = (.tuple #[.slice AJX ACe AJY, .int .u64 ACf]) ∧ In 0 (n49 : Int) ∧ LI .i64 j9 sn so fun x61 => Al j9 fun b62 => Spec prog 15 #[.pointer Wn, .int .i64 x61, (.slice (aD b62 0) 1 1)] (Hp.set j9 b62 (.cells #[.int .i64 1] 3 (0, 0))) (AB R (fun z kA => z = (.tuple #[]) ∧ In 1 (n49 : Int) ∧ LI .i64 kA sn (so + 1) fun x67 => Al kA fun iG => Spec prog 15 #[.pointer Wn, .int .i64 x67, (.slice (aD iG 0) 1 1)] (Hp.set kA iG (.cells #[.int .i64 2] 3 (0, 0))) (AB R (fun z kB => z = (.tuple #[]) ∧ Spec prog 17 #[.pointer Wn] kB (AB R (fun z AJZ => ∃ ACg ACh ACi ACj, z = (.tuple #[.int .i64 ACg, .slice ACh ACi ACj]) ∧ Spec prog 12 #[.pointer eb, (.string (ByteArray.mk #[116])), .slice none 0 0, .int .i64 0, .pointer po] AJZ (AB R (fun z kL => ∃ AJa ACk, z = (.tuple #[.pointer AJa, .int .i64 ACk]) ∧ Br ((ACe : Int) = 1) (Br (ACf = 6) (Br (ACg = 1) (Al kL fun Zz => Spec prog 18 #[.slice ACh ACi ACj, (.slice (aD Zz 0) 1 1)] (Hp.set kL Zz (.cells #[.bool true] 4 (0, 0))) (AB R (CB fun t95 ACl => Bo t95 (R (.returned (.bool (decide (ACk = 4)))) ACl) (R (.returned (.bool false)) ACl)))) (R (.returned (.bool false)) kL)) (R (.returned (.bool false)) kL)) (R (.returned (.bool false)) kL))))))))))))))))))))))))))))))) : Spec prog 13 #[] σ R := M.start h ok
end OQ
namespace A9
variable {q0 p6 Jn : Option Addr} {x1 E8 FF : Int} {n6 c6 n12 c12 : Nat}
def M : Fw := ⟨prog, 20, f20, [50, 53], [8], false, [(8, 7, true)], [], [(232, [(0, wQ), (1, wI), (6, wL), (12, wL), (13, wI), (14, wI)]), (935, [(0, wQ), (1, wI), (6, wL), (12, wL), (13, wI), (14, wI)])]⟩
theorem ok : M.Ok := ⟨.cons call50 (.cons call53 (AK.nil)), mixed, func20, by kernel_rfl⟩
def A5 := M.pt 0
def GR := M.pt 1
theorem start (h : Pq q0 fun D8 LL => LS σ D8 (LL + 2) fun Jn n12 c12 => A5 R (aD D8 LL) x1 none 0 0 Jn n12 c12 (n12 : Int) 0 σ) : Spec prog 20 #[.pointer q0, .int .i64 x1] σ R := M.start h ok
theorem AW (h : Br (FF < E8) (Pq Jn fun Kc UZ => In FF (n12 : Int) ∧ ∃ Ls Lt Lu J5 Ku ACm ACn ACo AJb, Dz σ Kc (UZ + Int.toNat FF * 5) [.slice Ls Lt Lu, .int .i64 J5, .int .u64 Ku, .slice ACm ACn ACo, .map AJb] ∧ ∀ b8 : Nat, Spec prog 50 #[.slice ACm ACn ACo, .int .i64 x1] σ (AB R (CB fun t21 y => Bo t21 (Spec prog 53 #[.agg #[.slice Ls Lt Lu, .int .i64 J5, .int .u64 Ku]] y (AB R (fun z AI => ∃ ACp ACq ACr pw ACs, z = (.agg #[.slice ACp ACq ACr, .int .i64 pw, .int .u64 ACs]) ∧ Al AI fun PZ => AJ prog (Builtin.append_ #[46, 46] 46 #[.slice p6 n6 c6, (.slice (aD PZ 0) 1 1)]) (Hp.set AI PZ (.cells #[.slice ACp ACq ACr, .int .i64 pw, .int .u64 ACs] 25 (0, 0))) (CS fun VX n27 R6 Ab => GR R q0 x1 VX n27 R6 (aD Kc UZ) n12 c12 E8 FF Ab)))) (GR R q0 x1 p6 n6 c6 (aD Kc UZ) n12 c12 E8 FF y)))) (Pq q0 fun Jm pZ => LI .u64 σ Jm pZ fun su => R (.returned (.tuple #[.slice p6 n6 c6, .int .u64 su])) σ)) : A5 R q0 x1 p6 n6 c6 Jn n12 c12 E8 FF σ := M.of h ok rfl
theorem Ff (h : AN (FF + 1) ∧ A5 R q0 x1 p6 n6 c6 Jn n12 c12 E8 (FF + 1) σ) : GR R q0 x1 p6 n6 c6 Jn n12 c12 E8 FF σ := M.of h ok rfl
end A9
namespace TM
variable {En x1 : Int} {HB : Option Addr} {GI HC : Nat}
def M : Fw := ⟨prog, 45, f45, [100], [2, 4], false, [], [], []⟩
theorem ok : M.Ok := ⟨.cons call100 (AK.nil), mixed, func45, by kernel_rfl⟩
theorem start (h : ∀ b2 : Nat, ∀ b4 : Nat, Spec prog 100 #[.agg #[.int .u64 En, .slice HB GI HC], .int .i64 x1, (.func (.func 101) #[] #[])] σ (AB R (fun z y => ∃ jX jY jZ ja x8b, z = (.tuple #[.agg #[.int .u64 jX, .slice jY jZ ja], .int .i64 x8b]) ∧ R (.returned (.tuple #[.agg #[.int .u64 jX, .slice jY jZ ja], .int .i64 x8b])) y))) : Spec prog 45 #[.agg #[.int .u64 En, .slice HB GI HC], .int .i64 x1] σ R := M.start h ok
end TM
namespace slices_Sort_int
variable {p0 : Option Addr} {n0 c0 : Nat}
end slices_Sort_int
namespace CZ
variable {q0 p3 p5 oe : Option Addr} {n3 c3 n5 c5 n23 og : Nat} {v12 : Value} {Ks NA : Int}
def M : Fw := ⟨prog, 68, f68, [64, 93], [], false, [], [(12, 159)], [(232, [(0, wQ), (3, wL), (12, wV)]), (2024, [(0, wQ), (5, wL), (23, wL), (24, wI), (25, wI)])]⟩
theorem ok : M.Ok := ⟨.cons call64 (.cons call93 (AK.nil)), mixed, func68, by kernel_rfl⟩
def A5 := M.pt 0
def QV := M.pt 1
theorem start (h : Pq q0 fun b9 o9 => LM σ b9 (o9 + 2) fun m11 => AJ prog (Instr.range 159 (.map m11)) σ (fun z y => ∃ v12, v12 = z ∧ A5 R (aD b9 o9) none 0 0 v12 y)) : Spec prog 68 #[.pointer q0] σ R := M.start h ok
theorem AW (h : AJ prog (Instr.next v12 false 0) σ (fun v y => (v = (.tuple #[.bool false]) ∧ Spec prog 93 #[.slice p3 n3 c3] y (AB R (fun z AI => z = (.tuple #[]) ∧ QV R q0 none 0 0 p3 n3 c3 (n3 : Int) 0 AI))) ∨ (∃ Zw ACt ACu ACv ACw, v = (.tuple #[.bool true, .string Zw, .agg #[.slice ACt ACu ACv, .int .u64 ACw]]) ∧ AJ prog (Instr.entry v12) y (fun z AI => ∃ jk ACx ACy ACz AC0, z = (.tuple #[.string jk, .agg #[.slice ACx ACy ACz, .int .u64 AC0]]) ∧ Al AI fun Yc => AJ prog (Builtin.append_ #[97, 97] 97 #[.slice p3 n3 c3, (.slice (aD Yc 0) 1 1)]) (Hp.set AI Yc (.cells #[.string jk] 9 (0, 0))) (CS fun sq n20 c20 Ab => A5 R q0 sq n20 c20 v12 Ab))))) : A5 R q0 p3 n3 c3 v12 σ := M.of h ok rfl
theorem Pb (h : Br (NA < Ks) (Pq oe fun b27 o27 => In NA (n23 : Int) ∧ LT σ b27 (o27 + Int.toNat NA * 1) fun s28 => Pq q0 fun j0 j7 => LM σ j0 (j7 + 2) fun m34 => AJ prog (Instr.lookup 159 (.map m34) (.string s28) false) σ (fun z y => ∃ AC1 AC2 AC3 AC4, z = (.agg #[.slice AC1 AC2 AC3, .int .u64 AC4]) ∧ Spec prog 64 #[.string s28, .agg #[.slice AC1 AC2 AC3, .int .u64 AC4]] y (AB R (CS fun Rk n37 c37 AI => Al AI fun b38 => AJ prog (Builtin.append_ #[165, 165] 165 #[.slice p5 n5 c5, (.slice (aD b38 0) 1 1)]) (Hp.set AI b38 (.cells #[.slice Rk n37 c37] 84 (0, 0))) (CS fun j8 n39 R5 Ab => AN (NA + 1) ∧ QV R (aD j0 j7) j8 n39 R5 (aD b27 o27) n23 og Ks (NA + 1) Ab))))) (R (.returned (.slice p5 n5 c5)) σ)) : QV R q0 p5 n5 c5 oe n23 og Ks NA σ := M.of h ok rfl
end CZ
namespace J8
variable {q0 p1 : Option Addr} {n1 c1 : Nat}
def M : Fw := ⟨prog, 96, f96, [94, 115, 177], [], false, [], [], []⟩
theorem ok : M.Ok := ⟨.cons call94 (.cons call115 (.cons call177 (AK.nil))), mixed, func96, by kernel_rfl⟩
theorem start (h : Spec prog 115 #[.slice p1 n1 c1, .int .i64 0] σ (AB R (fun z y => ∃ WS Ng UU, z = (.tuple #[.string WS, .int .i64 Ng, .int .i64 UU]) ∧ Br (UU ≠ 0) (R (.returned (.bool false)) y) (Spec prog 177 #[.slice p1 n1 c1, .int .i64 Ng] y (AB R (fun z AI => ∃ Uf px py, z = (.tuple #[.int .u64 Uf, .int .i64 px, .int .i64 py]) ∧ Br (py ≠ 0) (R (.returned (.bool false)) AI) (Spec prog 115 #[.slice p1 n1 c1, .int .i64 px] AI (AB R (fun z Ab => ∃ AC5 pz qA, z = (.tuple #[.string AC5, .int .i64 pz, .int .i64 qA]) ∧ Br (qA ≠ 0) (R (.returned (.bool false)) Ab) (Br (pz ≠ (n1 : Int)) (R (.returned (.bool false)) Ab) (Spec prog 94 #[.string WS] Ab (AB R (CB fun t44 A1 => Bn t44 (R (.returned (.bool false)) A1) (Br (Uf = 0) (R (.returned (.bool false)) A1) (Pq q0 fun kM o52 => LM A1 kM (o52 + 2) fun m54 => AJ prog (convert 9 84 (.string AC5)) A1 (CS fun p57 n57 c57 DD => AJ prog (Instr.mapUpdate 159 (.map m54) (.string WS) (.agg #[.slice p57 n57 c57, .int .u64 Uf])) DD (fun _ EA => R (.returned (.bool true)) EA))))))))))))))))) : Spec prog 96 #[.pointer q0, .slice p1 n1 c1] σ R := M.start h ok
end J8
namespace Cv
variable {b0 b1 : Nat}
def M : Fw := ⟨prog, 103, f103, [104], [], false, [], [], []⟩
theorem ok : M.Ok := ⟨.cons call104 (AK.nil), mixed, func103, by kernel_rfl⟩
theorem start (h : LQ σ b0 0 fun q6 => Pq q6 fun b7 o7 => LT σ b7 o7 fun s9 => LQ σ b0 0 fun q10 => Pq q10 fun D7 GQ => LS σ D7 (GQ + 3) fun OI n13 O5 => LQ σ b1 0 fun eb => Pq eb fun bw nQ => ∃ AC6 Zv AC7 AC8, Dz σ bw (nQ + 7) [.int .i64 AC6, .int .i64 Zv, .int .i64 AC7, .bool AC8] ∧ Spec prog 104 #[.string s9, .slice OI n13 O5, .agg #[.int .i64 AC6, .int .i64 Zv, .int .i64 AC7, .bool AC8]] σ (AB R (fun z y => ∃ AJc O6, z = (.tuple #[.int .i64 AJc, .int .i64 O6]) ∧ Br (O6 = 0) (R (.returned (.int .i64 0)) y) (Br (O6 = 151) (R (.returned (.int .i64 4)) y) (R (.returned (.int .i64 3)) y))))) : Spec prog 103 #[(.pointer (aD b0 0)), (.pointer (aD b1 0))] σ R := M.start h ok
end Cv
namespace B6
variable {s0 : ByteArray} {p1 p8 Ue xR Ua : Option Addr} {n1 c1 n8 c8 n36 WW xS xT n43 VT : Nat} {Zy x2b x2c J6 NF x9 Z0 Z1 pX Zt : Int} {t2d : Bool}
def M : Fw := ⟨prog, 104, f104, [191, 192], [5, 10], false, [], [], [(488, [(8, wL), (36, wL), (37, wI), (38, wI)]), (125336, [(8, wL), (9, wI), (10, .X 25 [.L, .I .i64, .I .u64]), (36, wL), (37, wI), (38, wI), (43, wL), (44, wI), (45, wI)])]⟩
theorem ok : M.Ok := ⟨.cons call191 (.cons call192 (AK.nil)), mixed, func104, by kernel_rfl⟩
def Ui := M.pt 0
def No := M.pt 1
theorem start (h : ∀ b5 : Nat, Spec prog 191 #[.string s0] σ (AB R (CB fun t16 y => Bn t16 (R (.returned (.tuple #[.int .i64 0, .int .i64 150])) y) (Br ((n1 : Int) = 0) (R (.returned (.tuple #[.int .i64 0, .int .i64 151])) y) (Br (x2c < (n1 : Int)) (R (.returned (.tuple #[.int .i64 0, .int .i64 151])) y) (Br (256 < (n1 : Int)) (R (.returned (.tuple #[.int .i64 0, .int .i64 151])) y) (Spec prog 192 #[.agg #[.int .i64 Zy, .int .i64 x2b, .int .i64 x2c, .bool t2d]] y (AB R (CS fun p35 n35 c35 AI => Ui R p35 n35 c35 p1 n1 c1 (n1 : Int) 0 AI))))))))) : Spec prog 104 #[.string s0, .slice p1 n1 c1, .agg #[.int .i64 Zy, .int .i64 x2b, .int .i64 x2c, .bool t2d]] σ R := M.start h ok
theorem MY (h : Br (NF < J6) (Pq Ue fun pj tB => In NF (n36 : Int) ∧ ∃ ADA ADB ADC ADD ADE, Dz σ pj (tB + Int.toNat NF * 3) [.slice ADA ADB ADC, .int .i64 ADD, .int .u64 ADE] ∧ ∀ D8 : Nat, No R p8 n8 c8 NF ADA ADB ADC ADD ADE (aD pj tB) n36 WW J6 NF p8 n8 c8 (n8 : Int) 0 σ) (R (.returned (.tuple #[.int .i64 0, .int .i64 0])) σ)) : Ui R p8 n8 c8 Ue n36 WW J6 NF σ := M.of h ok rfl
theorem I1 (h : Br (Zt < pX) (Pq Ua fun cI jj => In Zt (n43 : Int) ∧ ∃ v48, Hp.ld σ ⟨cI, (jj + Int.toNat Zt * 1), none⟩ = some v48 ∧ ∃ (f51 : Nat) (tL tM : Array Value), v48 = .func (.func f51) tL tM ∧ Enters prog f51 ∧ Spec prog f51 (tL ++ #[.agg #[.slice xR xS xT, .int .i64 Z0, .int .u64 Z1]] ++ tM) σ (AB R (CI .i64 fun Yk y => Br (Yk ≠ 0) (R (.returned (.tuple #[.int .i64 x9, .int .i64 Yk])) y) (AN (Zt + 1) ∧ No R p8 n8 c8 x9 xR xS xT Z0 Z1 Ue n36 WW J6 NF (aD cI jj) n43 VT pX (Zt + 1) y)))) (AN (NF + 1) ∧ Ui R p8 n8 c8 Ue n36 WW J6 (NF + 1) σ)) : No R p8 n8 c8 x9 xR xS xT Z0 Z1 Ue n36 WW J6 NF Ua n43 VT pX Zt σ := M.Yb h ok rfl fun _ => by kernel_rfl
end B6
namespace Bb
variable {b0 b1 b2 : Nat}
def M : Fw := ⟨prog, 110, f110, [27, 111], [], false, [], [], []⟩
theorem ok : M.Ok := ⟨.cons call27 (.cons call111 (AK.nil)), mixed, func110, by kernel_rfl⟩
theorem start (h : LQ σ b0 0 fun q4 => Pq q4 fun b5 o5 => LT σ b5 (o5 + 2) fun s7 => Bo ((ByteArray.toList s7 == ByteArray.toList (ByteArray.mk #[]))) (R (.returned (.int .i64 0)) σ) (LQ σ b1 0 fun q9 => LQ σ b2 0 fun q10 => LQ σ b0 0 fun pC => Pq pC fun O2 QK => LT σ O2 QK fun cE => LQ σ b0 0 fun pY => Pq pY fun Kc UZ => LT σ Kc (UZ + 1) fun s18 => LQ σ b0 0 fun q20 => Pq q20 fun nM oz => LT σ nM (oz + 2) fun s23 => LQ σ b0 0 fun q24 => Pq q24 fun pa o25 => LI .i64 σ pa (o25 + 4) fun Lr => Spec prog 27 #[.string cE, .string s18] σ (AB R (CT fun s19 y => Kp [pa, b0, nM, b0, b2, b1] σ y ∧ Spec prog 111 #[.pointer q9, .pointer q10, .string s19, .string s23, .int .i64 Lr] y (AB R (CI .i64 fun Gm AI => R (.returned (.int .i64 Gm)) AI)))))) : Spec prog 110 #[(.pointer (aD b0 0)), (.pointer (aD b1 0)), (.pointer (aD b2 0))] σ R := M.start h ok
end Bb
namespace J9
variable {p0 : Option Addr} {n0 c0 : Nat} {v1 : Value}
end J9
namespace EJ
def K0 := f125.body.getD .skip
def K1 := cl K0
def K2 := cr K0
def K3 := cl K2
def K4 := cl K3
def K5 := cl K4
def K6 := cr K4
def K7 := cl K6
def K8 := cl K7
def K9 := cr K7
def Lp := cr K6
def TD := cl Lp
def MS := cl TD
def QM := cl MS
def Zl := cr MS
def eP := cl Zl
def TE := cr Zl
def OE := cl TE
def Yf := cr TE
def UX := cr Lp
abbrev gl (R : Rr) : Gl := Gl.fn prog 125 24 R
def pt5 (R : Rr) (v0 : Value) (b1 b2 : Nat) (x6 x7 : Int) (σ : Hp) : Prop := ∀ (J : Env), At (gl R) [.code K5, .code K6, .inLoop K4, .inBlock 0] (Ge J [(0, v0), (1, (.pointer (some ⟨b1, 0, none⟩))), (2, (.pointer (some ⟨b2, 0, none⟩))), (6, (.int .i64 x6)), (7, (.int .i64 x7))]) [] σ
theorem start {R : Rr} {v0 : Value} {b1 b2 : Nat} {σ : Hp} (h : ∃ p5 : Option Addr, ∃ n5 : Nat, ∃ c5 : Nat, Hp.ld σ ⟨b1, 0, none⟩ = some (.slice p5 n5 c5) ∧ pt5 R v0 b1 b2 ((n5 : Int)) 0 σ) : Spec prog 125 #[v0, (.pointer (some ⟨b1, 0, none⟩)), (.pointer (some ⟨b2, 0, none⟩))] σ R := by
 refine Spec.Jp (fn := f125) (c := K0) func125 (by kernel_rfl) (Nat.le_of_ble_eq_true (by kernel_rfl)) (fun e he => ?_)
 refine At.oG (l := [(0, v0), (1, (.pointer (some ⟨b1, 0, none⟩))), (2, (.pointer (some ⟨b2, 0, none⟩)))]) ⟨he 0, he 1, he 2, trivial⟩ (fun J => ?_)
 show At (gl R) _ _ _ _
 refine At.s K1 K2 ?_
 refine At.rg 0 [0, 1, 2] ?_
 obtain ⟨p5, n5, c5, hl, h⟩ := h
 refine Seq.z 5 (.load 213 (.tmp 1)) 213 (.slice p5 n5 c5) (Y.ld isAgg213 rfl hl) ?_
 refine Seq.z 6 (.call { callee := .builtin .len, args := #[(.tmp 5)], argTypes := #[213] }) 3 (.int .i64 (n5 : Int)) (Y.Y4 underlying213 rfl rfl) ?_
 refine Seq.u 7 (.int .i64 0) (Seq.done ?_)
 refine At.b 0 K3 ?_
 refine At.loop (x := K4) (by kernel_rfl) ?_
 refine At.s K5 K6 ?_
 exact At.v [(0, v0), (1, (.pointer (some ⟨b1, 0, none⟩))), (2, (.pointer (some ⟨b2, 0, none⟩))), (6, (.int .i64 (n5 : Int))), (7, (.int .i64 0))] (h _)
theorem kN {R : Rr} {v0 : Value} {b1 b2 : Nat} {x6 x7 : Int} {σ : Hp} (h : ((x7 : Int) < x6 → ∃ WK : Option Addr, ∃ n11 : Nat, ∃ Zj : Nat, Hp.ld σ ⟨b1, 0, none⟩ = some (.slice WK n11 Zj) ∧ ∃ Cd : Int, Hp.ld σ ⟨b2, 0, none⟩ = some (.int .i64 Cd) ∧ AN (Cd + x7) ∧ ∃ p15 : Option Addr, ∃ n15 : Nat, ∃ c15 : Nat, Hp.ld σ ⟨b1, 0, none⟩ = some (.slice p15 n15 c15) ∧ (n15 : Int) ≠ (0 : Int) ∧ ∀ Ix : Int, Ix = Int.tmod (Cd + x7) (n15 : Int) → ∃ (PU Yn : Nat), WK = some ⟨PU, Yn, none⟩ ∧ ((0 : Int) ≤ Ix ∧ Ix < (n11 : Int)) ∧ ∃ Ja : Int, Hp.ld σ ⟨PU, ((Yn + Int.toNat Ix * 2) + 1), none⟩ = some (.int .i64 Ja) ∧ ∃ l21 : Nat, v0 = .func (.yield l21) #[] #[] ∧ Hz prog l21 #[(.int .i64 Ja)] σ (AB R (fun v σ1 => ∃ t21 : Bool, v = (.bool t21) ∧ (t21 = false → R (.returned (.tuple #[])) σ1) ∧ (t21 = true → AN (x7 + 1) ∧ pt5 R v0 b1 b2 x6 ((x7 + 1)) σ1)))) ∧ (¬ ((x7 : Int) < x6) → R (.returned (.tuple #[])) σ)) : pt5 R v0 b1 b2 x6 x7 σ := by
 intro J
 show At (gl R) _ _ _ _
 refine At.rg 1 [0] ?_
 refine Seq.u 8 (.bool (decide ((x7 : Int) < x6))) (Seq.done ?_)
 refine At.s K7 Lp ?_
 cases hb : (decide ((x7 : Int) < x6)) with
 | true =>
  replace h := h.1 (of_decide_eq_true hb)
  refine At.cT 8 K8 K9 ?_
  refine At.skip ?_
  refine At.s TD UX ?_
  refine At.b 1 MS ?_
  refine At.s QM Zl ?_
  refine At.rg 2 [0, 1] ?_
  refine Seq.us [(9, .int .i64 x7), (4, .int .i64 x7)] (Seq.done ?_)
  refine At.s eP TE ?_
  refine At.draw (id := 3) (ops := cO eP) (n := 13) (q := (some [])) (plan := [(0, true), (1, true), (2, true), (3, true), (4, true), (5, true), (6, true), (7, true), (8, true), (9, true), (10, true), (11, false), (12, true)]) (tl := []) mixed (by kernel_rfl) (by kernel_rfl) ?_
  refine Head.u 10 v0 ?_
  obtain ⟨WK, n11, Zj, hl, h⟩ := h
  refine Head.yl b1 [[11, 10, 9, 8]] rfl (by kernel_rfl) (d := (some 11)) (op := (.load 213 (.tmp 1))) (ty := 213) (v := (.slice WK n11 Zj)) (by kernel_rfl) rfl (Y.ld isAgg213 rfl (T5 hl)) ?_
  obtain ⟨Cd, hl, h⟩ := h
  refine Head.yl b2 [[11, 10, 9, 8, 7, 4]] rfl (by kernel_rfl) (d := (some 12)) (op := (.load 3 (.tmp 2))) (ty := 3) (v := (.int .i64 Cd)) (by kernel_rfl) rfl (Y.ld isAgg3 rfl (T5 hl)) ?_
  refine Head.u 13 (.int .i64 x7) ?_
  obtain ⟨hi, h⟩ := h
  refine Head.z 14 (.binOp .add 3 (.tmp 12) (.tmp 13) 3) 3 (.int .i64 (Cd + x7)) (Y.Po hi rfl rfl) ?_
  obtain ⟨p15, n15, c15, hl, h⟩ := h
  refine Head.yl b1 [[11, 10, 9, 8, 7, 6]] rfl (by kernel_rfl) (d := (some 15)) (op := (.load 213 (.tmp 1))) (ty := 213) (v := (.slice p15 n15 c15)) (by kernel_rfl) rfl (Y.ld isAgg213 rfl (T5 hl)) ?_
  refine Head.z 16 (.call { callee := .builtin .len, args := #[(.tmp 15)], argTypes := #[213] }) 3 (.int .i64 (n15 : Int)) (Y.Y4 underlying213 rfl rfl) ?_
  obtain ⟨hc, h⟩ := h
  obtain ⟨Ix, tN⟩ : ∃ y, y = Int.tmod (Cd + x7) (n15 : Int) := ⟨_, rfl⟩
  replace h := h Ix tN
  refine Head.y (d := (some 17)) (op := (.binOp .rem 3 (.tmp 14) (.tmp 16) 3)) (ty := 3) (v := (.int .i64 Ix)) (by kernel_rfl) rfl (tN ▸ Y.rem hc rfl rfl) ?_
  obtain ⟨PU, Yn, hq, h⟩ := h
  subst hq
  obtain ⟨hi, h⟩ := h
  refine Head.z 18 (.indexAddr 213 (.tmp 11) (.tmp 17)) 0 (.pointer (some ⟨PU, (Yn + Int.toNat Ix * 2), none⟩)) (Y.idx underlying213 sizeOf215 rfl rfl hi rfl) ?_
  refine Head.z 19 (.fieldAddr 215 (.tmp 18) 1) 0 (.pointer (some ⟨PU, ((Yn + Int.toNat Ix * 2) + 1), none⟩)) (Y.fieldAddr (fd := (T4 prog 215 1)) underlying215 (by kernel_rfl) sizeOf3 rfl rfl) ?_
  obtain ⟨Ja, hl, h⟩ := h
  refine Head.yl PU [[11]] rfl (by kernel_rfl) (d := (some 20)) (op := (.load 3 (.tmp 19))) (ty := 3) (v := (.int .i64 Ja)) (by kernel_rfl) rfl (Y.ld isAgg3 rfl (T5 hl)) ?_
  obtain ⟨l21, hfv, h⟩ := h
  refine Head.o (q' := (some [])) rfl ?_
  refine AV.yield (g := (gl R)) (l := l21) (vs := #[(.int .i64 Ja)]) (u := v0) (d := (some 21)) (x := (.tmp 10)) (xs := #[(.tmp 20)]) (ts := #[3]) (ty := 4) (gd := none) (by kernel_rfl) rfl rfl rfl rfl hfv (h.cont (fun v σ1 h2 => ?_)); replace h := h2; clear h2
  obtain ⟨t21, rfl, h⟩ := h
  refine ⟨⟨fun _ h => h, AH7 (L := []) Kp.nil⟩, ?_⟩
  refine Head.u 22 (.bool (!t21)) ?_
  refine Head.done ?_
  refine Seq.done ?_
  cases hb : (!t21) with
  | true =>
   replace h := h.1 (Tw.nt hb)
   refine At.cT 22 OE Yf ?_
   exact At.rt [] [] func125 rfl h
  | false =>
   replace h := h.2 (Tw.nf hb)
   refine At.cF 22 OE Yf ?_
   refine At.skip ?_
   refine At.inBlock ?_
   refine At.rg 4 [0, 1] ?_
   obtain ⟨hi, h⟩ := h
   refine Seq.z 23 (.binOp .add 3 (.tmp 7) (.const (.int .i64 1)) 3) 3 (.int .i64 (x7 + 1)) (Y.Po hi rfl rfl) ?_
   refine Seq.u 7 (.int .i64 (x7 + 1)) (Seq.done ?_)
   refine At.inLoop ?_
   refine At.s K5 K6 ?_
   exact At.v [(0, v0), (1, (.pointer (some ⟨b1, 0, none⟩))), (2, (.pointer (some ⟨b2, 0, none⟩))), (6, (.int .i64 x6)), (7, (.int .i64 (x7 + 1)))] (h _)
 | false =>
  replace h := h.2 (of_decide_eq_false hb)
  refine At.cF 8 K8 K9 ?_
  refine At.x 0 [] ?_
  exact At.sE (rs := []) (vs := []) func125 (by kernel_rfl) rfl h
end EJ
namespace Cw
variable {s0 s1 : ByteArray}
def M : Fw := ⟨prog, 169, f169, [], [], false, [], [], []⟩
theorem ok : M.Ok := ⟨AK.nil, mixed, func169, by kernel_rfl⟩
theorem start (h : Br ((((ByteArray.size s1 : Nat) : Int) : Int) ≤ ((ByteArray.size s0 : Nat) : Int)) (∃ cE, YF prog (Instr.sliceAt 9 (.string s0) none (some (.int .i64 ((ByteArray.size s1 : Nat) : Int))) none) σ (.string cE) ∧ R (.returned (.bool (ByteArray.toList cE == ByteArray.toList s1))) σ) (R (.returned (.bool false)) σ)) : Spec prog 169 #[.string s0, .string s1] σ R := M.start h ok
end Cw
namespace FT
variable {s0 : ByteArray} {x3 : Int}
def M : Fw := ⟨prog, 171, f171, [], [], false, [], [], [(464, [(0, wT), (3, wI)])]⟩
theorem ok : M.Ok := ⟨AK.nil, mixed, func171, by kernel_rfl⟩
def As := M.pt 0
theorem start (h : Bo ((ByteArray.toList s0 == ByteArray.toList (ByteArray.mk #[]))) (R (.returned (.bool false)) σ) (Br ((64 : Int) < ((ByteArray.size s0 : Nat) : Int)) (R (.returned (.bool false)) σ) (As R s0 0 σ))) : Spec prog 171 #[.string s0] σ R := M.start h ok
theorem BO (h : Br (x3 < ((ByteArray.size s0 : Nat) : Int)) (∃ Lo : UInt8, 0 ≤ x3 ∧ (ByteArray.data s0)[Int.toNat x3]? = some Lo ∧ Br ((((UInt8.toNat Lo : Nat) : Int) : Int) < 97) (Br ((((UInt8.toNat Lo : Nat) : Int) : Int) < 48) (Br ((((UInt8.toNat Lo : Nat) : Int) : Int) ≠ 47) (Br ((((UInt8.toNat Lo : Nat) : Int) : Int) ≠ 46) (Br ((((UInt8.toNat Lo : Nat) : Int) : Int) ≠ 45) (R (.returned (.bool false)) σ) (AN (x3 + 1) ∧ As R s0 (x3 + 1) σ)) (AN (x3 + 1) ∧ As R s0 (x3 + 1) σ)) (AN (x3 + 1) ∧ As R s0 (x3 + 1) σ)) (Br ((57 : Int) < ((UInt8.toNat Lo : Nat) : Int)) (Br ((((UInt8.toNat Lo : Nat) : Int) : Int) ≠ 47) (Br ((((UInt8.toNat Lo : Nat) : Int) : Int) ≠ 46) (Br ((((UInt8.toNat Lo : Nat) : Int) : Int) ≠ 45) (R (.returned (.bool false)) σ) (AN (x3 + 1) ∧ As R s0 (x3 + 1) σ)) (AN (x3 + 1) ∧ As R s0 (x3 + 1) σ)) (AN (x3 + 1) ∧ As R s0 (x3 + 1) σ)) (AN (x3 + 1) ∧ As R s0 (x3 + 1) σ))) (Br ((122 : Int) < ((UInt8.toNat Lo : Nat) : Int)) (Br ((((UInt8.toNat Lo : Nat) : Int) : Int) < 48) (Br ((((UInt8.toNat Lo : Nat) : Int) : Int) ≠ 47) (Br ((((UInt8.toNat Lo : Nat) : Int) : Int) ≠ 46) (Br ((((UInt8.toNat Lo : Nat) : Int) : Int) ≠ 45) (R (.returned (.bool false)) σ) (AN (x3 + 1) ∧ As R s0 (x3 + 1) σ)) (AN (x3 + 1) ∧ As R s0 (x3 + 1) σ)) (AN (x3 + 1) ∧ As R s0 (x3 + 1) σ)) (Br ((57 : Int) < ((UInt8.toNat Lo : Nat) : Int)) (Br ((((UInt8.toNat Lo : Nat) : Int) : Int) ≠ 47) (Br ((((UInt8.toNat Lo : Nat) : Int) : Int) ≠ 46) (Br ((((UInt8.toNat Lo : Nat) : Int) : Int) ≠ 45) (R (.returned (.bool false)) σ) (AN (x3 + 1) ∧ As R s0 (x3 + 1) σ)) (AN (x3 + 1) ∧ As R s0 (x3 + 1) σ)) (AN (x3 + 1) ∧ As R s0 (x3 + 1) σ)) (AN (x3 + 1) ∧ As R s0 (x3 + 1) σ))) (AN (x3 + 1) ∧ As R s0 (x3 + 1) σ))) (R (.returned (.bool true)) σ)) : As R s0 x3 σ := M.of h ok rfl
end FT
namespace Am
variable {q0 p1 O1 j8 : Option Addr} {n1 c1 n10 Hf n39 R5 : Nat} {Ed Cd PW LR : Int} {s5 : ByteArray}
def M : Fw := ⟨prog, 173, f173, [132, 138, 229, 257], [], false, [(5, 11, false)], [], [(40, [(0, wQ), (1, wL), (10, wL), (11, wI), (12, wI)]), (56, [(0, wQ), (39, wL), (40, wI), (41, wI)]), (231, [(0, wQ), (39, wL), (40, wI), (41, wI)]), (1331, [(0, wQ), (1, wL), (5, wT), (10, wL), (11, wI), (12, wI)])]⟩
theorem ok : M.Ok := ⟨.cons call132 (.cons call138 (.cons call229 (.cons call257 (AK.nil)))), mixed, func173, by kernel_rfl⟩
def Zm := M.pt 0
def R7 := M.pt 1
def FA := M.pt 2
def Wc := M.pt 3
theorem start (h : Zm R q0 p1 n1 c1 p1 n1 c1 (n1 : Int) 0 σ) : Spec prog 173 #[.pointer q0, .slice p1 n1 c1] σ R := M.start h ok
theorem Lq (h : Br (Cd < Ed) (Pq O1 fun Jl MD => In Cd (n10 : Int) ∧ LT σ Jl (MD + Int.toNat Cd * 1) fun nV => Spec prog 229 #[.pointer q0] σ (AB R (CT fun s18 y => Bo (ByteArray.toList nV == ByteArray.toList s18) (Pq q0 fun nM oz => LQ y nM oz fun q23 => Spec prog 138 #[.pointer q23, .string nV] y (AB R (CI .i64 fun NA AI => Spec prog 132 #[.int .i64 NA] AI (AB R (fun z Ab => z = (.tuple #[]) ∧ Wc R (aD nM oz) p1 n1 c1 nV (aD Jl MD) n10 Hf Ed Cd Ab))))) (Wc R q0 p1 n1 c1 nV (aD Jl MD) n10 Hf Ed Cd y)))) (R7 R q0 p1 n1 c1 (n1 : Int) 0 σ)) : Zm R q0 p1 n1 c1 O1 n10 Hf Ed Cd σ := M.of h ok rfl
theorem Md (h : Br (LR < PW) (Pq j8 fun F8 PY => In LR (n39 : Int) ∧ LT σ F8 (PY + Int.toNat LR * 1) fun eS => Spec prog 257 #[.pointer q0, (.string (ByteArray.mk #[99])), .string eS] σ (AB R (CI .i64 fun R4 y => Spec prog 257 #[.pointer q0, (.string (ByteArray.mk #[115])), .string eS] y (AB R (CI .i64 fun Rl AI => Br (0 < R4) (Pq q0 fun VU VV => LI .i64 AI VU (VV + 2) fun wi => Br (R4 < wi) (LQ AI VU VV fun tO => Spec prog 138 #[.pointer tO, .string eS] AI (AB R (CI .i64 fun tP Ab => Spec prog 132 #[.int .i64 tP] Ab (AB R (fun z A1 => z = (.tuple #[]) ∧ FA R (aD VU VV) (aD F8 PY) n39 R5 PW LR A1))))) (Br (0 < Rl) (LI .i64 AI VU (VV + 2) fun wj => Br (Rl ≤ wj) (LQ AI VU VV fun tO => Spec prog 138 #[.pointer tO, .string eS] AI (AB R (CI .i64 fun tP Ab => Spec prog 132 #[.int .i64 tP] Ab (AB R (fun z A1 => z = (.tuple #[]) ∧ FA R (aD VU VV) (aD F8 PY) n39 R5 PW LR A1))))) (Br (0 < Rl) (LS AI VU (VV + 3) fun iH nW iI => Al AI fun Yr => AJ prog (Builtin.append_ #[26, 26] 26 #[.slice iH nW iI, (.slice (aD Yr 0) 1 1)]) (Hp.set AI Yr (.cells #[.int .i64 Rl] 3 (0, 0))) (CS fun nX nY c91 Ab => AJ prog (Instr.storeAt 26 (.pointer (aD VU (VV + 3))) (.slice nX nY c91)) Ab (fun _ A1 => FA R (aD VU VV) (aD F8 PY) n39 R5 PW LR A1))) (FA R (aD VU VV) (aD F8 PY) n39 R5 PW LR AI))) (Br (0 < Rl) (LS AI VU (VV + 3) fun iH nW iI => Al AI fun Yr => AJ prog (Builtin.append_ #[26, 26] 26 #[.slice iH nW iI, (.slice (aD Yr 0) 1 1)]) (Hp.set AI Yr (.cells #[.int .i64 Rl] 3 (0, 0))) (CS fun nX nY c91 Ab => AJ prog (Instr.storeAt 26 (.pointer (aD VU (VV + 3))) (.slice nX nY c91)) Ab (fun _ A1 => FA R (aD VU VV) (aD F8 PY) n39 R5 PW LR A1))) (FA R (aD VU VV) (aD F8 PY) n39 R5 PW LR AI)))) (Br (0 < Rl) (Pq q0 fun iG xU => LI .i64 AI iG (xU + 2) fun wj => Br (Rl ≤ wj) (LQ AI iG xU fun tO => Spec prog 138 #[.pointer tO, .string eS] AI (AB R (CI .i64 fun tP Ab => Spec prog 132 #[.int .i64 tP] Ab (AB R (fun z A1 => z = (.tuple #[]) ∧ FA R (aD iG xU) (aD F8 PY) n39 R5 PW LR A1))))) (Br (0 < Rl) (LS AI iG (xU + 3) fun iH nW iI => Al AI fun Yr => AJ prog (Builtin.append_ #[26, 26] 26 #[.slice iH nW iI, (.slice (aD Yr 0) 1 1)]) (Hp.set AI Yr (.cells #[.int .i64 Rl] 3 (0, 0))) (CS fun nX nY c91 Ab => AJ prog (Instr.storeAt 26 (.pointer (aD iG (xU + 3))) (.slice nX nY c91)) Ab (fun _ A1 => FA R (aD iG xU) (aD F8 PY) n39 R5 PW LR A1))) (FA R (aD iG xU) (aD F8 PY) n39 R5 PW LR AI))) (Br (0 < Rl) (Pq q0 fun b86 o86 => LS AI b86 (o86 + 3) fun iH nW iI => Al AI fun Yr => AJ prog (Builtin.append_ #[26, 26] 26 #[.slice iH nW iI, (.slice (aD Yr 0) 1 1)]) (Hp.set AI Yr (.cells #[.int .i64 Rl] 3 (0, 0))) (CS fun nX nY c91 Ab => AJ prog (Instr.storeAt 26 (.pointer (aD b86 (o86 + 3))) (.slice nX nY c91)) Ab (fun _ A1 => FA R (aD b86 o86) (aD F8 PY) n39 R5 PW LR A1))) (FA R q0 (aD F8 PY) n39 R5 PW LR AI)))))))) (R (.returned (.tuple #[])) σ)) : R7 R q0 j8 n39 R5 PW LR σ := M.of h ok rfl
theorem I2 (h : AN (LR + 1) ∧ R7 R q0 j8 n39 R5 PW (LR + 1) σ) : FA R q0 j8 n39 R5 PW LR σ := M.of h ok rfl
theorem Uk (h : Pq q0 fun Kd TI => LI .i64 σ Kd (TI + 2) fun HP => Spec prog 257 #[(.pointer (aD Kd TI)), (.string (ByteArray.mk #[99])), .string s5] σ (AB R (CI .i64 fun Zk y => Kp [Kd] σ y ∧ AJ prog (Instr.storeAt 3 (.pointer (aD Kd (TI + 2))) (.int .i64 (if HP < Zk then Zk else HP))) y (fun _ AI => AN (Cd + 1) ∧ Zm R (aD Kd TI) p1 n1 c1 O1 n10 Hf Ed (Cd + 1) AI)))) : Wc R q0 p1 n1 c1 s5 O1 n10 Hf Ed Cd σ := M.of h ok rfl
end Am
namespace QW
variable {v0 : Value}
def M : Fw := ⟨prog, 197, f197, [], [], false, [], [], []⟩
theorem ok : M.Ok := ⟨AK.nil, mixed, func197, by kernel_rfl⟩
theorem start (h : ∃ t5, YF prog ((do eqGuard .neq 272 (.tmp 3) (.tmp 4) v0 v0; binOp .neq 272 v0 v0)) σ (.bool t5) ∧ R (.returned (.bool t5)) σ) : Spec prog 197 #[v0] σ R := M.Ln h ok [(0, .o (.V v0))] rfl rfl (by kernel_rfl)
end QW
namespace DP
variable {x0 x2 : Int}
def M : Fw := ⟨prog, 211, f211, [], [], false, [], [], [(28, [(0, wU), (2, wI)]), (60, [(0, wU), (2, wI)]), (62, [(0, wU), (2, wI)])]⟩
theorem ok : M.Ok := ⟨AK.nil, mixed, func211, by kernel_rfl⟩
def Gk := M.pt 0
def Nb := M.pt 1
def xV := M.pt 2
theorem start (h : Br (4294967296 ≤ x0) (((0 : Int) ≤ 32 ∧ 32 ≤ ((IntKind.bits .u64 : Nat) : Int)) ∧ Df (x0 / 2 ^ Int.toNat 32) fun x6 => Gk R x6 32 σ) (Gk R x0 0 σ)) : Spec prog 211 #[.int .u64 x0] σ R := M.start h ok
theorem Fc (h : Br (65536 ≤ x0) (((0 : Int) ≤ 16 ∧ 16 ≤ ((IntKind.bits .u64 : Nat) : Int)) ∧ Df (x0 / 2 ^ Int.toNat 16) fun Dc => AN (x2 + 16) ∧ Nb R Dc (x2 + 16) σ) (Nb R x0 x2 σ)) : Gk R x0 x2 σ := M.of h ok rfl
theorem Iv (h : Br (256 ≤ x0) (((0 : Int) ≤ 8 ∧ 8 ≤ ((IntKind.bits .u64 : Nat) : Int)) ∧ Df (x0 / 2 ^ Int.toNat 8) fun Nc => AN (x2 + 8) ∧ xV R Nc (x2 + 8) σ) (xV R x0 x2 σ)) : Nb R x0 x2 σ := M.of h ok rfl
theorem qB (h : Df (IntKind.u8.wrap x0) fun H9 => ∃ u22 : UInt8, 0 ≤ H9 ∧ (ByteArray.data (ByteArray.mk #[0, 1, 2, 2, 3, 3, 3, 3, 4, 4, 4, 4, 4, 4, 4, 4, 5, 5, 5, 5, 5, 5, 5, 5, 5, 5, 5, 5, 5, 5, 5, 5, 6, 6, 6, 6, 6, 6, 6, 6, 6, 6, 6, 6, 6, 6, 6, 6, 6, 6, 6, 6, 6, 6, 6, 6, 6, 6, 6, 6, 6, 6, 6, 6, 7, 7, 7, 7, 7, 7, 7, 7, 7, 7, 7, 7, 7, 7, 7, 7, 7, 7, 7, 7, 7, 7, 7, 7, 7, 7, 7, 7, 7, 7, 7, 7, 7, 7, 7, 7, 7, 7, 7, 7, 7, 7, 7, 7, 7, 7, 7, 7, 7, 7, 7, 7, 7, 7, 7, 7, 7, 7, 7, 7, 7, 7, 7, 7, 8, 8, 8, 8, 8, 8, 8, 8, 8, 8, 8, 8, 8, 8, 8, 8, 8, 8, 8, 8, 8, 8, 8, 8, 8, 8, 8, 8, 8, 8, 8, 8, 8, 8, 8, 8, 8, 8, 8, 8, 8, 8, 8, 8, 8, 8, 8, 8, 8, 8, 8, 8, 8, 8, 8, 8, 8, 8, 8, 8, 8, 8, 8, 8, 8, 8, 8, 8, 8, 8, 8, 8, 8, 8, 8, 8, 8, 8, 8, 8, 8, 8, 8, 8, 8, 8, 8, 8, 8, 8, 8, 8, 8, 8, 8, 8, 8, 8, 8, 8, 8, 8, 8, 8, 8, 8, 8, 8, 8, 8, 8, 8, 8, 8, 8, 8, 8, 8, 8, 8, 8, 8, 8, 8, 8, 8, 8, 8]))[Int.toNat H9]? = some u22 ∧ Df (IntKind.i64.wrap ((UInt8.toNat u22 : Nat) : Int)) fun QL => AN (x2 + QL) ∧ R (.returned (.int .i64 (x2 + QL))) σ) : xV R x0 x2 σ := M.of h ok rfl
end DP
namespace Cy
variable {q0 : Option Addr} {s1 s2 s7 : ByteArray} {x9 : Int}
def M : Fw := ⟨prog, 257, f257, [300, 301], [], false, [], [], [(976, [(7, wT), (9, wI)])]⟩
theorem ok : M.Ok := ⟨.cons call300 (.cons call301 (AK.nil)), mixed, func257, by kernel_rfl⟩
def Kv := M.pt 0
theorem start (h : Pq q0 fun bw nQ => LT σ bw (nQ + 1) fun s17 => (ByteArray.size s17 + ByteArray.size (ByteArray.mk #[47]) ≤ 9223372036854775807) ∧ (ByteArray.size (s17 ++ (ByteArray.mk #[47])) + ByteArray.size s1 ≤ 9223372036854775807) ∧ Spec prog 300 #[.string s2, (.string ((s17 ++ (ByteArray.mk #[47])) ++ s1))] σ (AB R (fun z y => ∃ xW WX, z = (.tuple #[.string xW, .bool WX]) ∧ Bn WX (R (.returned (.int .i64 0)) y) (Br ((((ByteArray.size xW : Nat) : Int) : Int) ≠ 8) (R (.returned (.int .i64 0)) y) (Kv R xW 0 y))))) : Spec prog 257 #[.pointer q0, .string s1, .string s2] σ R := M.start h ok
theorem Pa (h : Br (x9 < 8) (∃ u37 : UInt8, 0 ≤ x9 ∧ (ByteArray.data s7)[Int.toNat x9]? = some u37 ∧ Br ((((UInt8.toNat u37 : Nat) : Int) : Int) < 48) (R (.returned (.int .i64 0)) σ) (∃ u42 : UInt8, 0 ≤ x9 ∧ (ByteArray.data s7)[Int.toNat x9]? = some u42 ∧ Br ((57 : Int) < ((UInt8.toNat u42 : Nat) : Int)) (R (.returned (.int .i64 0)) σ) (AN (x9 + 1) ∧ Kv R s7 (x9 + 1) σ))) (Spec prog 301 #[.string s7] σ (AB R (fun z y => ∃ ADG AJh, z = (.tuple #[.int .i64 ADG, AJh]) ∧ R (.returned (.int .i64 ADG)) y)))) : Kv R s7 x9 σ := M.of h ok rfl
end Cy
namespace JK
variable {s0a s0b : ByteArray} {b1 : Nat}
def M : Fw := ⟨prog, 270, f270, [271], [2], false, [], [], []⟩
theorem ok : M.Ok := ⟨.cons call271 (AK.nil), mixed, func270, by kernel_rfl⟩
theorem start (h : ∀ b2 : Nat, LS σ b1 0 fun p4 n4 c4 => Spec prog 271 #[.slice p4 n4 c4, .string s0a] σ (AB R (CB fun t7 y => R (.returned (.bool (!t7))) y))) : Spec prog 270 #[.agg #[.string s0a, .string s0b], (.pointer (aD b1 0))] σ R := M.start h ok
end JK
namespace Bl
variable {En Iw Hg jt ju jv jw jx jy jz tQ tS tT tU tV tW x5 x2 x3 x4 : Int} {b1 : Nat}
def M : Fw := ⟨prog, 289, f289, [], [0], false, [], [], [(232, [(0, .X 338 [.I .u32, .I .u32, .I .u32, .I .u32, .I .u32, .I .u32, .I .u32, .I .u32, .I .u32, .I .u32, .I .u32, .I .u32, .I .u32, .I .u32, .I .u32, .I .u32]), (1, wA), (5, wI)]), (478416, [(0, .X 338 [.I .u32, .I .u32, .I .u32, .I .u32, .I .u32, .I .u32, .I .u32, .I .u32, .I .u32, .I .u32, .I .u32, .I .u32, .I .u32, .I .u32, .I .u32, .I .u32]), (1, wA), (2, wI), (3, br), (4, wI), (5, wI)]), (478419, [(0, .X 338 [.I .u32, .I .u32, .I .u32, .I .u32, .I .u32, .I .u32, .I .u32, .I .u32, .I .u32, .I .u32, .I .u32, .I .u32, .I .u32, .I .u32, .I .u32, .I .u32]), (1, wA), (2, wI), (3, br), (4, wI), (5, wI)])]⟩
theorem ok : M.Ok := ⟨AK.nil, mixed, func289, by kernel_rfl⟩
def A5 := M.pt 0
def R7 := M.pt 1
def No := M.pt 2
theorem start (h : ∀ b0 : Nat, Al σ fun b1 => A5 R 0 0 0 0 0 0 0 0 0 0 0 0 0 0 0 0 b1 0 (Hp.set σ b1 (.cells #[.int .u32 0, .int .u32 0, .int .u32 0, .int .u32 0, .int .u32 0, .int .u32 0, .int .u32 0, .int .u32 0, .int .u32 0, .int .u32 0, .int .u32 0, .int .u32 0, .int .u32 0, .int .u32 0, .int .u32 0, .int .u32 0] 338 (0, 0)))) : Spec prog 289 #[] σ R := M.start h ok
theorem AW (h : Br (x5 < 16) (Df (IntKind.u32.wrap x5) fun x9 => R7 R En Iw Hg jt ju jv jw jx jy jz tQ tS tT tU tV tW b1 x5 x9 0 x5 σ) (∃ ADH ADI ADJ ADK ADL ADM ADN ADO ADP ADQ ADR ADS ADT ADU ADV ADW, Dz σ b1 0 [.int .u32 ADH, .int .u32 ADI, .int .u32 ADJ, .int .u32 ADK, .int .u32 ADL, .int .u32 ADM, .int .u32 ADN, .int .u32 ADO, .int .u32 ADP, .int .u32 ADQ, .int .u32 ADR, .int .u32 ADS, .int .u32 ADT, .int .u32 ADU, .int .u32 ADV, .int .u32 ADW] ∧ R (.returned (.agg #[.int .u32 ADH, .int .u32 ADI, .int .u32 ADJ, .int .u32 ADK, .int .u32 ADL, .int .u32 ADM, .int .u32 ADN, .int .u32 ADO, .int .u32 ADP, .int .u32 ADQ, .int .u32 ADR, .int .u32 ADS, .int .u32 ADT, .int .u32 ADU, .int .u32 ADV, .int .u32 ADW])) σ)) : A5 R En Iw Hg jt ju jv jw jx jy jz tQ tS tT tU tV tW b1 x5 σ := M.Yb h ok rfl fun _ => by kernel_rfl
theorem Md (h : Br (x4 < 4) (Df (Go.bits .and .u32 x3 1) fun MQ => Br (MQ = 0) (((0 : Int) ≤ 1 ∧ 1 ≤ ((IntKind.bits .u32 : Nat) : Int)) ∧ Df (x3 / 2 ^ Int.toNat 1) fun Fe => No R En Iw Hg jt ju jv jw jx jy jz tQ tS tT tU tV tW b1 x2 Fe x4 x5 σ) (((0 : Int) ≤ 1 ∧ 1 ≤ ((IntKind.bits .u32 : Nat) : Int)) ∧ Df (x3 / 2 ^ Int.toNat 1) fun Ja => Df (Go.bits .xor .u32 Ja 3988292384) fun H9 => No R En Iw Hg jt ju jv jw jx jy jz tQ tS tT tU tV tW b1 x2 H9 x4 x5 σ)) (In x2 16 ∧ AJ prog (Instr.storeAt 70 (.pointer (aD b1 (0 + Int.toNat x2 * 1))) (.int .u32 x3)) σ (fun _ y => AN (x5 + 1) ∧ A5 R En Iw Hg jt ju jv jw jx jy jz tQ tS tT tU tV tW b1 (x5 + 1) y))) : R7 R En Iw Hg jt ju jv jw jx jy jz tQ tS tT tU tV tW b1 x2 x3 x4 x5 σ := M.Yb h ok rfl fun _ => by kernel_rfl
theorem I1 (h : AN (x4 + 1) ∧ R7 R En Iw Hg jt ju jv jw jx jy jz tQ tS tT tU tV tW b1 x2 x3 (x4 + 1) x5 σ) : No R En Iw Hg jt ju jv jw jx jy jz tQ tS tT tU tV tW b1 x2 x3 x4 x5 σ := M.Yb h ok rfl fun _ => by kernel_rfl
end Bl
namespace QX
variable {v0 v1 : Value}
def M : Fw := ⟨prog, 342, f342, [], [], false, [], [], []⟩
theorem ok : M.Ok := ⟨AK.nil, mixed, func342, by kernel_rfl⟩
theorem start (h : ∃ (f10 : Nat) (tX tY : Array Value), v0 = .func (.func f10) tX tY ∧ Enters prog f10 ∧ Spec prog f10 (tX ++ #[] ++ tY) σ (AB R (fun z y => ∃ ADX Z0, z = (.tuple #[.int .i64 ADX, .int .i64 Z0]) ∧ Br (Z0 ≠ 0) (R (.returned (.tuple #[.slice none 0 0, .int .i64 Z0])) y) (∃ (f18 : Nat) (tZ ta : Array Value), v1 = .func (.func f18) tZ ta ∧ Enters prog f18 ∧ Spec prog f18 (tZ ++ #[.int .i64 ADX] ++ ta) y (AB R (fun z AI => ∃ ADY ADZ ADa Zv, z = (.tuple #[.slice ADY ADZ ADa, .int .i64 Zv]) ∧ R (.returned (.tuple #[.slice ADY ADZ ADa, .int .i64 Zv])) AI)))))) : Spec prog 342 #[v0, v1] σ R := M.Ln h ok [(0, .o (.V v0)), (1, .o (.V v1))] rfl rfl (by kernel_rfl)
end QX
namespace GJ
variable {q0 : Option Addr}
def M : Fw := ⟨prog, 343, f343, [177], [], false, [], [], []⟩
theorem ok : M.Ok := ⟨.cons call177 (AK.nil), mixed, func343, by kernel_rfl⟩
theorem start (h : Pq q0 fun b9 o9 => LS σ b9 o9 fun WK n11 Zj => LI .i64 σ b9 (o9 + 1) fun MQ => Spec prog 177 #[.slice WK n11 Zj, .int .i64 MQ] σ (AB R (fun z y => ∃ ew qC xX, z = (.tuple #[.int .u64 ew, .int .i64 qC, .int .i64 xX]) ∧ AJ prog (Instr.storeAt 3 (.pointer (aD b9 (o9 + 1))) (.int .i64 qC)) y (fun _ AI => Br (xX ≠ 0) (R (.returned (.tuple #[.int .i64 0, .int .i64 xX])) AI) (Br (65536 < ew) (R (.returned (.tuple #[.int .i64 0, .int .i64 23])) AI) (Df (IntKind.i64.wrap ew) fun se => R (.returned (.tuple #[.int .i64 se, .int .i64 0])) AI)))))) : Spec prog 343 #[.pointer q0] σ R := M.start h ok
end GJ
end TwW
end
end
section
set_option maxRecDepth 100000
noncomputable section
namespace TwW
open Go Tw Go.Proofs.Tryz
variable [Ht] {R : Rr} {σ : Hp}

namespace AR
variable {x0 x1 x2b x2c HD Nj Wo Wp Wq Ws Wt Wu Wv Ww Cd Ja QL HA : Int} {p2a p3 p4 Ud QJ J4 WI : Option Addr} {n2a c2a n3 c3 n4 c4 n18 TB n19 Ke n24 c24 : Nat} {Wx t25 : Bool}
def M : Fw := ⟨prog, 3, f3, [7, 8, 9, 10, 11, 12, 13, 14, 15, 16, 17, 18], [7, 11], false, [], [], [(524240, [(3, wL), (4, wL), (11, .X 30 [.I .i64, .I .i64, .I .i64, .I .i64, .I .i64, .I .i64, .I .i64, .I .i64, .I .i64, .I .i64, .B]), (12, wI), (16, wQ), (18, wL), (19, wL), (20, wI)]), (524286, [(23, wI), (24, wL), (25, wB), (26, wI)]), (524243, [(3, wL), (4, wL), (11, .X 30 [.I .i64, .I .i64, .I .i64, .I .i64, .I .i64, .I .i64, .I .i64, .I .i64, .I .i64, .I .i64, .B]), (12, wI), (16, wQ), (18, wL), (19, wL), (20, wI)])]⟩
theorem ok : M.Ok := ⟨.cons call7 (.cons call8 (.cons call9 (.cons call10 (.cons call11 (.cons call12 (.cons call13 (.cons call14 (.cons call15 (.cons call16 (.cons call17 (.cons call18 (AK.nil)))))))))))), mixed, func3, by kernel_rfl⟩
def FA := M.pt 0
def Wy := M.pt 1
def Nk := M.pt 2
theorem start (h : ∀ b7 : Nat, Spec prog 7 #[.int .i64 x0, .int .i64 5, .int .i64 30] σ (AB R (fun z y => ∃ xY Z2 xZ xa xb xc xd xe xf xg AJi, z = (.agg #[.int .i64 xY, .int .i64 Z2, .int .i64 xZ, .int .i64 xa, .int .i64 xb, .int .i64 xc, .int .i64 xd, .int .i64 xe, .int .i64 xf, .int .i64 xg, .bool AJi]) ∧ ∀ D7 : Nat, Spec prog 8 #[.int .i64 x1] y (AB R (CI .i64 fun Zk AI => 3 ≠ (0 : Int) ∧ Df (Int.tmod Zk 3) fun Rj => AN (Z2 + Rj) ∧ Spec prog 9 #[.agg #[.int .i64 xY, .int .i64 Z2, .int .i64 xZ, .int .i64 xa, .int .i64 xb, .int .i64 xc, .int .i64 xd, .int .i64 xe, .int .i64 xf, .int .i64 xg, .bool false]] AI (AB R (CQ fun q38 Ab => Spec prog 11 #[(.int .i64 (Z2 + Rj))] Ab (AB R (fun z A1 => ∃ jf jg jh ji, z = (.agg #[.int .u64 jf, .slice jg jh ji]) ∧ Spec prog 10 #[.agg #[.int .u64 jf, .slice jg jh ji]] A1 (AB R (fun z DD => ∃ xh AJj, z = (.tuple #[.pointer xh, .pointer AJj]) ∧ Bo (Option.isNone q38) (R (.returned (.bool false)) DD) (Bo (Option.isNone xh) (R (.returned (.bool false)) DD) (Al DD fun qD => Spec prog 12 #[.pointer q38, (.string (ByteArray.mk #[116])), (.slice (aD qD 0) 1 1), .int .i64 0, .pointer xh] (Hp.set DD qD (.cells #[.slice p2a n2a c2a, .int .i64 x2b, .int .u64 x2c] 25 (0, 0))) (AB R (fun z EA => ∃ Wz WZ, z = (.tuple #[.pointer Wz, .int .i64 WZ]) ∧ Br (WZ ≠ 0) (Br (WZ = 3) (Bo (Option.isNone Wz) (Spec prog 13 #[] EA (AB R (CB fun t71 Jo => R (.returned (.bool t71)) Jo))) (R (.returned (.bool false)) EA)) (Bo (Option.isNone Wz) (R (.returned (.bool false)) EA) (Spec prog 13 #[] EA (AB R (CB fun t71 Jo => R (.returned (.bool t71)) Jo))))) (Bo (Option.isNone Wz) (Br (WZ = 3) (Bo (Option.isNone Wz) (Spec prog 13 #[] EA (AB R (CB fun t71 Jo => R (.returned (.bool t71)) Jo))) (R (.returned (.bool false)) EA)) (Bo (Option.isNone Wz) (R (.returned (.bool false)) EA) (Spec prog 13 #[] EA (AB R (CB fun t71 Jo => R (.returned (.bool t71)) Jo))))) (Spec prog 14 #[.pointer Wz] EA (AB R (CS fun tc nZ c74 Jo => Br ((nZ : Int) ≠ Z2) (R (.returned (.bool false)) Jo) (FA R p3 n3 c3 p4 n4 c4 xY Z2 xZ xa xb xc xd xe xf xg false (Z2 + Rj) Wz tc nZ c74 none 0 0 0 Jo)))))))))))))))))))) : Spec prog 3 #[.int .i64 x0, .int .i64 x1, .agg #[.slice p2a n2a c2a, .int .i64 x2b, .int .u64 x2c], .slice p3 n3 c3, .slice p4 n4 c4] σ R := M.start h ok
theorem I2 (h : Br (Ja < (n3 : Int)) (Br (Ja < (n4 : Int)) (Pq p3 fun Zz kO => In Ja (n3 : Int) ∧ LI .i64 σ Zz (kO + Int.toNat Ja * 1) fun x95 => Spec prog 8 #[.int .i64 x95] σ (AB R (CI .i64 fun x96 y => AN (Cd + 2) ∧ (Cd + 2) ≠ (0 : Int) ∧ Df (Int.tmod x96 (Cd + 2)) fun te => Pq p4 fun QY QZ => In Ja (n4 : Int) ∧ LI .i64 y QY (QZ + Int.toNat Ja * 1) fun xi => Spec prog 8 #[.int .i64 xi] y (AB R (CI .i64 fun AJk AI => 5 ≠ (0 : Int) ∧ Df (Int.tmod AJk 5) fun W3 => AN (1 + W3) ∧ Al AI fun xj => Spec prog 15 #[.pointer Ud, .int .i64 te, (.slice (aD xj 0) 1 1)] (Hp.set AI xj (.cells #[(.int .i64 (1 + W3))] 3 (0, 0))) (AB R (fun z Ab => z = (.tuple #[]) ∧ Spec prog 16 #[.slice QJ n18 TB, .int .i64 te] Ab (AB R (CB fun t114 A1 => Bo t114 (Spec prog 16 #[.slice J4 n19 Ke, .int .i64 te] A1 (AB R (CB fun t118 DD => Bn t118 (Br (((1 + W3) : Int) = 1) (Al DD fun R8 => AJ prog (Builtin.append_ #[26, 26] 26 #[.slice J4 n19 Ke, (.slice (aD R8 0) 1 1)]) (Hp.set DD R8 (.cells #[.int .i64 te] 3 (0, 0))) (CS fun kP n132 kQ EA => Nk R (aD Zz kO) n3 c3 (aD QY QZ) n4 c4 HD Nj Wo Wp Wq Ws Wt Wu Wv Ww Wx Cd Ud QJ n18 TB kP n132 kQ Ja EA)) (Br (((1 + W3) : Int) = 2) (Al DD fun R8 => AJ prog (Builtin.append_ #[26, 26] 26 #[.slice J4 n19 Ke, (.slice (aD R8 0) 1 1)]) (Hp.set DD R8 (.cells #[.int .i64 te] 3 (0, 0))) (CS fun kP n132 kQ EA => Nk R (aD Zz kO) n3 c3 (aD QY QZ) n4 c4 HD Nj Wo Wp Wq Ws Wt Wu Wv Ww Wx Cd Ud QJ n18 TB kP n132 kQ Ja EA)) (Nk R (aD Zz kO) n3 c3 (aD QY QZ) n4 c4 HD Nj Wo Wp Wq Ws Wt Wu Wv Ww Wx Cd Ud QJ n18 TB J4 n19 Ke Ja DD))) (Nk R (aD Zz kO) n3 c3 (aD QY QZ) n4 c4 HD Nj Wo Wp Wq Ws Wt Wu Wv Ww Wx Cd Ud QJ n18 TB J4 n19 Ke Ja DD)))) (Nk R (aD Zz kO) n3 c3 (aD QY QZ) n4 c4 HD Nj Wo Wp Wq Ws Wt Wu Wv Ww Wx Cd Ud QJ n18 TB J4 n19 Ke Ja A1)))))))))) (Spec prog 17 #[.pointer Ud] σ (AB R (fun z y => ∃ KA KB KC KD, z = (.tuple #[.int .i64 KA, .slice KB KC KD]) ∧ 2 ≠ (0 : Int) ∧ Df (IntKind.i64.wrap (Int.tdiv Nj 2)) fun R9 => AN (R9 + 1) ∧ Br (((R9 + 1) : Int) ≤ (n19 : Int)) (Wy R KA KB KC KD true 1 y) (Wy R KA KB KC KD false 5 y))))) (Spec prog 17 #[.pointer Ud] σ (AB R (fun z y => ∃ KA KB KC KD, z = (.tuple #[.int .i64 KA, .slice KB KC KD]) ∧ 2 ≠ (0 : Int) ∧ Df (IntKind.i64.wrap (Int.tdiv Nj 2)) fun R9 => AN (R9 + 1) ∧ Br (((R9 + 1) : Int) ≤ (n19 : Int)) (Wy R KA KB KC KD true 1 y) (Wy R KA KB KC KD false 5 y))))) : FA R p3 n3 c3 p4 n4 c4 HD Nj Wo Wp Wq Ws Wt Wu Wv Ww Wx Cd Ud QJ n18 TB J4 n19 Ke Ja σ := M.Yb h ok rfl fun _ => by kernel_rfl
theorem qE (h : Br (QL = HA) (Al σ fun Z3 => Spec prog 18 #[.slice WI n24 c24, (.slice (aD Z3 0) 1 1)] (Hp.set σ Z3 (.cells #[.bool t25] 4 (0, 0))) (AB R (CB fun t153 y => Bo t153 (Spec prog 13 #[] y (AB R (CB fun t156 AI => R (.returned (.bool t156)) AI))) (R (.returned (.bool false)) y)))) (R (.returned (.bool false)) σ)) : Wy R QL WI n24 c24 t25 HA σ := M.of h ok rfl
theorem Uc (h : AN (Ja + 1) ∧ FA R p3 n3 c3 p4 n4 c4 HD Nj Wo Wp Wq Ws Wt Wu Wv Ww Wx Cd Ud QJ n18 TB J4 n19 Ke (Ja + 1) σ) : Nk R p3 n3 c3 p4 n4 c4 HD Nj Wo Wp Wq Ws Wt Wu Wv Ww Wx Cd Ud QJ n18 TB J4 n19 Ke Ja σ := M.Yb h ok rfl fun _ => by kernel_rfl
end AR
namespace Me
variable {q0 : Option Addr} {s1 : ByteArray}
def M : Fw := ⟨prog, 39, f39, [91, 94], [7], false, [], [], []⟩
theorem ok : M.Ok := ⟨.cons call91 (.cons call94 (AK.nil)), mixed, func39, by kernel_rfl⟩
theorem start (h : Spec prog 94 #[.string s1] σ (AB R (CB fun t10 y => Bn t10 (R (.returned (.tuple #[.slice none 0 0, .int .u64 0, .int .i64 120])) y) (Pq q0 fun Jl MD => LQ y Jl (MD + 1) fun Ud => Spec prog 91 #[.pointer Ud] y (AB R (CB fun t17 AI => Bn t17 (R (.returned (.tuple #[.slice none 0 0, .int .u64 0, .int .i64 60])) AI) (LM AI Jl (MD + 2) fun m22 => AJ prog (Instr.lookup 159 (.map m22) (.string s1) false) AI (fun z Ab => ∃ ADb ADc ADd ADe, z = (.agg #[.slice ADb ADc ADd, .int .u64 ADe]) ∧ ∀ b7 : Nat, Al Ab fun pa => AJ prog (Builtin.append_ #[84, 84] 84 #[(.slice (aD pa 0) 0 0), .slice ADb ADc ADd]) (Hp.set Ab pa (.cells #[] 5 (0, 0))) (CS fun w9 n28 c28 A1 => R (.returned (.tuple #[.slice w9 n28 c28, .int .u64 ADe, .int .i64 0])) A1))))))))) : Spec prog 39 #[.pointer q0, .string s1] σ R := M.start h ok
end Me
namespace IJ
variable {x0 : Int}
def M : Fw := ⟨prog, 51, f51, [], [], false, [], [], []⟩
theorem ok : M.Ok := ⟨AK.nil, mixed, func51, by kernel_rfl⟩
theorem start (h : Br (x0 = 1) (R (.returned (.bool true)) σ) (R (.returned (.bool (decide (x0 = 2)))) σ)) : Spec prog 51 #[.int .i64 x0] σ R := M.start h ok
end IJ
namespace BE
variable {En x1 E8 FF Nh hX Ja H9 : Int} {HB Jn pU J4 : Option Addr} {GI HC b5 n12 c12 D8 nU pV n19 Ke : Nat}
def M : Fw := ⟨prog, 55, f55, [120], [2, 7], false, [], [], [(232, [(1, br), (5, wA), (12, wL), (13, wI), (14, wI)]), (2016, [(1, br), (5, wA), (10, wA)]), (59800, [(1, br), (5, wA), (7, .X 196 [.I .i64, .I .i64, .L]), (12, wL), (13, wI), (14, wI), (19, wL), (20, wI), (21, wI)]), (239207, [(1, br), (5, wA), (7, .X 196 [.I .i64, .I .i64, .L]), (12, wL), (13, wI), (14, wI), (19, wL), (20, wI), (21, wI)])]⟩
theorem ok : M.Ok := ⟨.cons call120 (AK.nil), mixed, func55, by kernel_rfl⟩
def A5 := M.pt 0
def FA := M.pt 1
def GR := M.pt 2
def Zu := M.pt 3
theorem start (h : ∀ b2 : Nat, Al σ fun b5 => A5 R x1 b5 HB GI HC (GI : Int) 0 (Hp.set σ b5 (.cells #[.slice none 0 0] 213 (0, 0)))) : Spec prog 55 #[.agg #[.int .u64 En, .slice HB GI HC], .int .u32 x1] σ R := M.start h ok
theorem AW (h : Br (FF < E8) (Pq Jn fun Kc UZ => In FF (n12 : Int) ∧ ∃ ADf J5 xk qF xl, Dz σ Kc (UZ + Int.toNat FF * 3) [.int .i64 ADf, .int .i64 J5, .slice xk qF xl] ∧ ∀ b7 : Nat, GR R x1 b5 ADf J5 xk qF xl (aD Kc UZ) n12 c12 E8 FF xk qF xl (qF : Int) 0 σ) (LS σ b5 0 fun Rk n37 c37 => Spec prog 120 #[.slice Rk n37 c37, (.func (.func 121) #[] #[])] σ (AB R (fun z y => z = (.tuple #[]) ∧ Al y fun D8 => AJ prog (Instr.storeAt 3 (.pointer (aD D8 0)) (.int .i64 0)) (Hp.set y D8 (.cells #[.int .i64 0] 3 (0, 0))) (fun _ AI => FA R x1 b5 D8 AI))))) : A5 R x1 b5 Jn n12 c12 E8 FF σ := M.of h ok rfl
theorem I2 (h : LI .i64 σ D8 0 fun eU => LS σ b5 0 fun OF n40 c40 => Br (eU < (n40 : Int)) (LS σ b5 0 fun VY n44 Wm => LI .i64 σ D8 0 fun Zt => Pq VY fun Ik o46 => In Zt (n44 : Int) ∧ LI .u32 σ Ik (o46 + Int.toNat Zt * 2) fun JF => Br (JF < x1) (LI .i64 σ D8 0 fun TK => AN (TK + 1) ∧ AJ prog (Instr.storeAt 3 (.pointer (aD D8 0)) (.int .i64 (TK + 1))) σ (fun _ y => FA R x1 b5 D8 y)) (R (.returned (.func (.func 125) #[] #[(.pointer (aD b5 0)), (.pointer (aD D8 0))])) σ)) (R (.returned (.func (.func 125) #[] #[(.pointer (aD b5 0)), (.pointer (aD D8 0))])) σ)) : FA R x1 b5 D8 σ := M.of h ok rfl
theorem Ff (h : Br (H9 < Ja) (Pq J4 fun Zh od => In H9 (n19 : Int) ∧ LI .u32 σ Zh (od + Int.toNat H9 * 1) fun Ks => Br (hX = 2) (LS σ b5 0 fun w9 n28 c28 => Al σ fun Ym => AJ prog (Builtin.append_ #[213, 213] 213 #[.slice w9 n28 c28, (.slice (aD Ym 0) 1 1)]) (Hp.set σ Ym (.cells #[.int .u32 Ks, .int .i64 Nh] 215 (0, 0))) (CS fun p34 n34 c34 y => AJ prog (Instr.storeAt 213 (.pointer (aD b5 0)) (.slice p34 n34 c34)) y (fun _ AI => Zu R x1 b5 Nh hX pU nU pV Jn n12 c12 E8 FF (aD Zh od) n19 Ke Ja H9 AI))) (Zu R x1 b5 Nh hX pU nU pV Jn n12 c12 E8 FF (aD Zh od) n19 Ke Ja H9 σ)) (AN (FF + 1) ∧ A5 R x1 b5 Jn n12 c12 E8 (FF + 1) σ)) : GR R x1 b5 Nh hX pU nU pV Jn n12 c12 E8 FF J4 n19 Ke Ja H9 σ := M.Yb h ok rfl fun _ => by kernel_rfl
theorem MZ (h : AN (H9 + 1) ∧ GR R x1 b5 Nh hX pU nU pV Jn n12 c12 E8 FF J4 n19 Ke Ja (H9 + 1) σ) : Zu R x1 b5 Nh hX pU nU pV Jn n12 c12 E8 FF J4 n19 Ke Ja H9 σ := M.Yb h ok rfl fun _ => by kernel_rfl
end BE
namespace Gx
variable {x0 x1 : Int}
def M : Fw := ⟨prog, 58, f58, [126], [], false, [], [], []⟩
theorem ok : M.Ok := ⟨.cons call126 (AK.nil), mixed, func58, by kernel_rfl⟩
theorem start (h : Spec prog 126 #[.int .u64 x0, .int .i64 x1] σ (AB R (CT fun s7 y => R (.returned (.string s7)) y))) : Spec prog 58 #[.int .u64 x0, .int .i64 x1] σ R := M.start h ok
end Gx
namespace Fy
variable {q0 p1 p7 : Option Addr} {n1 c1 b2 b3 n7 c7 : Nat} {x8 x9 : Int}
def M : Fw := ⟨prog, 67, f67, [129], [], false, [], [], [(104, [(2, wA), (3, wA), (7, wL), (8, wI), (9, wI)])]⟩
theorem ok : M.Ok := ⟨.cons call129 (AK.nil), mixed, func67, by kernel_rfl⟩
def Ni := M.pt 0
theorem start (h : Al σ fun b2 => Al (Hp.set σ b2 (.cells #[.pointer q0] 158 (0, 0))) fun b3 => LS (Hp.set (Hp.set σ b2 (.cells #[.pointer q0] 158 (0, 0))) b3 (.cells #[.slice p1 n1 c1] 165 (0, 0))) b3 0 fun p7 n7 c7 => Ni R b2 b3 p7 n7 c7 (n7 : Int) 0 (Hp.set (Hp.set σ b2 (.cells #[.pointer q0] 158 (0, 0))) b3 (.cells #[.slice p1 n1 c1] 165 (0, 0)))) : Spec prog 67 #[.pointer q0, .slice p1 n1 c1] σ R := M.start h ok
theorem D6 (h : Br (x9 < x8) (Pq p7 fun D7 GQ => In x9 (n7 : Int) ∧ LS σ D7 (GQ + Int.toNat x9 * 1) fun Jn n12 c12 => Br (65536 < (n12 : Int)) (R (.returned (.int .i64 70)) σ) (AN (x9 + 1) ∧ Ni R b2 b3 (aD D7 GQ) n7 c7 x8 (x9 + 1) σ)) (Spec prog 129 #[(.func (.func 136) #[] #[(.pointer (aD b2 0)), (.pointer (aD b3 0))])] σ (AB R (CI .i64 fun Fe y => R (.returned (.int .i64 Fe)) y)))) : Ni R b2 b3 p7 n7 c7 x8 x9 σ := M.of h ok rfl
end Fy
namespace LX
variable {q0 : Option Addr}
def M : Fw := ⟨prog, 71, f71, [141, 144], [], false, [], [], []⟩
theorem ok : M.Ok := ⟨.cons call141 (.cons call144 (AK.nil)), mixed, func71, by kernel_rfl⟩
theorem start (h : Pq q0 fun b4 o4 => LI .i64 σ b4 (o4 + 3) fun x6 => Br (x6 < 0) (R (.returned (.int .i64 0)) σ) (LQ σ b4 o4 fun pC => LI .i64 σ b4 (o4 + 2) fun Nc => Spec prog 141 #[(.pointer (aD b4 o4)), .int .i64 Nc] σ (AB R (CT fun s17 y => Kp [b4] σ y ∧ Spec prog 144 #[.pointer pC, .string s17] y (AB R (CI .i64 fun Fe AI => R (.returned (.int .i64 Fe)) AI)))))) : Spec prog 71 #[.pointer q0] σ R := M.start h ok
end LX
namespace HR
variable {q0 : Option Addr}
def M : Fw := ⟨prog, 73, f73, [], [], false, [], [], []⟩
theorem ok : M.Ok := ⟨AK.nil, mixed, func73, by kernel_rfl⟩
theorem start (h : Pq q0 fun b4 o4 => LI .i64 σ b4 (o4 + 3) fun x6 => Br (0 ≤ x6) (LI .i64 σ b4 (o4 + 5) fun Ed => AN (Ed + 1) ∧ R (.returned (.int .i64 (Ed + 1))) σ) (LI .i64 σ b4 (o4 + 5) fun Nc => R (.returned (.int .i64 Nc)) σ)) : Spec prog 73 #[.pointer q0] σ R := M.start h ok
end HR
namespace Cz
variable {p0 ow OI VX ADg : Option Addr} {n0 c0 b6 b7 b8 b9 n17 ox n13 O5 n27 R6 ADh ADi : Nat} {v10 : Value} {Fe OD Gm UY Wg ADj : Int}
def M : Fw := ⟨prog, 106, f106, [21, 194], [12, 15], false, [(19, 7, true)], [], [(488, [(0, wL), (6, wA), (7, wA), (8, wA), (9, wA), (10, wV), (17, wL), (18, wI), (19, wI)]), (2024, [(6, wA), (7, wA), (8, wA), (9, wA), (13, wL), (27, wL), (28, wI), (29, wI)]), (259279, [(6, wA), (7, wA), (8, wA), (9, wA), (13, wL), (15, .X 25 [.L, .I .i64, .I .u64]), (27, wL), (28, wI), (29, wI)])]⟩
theorem ok : M.Ok := ⟨.cons call21 (.cons call194 (AK.nil)), mixed, func106, by kernel_rfl⟩
def Gk := M.pt 0
def qG := M.pt 1
def QQ := M.pt 2
theorem start (h : Al σ fun b6 => Al (Hp.set σ b6 (.cells #[(.string (ByteArray.mk #[]))] 9 (0, 0))) fun b7 => Al (Hp.set (Hp.set σ b6 (.cells #[(.string (ByteArray.mk #[]))] 9 (0, 0))) b7 (.cells #[(.string (ByteArray.mk #[]))] 9 (0, 0))) fun b8 => Al (Hp.set (Hp.set (Hp.set σ b6 (.cells #[(.string (ByteArray.mk #[]))] 9 (0, 0))) b7 (.cells #[(.string (ByteArray.mk #[]))] 9 (0, 0))) b8 (.cells #[.bool false] 4 (0, 0))) fun b9 => AJ prog (Instr.storeAt 9 (.pointer (aD b6 0)) (.string (ByteArray.mk #[]))) (Hp.set (Hp.set (Hp.set (Hp.set σ b6 (.cells #[(.string (ByteArray.mk #[]))] 9 (0, 0))) b7 (.cells #[(.string (ByteArray.mk #[]))] 9 (0, 0))) b8 (.cells #[.bool false] 4 (0, 0))) b9 (.cells #[.bool false] 4 (0, 0))) (fun _ y => AJ prog (Instr.storeAt 9 (.pointer (aD b7 0)) (.string (ByteArray.mk #[]))) y (fun _ AI => AJ prog (Instr.storeAt 4 (.pointer (aD b8 0)) (.bool false)) AI (fun _ Ab => AJ prog (Instr.storeAt 4 (.pointer (aD b9 0)) (.bool true)) Ab (fun _ A1 => Gk R p0 n0 c0 b6 b7 b8 b9 ((.func (.func 193) #[] #[(.pointer (aD b8 0)), (.pointer (aD b6 0)), (.pointer (aD b7 0)), (.pointer (aD b9 0))])) p0 n0 c0 (n0 : Int) 0 A1))))) : Spec prog 106 #[.slice p0 n0 c0] σ R := M.start h ok
theorem Fc (h : Br (OD < Fe) (Pq ow fun nM oz => In OD (n17 : Int) ∧ ∃ pe pg ph eo ep, Dz σ nM (oz + Int.toNat OD * 3) [.slice pe pg ph, .int .i64 eo, .int .u64 ep] ∧ ∀ O2 : Nat, ∃ (f25 : Nat) (tf tg : Array Value), v10 = .func (.func f25) tf tg ∧ Enters prog f25 ∧ Spec prog f25 (tf ++ #[.agg #[.slice pe pg ph, .int .i64 eo, .int .u64 ep]] ++ tg) σ (AB R (fun z y => z = (.tuple #[]) ∧ AN (OD + 1) ∧ Gk R p0 n0 c0 b6 b7 b8 b9 v10 (aD nM oz) n17 ox Fe (OD + 1) y))) (qG R b6 b7 b8 b9 none 0 0 p0 n0 c0 (n0 : Int) 0 σ)) : Gk R p0 n0 c0 b6 b7 b8 b9 v10 ow n17 ox Fe OD σ := M.of h ok rfl
theorem ca (h : Br (UY < Gm) (Pq VX fun Jm pZ => In UY (n27 : Int) ∧ ∃ kR kS kU kV kW, Dz σ Jm (pZ + Int.toNat UY * 3) [.slice kR kS kU, .int .i64 kV, .int .u64 kW] ∧ ∀ bw : Nat, LB σ b8 0 fun t33 => Bo t33 (LB σ b9 0 fun t35 => Bn t35 (R (.returned (.tuple #[(.string (ByteArray.mk #[])), (.string (ByteArray.mk #[])), .slice none 0 0, .int .i64 160])) σ) (LT σ b6 0 fun s41 => Spec prog 21 #[.slice kR kS kU, (.string (ByteArray.mk #[99, 108, 117, 115, 116, 101, 114]))] σ (AB R (CT fun s40 y => Kp [b6] σ y ∧ Bn (ByteArray.toList s40 == ByteArray.toList s41) (R (.returned (.tuple #[(.string (ByteArray.mk #[])), (.string (ByteArray.mk #[])), .slice none 0 0, .int .i64 160])) y) (LT y b7 0 fun s48 => Spec prog 21 #[.slice kR kS kU, (.string (ByteArray.mk #[114, 101, 112, 108, 105, 99, 97]))] y (AB R (CT fun wR AI => Kp [b7] y AI ∧ Bn (ByteArray.toList wR == ByteArray.toList s48) (R (.returned (.tuple #[(.string (ByteArray.mk #[])), (.string (ByteArray.mk #[])), .slice none 0 0, .int .i64 160])) AI) (Al AI fun kM => AJ prog (Builtin.append_ #[22, 22] 22 #[(.slice (aD kM 0) 0 0), .slice kR kS kU]) (Hp.set AI kM (.cells #[] 61 (0, 0))) (CS fun qH na qI Ab => LB Ab b8 0 fun t57 => Bo t57 (Al Ab fun Rm => Spec prog 194 #[.slice qH na qI, (.slice (aD Rm 0) 1 1)] (Hp.set Ab Rm (.cells #[(.string (ByteArray.mk #[114, 101, 112, 108, 105, 99, 97]))] 9 (0, 0))) (AB R (CS fun wq n61 sr A1 => QQ R b6 b7 b8 b9 OI n13 O5 wq n61 sr kV kW (aD Jm pZ) n27 R6 Gm UY A1))) (QQ R b6 b7 b8 b9 OI n13 O5 qH na qI kV kW (aD Jm pZ) n27 R6 Gm UY Ab)))))))))) (Al σ fun kM => AJ prog (Builtin.append_ #[22, 22] 22 #[(.slice (aD kM 0) 0 0), .slice kR kS kU]) (Hp.set σ kM (.cells #[] 61 (0, 0))) (CS fun qH na qI y => LB y b8 0 fun t57 => Bo t57 (Al y fun Rm => Spec prog 194 #[.slice qH na qI, (.slice (aD Rm 0) 1 1)] (Hp.set y Rm (.cells #[(.string (ByteArray.mk #[114, 101, 112, 108, 105, 99, 97]))] 9 (0, 0))) (AB R (CS fun wq n61 sr AI => QQ R b6 b7 b8 b9 OI n13 O5 wq n61 sr kV kW (aD Jm pZ) n27 R6 Gm UY AI))) (QQ R b6 b7 b8 b9 OI n13 O5 qH na qI kV kW (aD Jm pZ) n27 R6 Gm UY y)))) (LT σ b6 0 fun s68 => LT σ b7 0 fun s69 => R (.returned (.tuple #[.string s68, .string s69, .slice OI n13 O5, .int .i64 0])) σ)) : qG R b6 b7 b8 b9 OI n13 O5 VX n27 R6 Gm UY σ := M.of h ok rfl
theorem qJ (h : Al σ fun b65 => AJ prog (Builtin.append_ #[46, 46] 46 #[.slice OI n13 O5, (.slice (aD b65 0) 1 1)]) (Hp.set σ b65 (.cells #[.slice ADg ADh ADi, .int .i64 Wg, .int .u64 ADj] 25 (0, 0))) (CS fun p66 n66 c66 y => AN (UY + 1) ∧ qG R b6 b7 b8 b9 p66 n66 c66 VX n27 R6 Gm (UY + 1) y)) : QQ R b6 b7 b8 b9 OI n13 O5 ADg ADh ADi Wg ADj VX n27 R6 Gm UY σ := M.Yb h ok rfl fun _ => by kernel_rfl
end Cz
namespace slices_Index_int
variable {p0 : Option Addr} {n0 c0 : Nat} {x1 x7 x8 : Int}
def M : Fw := ⟨prog, 114, f114, [], [], false, [], [], [(104, [(0, wL), (1, wI), (7, wI), (8, wI)])]⟩
theorem ok : M.Ok := ⟨AK.nil, mixed, func114, by kernel_rfl⟩
def Ni := M.pt 0
theorem start (h : Ni R p0 n0 c0 x1 (n0 : Int) 0 σ) : Spec prog 114 #[.slice p0 n0 c0, .int .i64 x1] σ R := M.start h ok
theorem D6 (h : Br (x8 < x7) (Pq p0 fun Jl MD => In x8 (n0 : Int) ∧ LI .i64 σ Jl (MD + Int.toNat x8 * 1) fun MQ => Br (x1 = MQ) (R (.returned (.int .i64 x8)) σ) (AN (x8 + 1) ∧ Ni R (aD Jl MD) n0 c0 x1 x7 (x8 + 1) σ)) (R (.returned (.int .i64 (-1))) σ)) : Ni R p0 n0 c0 x1 x7 x8 σ := M.of h ok rfl
end slices_Index_int
namespace CD
variable {p0 : Option Addr} {n0 c0 : Nat} {x3 : Int}
def M : Fw := ⟨prog, 118, f118, [], [], false, [(4, 10, true)], [], [(208, [(0, wL), (3, wI)])]⟩
theorem ok : M.Ok := ⟨AK.nil, mixed, func118, by kernel_rfl⟩
def JZ := M.pt 0
theorem start (h : JZ R p0 n0 c0 1 σ) : Spec prog 118 #[.slice p0 n0 c0] σ R := M.start h ok
theorem CP (h : Br (x3 < (n0 : Int)) (Pq p0 fun O2 QK => In x3 (n0 : Int) ∧ LI .u32 σ O2 (QK + Int.toNat x3 * 1) fun E8 => AN (x3 - 1) ∧ In (x3 - 1) (n0 : Int) ∧ LI .u32 σ O2 (QK + Int.toNat (x3 - 1) * 1) fun Fe => Br (E8 ≤ Fe) (R (.returned (.bool false)) σ) (AN (x3 + 1) ∧ JZ R (aD O2 QK) n0 c0 (x3 + 1) σ)) (R (.returned (.bool true)) σ)) : JZ R p0 n0 c0 x3 σ := M.of h ok rfl
end CD
namespace Qa
variable {x0 : Int}
def M : Fw := ⟨prog, 132, f132, [], [], false, [], [], []⟩
theorem ok : M.Ok := ⟨AK.nil, mixed, func132, by kernel_rfl⟩
theorem start (h : Br (x0 ≠ 0) (R (.panicked [{ v := (.iface 295 (.agg #[.int .i64 x0])), recovered := false }]) σ) (R (.returned (.tuple #[])) σ)) : Spec prog 132 #[.int .i64 x0] σ R := M.start h ok
end Qa
namespace KE
variable {q0 : Option Addr} {s1 : ByteArray}
def M : Fw := ⟨prog, 133, f133, [221], [], false, [], [], []⟩
theorem ok : M.Ok := ⟨.cons call221 (AK.nil), mixed, func133, by kernel_rfl⟩
theorem start (h : Al σ fun b2 => Al (Hp.set σ b2 (.cells #[.pointer q0] 106 (0, 0))) fun b3 => LQ (Hp.set (Hp.set σ b2 (.cells #[.pointer q0] 106 (0, 0))) b3 (.cells #[.string s1] 9 (0, 0))) b2 0 fun q5 => Spec prog 221 #[.pointer q5, (.func (.func 222) #[] #[(.pointer (aD b2 0)), (.pointer (aD b3 0))]), (.func (.func 224) #[] #[(.pointer (aD b2 0)), (.pointer (aD b3 0))]), (.func (.func 225) #[] #[])] (Hp.set (Hp.set σ b2 (.cells #[.pointer q0] 106 (0, 0))) b3 (.cells #[.string s1] 9 (0, 0))) (AB R (CI .i64 fun x8 y => R (.returned (.int .i64 x8)) y))) : Spec prog 133 #[.pointer q0, .string s1] σ R := M.start h ok
end KE
namespace JL
variable {q0 p2 : Option Addr} {s1 : ByteArray} {n2 c2 : Nat}
def M : Fw := ⟨prog, 137, f137, [132, 133, 135, 229, 230, 231], [], false, [(0, 8, false), (1, 6, false), (2, 7, false)], [], []⟩
theorem ok : M.Ok := ⟨.cons call132 (.cons call133 (.cons call135 (.cons call229 (.cons call230 (.cons call231 (AK.nil)))))), mixed, func137, by kernel_rfl⟩
theorem start (h : Pq q0 fun b7 o7 => LQ σ b7 o7 fun q9 => Spec prog 229 #[(.pointer (aD b7 o7))] σ (AB R (CT fun nA y => Kp [b7] σ y ∧ Spec prog 230 #[.slice p2 n2 c2] y (AB R (CS fun OI n13 O5 AI => Kp [b7] y AI ∧ Spec prog 135 #[.pointer q9, .string nA, .slice OI n13 O5] AI (AB R (CI .i64 fun FF Ab => Spec prog 132 #[.int .i64 FF] Ab (AB R (fun z A1 => z = (.tuple #[]) ∧ LQ A1 b7 o7 fun q19 => Spec prog 229 #[(.pointer (aD b7 o7))] A1 (AB R (CT fun s21 DD => Kp [b7] A1 DD ∧ Spec prog 133 #[.pointer q19, .string s21] DD (AB R (CI .i64 fun oy EA => Spec prog 132 #[.int .i64 oy] EA (AB R (fun z Jo => z = (.tuple #[]) ∧ LQ Jo b7 o7 fun q27 => Spec prog 229 #[(.pointer (aD b7 o7))] Jo (AB R (CT fun s29 j9 => Kp [b7] Jo j9 ∧ Spec prog 231 #[.pointer q27, .string s29, .string s1] j9 (AB R (CI .i64 fun HP kA => Spec prog 132 #[.int .i64 HP] kA (AB R (fun z kB => z = (.tuple #[]) ∧ R (.returned (.tuple #[])) kB))))))))))))))))))))) : Spec prog 137 #[.pointer q0, .string s1, .slice p2 n2 c2] σ R := M.start h ok
end JL
namespace Qb
variable {p0 : Option Addr} {n0 c0 : Nat}
def M : Fw := ⟨prog, 139, f139, [143, 234, 235], [], false, [], [], []⟩
theorem ok : M.Ok := ⟨.cons call143 (.cons call234 (.cons call235 (AK.nil))), mixed, func139, by kernel_rfl⟩
theorem start (h : Br (65536 < (n0 : Int)) (R (.returned (.tuple #[.slice none 0 0, .int .i64 23])) σ) (Df (IntKind.u64.wrap (n0 : Int)) fun x9 => Spec prog 143 #[.slice none 0 0, .int .u64 x9] σ (AB R (CS fun O1 n10 Hf y => Spec prog 235 #[.slice p0 n0 c0] y (AB R (CI .u32 fun Cd AI => Spec prog 234 #[.int .u32 Cd] AI (AB R (CS fun OI n13 O5 Ab => AJ prog (Builtin.append_ #[84, 84] 84 #[.slice O1 n10 Hf, .slice OI n13 O5]) Ab (CS fun wv n14 wx A1 => AJ prog (Builtin.append_ #[84, 84] 84 #[.slice wv n14 wx, .slice p0 n0 c0]) A1 (CS fun Yq n16 Zx DD => R (.returned (.tuple #[.slice Yq n16 Zx, .int .i64 0])) DD)))))))))) : Spec prog 139 #[.slice p0 n0 c0] σ R := M.start h ok
end Qb
namespace FU
variable {q0 p2 xm : Option Addr} {s1 xo : ByteArray} {n2 c2 qK xp : Nat} {t9 : Bool} {Z1 : Int}
def M : Fw := ⟨prog, 140, f140, [236, 237, 238, 239, 240], [10], false, [], [], [(252, [(0, wQ), (2, wL), (9, wB), (10, .X 305 [.T, .L, .I .i64])])]⟩
theorem ok : M.Ok := ⟨.cons call236 (.cons call237 (.cons call238 (.cons call239 (.cons call240 (AK.nil))))), mixed, func140, by kernel_rfl⟩
def GR := M.pt 0
theorem start (h : Spec prog 236 #[.pointer q0, .string s1, .bool false] σ (AB R (CI .i64 fun FF y => Br (FF ≠ 0) (R (.returned (.int .i64 FF)) y) (Spec prog 237 #[.pointer q0, .string s1] y (AB R (fun z AI => ∃ Uf WX, z = (.tuple #[.int .i64 Uf, .bool WX]) ∧ ∀ D8 : Nat, Bo WX (Pq q0 fun QI bt => LS AI QI bt fun p30 n30 c30 => Pq p30 fun j0 j7 => In Uf (n30 : Int) ∧ ∃ ADk ADl ADm ADn ADo, Dz AI j0 (j7 + Int.toNat Uf * 3) [.string ADk, .slice ADl ADm ADn, .int .i64 ADo] ∧ GR R (aD QI bt) p2 n2 c2 true ADk ADl ADm ADn ADo AI) (GR R q0 p2 n2 c2 false s1 none 0 0 0 AI))))))) : Spec prog 140 #[.pointer q0, .string s1, .slice p2 n2 c2] σ R := M.start h ok
theorem Ff (h : Br (4194304 < (n2 : Int)) (R (.returned (.int .i64 63)) σ) (AN (4194304 - (n2 : Int)) ∧ Br (((4194304 - (n2 : Int)) : Int) < (qK : Int)) (R (.returned (.int .i64 63)) σ) (Bn t9 (Pq q0 fun Zq Zr => LS σ Zq Zr fun p53 n53 c53 => Br (1048576 ≤ (n53 : Int)) (R (.returned (.int .i64 63)) σ) (Spec prog 238 #[(.pointer (aD Zq Zr))] σ (AB R (CB fun t59 y => Al y fun Rm => AJ prog (Builtin.append_ #[84, 84] 84 #[(.slice (aD Rm 0) 0 0), .slice xm qK xp]) (Hp.set y Rm (.cells #[] 5 (0, 0))) (CS fun p63 n63 c63 AI => AJ prog (Builtin.append_ #[84, 84] 84 #[.slice p63 n63 c63, .slice p2 n2 c2]) AI (CS fun p65 n65 c65 Ab => Spec prog 239 #[(.pointer (aD Zq Zr)), .agg #[.string xo, .slice p65 n65 c65, .int .i64 Z1]] Ab (AB R (fun z A1 => z = (.tuple #[]) ∧ Bo t59 (LI .i64 A1 Zq (Zr + 4) fun tC => Spec prog 240 #[(.pointer (aD Zq Zr)), .int .i64 tC] A1 (AB R (fun z DD => z = (.tuple #[]) ∧ R (.returned (.int .i64 60)) DD))) (R (.returned (.int .i64 0)) A1))))))))) (Spec prog 238 #[.pointer q0] σ (AB R (CB fun t59 y => Al y fun Rm => AJ prog (Builtin.append_ #[84, 84] 84 #[(.slice (aD Rm 0) 0 0), .slice xm qK xp]) (Hp.set y Rm (.cells #[] 5 (0, 0))) (CS fun p63 n63 c63 AI => AJ prog (Builtin.append_ #[84, 84] 84 #[.slice p63 n63 c63, .slice p2 n2 c2]) AI (CS fun p65 n65 c65 Ab => Spec prog 239 #[.pointer q0, .agg #[.string xo, .slice p65 n65 c65, .int .i64 Z1]] Ab (AB R (fun z A1 => z = (.tuple #[]) ∧ Bo t59 (Pq q0 fun b73 o73 => LI .i64 A1 b73 (o73 + 4) fun tC => Spec prog 240 #[(.pointer (aD b73 o73)), .int .i64 tC] A1 (AB R (fun z DD => z = (.tuple #[]) ∧ R (.returned (.int .i64 60)) DD))) (R (.returned (.int .i64 0)) A1))))))))))) : GR R q0 p2 n2 c2 t9 xo xm qK xp Z1 σ := M.Yb h ok rfl fun _ => by kernel_rfl
end FU
namespace Ex
variable {p0 p5 : Option Addr} {n0 c0 n5 c5 : Nat} {x1 : Int}
def M : Fw := ⟨prog, 143, f143, [], [], false, [], [], [(224, [(1, wU), (5, wL)])]⟩
theorem ok : M.Ok := ⟨AK.nil, mixed, func143, by kernel_rfl⟩
def JZ := M.pt 0
theorem start (h : Al σ fun b6 => AJ prog (Builtin.append_ #[84, 84] 84 #[(.slice (aD b6 0) 0 0), .slice p0 n0 c0]) (Hp.set σ b6 (.cells #[] 5 (0, 0))) (CS fun p8 n8 c8 y => JZ R x1 p8 n8 c8 y)) : Spec prog 143 #[.slice p0 n0 c0, .int .u64 x1] σ R := M.start h ok
theorem CP (h : Br (128 ≤ x1) (Df (Go.bits .and .u64 x1 127) fun E8 => Df (Go.bits .or .u64 E8 128) fun FF => Df (IntKind.u8.wrap FF) fun MQ => Al σ fun Kc => AJ prog (Builtin.append_ #[84, 84] 84 #[.slice p5 n5 c5, (.slice (aD Kc 0) 1 1)]) (Hp.set σ Kc (.cells #[.int .u8 MQ] 5 (0, 0))) (CS fun ow n17 ox y => ((0 : Int) ≤ 7 ∧ 7 ≤ ((IntKind.bits .u64 : Nat) : Int)) ∧ Df (x1 / 2 ^ Int.toNat 7) fun OD => JZ R OD ow n17 ox y)) (Df (IntKind.u8.wrap x1) fun oy => Al σ fun Zh => AJ prog (Builtin.append_ #[84, 84] 84 #[.slice p5 n5 c5, (.slice (aD Zh 0) 1 1)]) (Hp.set σ Zh (.cells #[.int .u8 oy] 5 (0, 0))) (CS fun WI n24 c24 y => R (.returned (.slice WI n24 c24)) y))) : JZ R x1 p5 n5 c5 σ := M.of h ok rfl
end Ex
namespace IK
variable {s0 : ByteArray} {x3 : Int}
def M : Fw := ⟨prog, 178, f178, [], [], false, [], [], [(464, [(0, wT), (3, wI)])]⟩
theorem ok : M.Ok := ⟨AK.nil, mixed, func178, by kernel_rfl⟩
def As := M.pt 0
theorem start (h : Br ((((ByteArray.size s0 : Nat) : Int) : Int) < 1) (R (.returned (.bool false)) σ) (Br ((64 : Int) < ((ByteArray.size s0 : Nat) : Int)) (R (.returned (.bool false)) σ) (As R s0 0 σ))) : Spec prog 178 #[.string s0] σ R := M.start h ok
theorem BO (h : Br (x3 < ((ByteArray.size s0 : Nat) : Int)) (∃ Ul : UInt8, 0 ≤ x3 ∧ (ByteArray.data s0)[Int.toNat x3]? = some Ul ∧ Br ((97 : Int) ≤ ((UInt8.toNat Ul : Nat) : Int)) (Br ((((UInt8.toNat Ul : Nat) : Int) : Int) ≤ 122) (AN (x3 + 1) ∧ As R s0 (x3 + 1) σ) (Br ((48 : Int) ≤ ((UInt8.toNat Ul : Nat) : Int)) (Br ((((UInt8.toNat Ul : Nat) : Int) : Int) ≤ 57) (AN (x3 + 1) ∧ As R s0 (x3 + 1) σ) (Br ((((UInt8.toNat Ul : Nat) : Int) : Int) = 47) (AN (x3 + 1) ∧ As R s0 (x3 + 1) σ) (Br ((((UInt8.toNat Ul : Nat) : Int) : Int) = 46) (AN (x3 + 1) ∧ As R s0 (x3 + 1) σ) (Bm ((((UInt8.toNat Ul : Nat) : Int) : Int) = 45) (R (.returned (.bool false)) σ) (AN (x3 + 1) ∧ As R s0 (x3 + 1) σ))))) (Br ((((UInt8.toNat Ul : Nat) : Int) : Int) = 47) (AN (x3 + 1) ∧ As R s0 (x3 + 1) σ) (Br ((((UInt8.toNat Ul : Nat) : Int) : Int) = 46) (AN (x3 + 1) ∧ As R s0 (x3 + 1) σ) (Bm ((((UInt8.toNat Ul : Nat) : Int) : Int) = 45) (R (.returned (.bool false)) σ) (AN (x3 + 1) ∧ As R s0 (x3 + 1) σ)))))) (Br ((48 : Int) ≤ ((UInt8.toNat Ul : Nat) : Int)) (Br ((((UInt8.toNat Ul : Nat) : Int) : Int) ≤ 57) (AN (x3 + 1) ∧ As R s0 (x3 + 1) σ) (Br ((((UInt8.toNat Ul : Nat) : Int) : Int) = 47) (AN (x3 + 1) ∧ As R s0 (x3 + 1) σ) (Br ((((UInt8.toNat Ul : Nat) : Int) : Int) = 46) (AN (x3 + 1) ∧ As R s0 (x3 + 1) σ) (Bm ((((UInt8.toNat Ul : Nat) : Int) : Int) = 45) (R (.returned (.bool false)) σ) (AN (x3 + 1) ∧ As R s0 (x3 + 1) σ))))) (Br ((((UInt8.toNat Ul : Nat) : Int) : Int) = 47) (AN (x3 + 1) ∧ As R s0 (x3 + 1) σ) (Br ((((UInt8.toNat Ul : Nat) : Int) : Int) = 46) (AN (x3 + 1) ∧ As R s0 (x3 + 1) σ) (Bm ((((UInt8.toNat Ul : Nat) : Int) : Int) = 45) (R (.returned (.bool false)) σ) (AN (x3 + 1) ∧ As R s0 (x3 + 1) σ)))))) (R (.returned (.bool true)) σ)) : As R s0 x3 σ := M.of h ok rfl
end IK
namespace JM
variable {q0 : Option Addr} {v1 v2 v3 : Value}
def M : Fw := ⟨prog, 221, f221, [290], [], true, [], [], []⟩
theorem ok : M.Ok := ⟨.cons call290 (AK.nil), mixed, func221, by kernel_rfl⟩
theorem start (h : Pq q0 fun D7 GQ => LB σ D7 (GQ + 1) fun t13 => Bn t13 (R (.returned (.int .i64 60)) σ) (∃ (f16 : Nat) (OM ON : Array Value), v1 = .func (.func f16) OM ON ∧ Enters prog f16 ∧ Spec prog f16 (OM ++ #[] ++ ON) σ (AB R (CI .i64 fun Nc y => Br (Nc ≠ 0) (R (.returned (.int .i64 Nc)) y) (LI .u64 y D7 (GQ + 5) fun QL => Df (IntKind.u64.wrap (QL + 1)) fun Ks => AJ prog (Instr.storeAt 23 (.pointer (aD D7 (GQ + 5))) (.int .u64 Ks)) y (fun _ AI => LB AI D7 (GQ + 2) fun t30 => Bo t30 (LI .i64 AI D7 (GQ + 3) fun Rj => Br (Rj = 0) (∃ (f39 : Nat) (th ti : Array Value), v3 = .func (.func f39) th ti ∧ Enters prog f39 ∧ Spec prog f39 (th ++ #[] ++ ti) AI (AB R (fun z Ab => z = (.tuple #[]) ∧ LI .i64 Ab D7 (GQ + 4) fun pX => Spec prog 290 #[(.pointer (aD D7 GQ)), .int .i64 pX] Ab (AB R (fun z A1 => z = (.tuple #[]) ∧ R (.returned (.int .i64 60)) A1))))) (LI .i64 AI D7 (GQ + 3) fun Wf => Df (IntKind.i64.wrap (Wf - 1)) fun Rl => AJ prog (Instr.storeAt 3 (.pointer (aD D7 (GQ + 3))) (.int .i64 Rl)) AI (fun _ Ab => ∃ (f54 : Nat) (OR OS : Array Value), v2 = .func (.func f54) OR OS ∧ Enters prog f54 ∧ Spec prog f54 (OR ++ #[] ++ OS) Ab (AB R (fun z A1 => z = (.tuple #[]) ∧ R (.returned (.int .i64 0)) A1))))) (LI .i64 AI D7 (GQ + 3) fun Wf => Df (IntKind.i64.wrap (Wf - 1)) fun Rl => AJ prog (Instr.storeAt 3 (.pointer (aD D7 (GQ + 3))) (.int .i64 Rl)) AI (fun _ Ab => ∃ (f54 : Nat) (OR OS : Array Value), v2 = .func (.func f54) OR OS ∧ Enters prog f54 ∧ Spec prog f54 (OR ++ #[] ++ OS) Ab (AB R (fun z A1 => z = (.tuple #[]) ∧ R (.returned (.int .i64 0)) A1)))))))))) : Spec prog 221 #[.pointer q0, v1, v2, v3] σ R := M.Ln h ok [(0, .o (.Q q0)), (1, .o (.V v1)), (2, .o (.V v2)), (3, .o (.V v3))] rfl rfl (by kernel_rfl)
end JM
namespace Mf
def M : Fw := ⟨prog, 225, f225, [], [], false, [], [], []⟩
theorem ok : M.Ok := ⟨AK.nil, mixed, func225, by kernel_rfl⟩
theorem start (h : R (.returned (.tuple #[])) σ) : Spec prog 225 #[] σ R := M.start h ok
end Mf
namespace Gy
variable {p0 : Option Addr} {n0 c0 : Nat}
def M : Fw := ⟨prog, 264, f264, [113, 305], [], false, [], [], []⟩
theorem ok : M.Ok := ⟨.cons call113 (.cons call305 (AK.nil)), mixed, func264, by kernel_rfl⟩
theorem start (h : Df (IntKind.u64.wrap (n0 : Int)) fun x8 => Spec prog 113 #[.int .u64 x8] σ (AB R (CI .i64 fun x9 y => Spec prog 305 #[.slice p0 n0 c0, .int .i64 0, (.int .i64 (n0 : Int)), .int .i64 x9] y (AB R (fun z AI => z = (.tuple #[]) ∧ R (.returned (.tuple #[])) AI))))) : Spec prog 264 #[.slice p0 n0 c0] σ R := M.start h ok
end Gy
namespace LY
variable {jq : Option Addr} {ef jr : Nat} {Iw Hg : Int}
def M : Fw := ⟨prog, 268, f268, [], [1], false, [], [], []⟩
theorem ok : M.Ok := ⟨AK.nil, mixed, func268, by kernel_rfl⟩
theorem start (h : ∀ b1 : Nat, Br (Iw < (-1099511627776)) (R (.returned (.int .i64 153)) σ) (Br (1099511627776 < Iw) (R (.returned (.int .i64 153)) σ) (R (.returned (.int .i64 0)) σ))) : Spec prog 268 #[.agg #[.slice jq ef jr, .int .i64 Iw, .int .u64 Hg]] σ R := M.start h ok
end LY
namespace DF
variable {p0 p5 p8 : Option Addr} {n0 c0 n5 c5 n8 c8 : Nat} {v1 : Value} {x9 Dc : Int}
def M : Fw := ⟨prog, 269, f269, [], [7], false, [], [], [(232, [(1, wV), (5, wL), (8, wL), (9, wI), (10, wI)]), (935, [(1, wV), (5, wL), (8, wL), (9, wI), (10, wI)])]⟩
theorem ok : M.Ok := ⟨AK.nil, mixed, func269, by kernel_rfl⟩
def A5 := M.pt 0
def GR := M.pt 1
theorem start (h : A5 R v1 none 0 0 p0 n0 c0 (n0 : Int) 0 σ) : Spec prog 269 #[.slice p0 n0 c0, v1] σ R := M.Ln h ok [(0, .o (.L p0 n0 c0)), (1, .o (.V v1))] rfl rfl (by kernel_rfl)
theorem AW (h : Br (Dc < x9) (Pq p8 fun O2 QK => In Dc (n8 : Int) ∧ ∃ Zw xq, Dz σ O2 (QK + Int.toNat Dc * 2) [.string Zw, .string xq] ∧ ∀ b7 : Nat, ∃ (f16 : Nat) (OM ON : Array Value), v1 = .func (.func f16) OM ON ∧ Enters prog f16 ∧ Spec prog f16 (OM ++ #[.agg #[.string Zw, .string xq]] ++ ON) σ (AB R (CB fun t16 y => Bo t16 (Al y fun Yc => AJ prog (Builtin.append_ #[22, 22] 22 #[.slice p5 n5 c5, (.slice (aD Yc 0) 1 1)]) (Hp.set y Yc (.cells #[.string Zw, .string xq] 61 (0, 0))) (CS fun sq n20 c20 AI => GR R v1 sq n20 c20 (aD O2 QK) n8 c8 x9 Dc AI)) (GR R v1 p5 n5 c5 (aD O2 QK) n8 c8 x9 Dc y)))) (R (.returned (.slice p5 n5 c5)) σ)) : A5 R v1 p5 n5 c5 p8 n8 c8 x9 Dc σ := M.of h ok rfl
theorem Ff (h : AN (Dc + 1) ∧ A5 R v1 p5 n5 c5 p8 n8 c8 x9 (Dc + 1) σ) : GR R v1 p5 n5 c5 p8 n8 c8 x9 Dc σ := M.of h ok rfl
end DF
namespace Gz
variable {b0 b1 b2 : Nat}
def M : Fw := ⟨prog, 292, f292, [171, 223], [], false, [], [], []⟩
theorem ok : M.Ok := ⟨.cons call171 (.cons call223 (AK.nil)), mixed, func292, by kernel_rfl⟩
theorem start (h : LT σ b0 0 fun s4 => Spec prog 171 #[.string s4] σ (AB R (CB fun t5 y => Bn t5 (R (.returned (.int .i64 61)) y) (LQ y b1 0 fun q7 => LT y b2 0 fun s8 => Spec prog 223 #[.pointer q7, .string s8] y (AB R (CI .i64 fun x9 AI => R (.returned (.int .i64 x9)) AI)))))) : Spec prog 292 #[(.pointer (aD b0 0)), (.pointer (aD b1 0)), (.pointer (aD b2 0))] σ R := M.start h ok
end Gz
namespace strings_CutPrefix
variable {s0 s1 : ByteArray}
def M : Fw := ⟨prog, 300, f300, [317], [], false, [], [], []⟩
theorem ok : M.Ok := ⟨.cons call317 (AK.nil), mixed, func300, by kernel_rfl⟩
theorem start (h : Spec prog 317 #[.string s0, .string s1] σ (AB R (fun z y => ∃ s8a t8b, z = (.tuple #[.string s8a, .bool t8b]) ∧ R (.returned (.tuple #[.string s8a, .bool t8b])) y))) : Spec prog 300 #[.string s0, .string s1] σ R := M.start h ok
end strings_CutPrefix
end TwW
end
end
section
set_option maxRecDepth 100000
noncomputable section
namespace TwW
open Go Tw Go.Proofs.Tryz
variable [Ht] {R : Rr} {σ : Hp}

namespace Ak
variable {q0 p2 OJ : Option Addr} {x1 x8 HA Lr : Int} {n2 c2 n25 ND : Nat}
def M : Fw := ⟨prog, 15, f15, [20, 50, 51], [10], false, [(8, 7, true)], [], [(120, [(1, wI), (2, wL), (8, wI), (25, wL), (26, wI), (27, wI)]), (487, [(1, wI), (2, wL), (8, wI), (25, wL), (26, wI), (27, wI)]), (7783, [(1, wI), (2, wL), (8, wI), (25, wL), (26, wI), (27, wI)])]⟩
theorem ok : M.Ok := ⟨.cons call20 (.cons call50 (.cons call51 (AK.nil))), mixed, func15, by kernel_rfl⟩
def Kt := M.pt 0
def QP := M.pt 1
def xr := M.pt 2
theorem start (h : Spec prog 20 #[.pointer q0, .int .i64 x1] σ (AB R (fun z y => ∃ xH pd xI xJ, z = (.tuple #[.slice xH pd xI, .int .u64 xJ]) ∧ Br ((pd : Int) ≠ (n2 : Int)) (R (.returned (.tuple #[])) y) (Pq q0 fun Zh od => LS y Zh (od + 2) fun OJ n25 ND => Kt R x1 p2 n2 c2 0 OJ n25 ND (n25 : Int) 0 y)))) : Spec prog 15 #[.pointer q0, .int .i64 x1, .slice p2 n2 c2] σ R := M.start h ok
theorem HQ (h : Br (Lr < HA) (Pq OJ fun Kd TI => In Lr (n25 : Int) ∧ ∃ AJn AJo AJp pz qA ADp ADq ADr xt, Dz σ Kd (TI + Int.toNat Lr * 5) [.slice AJn AJo AJp, .int .i64 pz, .int .u64 qA, .slice ADp ADq ADr, .map xt] ∧ ∀ D8 : Nat, Spec prog 50 #[.slice ADp ADq ADr, .int .i64 x1] σ (AB R (CB fun t34 y => Bn t34 (QP R x1 p2 n2 c2 x8 (aD Kd TI) n25 ND HA Lr y) (AJ prog (Instr.lookup 127 (.map xt) (.int .i64 x1) false) y (CI .i64 fun eU AI => Spec prog 51 #[.int .i64 eU] AI (AB R (CB fun t40 Ab => Bn t40 (Pq p2 fun cI jj => In x8 (n2 : Int) ∧ LI .i64 Ab cI (jj + Int.toNat x8 * 1) fun JF => AJ prog (Instr.mapUpdate 127 (.map xt) (.int .i64 x1) (.int .i64 JF)) Ab (fun _ A1 => xr R x1 (aD cI jj) n2 c2 x8 (aD Kd TI) n25 ND HA Lr A1)) (xr R x1 p2 n2 c2 x8 (aD Kd TI) n25 ND HA Lr Ab)))))))) (R (.returned (.tuple #[])) σ)) : Kt R x1 p2 n2 c2 x8 OJ n25 ND HA Lr σ := M.of h ok rfl
theorem Ub (h : AN (Lr + 1) ∧ Kt R x1 p2 n2 c2 x8 OJ n25 ND HA (Lr + 1) σ) : QP R x1 p2 n2 c2 x8 OJ n25 ND HA Lr σ := M.of h ok rfl
theorem cb (h : AN (x8 + 1) ∧ QP R x1 p2 n2 c2 (x8 + 1) OJ n25 ND HA Lr σ) : xr R x1 p2 n2 c2 x8 OJ n25 ND HA Lr σ := M.of h ok rfl
end Ak
namespace Aq
variable {q0 p4 Yq : Option Addr} {n4 c4 n16 Zx : Nat} {t5 t6 : Bool} {Ix Fe x9 : Int} {v24 : Value}
def M : Fw := ⟨prog, 17, f17, [51], [8], false, [], [(24, 127)], [(488, [(0, wQ), (4, wL), (5, wB), (6, wB), (16, wL), (17, wI), (18, wI)]), (501352, [(0, wQ), (4, wL), (5, wB), (6, wB), (9, wI), (16, wL), (17, wI), (18, wI), (24, wV)])]⟩
theorem ok : M.Ok := ⟨.cons call51 (AK.nil), mixed, func17, by kernel_rfl⟩
def Gk := M.pt 0
def QV := M.pt 1
theorem start (h : Pq q0 fun Jl MD => LS σ Jl (MD + 2) fun Yq n16 Zx => Gk R (aD Jl MD) none 0 0 true false Yq n16 Zx (n16 : Int) 0 σ) : Spec prog 17 #[.pointer q0] σ R := M.start h ok
theorem Fc (h : Br (Fe < Ix) (Pq Yq fun BG cG => In Fe (n16 : Int) ∧ ∃ AJq AJr AJs px py AJt AJu AJv ADs, Dz σ BG (cG + Int.toNat Fe * 5) [.slice AJq AJr AJs, .int .i64 px, .int .u64 py, .slice AJt AJu AJv, .map ADs] ∧ ∀ b8 : Nat, AJ prog (Instr.range 127 (.map ADs)) σ (fun z y => ∃ v24, v24 = z ∧ QV R q0 p4 n4 c4 t5 t6 0 (aD BG cG) n16 Zx Ix Fe v24 y)) (Bo t5 (R (.returned (.tuple #[.int .i64 1, .slice p4 n4 c4])) σ) (Bo t6 (R (.returned (.tuple #[.int .i64 6, .slice p4 n4 c4])) σ) (R (.returned (.tuple #[.int .i64 5, .slice p4 n4 c4])) σ)))) : Gk R q0 p4 n4 c4 t5 t6 Yq n16 Zx Ix Fe σ := M.of h ok rfl
theorem Pb (h : AJ prog (Instr.next v24 false 0) σ (fun v y => (v = (.tuple #[.bool false]) ∧ Pq q0 fun b35 o35 => LI .i64 y b35 (o35 + 1) fun J6 => Bo t5 (Bo t6 (Al y fun NC => AJ prog (Builtin.append_ #[51, 51] 51 #[.slice p4 n4 c4, (.slice (aD NC 0) 1 1)]) (Hp.set y NC (.cells #[(.bool (decide (J6 ≤ x9)))] 4 (0, 0))) (CS fun eY n50 eZ AI => AN (Fe + 1) ∧ Gk R (aD b35 o35) eY n50 eZ ((decide (J6 ≤ x9))) true Yq n16 Zx Ix (Fe + 1) AI)) (Al y fun NC => AJ prog (Builtin.append_ #[51, 51] 51 #[.slice p4 n4 c4, (.slice (aD NC 0) 1 1)]) (Hp.set y NC (.cells #[(.bool (decide (J6 ≤ x9)))] 4 (0, 0))) (CS fun eY n50 eZ AI => AN (Fe + 1) ∧ Gk R (aD b35 o35) eY n50 eZ ((decide (J6 ≤ x9))) ((decide (J6 ≤ x9))) Yq n16 Zx Ix (Fe + 1) AI))) (Bo t6 (Al y fun NC => AJ prog (Builtin.append_ #[51, 51] 51 #[.slice p4 n4 c4, (.slice (aD NC 0) 1 1)]) (Hp.set y NC (.cells #[(.bool (decide (J6 ≤ x9)))] 4 (0, 0))) (CS fun eY n50 eZ AI => AN (Fe + 1) ∧ Gk R (aD b35 o35) eY n50 eZ false true Yq n16 Zx Ix (Fe + 1) AI)) (Al y fun NC => AJ prog (Builtin.append_ #[51, 51] 51 #[.slice p4 n4 c4, (.slice (aD NC 0) 1 1)]) (Hp.set y NC (.cells #[(.bool (decide (J6 ≤ x9)))] 4 (0, 0))) (CS fun eY n50 eZ AI => AN (Fe + 1) ∧ Gk R (aD b35 o35) eY n50 eZ false ((decide (J6 ≤ x9))) Yq n16 Zx Ix (Fe + 1) AI)))) ∨ (∃ E9 pw, v = (.tuple #[.bool true, .int .i64 E9, .int .i64 pw]) ∧ AJ prog (Instr.entry v24) y (fun z AI => ∃ AJw ADv, z = (.tuple #[.int .i64 AJw, .int .i64 ADv]) ∧ Spec prog 51 #[.int .i64 ADv] AI (AB R (CB fun t30 Ab => Bo t30 (AN (x9 + 1) ∧ QV R q0 p4 n4 c4 t5 t6 (x9 + 1) Yq n16 Zx Ix Fe v24 Ab) (QV R q0 p4 n4 c4 t5 t6 x9 Yq n16 Zx Ix Fe v24 Ab))))))) : QV R q0 p4 n4 c4 t5 t6 x9 Yq n16 Zx Ix Fe v24 σ := M.of h ok rfl
end Aq
namespace JN
variable {q0 : Option Addr} {s1 : ByteArray}
def M : Fw := ⟨prog, 29, f29, [61, 62], [], false, [], [], []⟩
theorem ok : M.Ok := ⟨.cons call61 (.cons call62 (AK.nil)), mixed, func29, by kernel_rfl⟩
theorem start (h : Spec prog 61 #[.string s1] σ (AB R (CB fun t10 y => Bn t10 (R (.returned (.tuple #[.slice none 0 0, .int .u64 0, .int .i64 120])) y) (Pq q0 fun IE kJ => LQ y IE kJ fun pY => Pq pY fun Kc UZ => LQ y Kc UZ fun q18 => Pq q18 fun Yc oc => LB y Yc (oc + 1) fun t21 => Bo t21 (R (.returned (.tuple #[.slice none 0 0, .int .u64 0, .int .i64 60])) y) (Spec prog 62 #[(.pointer (aD IE kJ)), .string s1] y (AB R (fun z AI => ∃ E9 ea, z = (.tuple #[.int .i64 E9, .bool ea]) ∧ Bn ea (R (.returned (.tuple #[.slice none 0 0, .int .u64 0, .int .i64 0])) AI) (LS AI IE (kJ + 1) fun p34 n34 c34 => Pq p34 fun pD pE => In E9 (n34 : Int) ∧ LS AI pD ((pE + Int.toNat E9 * 3) + 1) fun nN n38 nO => LS AI IE (kJ + 1) fun Ua n43 VT => Pq Ua fun We o45 => In E9 (n43 : Int) ∧ LI .u64 AI We ((o45 + Int.toNat E9 * 3) + 2) fun R4 => Al AI fun TJ => AJ prog (Builtin.append_ #[84, 84] 84 #[(.slice (aD TJ 0) 0 0), .slice nN n38 nO]) (Hp.set AI TJ (.cells #[] 5 (0, 0))) (CS fun j8 n39 R5 Ab => Kp [We, IE] (Hp.set AI TJ (.cells #[] 5 (0, 0))) Ab ∧ R (.returned (.tuple #[.slice j8 n39 R5, .int .u64 R4, .int .i64 0])) Ab))))))))) : Spec prog 29 #[.pointer q0, .string s1] σ R := M.start h ok
end JN
namespace TN
variable {s0 : ByteArray}
def M : Fw := ⟨prog, 61, f61, [], [], false, [], [], []⟩
theorem ok : M.Ok := ⟨AK.nil, mixed, func61, by kernel_rfl⟩
theorem start (h : Br ((1 : Int) ≤ ((ByteArray.size s0 : Nat) : Int)) (R (.returned (.bool (decide ((((ByteArray.size s0 : Nat) : Int) : Int) ≤ 64)))) σ) (R (.returned (.bool false)) σ)) : Spec prog 61 #[.string s0] σ R := M.start h ok
end TN
namespace C0
variable {sf q1a : Option Addr} {Iw Hg Ye eX x3 : Int}
def M : Fw := ⟨prog, 101, f101, [188, 189], [1], false, [(4, 22, true), (6, 18, false)], [], [(480, [(1, .X 201 [.Q, .I .i64, .I .i64]), (3, wI)])]⟩
theorem ok : M.Ok := ⟨.cons call188 (.cons call189 (AK.nil)), mixed, func101, by kernel_rfl⟩
def As := M.pt 0
theorem start (h : ∀ b1 : Nat, Br (0 ≤ Hg) (R (.returned (.int .i64 131)) σ) (As R sf Iw Hg 0 σ)) : Spec prog 101 #[.agg #[.pointer sf, .int .i64 Iw, .int .i64 Hg]] σ R := M.start h ok
theorem BO (h : Pq q1a fun D8 LL => LS σ D8 (LL + 1) fun Jn n12 c12 => Br (x3 < (n12 : Int)) (LS σ D8 (LL + 1) fun sq n20 c20 => Pq sq fun Nf WR => In x3 (n20 : Int) ∧ LI .i64 σ Nf (WR + Int.toNat x3 * 3) fun Ks => Br (Ks < Ye) (AN (x3 + 1) ∧ As R (aD D8 LL) Ye eX (x3 + 1) σ) (LS σ D8 (LL + 1) fun Rk n37 c37 => Spec prog 189 #[.int .i64 Ye] σ (AB R (CS fun Ua n43 VT y => Kp [D8] σ y ∧ Al y fun We => Spec prog 188 #[.slice Rk n37 c37, .int .i64 x3, (.slice (aD We 0) 1 1)] (Hp.set y We (.cells #[.int .i64 Ye, .int .i64 1, .slice Ua n43 VT] 196 (0, 0))) (AB R (CS fun cU n46 c46 AI => AJ prog (Instr.storeAt 39 (.pointer (aD D8 (LL + 1))) (.slice cU n46 c46)) AI (fun _ Ab => R (.returned (.int .i64 0)) Ab))))))) (LS σ D8 (LL + 1) fun Rk n37 c37 => Spec prog 189 #[.int .i64 Ye] σ (AB R (CS fun Ua n43 VT y => Kp [D8] σ y ∧ Al y fun We => Spec prog 188 #[.slice Rk n37 c37, .int .i64 x3, (.slice (aD We 0) 1 1)] (Hp.set y We (.cells #[.int .i64 Ye, .int .i64 1, .slice Ua n43 VT] 196 (0, 0))) (AB R (CS fun cU n46 c46 AI => AJ prog (Instr.storeAt 39 (.pointer (aD D8 (LL + 1))) (.slice cU n46 c46)) AI (fun _ Ab => R (.returned (.int .i64 0)) Ab))))))) : As R q1a Ye eX x3 σ := M.Yb h ok rfl fun _ => by kernel_rfl
end C0
namespace Ca
variable {p0 iD cR p9c : Option Addr} {n0 c0 b1 iE iF b5 cP cQ n9c c9c : Nat} {Zy Nh x8 x9a wG Dc : Int} {v6 : Value}
def M : Fw := ⟨prog, 108, f108, [44, 195, 196], [2, 7, 9], false, [(11, 8, false)], [], [(2000, [(1, wA), (2, .X 41 [.I .u64, .L]), (5, wA), (6, wV), (7, .X 41 [.I .u64, .L]), (8, wU)]), (512592, [(1, wA), (2, .X 41 [.I .u64, .L]), (5, wA), (6, wV), (7, .X 41 [.I .u64, .L]), (8, wU), (9, .X 196 [.I .i64, .I .i64, .L]), (10, wU)])]⟩
theorem ok : M.Ok := ⟨.cons call44 (.cons call195 (.cons call196 (AK.nil))), mixed, func108, by kernel_rfl⟩
def Kt := M.pt 0
def MW := M.pt 1
theorem start (h : Al σ fun b1 => ∀ b2 : Nat, Al (Hp.set σ b1 (.cells #[.slice p0 n0 c0] 84 (0, 0))) fun b4 => Al (Hp.set (Hp.set σ b1 (.cells #[.slice p0 n0 c0] 84 (0, 0))) b4 (.cells #[.int .i64 0] 3 (0, 0))) fun b5 => AJ prog (Instr.storeAt 3 (.pointer (aD b4 0)) (.int .i64 0)) (Hp.set (Hp.set (Hp.set σ b1 (.cells #[.slice p0 n0 c0] 84 (0, 0))) b4 (.cells #[.int .i64 0] 3 (0, 0))) b5 (.cells #[.bool false] 4 (0, 0))) (fun _ y => AJ prog (Instr.storeAt 4 (.pointer (aD b5 0)) (.bool false)) y (fun _ AI => Spec prog 195 #[.int .u64 18446744073709551615, (.pointer (aD b1 0)), (.pointer (aD b4 0)), (.pointer (aD b5 0))] AI (AB R (CI .u64 fun MQ Ab => ∀ b7 : Nat, Spec prog 195 #[.int .u64 16, (.pointer (aD b1 0)), (.pointer (aD b4 0)), (.pointer (aD b5 0))] Ab (AB R (CI .u64 fun Fe A1 => Kt R b1 0 none 0 0 b5 ((.func (.func 195) #[] #[(.pointer (aD b1 0)), (.pointer (aD b4 0)), (.pointer (aD b5 0))])) MQ none 0 0 Fe A1))))))) : Spec prog 108 #[.slice p0 n0 c0] σ R := M.start h ok
theorem HQ (h : Br (0 < x8) (LB σ b5 0 fun t22 => Bn t22 (∃ (f28 : Nat) (tj tm : Array Value), v6 = .func (.func f28) tj tm ∧ Enters prog f28 ∧ Spec prog f28 (tj ++ #[.int .u64 16] ++ tm) σ (AB R (CI .u64 fun Gm y => Df (IntKind.i64.wrap Gm) fun UY => ∃ (f31 : Nat) (Wi Wj : Array Value), v6 = .func (.func f31) Wi Wj ∧ Enters prog f31 ∧ Spec prog f31 (Wi ++ #[.int .u64 3] ++ Wj) y (AB R (CI .u64 fun HP AI => Df (IntKind.i64.wrap HP) fun se => ∀ b9 : Nat, ∃ (f35 : Nat) (tn tp : Array Value), v6 = .func (.func f35) tn tp ∧ Enters prog f35 ∧ Spec prog f35 (tn ++ #[.int .u64 64] ++ tp) AI (AB R (CI .u64 fun Rj Ab => MW R b1 Zy iD iE iF b5 v6 Nh cR cP cQ x8 UY se none 0 0 Rj Ab))))))) (Spec prog 44 #[.agg #[.int .u64 Nh, .slice cR cP cQ]] σ (AB R (fun z y => ∃ W5 W7 W8 Um, z = (.tuple #[.slice W5 W7 W8, .int .i64 Um]) ∧ LB y b5 0 fun t63 => Bo t63 (R (.returned (.tuple #[.agg #[.int .u64 0, .slice none 0 0], .int .i64 130])) y) (Br (Um ≠ 0) (R (.returned (.tuple #[.agg #[.int .u64 0, .slice none 0 0], .int .i64 130])) y) (LS y b1 0 fun nS nT c70 => Spec prog 196 #[.slice W5 W7 W8, .slice nS nT c70] y (AB R (CB fun t71 AI => Bn t71 (R (.returned (.tuple #[.agg #[.int .u64 0, .slice none 0 0], .int .i64 130])) AI) (R (.returned (.tuple #[.agg #[.int .u64 Nh, .slice cR cP cQ], .int .i64 0])) AI))))))))) (Spec prog 44 #[.agg #[.int .u64 Nh, .slice cR cP cQ]] σ (AB R (fun z y => ∃ W5 W7 W8 Um, z = (.tuple #[.slice W5 W7 W8, .int .i64 Um]) ∧ LB y b5 0 fun t63 => Bo t63 (R (.returned (.tuple #[.agg #[.int .u64 0, .slice none 0 0], .int .i64 130])) y) (Br (Um ≠ 0) (R (.returned (.tuple #[.agg #[.int .u64 0, .slice none 0 0], .int .i64 130])) y) (LS y b1 0 fun nS nT c70 => Spec prog 196 #[.slice W5 W7 W8, .slice nS nT c70] y (AB R (CB fun t71 AI => Bn t71 (R (.returned (.tuple #[.agg #[.int .u64 0, .slice none 0 0], .int .i64 130])) AI) (R (.returned (.tuple #[.agg #[.int .u64 Nh, .slice cR cP cQ], .int .i64 0])) AI))))))))) : Kt R b1 Zy iD iE iF b5 v6 Nh cR cP cQ x8 σ := M.of2 h ok rfl fun _ _ => by kernel_rfl
theorem Iy (h : Br (0 < Dc) (LB σ b5 0 fun t39 => Bn t39 (∃ (f47 : Nat) (tq tr : Array Value), v6 = .func (.func f47) tq tr ∧ Enters prog f47 ∧ Spec prog f47 (tq ++ #[.int .u64 4294967295] ++ tr) σ (AB R (CI .u64 fun R4 y => Df (IntKind.u32.wrap R4) fun JF => Al y fun NC => AJ prog (Builtin.append_ #[194, 194] 194 #[.slice p9c n9c c9c, (.slice (aD NC 0) 1 1)]) (Hp.set y NC (.cells #[.int .u32 JF] 70 (0, 0))) (CS fun eY n50 eZ AI => Df (IntKind.u64.wrap (Dc - 1)) fun wy => MW R b1 Zy iD iE iF b5 v6 Nh cR cP cQ x8 x9a wG eY n50 eZ wy AI)))) (Al σ fun VW => AJ prog (Builtin.append_ #[39, 39] 39 #[.slice cR cP cQ, (.slice (aD VW 0) 1 1)]) (Hp.set σ VW (.cells #[.int .i64 x9a, .int .i64 wG, .slice p9c n9c c9c] 196 (0, 0))) (CS fun p56 n56 c56 y => Df (IntKind.u64.wrap (x8 - 1)) fun HA => Kt R b1 Zy iD iE iF b5 v6 Nh p56 n56 c56 HA y))) (Al σ fun VW => AJ prog (Builtin.append_ #[39, 39] 39 #[.slice cR cP cQ, (.slice (aD VW 0) 1 1)]) (Hp.set σ VW (.cells #[.int .i64 x9a, .int .i64 wG, .slice p9c n9c c9c] 196 (0, 0))) (CS fun p56 n56 c56 y => Df (IntKind.u64.wrap (x8 - 1)) fun HA => Kt R b1 Zy iD iE iF b5 v6 Nh p56 n56 c56 HA y))) : MW R b1 Zy iD iE iF b5 v6 Nh cR cP cQ x8 x9a wG p9c n9c c9c Dc σ := M.of3 h ok rfl fun _ _ _ => by kernel_rfl
end Ca
namespace LZ
variable {x0 : Int}
def M : Fw := ⟨prog, 113, f113, [211], [], false, [], [], []⟩
theorem ok : M.Ok := ⟨.cons call211 (AK.nil), mixed, func113, by kernel_rfl⟩
theorem start (h : Spec prog 211 #[.int .u64 x0] σ (AB R (CI .i64 fun x7 y => R (.returned (.int .i64 x7)) y))) : Spec prog 113 #[.int .u64 x0] σ R := M.start h ok
end LZ
namespace OT
variable {q0 : Option Addr}
def M : Fw := ⟨prog, 131, f131, [], [], false, [(1, 26, true)], [], []⟩
theorem ok : M.Ok := ⟨AK.nil, mixed, func131, by kernel_rfl⟩
theorem start (h : Pq q0 fun b4 o4 => LS σ b4 (o4 + 3) fun p6 n6 c6 => Br (0 < (n6 : Int)) (LS σ b4 (o4 + 3) fun OI n13 O5 => LS σ b4 (o4 + 3) fun ow n17 ox => AN ((n17 : Int) - 1) ∧ Pq OI fun BG cG => In (((n17 : Int) - 1)) (n13 : Int) ∧ LI .i64 σ BG (cG + Int.toNat ((n17 : Int) - 1) * 1) fun H9 => LI .i64 σ b4 (o4 + 4) fun NA => R (.returned (.bool (decide (H9 = NA)))) σ) (R (.returned (.bool false)) σ)) : Spec prog 131 #[.pointer q0] σ R := M.start h ok
end OT
namespace IL
variable {q0 p2 : Option Addr} {s1 : ByteArray} {n2 c2 : Nat}
def M : Fw := ⟨prog, 135, f135, [221], [], false, [], [], []⟩
theorem ok : M.Ok := ⟨.cons call221 (AK.nil), mixed, func135, by kernel_rfl⟩
theorem start (h : Al σ fun b3 => Al (Hp.set σ b3 (.cells #[.pointer q0] 106 (0, 0))) fun b4 => Al (Hp.set (Hp.set σ b3 (.cells #[.pointer q0] 106 (0, 0))) b4 (.cells #[.string s1] 9 (0, 0))) fun b5 => LQ (Hp.set (Hp.set (Hp.set σ b3 (.cells #[.pointer q0] 106 (0, 0))) b4 (.cells #[.string s1] 9 (0, 0))) b5 (.cells #[.slice p2 n2 c2] 84 (0, 0))) b3 0 fun q9 => Spec prog 221 #[.pointer q9, (.func (.func 228) #[] #[(.pointer (aD b4 0)), (.pointer (aD b3 0)), (.pointer (aD b5 0))]), (.func (.func 227) #[] #[(.pointer (aD b3 0)), (.pointer (aD b4 0)), (.pointer (aD b5 0))]), (.func (.func 227) #[] #[(.pointer (aD b3 0)), (.pointer (aD b4 0)), (.pointer (aD b5 0))])] (Hp.set (Hp.set (Hp.set σ b3 (.cells #[.pointer q0] 106 (0, 0))) b4 (.cells #[.string s1] 9 (0, 0))) b5 (.cells #[.slice p2 n2 c2] 84 (0, 0))) (AB R (CI .i64 fun E8 y => R (.returned (.int .i64 E8)) y))) : Spec prog 135 #[.pointer q0, .string s1, .slice p2 n2 c2] σ R := M.start h ok
end IL
namespace Fz
variable {x0 x4 : Int} {s3 : ByteArray}
def M : Fw := ⟨prog, 147, f147, [], [], false, [], [], [(464, [(0, wI), (3, wT), (4, wI)])]⟩
theorem ok : M.Ok := ⟨AK.nil, mixed, func147, by kernel_rfl⟩
def CC := M.pt 0
theorem start (h : CC R x0 (ByteArray.mk #[]) 0 σ) : Spec prog 147 #[.int .i64 x0] σ R := M.start h ok
theorem BS (h : Br (x4 < 8) (10 ≠ (0 : Int) ∧ Df (Int.tmod x0 10) fun Dc => AN (48 + Dc) ∧ Df (IntKind.u8.wrap (48 + Dc)) fun Cd => Al σ fun IE => AJ prog (convert 84 9 (.slice (aD IE 0) 1 1)) (Hp.set σ IE (.cells #[.int .u8 Cd] 5 (0, 0))) (CT fun cE y => (ByteArray.size cE + ByteArray.size s3 ≤ 9223372036854775807) ∧ 10 ≠ (0 : Int) ∧ Df (IntKind.i64.wrap (Int.tdiv x0 10)) fun Fe => AN (x4 + 1) ∧ CC R Fe (cE ++ s3) (x4 + 1) y)) (R (.returned (.string s3)) σ)) : CC R x0 s3 x4 σ := M.of h ok rfl
end Fz
namespace Ey
variable {q0 p5 : Option Addr} {s1 : ByteArray} {n5 c5 : Nat} {tu : Value}
def M : Fw := ⟨prog, 174, f174, [92, 93], [], false, [], [(16, 186)], [(488, [(1, wT), (5, wL), (16, wV)])]⟩
theorem ok : M.Ok := ⟨.cons call92 (.cons call93 (AK.nil)), mixed, func174, by kernel_rfl⟩
def GO := M.pt 0
theorem start (h : Pq q0 fun b8 o8 => LB σ b8 (o8 + 1) fun t10 => Bn t10 (R (.returned (.slice none 0 0)) σ) (LM σ b8 o8 fun m15 => AJ prog (Instr.range 186 (.map m15)) σ (fun z y => ∃ tu, tu = z ∧ GO R s1 none 0 0 tu y))) : Spec prog 174 #[.pointer q0, .string s1] σ R := M.start h ok
theorem GP (h : AJ prog (Instr.next tu false 0) σ (fun v y => (v = (.tuple #[.bool false]) ∧ Spec prog 93 #[.slice p5 n5 c5] y (AB R (fun z AI => z = (.tuple #[]) ∧ R (.returned (.slice p5 n5 c5)) AI))) ∨ (∃ AJx xQ, v = (.tuple #[.bool true, .string AJx, .pointer xQ]) ∧ AJ prog (Instr.entry tu) y (fun z AI => ∃ ei AJy, z = (.tuple #[.string ei, .pointer AJy]) ∧ Spec prog 92 #[.string ei, .string s1] AI (AB R (CB fun t23 Ab => Bo t23 (Al Ab fun PZ => AJ prog (Builtin.append_ #[97, 97] 97 #[.slice p5 n5 c5, (.slice (aD PZ 0) 1 1)]) (Hp.set Ab PZ (.cells #[.string ei] 9 (0, 0))) (CS fun VX n27 R6 A1 => GO R s1 VX n27 R6 tu A1)) (GO R s1 p5 n5 c5 tu Ab))))))) : GO R s1 p5 n5 c5 tu σ := M.of h ok rfl
end Ey
namespace IM
variable {q0 p6 : Option Addr} {s1 : ByteArray} {n6 c6 : Nat} {x7 x8 Cd : Int}
def M : Fw := ⟨prog, 179, f179, [148, 149, 150, 237], [], false, [], [], [(976, [(0, wQ), (1, wT), (6, wL), (7, wI), (8, wI)]), (252, [(0, wQ), (1, wT), (6, wL), (7, wI)]), (4048, [(0, wQ), (1, wT), (6, wL), (7, wI), (12, wI)]), (4051, [(0, wQ), (1, wT), (6, wL), (7, wI), (12, wI)])]⟩
theorem ok : M.Ok := ⟨.cons call148 (.cons call149 (.cons call150 (.cons call237 (AK.nil)))), mixed, func179, by kernel_rfl⟩
def xu := M.pt 0
def No := M.pt 1
def ADw := M.pt 2
def Ev := M.pt 3
theorem start (h : (ByteArray.size s1 + ByteArray.size (ByteArray.mk #[47]) ≤ 9223372036854775807) ∧ Spec prog 149 #[.pointer q0, (.string (s1 ++ (ByteArray.mk #[47])))] σ (AB R (CS fun J4 n19 Ke y => xu R q0 s1 J4 n19 Ke 0 0 y))) : Spec prog 179 #[.pointer q0, .string s1] σ R := M.start h ok
theorem qL (h : Br (x8 < (n6 : Int)) (Pq p6 fun Kd TI => In x8 (n6 : Int) ∧ LT σ Kd (TI + Int.toNat x8 * 1) fun s30 => (ByteArray.size s1 + ByteArray.size (ByteArray.mk #[47, 99]) ≤ 9223372036854775807) ∧ Spec prog 150 #[.string s30, (.string (s1 ++ (ByteArray.mk #[47, 99])))] σ (AB R (CI .i64 fun su y => AN (x8 + 1) ∧ xu R q0 s1 (aD Kd TI) n6 c6 (if x7 < su then su else x7) (x8 + 1) y))) ((ByteArray.size s1 + ByteArray.size (ByteArray.mk #[47, 110, 101, 119]) ≤ 9223372036854775807) ∧ Spec prog 237 #[.pointer q0, (.string (s1 ++ (ByteArray.mk #[47, 110, 101, 119])))] σ (AB R (fun z y => ∃ AJz ADx, z = (.tuple #[.int .i64 AJz, .bool ADx]) ∧ Bo ADx ((ByteArray.size s1 + ByteArray.size (ByteArray.mk #[47, 110, 101, 119]) ≤ 9223372036854775807) ∧ Spec prog 148 #[.pointer q0, (.string (s1 ++ (ByteArray.mk #[47, 110, 101, 119])))] y (AB R (CI .i64 fun eR AI => Br (eR ≠ 0) (R (.returned (.tuple #[.int .i64 0, .int .i64 eR])) AI) (No R q0 s1 p6 n6 c6 x7 AI)))) (No R q0 s1 p6 n6 c6 x7 y))))) : xu R q0 s1 p6 n6 c6 x7 x8 σ := M.of h ok rfl
theorem I1 (h : ADw R q0 s1 p6 n6 c6 x7 0 σ) : No R q0 s1 p6 n6 c6 x7 σ := M.of h ok rfl
theorem qM (h : Br (Cd < (n6 : Int)) (Pq p6 fun NG iJ => In Cd (n6 : Int) ∧ LT σ NG (iJ + Int.toNat Cd * 1) fun s59 => (ByteArray.size s1 + ByteArray.size (ByteArray.mk #[47, 99]) ≤ 9223372036854775807) ∧ In Cd (n6 : Int) ∧ LT σ NG (iJ + Int.toNat Cd * 1) fun s66 => (ByteArray.size s1 + ByteArray.size (ByteArray.mk #[47, 115]) ≤ 9223372036854775807) ∧ Spec prog 150 #[.string s59, (.string (s1 ++ (ByteArray.mk #[47, 99])))] σ (AB R (CI .i64 fun wN y => Kp [NG] σ y ∧ Spec prog 150 #[.string s66, (.string (s1 ++ (ByteArray.mk #[47, 115])))] y (AB R (CI .i64 fun x69 AI => Br (1 ≤ wN) (Br (wN < x7) (In Cd (n6 : Int) ∧ LT AI NG (iJ + Int.toNat Cd * 1) fun s90 => Spec prog 148 #[.pointer q0, .string s90] AI (AB R (CI .i64 fun tw Ab => Br (tw ≠ 0) (R (.returned (.tuple #[.int .i64 0, .int .i64 tw])) Ab) (Ev R q0 s1 (aD NG iJ) n6 c6 x7 Cd Ab)))) (Br (1 ≤ x69) (Br (x69 ≤ x7) (In Cd (n6 : Int) ∧ LT AI NG (iJ + Int.toNat Cd * 1) fun s90 => Spec prog 148 #[.pointer q0, .string s90] AI (AB R (CI .i64 fun tw Ab => Br (tw ≠ 0) (R (.returned (.tuple #[.int .i64 0, .int .i64 tw])) Ab) (Ev R q0 s1 (aD NG iJ) n6 c6 x7 Cd Ab)))) (Ev R q0 s1 (aD NG iJ) n6 c6 x7 Cd AI)) (Ev R q0 s1 (aD NG iJ) n6 c6 x7 Cd AI))) (Br (1 ≤ x69) (Br (x69 ≤ x7) (In Cd (n6 : Int) ∧ LT AI NG (iJ + Int.toNat Cd * 1) fun s90 => Spec prog 148 #[.pointer q0, .string s90] AI (AB R (CI .i64 fun tw Ab => Br (tw ≠ 0) (R (.returned (.tuple #[.int .i64 0, .int .i64 tw])) Ab) (Ev R q0 s1 (aD NG iJ) n6 c6 x7 Cd Ab)))) (Ev R q0 s1 (aD NG iJ) n6 c6 x7 Cd AI)) (Ev R q0 s1 (aD NG iJ) n6 c6 x7 Cd AI))))))) (R (.returned (.tuple #[.int .i64 x7, .int .i64 0])) σ)) : ADw R q0 s1 p6 n6 c6 x7 Cd σ := M.of h ok rfl
end IM
namespace G0
variable {q0 p4 : Option Addr} {x1 x5 x6 : Int} {n4 c4 : Nat}
def M : Fw := ⟨prog, 183, f183, [149, 150, 180], [], false, [(8, 18, false)], [], [(4048, [(0, wQ), (1, wI), (4, wL), (5, wI)]), (4051, [(0, wQ), (1, wI), (4, wL), (5, wI)]), (518458, [(0, wQ), (1, wI), (4, wL), (5, wI), (6, wI)])]⟩
theorem ok : M.Ok := ⟨.cons call149 (.cons call150 (.cons call180 (AK.nil))), mixed, func183, by kernel_rfl⟩
def As := M.pt 0
def AJ0 := M.pt 1
def QP := M.pt 2
theorem start (h : Pq q0 fun D8 LL => LQ σ D8 LL fun w8 => LT σ D8 (LL + 1) fun s16 => (ByteArray.size s16 + ByteArray.size (ByteArray.mk #[47]) ≤ 9223372036854775807) ∧ Spec prog 149 #[.pointer w8, (.string (s16 ++ (ByteArray.mk #[47])))] σ (AB R (CS fun QJ n18 TB y => AJ prog (Instr.storeAt 3 (.pointer (aD D8 (LL + 4))) (.int .i64 0)) y (fun _ AI => AJ prog (Instr.storeAt 3 (.pointer (aD D8 (LL + 2))) (.int .i64 0)) AI (fun _ Ab => AJ prog (Instr.storeAt 3 (.pointer (aD D8 (LL + 3))) (.int .i64 (-1))) Ab (fun _ A1 => AJ prog (Instr.storeAt 3 (.pointer (aD D8 (LL + 5))) (.int .i64 0)) A1 (fun _ DD => As R (aD D8 LL) x1 QJ n18 TB 0 DD))))))) : Spec prog 183 #[.pointer q0, .int .i64 x1] σ R := M.start h ok
theorem BO (h : Br (x5 < (n4 : Int)) (Pq q0 fun Nn cX => LI .i64 σ Nn (cX + 4) fun LR => Pq p4 fun WT Yj => In x5 (n4 : Int) ∧ LT σ WT (Yj + Int.toNat x5 * 1) fun s45 => LT σ Nn (cX + 1) fun s49 => (ByteArray.size s49 + ByteArray.size (ByteArray.mk #[47, 99]) ≤ 9223372036854775807) ∧ Spec prog 150 #[.string s45, (.string (s49 ++ (ByteArray.mk #[47, 99])))] σ (AB R (CI .i64 fun Yk y => Kp [Nn] σ y ∧ AJ prog (Instr.storeAt 3 (.pointer (aD Nn (cX + 4))) (.int .i64 (if LR < Yk then Yk else LR))) y (fun _ AI => In x5 (n4 : Int) ∧ LT AI WT (Yj + Int.toNat x5 * 1) fun s58 => LT AI Nn (cX + 1) fun s62 => (ByteArray.size s62 + ByteArray.size (ByteArray.mk #[47, 115]) ≤ 9223372036854775807) ∧ Spec prog 150 #[.string s58, (.string (s62 ++ (ByteArray.mk #[47, 115])))] AI (AB R (CI .i64 fun x64 Ab => Br (0 < x64) (LI .i64 Ab Nn (cX + 3) fun wj => Br (0 ≤ wj) (LI .i64 Ab Nn (cX + 5) fun tC => AN (tC + 1) ∧ AJ prog (Instr.storeAt 3 (.pointer (aD Nn (cX + 5))) (.int .i64 (tC + 1))) Ab (fun _ A1 => QP R (aD Nn cX) x1 (aD WT Yj) n4 c4 x5 x64 A1)) (QP R (aD Nn cX) x1 (aD WT Yj) n4 c4 x5 x64 Ab)) (AJ0 R (aD Nn cX) x1 (aD WT Yj) n4 c4 x5 Ab))))))) (Pq q0 fun xv xw => LI .i64 σ xv (xw + 3) fun xi => Br (xi < 0) (LI .i64 σ xv (xw + 4) fun qN => AN ((if x1 < qN then qN else x1) + 1) ∧ AJ prog (Instr.storeAt 3 (.pointer (aD xv (xw + 2))) (.int .i64 ((if x1 < qN then qN else x1) + 1))) σ (fun _ y => R (.returned (.tuple #[])) y)) (R (.returned (.tuple #[])) σ))) : As R q0 x1 p4 n4 c4 x5 σ := M.of h ok rfl
end G0
namespace IN
variable {En Zy xP Ed Cd : Int} {HB iD er O1 : Option Addr} {GI HC iE iF et eu n10 Hf : Nat}
def M : Fw := ⟨prog, 186, f186, [], [1, 2, 3, 5], false, [], [], [(232, [(2, .X 41 [.I .u64, .L]), (3, .X 41 [.I .u64, .L]), (10, wL), (11, wI), (12, wI)])]⟩
theorem ok : M.Ok := ⟨AK.nil, mixed, func186, by kernel_rfl⟩
def A5 := M.pt 0
theorem start (h : ∀ b1 : Nat, ∀ b2 : Nat, ∀ b3 : Nat, A5 R 0 none 0 0 En none 0 0 HB GI HC (GI : Int) 0 σ) : Spec prog 186 #[.agg #[.int .u64 En, .slice HB GI HC]] σ R := M.start h ok
theorem AW (h : Br (Cd < Ed) (Pq O1 fun Jl MD => In Cd (n10 : Int) ∧ ∃ kF Wg kG kH kI, Dz σ Jl (MD + Int.toNat Cd * 3) [.int .i64 kF, .int .i64 Wg, .slice kG kH kI] ∧ ∀ b5 : Nat, Al σ fun Kc => AJ prog (Builtin.append_ #[194, 194] 194 #[(.slice (aD Kc 0) 0 0), .slice kG kH kI]) (Hp.set σ Kc (.cells #[] 70 (0, 0))) (CS fun J4 n19 Ke y => Al y fun NB => AJ prog (Builtin.append_ #[39, 39] 39 #[.slice er et eu, (.slice (aD NB 0) 1 1)]) (Hp.set y NB (.cells #[.int .i64 kF, .int .i64 Wg, .slice J4 n19 Ke] 196 (0, 0))) (CS fun OJ n25 ND AI => AN (Cd + 1) ∧ A5 R Zy iD iE iF xP OJ n25 ND (aD Jl MD) n10 Hf Ed (Cd + 1) AI))) (R (.returned (.agg #[.int .u64 xP, .slice er et eu])) σ)) : A5 R Zy iD iE iF xP er et eu O1 n10 Hf Ed Cd σ := M.of2 h ok rfl fun _ _ => by kernel_rfl
end IN
namespace IP
variable {sf : Option Addr} {Iw Hg x1 x2 : Int}
def M : Fw := ⟨prog, 190, f190, [], [3], false, [(3, 13, true), (5, 10, true)], [], []⟩
theorem ok : M.Ok := ⟨AK.nil, mixed, func190, by kernel_rfl⟩
theorem start (h : ∀ b3 : Nat, Br (Hg < 0) (R (.returned (.int .i64 131)) σ) (Pq sf fun Jl MD => LS σ Jl (MD + 1) fun Yq n16 Zx => Pq Yq fun Yc oc => In Hg (n16 : Int) ∧ LI .i64 σ Yc ((oc + Int.toNat Hg * 3) + 1) fun H9 => Br (H9 ≠ x1) (R (.returned (.int .i64 132)) σ) (LS σ Jl (MD + 1) fun w9 n28 c28 => Pq w9 fun j0 j7 => In Hg (n28 : Int) ∧ AJ prog (Instr.storeAt 3 (.pointer (aD j0 ((j7 + Int.toNat Hg * 3) + 1))) (.int .i64 x2)) σ (fun _ y => R (.returned (.int .i64 0)) y)))) : Spec prog 190 #[.agg #[.pointer sf, .int .i64 Iw, .int .i64 Hg], .int .i64 x1, .int .i64 x2] σ R := M.start h ok
end IP
namespace bytes_Equal
variable {p0 p1 : Option Addr} {n0 c0 n1 c1 : Nat}
def M : Fw := ⟨prog, 196, f196, [], [], false, [], [], []⟩
theorem ok : M.Ok := ⟨AK.nil, mixed, func196, by kernel_rfl⟩
theorem start (h : AJ prog (convert 84 9 (.slice p0 n0 c0)) σ (CT fun s6 y => AJ prog (convert 84 9 (.slice p1 n1 c1)) y (CT fun s8 AI => R (.returned (.bool (ByteArray.toList s6 == ByteArray.toList s8))) AI))) : Spec prog 196 #[.slice p0 n0 c0, .slice p1 n1 c1] σ R := M.start h ok
end bytes_Equal
namespace KF
variable {p0 p3 p8 : Option Addr} {n0 c0 n3 c3 n8 c8 : Nat} {x9 Dc : Int}
def M : Fw := ⟨prog, 230, f230, [128], [], false, [], [], [(232, [(3, wL), (8, wL), (9, wI), (10, wI)])]⟩
theorem ok : M.Ok := ⟨.cons call128 (AK.nil), mixed, func230, by kernel_rfl⟩
def A5 := M.pt 0
theorem start (h : A5 R none 0 0 p0 n0 c0 (n0 : Int) 0 σ) : Spec prog 230 #[.slice p0 n0 c0] σ R := M.start h ok
theorem AW (h : Br (Dc < x9) (Pq p8 fun O2 QK => In Dc (n8 : Int) ∧ LS σ O2 (QK + Int.toNat Dc * 1) fun OI n13 O5 => Spec prog 128 #[.slice OI n13 O5] σ (AB R (fun z y => ∃ ADz AD0 AD1 qC, z = (.tuple #[.slice ADz AD0 AD1, .int .i64 qC]) ∧ AJ prog (Builtin.append_ #[84, 84] 84 #[.slice p3 n3 c3, .slice ADz AD0 AD1]) y (CS fun p21 n21 c21 AI => AN (Dc + 1) ∧ A5 R p21 n21 c21 (aD O2 QK) n8 c8 x9 (Dc + 1) AI)))) (R (.returned (.slice p3 n3 c3)) σ)) : A5 R p3 n3 c3 p8 n8 c8 x9 Dc σ := M.of h ok rfl
end KF
namespace IQ
variable {q0 : Option Addr} {s1 s2 : ByteArray}
def M : Fw := ⟨prog, 231, f231, [221], [], false, [], [], []⟩
theorem ok : M.Ok := ⟨.cons call221 (AK.nil), mixed, func231, by kernel_rfl⟩
theorem start (h : Al σ fun b3 => Al (Hp.set σ b3 (.cells #[.pointer q0] 106 (0, 0))) fun b4 => Al (Hp.set (Hp.set σ b3 (.cells #[.pointer q0] 106 (0, 0))) b4 (.cells #[.string s1] 9 (0, 0))) fun b5 => LQ (Hp.set (Hp.set (Hp.set σ b3 (.cells #[.pointer q0] 106 (0, 0))) b4 (.cells #[.string s1] 9 (0, 0))) b5 (.cells #[.string s2] 9 (0, 0))) b3 0 fun q7 => Spec prog 221 #[.pointer q7, (.func (.func 292) #[] #[(.pointer (aD b5 0)), (.pointer (aD b3 0)), (.pointer (aD b4 0))]), (.func (.func 293) #[] #[(.pointer (aD b3 0)), (.pointer (aD b4 0)), (.pointer (aD b5 0))]), (.func (.func 225) #[] #[])] (Hp.set (Hp.set (Hp.set σ b3 (.cells #[.pointer q0] 106 (0, 0))) b4 (.cells #[.string s1] 9 (0, 0))) b5 (.cells #[.string s2] 9 (0, 0))) (AB R (CI .i64 fun Dc y => R (.returned (.int .i64 Dc)) y))) : Spec prog 231 #[.pointer q0, .string s1, .string s2] σ R := M.start h ok
end IQ
namespace slices_Contains_string
variable {p0 : Option Addr} {n0 c0 : Nat} {s1 : ByteArray}
def M : Fw := ⟨prog, 271, f271, [308], [], false, [], [], []⟩
theorem ok : M.Ok := ⟨.cons call308 (AK.nil), mixed, func271, by kernel_rfl⟩
theorem start (h : Spec prog 308 #[.slice p0 n0 c0, .string s1] σ (AB R (CI .i64 fun x7 y => R (.returned (.bool (decide (0 ≤ x7)))) y))) : Spec prog 271 #[.slice p0 n0 c0, .string s1] σ R := M.start h ok
end slices_Contains_string
namespace slices_Index_string
variable {p0 : Option Addr} {n0 c0 : Nat} {s1 : ByteArray} {x7 x8 : Int}
def M : Fw := ⟨prog, 308, f308, [], [], false, [], [], [(104, [(0, wL), (1, wT), (7, wI), (8, wI)])]⟩
theorem ok : M.Ok := ⟨AK.nil, mixed, func308, by kernel_rfl⟩
def Ni := M.pt 0
theorem start (h : Ni R p0 n0 c0 s1 (n0 : Int) 0 σ) : Spec prog 308 #[.slice p0 n0 c0, .string s1] σ R := M.start h ok
theorem D6 (h : Br (x8 < x7) (Pq p0 fun Jl MD => In x8 (n0 : Int) ∧ LT σ Jl (MD + Int.toNat x8 * 1) fun nV => Bo (ByteArray.toList s1 == ByteArray.toList nV) (R (.returned (.int .i64 x8)) σ) (AN (x8 + 1) ∧ Ni R (aD Jl MD) n0 c0 s1 x7 (x8 + 1) σ)) (R (.returned (.int .i64 (-1))) σ)) : Ni R p0 n0 c0 s1 x7 x8 σ := M.of h ok rfl
end slices_Index_string
end TwW
end
end
section
namespace TwW
open Go Tw Go.Proofs.Tryz
instance : sI prog 186 9 298 := ⟨underlying186, underlying9⟩
theorem xx : ∀ w, (zeroValue 298).run prog w = .ok (.pointer none) w := fun w => by
 have h : prog.info? 298 = some t298 := by kernel_rfl
 have hz : t298.zero = some (.pointer none) := by kernel_rfl
 simp [zeroValue, typeInfo, h, hz, Result.andThen]
def ey (u : UInt8) : Bool := (97 ≤ u.toNat && u.toNat ≤ 122) || (48 ≤ u.toNat && u.toNat ≤ 57) || u.toNat == 47 || u.toNat == 46 || u.toNat == 45
def Ae (s : ByteArray) : Bool := decide (0 < s.size) && decide (s.size ≤ 64) && s.data.toList.all ey
structure Fl where
 data : List Int
 GD : Nat
structure Dk where
 files : ByteArray → Option Fl
 up : Bool
 armed : Bool
 cnt : Nat
structure Row where
 name : ByteArray
 f : Nat
 born : Nat
 T : TypeId
 p : Option Addr
 c : Nat
 fl : Fl
abbrev Row.n (r : Row) : Nat := r.fl.data.length
def Row.Cj (r : Row) : MapEntry := Tw.Cj r.name (.pointer (some ⟨r.f, 0, none⟩)) r.born
def Row.blocks (r : Row) : List Nat := r.f :: DI r.p
structure Mg (σ : Hp) (r : Row) : Prop where
 obj : σ r.f = some (.cells #[.slice r.p r.n r.c, .int .i64 r.fl.GD] r.T (0, 0))
 own : AS .u8 σ r.p r.n r.c r.fl.data
 GD : r.fl.GD ≤ r.n
 small : r.n ≤ 4194304
 nm : Ae r.name = true
def Row.look (rows : List Row) (s : ByteArray) : Option Fl := (rows.find? fun r => decide (r.name = s)).map (·.fl)
def EW (d m : Nat) (rows : List Row) : List Nat := d :: m :: rows.flatMap Row.blocks
structure Ao (σ : Hp) (d : Nat) (D : Dk) (S : List Nat) (m clock : Nat) (rows : List Row) (T : TypeId) (left keep writes : Int) : Prop where
 EW : S = EW d m rows
 ne : m ≠ d
 sep : rows.Pairwise fun r s => ∀ b ∈ r.blocks, b ∉ s.blocks
 out : ∀ r ∈ rows, r.f ∉ DI r.p ∧ d ∉ r.blocks ∧ m ∉ r.blocks
 obj : σ d = some (.cells #[.map (some m), .bool D.up, .bool D.armed, .int .i64 left, .int .i64 keep, .int .u64 writes] T (0, 0))
 map : A2 σ m (rows.map Row.Cj) clock
 row : ∀ r ∈ rows, Mg σ r
 files : D.files = Row.look rows
 cnt : rows.length ≤ D.cnt
def A6 (σ : Hp) (d : Nat) (D : Dk) (S : List Nat) : Prop := ∃ m clock rows T left keep writes, Ao σ d D S m clock rows T left keep writes
theorem Own.loc {s : Nat} {σ σ' : Hp} {p : Option Addr} {n c : Nat} {cs : List Value} (h : Own s σ p n c cs) (hs : ∀ b ∈ DI p, σ' b = σ b) : Own s σ' p n c cs := by
 refine ⟨h.1, h.2.1, h.2.2.imp id ?_⟩
 rintro ⟨b, o, arr, T, rfl, hb, r⟩
 exact ⟨b, o, arr, T, rfl, (hs b (by simp [DI])).trans hb, r⟩
theorem Mg.loc {σ σ' : Hp} {r : Row} (h : Mg σ r) (hs : ∀ b ∈ r.blocks, σ' b = σ b) : Mg σ' r :=
 ⟨(hs _ (by simp [Row.blocks])).trans h.obj, Own.loc h.own fun b hb => hs b (by simp [Row.blocks, hb]), h.GD, h.small, h.nm⟩
theorem Mg.known {σ : Hp} {r : Row} (h : Mg σ r) : ∀ b ∈ r.blocks, σ b ≠ none := by
 intro b hb
 rcases List.mem_cons.1 hb with rfl | hb
 · rw [h.obj]; simp
 · cases hp : r.p with
   | none => rw [hp] at hb; cases hb
   | some a => rw [hp] at hb; simp [DI] at hb; subst hb; exact h.own.block a hp
theorem F0 {d m b : Nat} {rows : List Row} : b ∈ EW d m rows ↔ b = d ∨ b = m ∨ ∃ r ∈ rows, b ∈ r.blocks := by simp [EW]
section
variable {σ σ' : Hp} {d : Nat} {D : Dk} {S : List Nat} {m clock : Nat} {rows : List Row} {T : TypeId} {left keep writes : Int}
theorem Ao.loc (h : Ao σ d D S m clock rows T left keep writes) (hs : ∀ b ∈ S, σ' b = σ b) : Ao σ' d D S m clock rows T left keep writes := by
 have hS := h.EW
 subst hS
 refine ⟨rfl, h.ne, h.sep, h.out, (hs d (by simp [TwW.EW])).trans h.obj, h.map.loc (hs m (by simp [TwW.EW])), fun r hr => (h.row r hr).loc fun b hb => hs b (F0.2 (.inr (.inr ⟨r, hr, hb⟩))), h.files, h.cnt⟩
theorem Ao.known (h : Ao σ d D S m clock rows T left keep writes) : ∀ b ∈ S, σ b ≠ none := by
 have hS := h.EW
 subst hS
 intro b hb
 rcases F0.1 hb with rfl | rfl | ⟨r, hr, hb⟩
 · rw [h.obj]; simp
 · rw [h.map.1]; simp
 · exact (h.row r hr).known b hb
theorem Ao.mono (h : Ao σ d D S m clock rows T left keep writes) (hx : Ext σ σ') : Ao σ' d D S m clock rows T left keep writes := h.loc fun b hb => by
 cases hs : σ b with
 | none => exact absurd hs (h.known b hb)
 | some o => exact hx b o hs
theorem A6.mono (h : A6 σ d D S) (hx : Ext σ σ') : A6 σ' d D S := by
 obtain ⟨m, c, r, T, a, b, e, h⟩ := h; exact ⟨m, c, r, T, a, b, e, h.mono hx⟩
theorem A6.known (h : A6 σ d D S) : ∀ b ∈ S, σ b ≠ none := by obtain ⟨m, c, r, T, a, b, e, h⟩ := h; exact h.known
theorem A6.loc (h : A6 σ d D S) (hs : ∀ b ∈ S, σ' b = σ b) : A6 σ' d D S := by
 obtain ⟨m, c, r, T, a, b, e, h⟩ := h; exact ⟨m, c, r, T, a, b, e, h.loc hs⟩
theorem Ao.Qc (h : Ao σ d D S m clock rows T left keep writes) : d ∈ S := by rw [h.EW]; simp [TwW.EW]
theorem Ao.Mh (h : Ao σ d D S m clock rows T left keep writes) : m ∈ S := by rw [h.EW]; simp [TwW.EW]
theorem Ao.OU (h : Ao σ d D S m clock rows T left keep writes) {r : Row} (hr : r ∈ rows) {b : Nat} (hb : b ∈ r.blocks) : b ∈ S := by rw [h.EW]; exact F0.2 (.inr (.inr ⟨r, hr, hb⟩))
theorem Ao.put (h : Ao σ d D S m clock rows T left keep writes) {up armed : Bool} {left' XA writes' : Int} {cnt : Nat} (hc : rows.length ≤ cnt) :
   Ao (σ.set d (.cells #[.map (some m), .bool up, .bool armed, .int .i64 left', .int .i64 XA, .int .u64 writes'] T (0, 0))) d ⟨D.files, up, armed, cnt⟩ S m clock rows T left' XA writes' := by
 have hS := h.EW
 subst hS
 refine ⟨rfl, h.ne, h.sep, h.out, Hp.AA _ _ _, h.map.loc (Hp.AH h.ne), fun r hr => (h.row r hr).loc fun b hb => Hp.AH fun e => (h.out r hr).2.1 (e ▸ hb), h.files, hc⟩
theorem Row.FV {s : ByteArray} (h : ∀ r ∈ rows, r.name ≠ s) : Row.look rows s = none := by
 unfold Row.look
 rw [List.find?_eq_none.2 (by simpa using h)]; rfl
theorem Row.cg {r : Row} {r1 r2 : List Row} (hn : ((r1 ++ r :: r2).map (·.name)).Nodup) : Row.look (r1 ++ r :: r2) r.name = some r.fl := by
 unfold Row.look
 have : ∀ x ∈ r1, ¬ (decide (x.name = r.name)) = true := fun x hx => by
   simp only [List.map_append, List.map_cons] at hn
   have := (List.nodup_append.1 hn).2.2 x.name (List.mem_map.2 ⟨x, hx, rfl⟩) r.name (by simp)
   simpa using this
 rw [List.find?_append, List.find?_eq_none.2 this]
 simp
theorem Ao.names (h : Ao σ d D S m clock rows T left keep writes) : (rows.map (·.name)).Nodup := by
 have := h.map.nodup
 rw [List.map_map] at this
 have e : (rows.map ((fun e : MapEntry => e.key) ∘ Row.Cj)) = (rows.map (·.name)).map Value.string := by rw [List.map_map]; rfl
 rw [e] at this
 rw [List.Nodup, List.pairwise_map] at this
 exact this.imp fun Ad e => Ad (by rw [e])
def BD (fs : ByteArray → Option Fl) (s : ByteArray) (x : Option Fl) : ByteArray → Option Fl := fun n => if n = s then x else fs n
theorem Row.Np {r : Row} {s : ByteArray} : Row.look (r :: rows) s = if r.name = s then some r.fl else Row.look rows s := by
 unfold Row.look
 rw [List.find?_cons]
 by_cases h : r.name = s <;> simp [h]
theorem Row.KG {r1 r2 : List Row} {s : ByteArray} : Row.look (r1 ++ r2) s = (Row.look r1 s).or (Row.look r2 s) := by
 unfold Row.look
 rw [List.find?_append]
 cases List.find? (fun r => decide (r.name = s)) r1 <;> simp
theorem HS {r : Row} {r1 r2 : List Row} (hn : ((r1 ++ r :: r2).map (·.name)).Nodup) : (∀ x ∈ r1, x.name ≠ r.name) ∧ ∀ x ∈ r2, x.name ≠ r.name := by
 simp only [List.map_append, List.map_cons] at hn
 have h := List.nodup_append.1 hn
 have h2 := List.nodup_cons.1 h.2.1
 exact ⟨fun x hx => h.2.2 x.name (List.mem_map.2 ⟨x, hx, rfl⟩) r.name (by simp), fun x hx e => h2.1 (e ▸ List.mem_map.2 ⟨x, hx, rfl⟩)⟩
theorem Row.OV {r r' : Row} {r1 r2 : List Row} (hn : ((r1 ++ r :: r2).map (·.name)).Nodup) (h : r'.name = r.name) : Row.look (r1 ++ r' :: r2) = BD (Row.look (r1 ++ r :: r2)) r.name (some r'.fl) := by
 funext s
 have h1 := (HS hn).1
 simp only [Row.KG, Row.Np, BD, h]
 by_cases hs : s = r.name
 · subst hs
   simp [Row.FV h1]
 · simp [hs, Ne.symm hs]
theorem Row.TO {r : Row} (h : ∀ x ∈ rows, x.name ≠ r.name) : Row.look (rows ++ [r]) = BD (Row.look rows) r.name (some r.fl) := by
 funext s
 simp only [Row.KG, Row.Np, BD]
 by_cases hs : s = r.name
 · subst hs
   simp [Row.FV h]
 · simp [hs, Ne.symm hs, Row.look]
theorem Row.XB {r : Row} {r1 r2 : List Row} (hn : ((r1 ++ r :: r2).map (·.name)).Nodup) : Row.look (r1 ++ r2) = BD (Row.look (r1 ++ r :: r2)) r.name none := by
 funext s
 have h1 := HS hn
 simp only [Row.KG, Row.Np, BD]
 by_cases hs : s = r.name
 · subst hs
   simp [Row.FV h1.1, Row.FV h1.2]
 · simp [hs, Ne.symm hs]
theorem Ao.change {r r' : Row} {r1 r2 : List Row} (h : Ao σ d D S m clock (r1 ++ r :: r2) T left keep writes) (Ez : r'.name = r.name) (hf : r'.f = r.f) (hb : r'.born = r.born) (hr : Mg σ' r') (Ad : r'.f ∉ DI r'.p)
   (hx : Ext (σ.off r.blocks) (σ'.off r'.blocks)) :
   Ao σ' d { D with files := BD D.files r.name (some r'.fl) } (TwW.EW d m (r1 ++ r' :: r2)) m clock (r1 ++ r' :: r2) T left keep writes ∧ Ext (σ.off S) (σ'.off (TwW.EW d m (r1 ++ r' :: r2))) := by
 have FB := h.out
 have XC := h.sep
 have ez := h.row
 have CV : r ∈ r1 ++ r :: r2 := by simp
 have keep : ∀ b, b ∉ r.blocks → σ b ≠ none → σ' b = σ b ∧ b ∉ r'.blocks := fun b h1 h2 => by
   cases hs : σ b with
   | none => exact absurd hs h2
   | some o =>
     have := Hp.AG.1 (hx b o (Hp.AG.2 ⟨h1, hs⟩))
     exact ⟨this.2, this.1⟩
 have hd := keep d (FB r CV).2.1 (by rw [h.obj]; simp)
 have hm := keep m (FB r CV).2.2 (by rw [h.map.1]; simp)
 rw [List.pairwise_append, List.pairwise_cons] at XC
 have o1 : ∀ x ∈ r1, ∀ b ∈ x.blocks, σ' b = σ b ∧ b ∉ r'.blocks := fun x hx b hb => keep b (XC.2.2 x hx r (by simp) b hb) ((ez x (by simp [hx])).known b hb)
 have o2 : ∀ x ∈ r2, ∀ b ∈ x.blocks, σ' b = σ b ∧ b ∉ r'.blocks := fun x hx b hb => keep b (fun JW => XC.2.1.1 x hx b JW hb) ((ez x (by simp [hx])).known b hb)
 refine ⟨⟨rfl, h.ne, ?_, ?_, hd.1.trans h.obj, ?_, ?_, ?_, ?_⟩, ?_⟩
 · rw [List.pairwise_append, List.pairwise_cons]
   refine ⟨XC.1, ⟨fun x hx b hb JW => (o2 x hx b JW).2 hb, XC.2.1.2⟩, fun x BJ y hy b G8 => ?_⟩
   rcases List.mem_cons.1 hy with rfl | hy
   · exact (o1 x BJ b G8).2
   · exact XC.2.2 x BJ y (by simp [hy]) b G8
 · intro x hx
   rcases List.mem_append.1 hx with hx | hx
   · exact FB x (by simp [hx])
   · rcases List.mem_cons.1 hx with rfl | hx
     · exact ⟨Ad, hd.2, hm.2⟩
     · exact FB x (by simp [hx])
 · have : (r1 ++ r' :: r2).map Row.Cj = (r1 ++ r :: r2).map Row.Cj := by simp [Row.Cj, Ez, hf, hb]
   rw [this]; exact h.map.loc hm.1
 · intro x hx
   rcases List.mem_append.1 hx with hx | hx
   · exact (ez x (by simp [hx])).loc fun b hb => (o1 x hx b hb).1
   · rcases List.mem_cons.1 hx with rfl | hx
     · exact hr
     · exact (ez x (by simp [hx])).loc fun b hb => (o2 x hx b hb).1
 · show BD D.files r.name _ = _
   rw [h.files, Row.OV h.names Ez]
 · have := h.cnt; simpa using this
 · intro b o hb
   obtain ⟨VZ, tx⟩ := Hp.AG.1 hb
   rw [h.EW, F0] at VZ
   have hk := keep b (fun JW => VZ (.inr (.inr ⟨r, CV, JW⟩))) (by rw [tx]; simp)
   refine Hp.AG.2 ⟨fun JW => ?_, hk.1.trans tx⟩
   rcases F0.1 JW with e | e | ⟨x, hx, Qd⟩
   · exact VZ (.inl e)
   · exact VZ (.inr (.inl e))
   · rcases List.mem_append.1 hx with hx | hx
     · exact VZ (.inr (.inr ⟨x, by simp [hx], Qd⟩))
     · rcases List.mem_cons.1 hx with rfl | hx
       · exact hk.2 Qd
       · exact VZ (.inr (.inr ⟨x, by simp [hx], Qd⟩))
theorem Ao.kX (h : Ao σ d D S m clock rows T left keep writes) {rows' : List Row} {clock' : Nat} {fs : ByteArray → Option Fl} {cnt : Nat} (hσ : ∀ b, b ≠ m → σ' b = σ b) (hm : A2 σ' m (rows'.map Row.Cj) clock')
   (ez : ∀ r ∈ rows', Mg σ r) (CV : ∀ r ∈ rows', ∀ b ∈ r.blocks, b ∈ S ∧ b ≠ d ∧ b ≠ m) (AD2 : ∀ r ∈ rows', r.f ∉ DI r.p) (XC : rows'.Pairwise fun r s => ∀ b ∈ r.blocks, b ∉ s.blocks) (JO : fs = Row.look rows') (hc : rows'.length ≤ cnt) :
   Ao σ' d ⟨fs, D.up, D.armed, cnt⟩ (TwW.EW d m rows') m clock' rows' T left keep writes ∧ Ext (σ.off S) (σ'.off (TwW.EW d m rows')) := by
 refine ⟨⟨rfl, h.ne, XC, fun r hr => ⟨AD2 r hr, fun hd => (CV r hr d hd).2.1 rfl, fun hm => (CV r hr m hm).2.2 rfl⟩, (hσ d (Ne.symm h.ne)).trans h.obj, hm, fun r hr => (ez r hr).loc fun b hb => hσ b (CV r hr b hb).2.2, JO, hc⟩, fun b o hb => ?_⟩
 obtain ⟨VZ, tx⟩ := Hp.AG.1 hb
 refine Hp.AG.2 ⟨fun JW => ?_, (hσ b fun e => VZ (e ▸ h.Mh)).trans tx⟩
 rcases F0.1 JW with e | e | ⟨x, hx, Qd⟩
 · exact VZ (e ▸ h.Qc)
 · exact VZ (e ▸ h.Mh)
 · exact VZ (CV x hx b Qd).1
theorem Ao.push (h : Ao σ d D S m clock rows T left keep writes) {r : Row} (BQ : ∀ x ∈ rows, x.name ≠ r.name) (hb : σ r.f = none) (hp : r.p = none) (hσ : ∀ b, b ≠ m → b ≠ r.f → σ' b = σ b) (hr : Mg σ' r) {clock' : Nat} (hm : A2 σ' m ((rows ++ [r]).map Row.Cj) clock') :
   Ao σ' d ⟨BD D.files r.name (some r.fl), D.up, D.armed, D.cnt + 1⟩ (TwW.EW d m (rows ++ [r])) m clock' (rows ++ [r]) T left keep writes ∧ Ext (σ.off S) (σ'.off (TwW.EW d m (rows ++ [r]))) := by
 have e7 : r.blocks = [r.f] := by simp [Row.blocks, hp, DI]
 have hS : r.f ∉ S := fun hs => h.known _ hs hb
 have hk : ∀ x ∈ rows, ∀ b ∈ x.blocks, b ≠ r.f := fun x hx b JW e => hS (e ▸ h.OU hx JW)
 refine ⟨⟨rfl, h.ne, ?_, ?_, (hσ d (Ne.symm h.ne) fun e => hS (e ▸ h.Qc)).trans h.obj, hm, ?_, ?_, ?_⟩, fun b o JW => ?_⟩
 · rw [List.pairwise_append]
   refine ⟨h.sep, by simp, fun x hx y hy b JW => ?_⟩
   simp only [List.mem_singleton] at hy
   subst hy
   rw [e7]; simpa using hk x hx b JW
 · intro x hx
   rcases List.mem_append.1 hx with hx | hx
   · exact h.out x hx
   · simp only [List.mem_singleton] at hx
     subst hx
     rw [e7, hp]
     exact ⟨by simp [DI], fun e => hS (List.mem_singleton.1 e ▸ h.Qc), fun e => hS (List.mem_singleton.1 e ▸ h.Mh)⟩
 · intro x hx
   rcases List.mem_append.1 hx with hx | hx
   · exact (h.row x hx).loc fun b JW => hσ b (fun e => (h.out x hx).2.2 (e ▸ JW)) (hk x hx b JW)
   · simp only [List.mem_singleton] at hx
     subst hx; exact hr
 · show BD D.files r.name _ = _
   rw [h.files, Row.TO BQ]
 · have := h.cnt; simpa using this
 · obtain ⟨VZ, tx⟩ := Hp.AG.1 JW
   have h1 : b ≠ r.f := fun e => by rw [e, hb] at tx; cases tx
   refine Hp.AG.2 ⟨fun G8 => ?_, (hσ b (fun e => VZ (e ▸ h.Mh)) h1).trans tx⟩
   rcases F0.1 G8 with e | e | ⟨x, hx, Qd⟩
   · exact VZ (e ▸ h.Qc)
   · exact VZ (e ▸ h.Mh)
   · rcases List.mem_append.1 hx with hx | hx
     · exact VZ (h.OU hx Qd)
     · simp only [List.mem_singleton] at hx
       subst hx
       rw [e7] at Qd
       exact h1 (by simpa using Qd)
theorem EX {l1 l2 : List MapEntry} {e : MapEntry} (h : rows.map Row.Cj = l1 ++ e :: l2) : ∃ r1 r r2, rows = r1 ++ r :: r2 ∧ r1.map Row.Cj = l1 ∧ r.Cj = e ∧ r2.map Row.Cj = l2 := by
 obtain ⟨r1, r', rfl, h1, h2⟩ := List.map_eq_append_iff.1 h
 obtain ⟨r, r2, rfl, h3, h4⟩ := List.map_eq_cons_iff.1 h2
 exact ⟨r1, r, r2, rfl, h1, h3, h4⟩
theorem GU {r : Row} {s : ByteArray} : r.Cj.key = .string s ↔ r.name = s := by simp [Row.Cj]
theorem IS {s : ByteArray} (h : ∀ x ∈ rows.map Row.Cj, x.key ≠ .string s) : ∀ r ∈ rows, r.name ≠ s := fun r hr e => h r.Cj (List.mem_map.2 ⟨r, hr, rfl⟩) (GU.2 e)
theorem A6.names (h : A6 σ d D S) : ∀ s, (D.files s).isSome = true → Ae s = true := fun s hs => by
 obtain ⟨m, c, rows, T, a, b, e, h⟩ := h
 rw [h.files, Row.look] at hs
 cases hf : rows.find? (fun r => decide (r.name = s)) with
 | none => rw [hf] at hs; cases hs
 | some r =>
   have h1 := (h.row r (List.mem_of_find?_eq_some hf)).nm
   have h2 := List.find?_some hf
   simp only [decide_eq_true_eq] at h2
   rw [← h2]; exact h1
theorem Ao.look (h : Ao σ d D S m clock rows T left keep writes) {s : ByteArray} {Φ : Value → Hp → Prop} (h0 : (∀ r ∈ rows, r.name ≠ s) → D.files s = none → Φ (.pointer none) σ)
   (h1 : ∀ r1 r r2, rows = r1 ++ r :: r2 → r.name = s → D.files s = some r.fl → Φ (.pointer (some ⟨r.f, 0, none⟩)) σ) : AJ prog (Instr.lookup 186 (.map (some m)) (.string s) false) σ Φ := by
 refine Io h.map xx (fun hn => h0 (IS hn) (by rw [h.files]; exact Row.FV (IS hn))) fun l1 e l2 hl he => ?_
 obtain ⟨r1, r, r2, CL, _, rfl, _⟩ := EX hl
 have hn := h.names
 rw [CL] at hn
 refine h1 r1 r r2 CL (GU.1 he) ?_
 rw [h.files, CL, ← GU.1 he, Row.cg hn]
end
end TwW
end
section
namespace TwW
open Go Tw Go.Proofs.Tryz
theorem AD {σ : Hp} {b o : Nat} {c : Array Value} {t : TypeId} {fr : Nat × Nat} {v : Value} (h : σ b = some (.cells c t fr)) (hv : c[o]? = some v) : σ.ld ⟨b, o, none⟩ = some v := by simp [Hp.ld, h, hv]
theorem Un : ∀ w, (Go.sizeOf 84).run prog w = .ok 1 w := fun w => by
 have h : prog.info? 84 = some t84 := by kernel_rfl
 simp [Go.sizeOf, typeInfo, h, show t84.size = 1 from rfl]
theorem JP : ∀ w, (Go.sizeOf 4).run prog w = .ok 1 w := fun w => by
 have h : prog.info? 4 = some t4 := by kernel_rfl
 simp [Go.sizeOf, typeInfo, h, show t4.size = 1 from rfl]
theorem HT : ∀ w, (Go.sizeOf 3).run prog w = .ok 1 w := fun w => by
 have h : prog.info? 3 = some t3 := by kernel_rfl
 simp [Go.sizeOf, typeInfo, h, show t3.size = 1 from rfl]
theorem Z4 : ∀ w, (Go.sizeOf 23).run prog w = .ok 1 w := fun w => by
 have h : prog.info? 23 = some t23 := by kernel_rfl
 simp [Go.sizeOf, typeInfo, h, show t23.size = 1 from rfl]
theorem Kf {R : Rr} {σ : Hp} {s : ByteArray} (h : R (.returned (.bool (Ae s))) σ) : Spec prog 171 #[.string s] σ R := by
 refine FT.start ⟨fun h0 => ?_, fun h0 => ⟨fun h1 => ?_, fun h1 => ?_⟩⟩
 · have : Ae s = false := by
     have : s = ⟨#[]⟩ := by
       have := eq_of_beq h0
       rw [ByteArray.toList_eq, ByteArray.toList_eq] at this
       exact ByteArray.ext (Array.toList_inj.1 this)
     subst this; rfl
   rwa [this] at h
 · have : Ae s = false := by
     have : ¬ s.size ≤ 64 := by omega
     simp [Ae, this]
   rwa [this] at h
 · have kY : 0 < s.size := by
     rcases Nat.eq_zero_or_pos s.size with hz | hz
     · exfalso
       have : s = ⟨#[]⟩ := ByteArray.ext (Array.eq_empty_of_size_eq_zero hz)
       subst this; simp at h0
     · exact hz
   have Rn : s.size ≤ 64 := by omega
   have EU : s.data.toList.length = s.size := rfl
   suffices H : ∀ d k : Nat, s.size - k = d → k ≤ s.size → (s.data.toList.take k).all ey = true → FT.As R s k σ from H s.size 0 rfl (Nat.zero_le _) rfl
   intro d
   induction d with
   | zero =>
     intro k hd hk Ek
     rw [List.take_of_length_le (by omega)] at Ek
     have hn : Ae s = true := by simp only [Ae, Ek, decide_eq_true kY, decide_eq_true Rn, Bool.and_true]
     rw [hn] at h
     exact FT.BO ⟨fun Ag => by omega, fun _ => h⟩
   | succ d ih =>
     intro k hd hk Ek
     have DR : k < s.size := by omega
     obtain ⟨u, hu⟩ : ∃ u, s.data.toList[k]? = some u := ⟨_, List.getElem?_eq_getElem (by omega)⟩
     have Ys : s.data[Int.toNat (k : Int)]? = some u := by simpa using hu
     have hi : AN ((k : Int) + 1) := by unfold AN; omega
     have step : ey u = true → FT.As R s ((k : Int) + 1) σ := fun hc => ih (k + 1) (by omega) (by omega) (by rw [AQ hu, List.all_append, Ek]; simpa using hc)
     have bad : ey u = false → R (.returned (.bool false)) σ := fun hc => by
       have : Ae s = false := by
         have : s.data.toList.all ey = false := by
           rw [List.all_eq_false]
           exact ⟨u, List.mem_of_getElem? hu, by simp [hc]⟩
         simp [Ae, this]
       rwa [this] at h
     have e1 : (ey u = true) ↔ ((97 ≤ u.toNat ∧ u.toNat ≤ 122) ∨ (48 ≤ u.toNat ∧ u.toNat ≤ 57) ∨ u.toNat = 47 ∨ u.toNat = 46 ∨ u.toNat = 45) := by
       simp [ey, or_assoc]
     have good : ((97 ≤ u.toNat ∧ u.toNat ≤ 122) ∨ (48 ≤ u.toNat ∧ u.toNat ≤ 57) ∨ u.toNat = 47 ∨ u.toNat = 46 ∨ u.toNat = 45) → AN ((k : Int) + 1) ∧ FT.As R s ((k : Int) + 1) σ := fun hc => ⟨hi, step (e1.2 hc)⟩
     have SA : ¬ ((97 ≤ u.toNat ∧ u.toNat ≤ 122) ∨ (48 ≤ u.toNat ∧ u.toNat ≤ 57) ∨ u.toNat = 47 ∨ u.toNat = 46 ∨ u.toNat = 45) → R (.returned (.bool false)) σ := fun hc => bad (by
       cases ho : ey u with
       | false => rfl
       | true => exact absurd (e1.1 ho) hc)
     clear step bad e1 h ih
     refine FT.BO ⟨fun Ag => ⟨u, by omega, Ys, ?_⟩, fun Fb => by omega⟩
     generalize u.toNat = n at good SA
     repeat' (first | refine ⟨fun _ => ?_, fun _ => ?_⟩ | exact good (by omega) | exact SA (by omega))
def GK (fs gs : ByteArray → Option Fl) : Prop := ∀ s, (fs s = none → gs s = none) ∧ ∀ f, fs s = some f → ∃ k, f.GD ≤ k ∧ k ≤ f.data.length ∧ gs s = some ⟨f.data.take k, k⟩
section
variable {σ : Hp} {d : Nat} {D : Dk} {S : List Nat} {R : Rr}
theorem I3 {s : ByteArray} (hd : A6 σ d D S) (h0 : Ae s = false → R (.returned (.int .i64 61)) σ) (h1 : Ae s = true → D.files s = none → R (.returned (.int .i64 62)) σ) (h2 : ∀ f, Ae s = true → D.files s = some f → R (.returned (.int .i64 0)) σ) :
   Spec prog 223 #[.pointer (some ⟨d, 0, none⟩), .string s] σ R := by
 refine JJ.start (Kf ⟨_, rfl, fun hf => h0 hf, fun ht => ?_⟩)
 obtain ⟨m, c, rows, T, a, b, e, h⟩ := hd
 refine ⟨d, 0, rfl, some m, AD h.obj rfl, h.look (fun hn JO => ⟨none, rfl, fun _ => h1 ht JO, fun hh => by simp at hh⟩) fun r1 r r2 _ _ JO => ⟨_, rfl, fun hh => by simp at hh, fun _ => h2 _ ht JO⟩⟩
theorem Qe {s : ByteArray} {p : Option Addr} {n c b2 : Nat} {xs : List Int} {m clock : Nat} {r1 r2 : List Row} {r : Row} {T : TypeId} {a b e : Int} (hd : Ao σ d D S m clock (r1 ++ r :: r2) T a b e)
   (h2 : (σ.off S) b2 = some (.cells #[.slice p n c] 84 (0, 0))) (hx : By .u8 (σ.off S) p n xs) (hlen : r.fl.data.length + n ≤ 4194304) (hs : r.name = s)
   (h : ∀ σ' S', A6 σ' d { D with files := BD D.files s (some ⟨r.fl.data ++ xs, r.fl.GD⟩) } S' → Ext (σ.off S) (σ'.off S') → R (.returned (.tuple #[])) σ') :
   DE.A5 R b2 (some ⟨r.f, 0, none⟩) σ := by
 have hr := hd.row r (by simp)
 have FB := hd.out r (by simp)
 refine DE.AW ⟨r.f, 0, rfl, r.p, r.n, r.c, AD hr.obj rfl, p, n, c, AD (Hp.AG.1 h2).2 rfl, ?_⟩
 refine MG (T := 84) hr.own (GM.of_map (hx.mono (Ext.Cp _ _))) CN.Cn (by simp only [Row.n]; omega) fun p' c' σ' AZ EK _ => ⟨p', r.n + n, c', rfl, ?_⟩
 have xy : σ' r.f = some (.cells #[.slice r.p r.n r.c, .int .i64 r.fl.GD] r.T (0, 0)) ∧ r.f ∉ DI p' := by
   rw [Hp.DY, Hp.DY] at EK
   have := Hp.AG.1 (EK r.f _ (Hp.AG.2 ⟨FB.1, hr.obj⟩))
   exact ⟨this.2, this.1⟩
 refine AJ.store (v := .slice p' (r.n + n) c') Un xy.1 rfl (by simp) (by simp [Value.cells, Value.oneCell']) ?_
 have hlx : (r.fl.data ++ xs).length = r.n + n := by rw [List.length_append, hx.1]
 have hw : DU #[Value.slice r.p r.n r.c, .int .i64 r.fl.GD] 0 (Value.slice p' (r.n + n) c').cells.toList = #[.slice p' (r.n + n) c', .int .i64 r.fl.GD] := rfl
 rw [hw]
 have key := hd.change (σ' := σ'.set r.f (.cells #[.slice p' (r.n + n) c', .int .i64 r.fl.GD] r.T (0, 0))) (r' := { r with p := p', c := c', fl := ⟨r.fl.data ++ xs, r.fl.GD⟩ }) rfl rfl rfl
   ⟨by simp [Hp.AA, hlx], ?_, by simp only [hlx]; have := hr.GD; omega, by show (r.fl.data ++ xs).length ≤ _; rw [hlx]; exact hlen, hr.nm⟩ xy.2 ?_
 · rw [← hs] at h
   exact h _ _ ⟨_, _, _, _, _, _, _, key.1⟩ key.2
 · have : AS .u8 σ' p' (r.n + n) c' (r.fl.data ++ xs) := by simpa [AS] using AZ
   simp only [hlx]
   refine Own.loc this fun b hb => Hp.AH fun e => xy.2 (e ▸ hb)
 · intro b o hb
   obtain ⟨h3, h4⟩ := Hp.AG.1 hb
   simp only [Row.blocks, List.mem_cons, not_or] at h3
   rw [Hp.DY, Hp.DY] at EK
   have := Hp.AG.1 (EK b o (Hp.AG.2 ⟨h3.2, h4⟩))
   exact Hp.AG.2 ⟨by simp [Row.blocks, h3.1, this.1], by rw [Hp.AH h3.1]; exact this.2⟩
def EY (fs : ByteArray → Option Fl) (s : ByteArray) (xs : List Int) : ByteArray → Option Fl := BD fs s (some ⟨((fs s).getD ⟨[], 0⟩).data ++ xs, ((fs s).getD ⟨[], 0⟩).GD⟩)
theorem Mi {s : ByteArray} {p : Option Addr} {n c b0 b1 b2 : Nat} {xs : List Int} (Jb : Ae s = true) (hd : A6 σ d D S) (h0 : (σ.off S) b0 = some (.cells #[.pointer (some ⟨d, 0, none⟩)] 106 (0, 0))) (h1 : (σ.off S) b1 = some (.cells #[.string s] 9 (0, 0)))
   (h2 : (σ.off S) b2 = some (.cells #[.slice p n c] 84 (0, 0))) (hx : By .u8 (σ.off S) p n xs) (hlen : ((D.files s).getD ⟨[], 0⟩).data.length + n ≤ 4194304)
   (h : ∀ σ' S', A6 σ' d ⟨EY D.files s xs, D.up, D.armed, D.cnt + 1⟩ S' → Ext (σ.off S) (σ'.off S') → R (.returned (.tuple #[])) σ') :
   Spec prog 227 #[.pointer (some ⟨b0, 0, none⟩), .pointer (some ⟨b1, 0, none⟩), .pointer (some ⟨b2, 0, none⟩)] σ R := by
 obtain ⟨m, cl, rows, T, a, b, e, hd⟩ := hd
 have Yt := Hp.AG.1 h0
 have XD := Hp.AG.1 h1
 refine DE.start ⟨_, AD Yt.2 rfl, d, 0, rfl, some m, AD hd.obj rfl, s, AD XD.2 rfl, hd.look (fun hn JO => ⟨none, rfl, fun _ IE fA => ?_, fun hh => by simp at hh⟩) fun r1 r r2 CL Ez JO => ⟨_, rfl, fun hh => by simp at hh, fun _ => ?_⟩⟩
 · have AJ2 : b0 ≠ IE := fun e => by rw [e, fA] at Yt; cases Yt.2
   have AJ3 : b1 ≠ IE := fun e => by rw [e, fA] at XD; cases XD.2
   have hS : IE ∉ S := fun hs => hd.known _ hs fA
   have hdn : d ≠ IE := fun e => hS (e ▸ hd.Qc)
   have Z5 : m ≠ IE := fun e => hS (e ▸ hd.Mh)
   refine ⟨_, AD (by rw [Hp.AH AJ2]; exact Yt.2) rfl, d, 0, rfl, some m, AD (by rw [Hp.AH hdn]; exact hd.obj) rfl, s, AD (by rw [Hp.AH AJ3]; exact XD.2) rfl, ?_⟩
   have oE : A2 (σ.set IE (.cells #[.slice none 0 0, .int .i64 0] 300 (0, 0))) m (rows.map Row.Cj) cl := hd.map.loc (Hp.AH Z5)
   refine EE oE (fun _ σ' Rz ME => ?_) fun l1 e l2 hl he => ?_
   · have key := hd.push (σ' := σ') (r := ⟨s, IE, cl, 300, none, 0, ⟨[], 0⟩⟩) hn fA rfl (fun b h1 h2 => by rw [Rz, Hp.AH h1, Hp.AH h2]) ⟨by rw [Rz, Hp.AH (Ne.symm Z5), Hp.AA]; rfl, Own.nil, Nat.le_refl _, Nat.zero_le _, Jb⟩ (clock' := cl + 1) (by simpa [Row.Cj] using ME)
     refine Qe (r2 := []) key.1 (key.2 _ _ h2) (hx.mono key.2) ?_ rfl fun Ps S'' hD hE => h Ps S'' ?_ (key.2.trans hE)
     · simpa [JO] using hlen
     · have : EY D.files s xs = BD (BD D.files s (some ⟨[], 0⟩)) s (some ⟨[] ++ xs, 0⟩) := by
         funext k; simp only [EY, JO, BD, Option.getD_none]; split <;> rfl
       rw [this]; exact hD
   · exfalso
     obtain ⟨r1, r, r2, CL, _, rfl, _⟩ := EX hl
     exact hn r (by simp [CL]) (GU.1 he)
 · subst CL
   refine Qe hd h2 hx (by simpa [JO] using hlen) Ez fun σ' S' hD hE => h σ' S' ?_ hE
   have : EY D.files s xs = BD D.files s (some ⟨r.fl.data ++ xs, r.fl.GD⟩) := by simp [EY, JO]
   rw [this]
   obtain ⟨m, cl, rows, T, a, b, e, hD⟩ := hD
   exact ⟨m, cl, rows, T, a, b, e, { hD with cnt := by have := hD.cnt; simp only at this ⊢; omega }⟩
end
end TwW
end
section
namespace TwW
open Go Tw Go.Proofs.Tryz
section
variable {σ : Hp} {d : Nat} {D : Dk} {S : List Nat} {R : Rr}
theorem Ao.qO {m clock : Nat} {rows : List Row} {T : TypeId} {left keep writes : Int} (h : Ao σ d D S m clock rows T left keep writes) {o : Obj} : Ext (σ.off S) ((σ.set d o).off S) := Ext.GN h.Qc
theorem Ao.st {m clock : Nat} {rows : List Row} {T : TypeId} {left keep writes : Int} (h : Ao σ d D S m clock rows T left keep writes) {i : Nat} {E : TypeId} {v : Value} {up armed : Bool} {left' XA writes' : Int} (hz : ∀ w, (Go.sizeOf E).run prog w = .ok 1 w) (hv : v.cells.size = 1)
   (hi : i + 1 ≤ 6) (h1 : ∀ u ∈ v.cells.toList, u.oneCell' = true)
   (hw : DU #[.map (some m), .bool D.up, .bool D.armed, .int .i64 left, .int .i64 keep, .int .u64 writes] i v.cells.toList = #[.map (some m), .bool up, .bool armed, .int .i64 left', .int .i64 XA, .int .u64 writes'])
   {Φ : Unit → Hp → Prop} (hΦ : ∀ σ', Ao σ' d ⟨D.files, up, armed, D.cnt⟩ S m clock rows T left' XA writes' → Ext (σ.off S) (σ'.off S) → (∀ b, b ≠ d → σ' b = σ b) → Φ () σ') : AJ prog (Instr.storeAt E (.pointer (some ⟨d, i, none⟩)) v) σ Φ := by
 refine AJ.store hz h.obj hv (by simp; omega) h1 ?_
 rw [hw]
 exact hΦ _ (h.put h.cnt) h.qO fun b hb => Hp.AH hb
def AJ4 (x1 : Int) (fs gs : ByteArray → Option Fl) (L : List MapEntry) : Prop :=
 ∀ s, (fs s = none → gs s = none) ∧ ∀ f, fs s = some f → (gs s = some f ∧ ∃ e ∈ L, e.key = .string s) ∨ ∃ k, f.GD ≤ k ∧ k ≤ f.data.length ∧ gs s = some ⟨f.data.take k, k⟩ ∧ (x1 = 0 → k = f.GD)
def kZ (fs gs : ByteArray → Option Fl) : Prop := ∀ s f, fs s = some f → gs s = some ⟨f.data.take f.GD, f.GD⟩
theorem fB {x n : Int} (hx : 0 ≤ x) (hn : 0 ≤ n) : 0 ≤ Int.tmod x (n + 1) ∧ Int.tmod x (n + 1) ≤ n := by
 rw [Int.tmod_eq_emod_of_nonneg hx]
 have h1 := Int.emod_nonneg x (show n + 1 ≠ 0 by omega)
 have h2 := Int.emod_lt_of_pos x (show 0 < n + 1 by omega)
 omega
theorem Own.shrink {σ : Hp} {p : Option Addr} {n c k : Nat} {xs : List Int} {kd : IntKind} (h : AS kd σ p n c xs) (hk : k ≤ n) : AS kd σ p k c (xs.take k) := by
 have := Own.take h hk
 rw [Nat.mul_one, ← List.map_take] at this
 exact this
theorem Own.cap {s : Nat} {σ : Hp} {p : Option Addr} {n c : Nat} {cs : List Value} (h : Own s σ p n c cs) : n ≤ c := by
 rcases h.2.2 with ⟨_, h1, h2⟩ | ⟨b, o, arr, T, _, _, h3, _⟩
 · omega
 · exact h3
theorem yA {σ0 : Hp} {S0 : List Nat} {i m clock : Nat} {x1 : Int} {fs : ByteArray → Option Fl} {cnt : Nat} (ka : σ0 i = none)
   (hR : ∀ σ' S' gs, GK fs gs → (x1 = 0 → kZ fs gs) → A6 σ' d ⟨gs, false, false, cnt⟩ S' → Ext (σ0.off S0) (σ'.off S') → R (.returned (.tuple #[])) σ') :
   ∀ (n : Nat) (σ : Hp) (D : Dk) (S : List Nat) (rows : List Row) (L : List MapEntry) (T : TypeId) (a b e : Int), L.length = n → D.cnt = cnt → Ao σ d D S m clock rows T a b e → Cq σ i m (rows.map Row.Cj) L clock → (∀ x ∈ L, x ∈ rows.map Row.Cj) → i ∉ S → AJ4 x1 fs D.files L →
     Ext (σ0.off S0) (σ.off S) → DT.Zm R (some ⟨d, 0, none⟩) x1 (.pointer (some ⟨i, 0, none⟩)) σ := by
 intro n
 induction n using Nat.strongRecOn with
 | _ n ih =>
 intro σ D S rows L T a b e hL Hi hd hi Jc nb hh hx
 refine DT.Lq (Jw hd.map hi (fun h0 => .inl ⟨rfl, d, 0, rfl, ?_⟩) fun en Jr Uo o O7 Z6 => .inr ?_)
 · subst h0
   refine hd.st (i := 1) (up := false) (armed := D.armed) JP rfl (by omega) (by simp [Value.cells, Value.oneCell']) rfl fun σ1 h1 e1 _ => ?_
   refine h1.st (i := 2) (up := false) (armed := false) JP rfl (by omega) (by simp [Value.cells, Value.oneCell']) rfl fun σ2 h2 e2 _ => ?_
   have Ek : ∀ s f, fs s = some f → ∃ k, f.GD ≤ k ∧ k ≤ f.data.length ∧ D.files s = some ⟨f.data.take k, k⟩ ∧ (x1 = 0 → k = f.GD) := fun s f hf => by
     rcases (hh s).2 f hf with ⟨_, e, he, _⟩ | h
     · cases he
     · exact h
   refine hR σ2 S D.files (fun s => ⟨(hh s).1, fun f hf => ?_⟩) (fun hz s f hf => ?_) ⟨_, _, _, _, _, _, _, Hi ▸ h2⟩ (hx.trans (e1.trans e2))
   · obtain ⟨k, h1, h2, h3, _⟩ := Ek s f hf
     exact ⟨k, h1, h2, h3⟩
   · obtain ⟨k, h1, h2, h3, h4⟩ := Ek s f hf
     rw [h3, h4 hz]
 · obtain ⟨l1, l2, hl⟩ := List.append_of_mem Uo
   obtain ⟨r1, r, r2, rfl, _, rfl, _⟩ := EX hl
   have hτ : ∀ b ∈ S, (σ.set i o) b = σ b := fun b hb => Hp.AH fun e => nb (e ▸ hb)
   have XE := hd.loc hτ
   have tz : m ≠ i := fun e => nb (e ▸ hd.Mh)
   have Up : Ext (σ0.off S0) ((σ.set i o).off S) := fun b u hb => by
     have hbi : b ≠ i := fun e => by rw [e, Hp.MJ ka] at hb; cases hb
     have h2 := Hp.AG.1 (hx b u hb)
     exact Hp.AG.2 ⟨h2.1, by rw [Hp.AH hbi]; exact h2.2⟩
   have hr := XE.row r (by simp)
   have FB := XE.out r (by simp)
   have AD3 := hr.GD
   have FW := hr.own.rd.big
   have yB := Own.cap hr.own
   have AOQ := O7 _ (Hp.AA σ i o)
   have main : ∀ y : Int, 0 ≤ y → y ≤ (r.n : Int) - r.fl.GD → (x1 = 0 → y = 0) → DT.Wb R (some ⟨d, 0, none⟩) x1 (some ⟨r.f, 0, none⟩) y (.pointer (some ⟨i, 0, none⟩)) (σ.set i o) := by
     intro y hy0 hy1 hyz
     obtain ⟨k, hk⟩ : ∃ k : Nat, (k : Int) = (r.fl.GD : Int) + y := ⟨((r.fl.GD : Int) + y).toNat, by omega⟩
     refine DT.Uj ⟨r.f, 0, rfl, r.p, r.n, r.c, AD hr.obj rfl, r.fl.GD, AD hr.obj rfl, by unfold AN; omega, by omega, ?_⟩
     refine AJ.store (v := .slice r.p (Int.toNat ((r.fl.GD : Int) + y)) r.c) Un hr.obj rfl (by simp) (by simp [Value.cells, Value.oneCell']) ?_
     have hkt : Int.toNat ((r.fl.GD : Int) + y) = k := by omega
     rw [hkt]
     have hw : DU #[Value.slice r.p r.n r.c, .int .i64 r.fl.GD] 0 (Value.slice r.p k r.c).cells.toList = #[.slice r.p k r.c, .int .i64 r.fl.GD] := rfl
     rw [hw]
     refine ⟨r.p, k, r.c, AD (Hp.AA _ _ _) rfl, ?_⟩
     refine AJ.store (v := .int .i64 k) HT (Hp.AA _ _ _) rfl (by simp) (by simp [Value.cells, Value.oneCell']) ?_
     have hw : DU #[Value.slice r.p k r.c, .int .i64 r.fl.GD] (0 + 1) (Value.int .i64 k).cells.toList = #[.slice r.p k r.c, .int .i64 k] := rfl
     rw [hw, Hp.set_set]
     have Pn : k ≤ r.fl.data.length := by simp only [Row.n] at hy1; omega
     have Rx : (r.fl.data.take k).length = k := by rw [List.length_take, Nat.min_eq_left Pn]
     have key := XE.change (σ' := (σ.set i o).set r.f (.cells #[.slice r.p k r.c, .int .i64 k] r.T (0, 0))) (r' := { r with fl := ⟨r.fl.data.take k, k⟩ }) rfl rfl rfl
       ⟨by simp only [Hp.AA, Rx], ?_, by simp [Row.n, Rx], by simp only [Row.n, Rx]; exact Nat.le_trans Pn hr.small, hr.nm⟩ FB.1 ?_
     · have XF : r.f ≠ i := fun e => nb (e ▸ hd.OU (r := r) (by simp) (by simp [Row.blocks]))
       have uA : (r1 ++ { r with fl := ⟨r.fl.data.take k, k⟩ } :: r2).map Row.Cj = (r1 ++ r :: r2).map Row.Cj := by simp [Row.Cj]
       have AJ7 : ((σ.set i o).set r.f (.cells #[.slice r.p k r.c, .int .i64 k] r.T (0, 0))) i = some o := by rw [Hp.AH (Ne.symm XF), Hp.AA]
       refine ih _ (hL ▸ KW Jr) _ { D with files := BD D.files r.name (some ⟨r.fl.data.take k, k⟩) } _ _ _ _ _ _ _ rfl Hi key.1 (by rw [uA]; exact O7 _ AJ7) (fun x hx => by rw [uA]; exact Jc x (List.mem_filter.1 hx).1) (fun JQ => ?_) (fun s => ?_) (Up.trans key.2)
       · rcases F0.1 JQ with e | e | ⟨x, hx, Qd⟩
         · exact nb (e ▸ hd.Qc)
         · exact tz e.symm
         · rcases List.mem_append.1 hx with hx | hx
           · exact nb (hd.OU (by simp [hx]) Qd)
           · rcases List.mem_cons.1 hx with rfl | hx
             · exact nb (hd.OU (r := r) (by simp) Qd)
             · exact nb (hd.OU (by simp [hx]) Qd)
       · have Vf : D.files r.name = some r.fl := by rw [hd.files, Row.cg hd.names]
         have hhs := hh s
         by_cases hs : s = r.name
         · subst hs
           refine ⟨fun h0 => ?_, fun f hf => .inr ?_⟩
           · rw [hhs.1 h0] at Vf; cases Vf
           · simp only [BD, if_true]
             rcases hhs.2 f hf with ⟨h1, _⟩ | ⟨k', h1, h2, h3, h4⟩
             · rw [h1] at Vf; cases Vf
               exact ⟨k, by omega, Pn, rfl, fun hz => by have := hyz hz; omega⟩
             · rw [h3] at Vf
               have XG : r.fl = ⟨f.data.take k', k'⟩ := (Option.some.inj Vf).symm
               refine ⟨k, ?_, ?_, ?_, fun hz => ?_⟩
               · rw [XG] at hk; simp only at hk; omega
               · rw [XG] at Pn; simp at Pn; omega
               · rw [XG, List.take_take, Nat.min_eq_left]
                 rw [XG] at Pn; simp at Pn; omega
               · have e1 := hyz hz
                 have e2 := h4 hz
                 rw [XG] at hk; simp only at hk; omega
         · simp only [BD, hs, if_false]
           refine ⟨hhs.1, fun f hf => (hhs.2 f hf).imp (fun ⟨h1, x, hx, hk⟩ => ⟨h1, x, List.mem_filter.2 ⟨hx, ?_⟩, hk⟩) id⟩
           have : x.born ≠ r.Cj.born := fun e => by
             have := born_inj hd.map.Vm (Jc x hx) Uo e
             rw [this, GU] at hk
             exact hs hk.symm
           simpa using this
     · simp only [Rx]
       exact Own.loc (Own.shrink hr.own Pn) fun b hb => Hp.AH fun e => FB.1 (e ▸ hb)
     · intro b u hb
       have h3 := Hp.AG.1 hb
       exact Hp.AG.2 ⟨h3.1, by rw [Hp.AH fun e => h3.1 (by simp [Row.blocks, e])]; exact h3.2⟩
   refine ⟨_, _, rfl, Z6 _ (Hp.AA _ _ _) (Hp.AH tz) ⟨_, _, rfl, fun h0 => ⟨r.f, 0, rfl, r.p, r.n, r.c, AD hr.obj rfl, r.fl.GD, AD hr.obj rfl, by unfold AN; omega, by unfold AN; omega, by omega, ?_⟩, fun _ => main 0 (by omega) (by omega) (fun _ => rfl)⟩⟩
   rintro x rfl
   have := fB h0 (show 0 ≤ (r.n : Int) - r.fl.GD by omega)
   exact main _ this.1 this.2 (fun hz => by rw [hz, Int.zero_tmod])
theorem kb {x1 : Int} (hd : A6 σ d D S) (hR : ∀ σ' S' gs, GK D.files gs → (x1 = 0 → kZ D.files gs) → A6 σ' d ⟨gs, false, false, D.cnt⟩ S' → Ext (σ.off S) (σ'.off S') → R (.returned (.tuple #[])) σ') :
   Spec prog 290 #[.pointer (some ⟨d, 0, none⟩), .int .i64 x1] σ R := by
 obtain ⟨m, cl, rows, T, a, b, e, hd⟩ := hd
 refine DT.start ⟨d, 0, rfl, some m, AD hd.obj rfl, H0 hd.map fun i o hi O7 => ⟨_, rfl, ?_⟩⟩
 have nb : i ∉ S := fun hs => hd.known _ hs hi
 refine yA hi hR _ _ D S rows _ T a b e rfl rfl (hd.loc fun b hb => Hp.AH fun e => nb (e ▸ hb)) O7 (fun x hx => hx) nb (fun s => ⟨id, fun f hf => .inl ⟨hf, ?_⟩⟩) ((Ext.set hi).off S)
 rw [hd.files, Row.look] at hf
 cases iK : rows.find? (fun r => decide (r.name = s)) with
 | none => rw [iK] at hf; cases hf
 | some r => exact ⟨r.Cj, List.mem_map.2 ⟨r, List.mem_of_find?_eq_some iK, rfl⟩, GU.2 (by simpa using List.find?_some iK)⟩
end
end TwW
end
section
namespace TwW
open Go Tw Go.Proofs.Tryz
structure Wr (σ : Hp) (S : List Nat) (d : Nat) (D : Dk) (fs FG : ByteArray → Option Fl) (c : Nat) (R : Rr) : Prop where
 ok : ∀ σ' S', A6 σ' d ⟨fs, true, D.armed, c⟩ S' → Ext (σ.off S) (σ'.off S') → R (.returned (.int .i64 0)) σ'
 bad : D.armed = true → ∀ σ' S' gs, GK FG gs → A6 σ' d ⟨gs, false, false, c⟩ S' → Ext (σ.off S) (σ'.off S') → R (.returned (.int .i64 60)) σ'
section
variable {σ : Hp} {d : Nat} {D : Dk} {S : List Nat} {R : Rr}
def fC (σ : Hp) (d : Nat) (D : Dk) (S : List Nat) (f : Nat) (cap : Array Value) (fs : ByteArray → Option Fl) (c : Nat) : Prop :=
 ∀ σ1, A6 σ1 d D S → Ext (σ.off S) (σ1.off S) → ∀ R : Rr, (∀ σ' S', A6 σ' d ⟨fs, D.up, D.armed, c⟩ S' → Ext (σ1.off S) (σ'.off S') → R (.returned (.tuple #[])) σ') → Spec prog f cap σ1 R
theorem Ao.AD4 {m clock : Nat} {rows : List Row} {T : TypeId} {left keep writes : Int} {c : Nat} (h : Ao σ d D S m clock rows T left keep writes) (hc : D.cnt ≤ c) : Ao σ d { D with cnt := c } S m clock rows T left keep writes :=
 { h with cnt := Nat.le_trans h.cnt hc }
theorem I4 {f1 f2 f3 : Nat} {c1 c2 c3 : Array Value} {fs FG : ByteArray → Option Fl} {c : Nat} (hd : A6 σ d D S) (EB : D.up = true) (e1 : Enters prog f1) (e2 : Enters prog f2) (e3 : Enters prog f3)
   (h1 : ∀ R : Rr, R (.returned (.int .i64 0)) σ → Spec prog f1 c1 σ R) (h2 : fC σ d D S f2 c2 fs c) (h3 : fC σ d D S f3 c3 FG c) (hw : Wr σ S d D fs FG c R) :
   Spec prog 221 #[.pointer (some ⟨d, 0, none⟩), .func (.func f1) #[] c1, .func (.func f2) #[] c2, .func (.func f3) #[] c3] σ R := by
 obtain ⟨m, cl, rows, T, a, b, e, hd⟩ := hd
 obtain ⟨dfs, dup, qP, AJ8⟩ := D
 simp only at EB
 subst EB
 have SU : ∀ (σ1 : Hp) (e' : Int), Ao σ1 d ⟨dfs, true, qP, AJ8⟩ S m cl rows T a b e' → Ext (σ.off S) (σ1.off S) → ∀ (x : Int), x = IntKind.i64.wrap (a - 1) → AJ prog (Instr.storeAt 3 (.pointer (some ⟨d, 0 + 3, none⟩)) (.int .i64 x)) σ1 (fun _ A0 => ∃ (f54 : Nat) (OR OS : Array Value), Value.func (.func f2) #[] c2 = .func (.func f54) OR OS ∧ Enters prog f54 ∧ Spec prog f54 (OR ++ #[] ++ OS) A0 (AB R (fun MU OK => MU = (.tuple #[]) ∧ R (.returned (.int .i64 0)) OK))) := by
   intro σ1 e' h e1 x _
   refine h.st (i := 0 + 3) (up := true) (armed := qP) (left' := x) HT rfl (by omega) (by simp [Value.cells, Value.oneCell']) rfl fun σ2 h' e2' _ => ?_
   refine ⟨f2, #[], c2, rfl, e2, ?_⟩
   have := h2 σ2 ⟨m, cl, rows, T, x, b, e', h'⟩ (e1.trans e2')
   simp only [Array.empty_append]
   exact this _ fun σ' S' hD hE => ⟨rfl, hw.ok σ' S' hD (e1.trans (e2'.trans hE))⟩
 refine JM.start ⟨d, 0, rfl, true, AD hd.obj rfl, fun h => by simp at h, fun _ => ⟨f1, #[], c1, rfl, e1, ?_⟩⟩
 simp only [Array.empty_append]
 refine h1 _ ⟨0, rfl, fun h => absurd rfl h, fun _ => ⟨e, AD hd.obj rfl, fun Ks _ => ?_⟩⟩
 refine hd.st (i := 0 + 5) (up := true) (armed := qP) (writes' := Ks) Z4 rfl (by omega) (by simp [Value.cells, Value.oneCell']) rfl fun σ1 h ex _ => ?_
 refine ⟨qP, AD h.obj rfl, fun ht => ⟨a, AD h.obj rfl, fun ha => ⟨f3, #[], c3, rfl, e3, ?_⟩, fun _ => ⟨a, AD h.obj rfl, fun x hx => SU σ1 Ks h ex x hx⟩⟩, fun _ => ⟨a, AD h.obj rfl, fun x hx => SU σ1 Ks h ex x hx⟩⟩
 simp only [Array.empty_append]
 refine h3 σ1 ⟨m, cl, rows, T, a, b, Ks, h⟩ ex _ fun σ2 S2 hD hE => ⟨rfl, ?_⟩
 have hD' := hD
 obtain ⟨m2, cl2, XH, T2, a2, b2, e2', hDi⟩ := hD'
 refine ⟨b2, AD hDi.obj rfl, ?_⟩
 exact kb hD fun σ3 S3 gs hc _ hD3 hE3 => ⟨rfl, hw.bad ht σ3 S3 gs hc hD3 (ex.trans (hE.trans hE3))⟩
theorem AD5 : Enters prog 227 := fun args w => call227 args w
theorem AKA : Enters prog 228 := fun args w => call228 args w
theorem AKB : Enters prog 222 := fun args w => call222 args w
theorem AKC : Enters prog 224 := fun args w => call224 args w
theorem yC : Enters prog 225 := fun args w => call225 args w
theorem AKD : Enters prog 232 := fun args w => call232 args w
theorem AKE : Enters prog 233 := fun args w => call233 args w
theorem AD6 : Enters prog 292 := fun args w => call292 args w
theorem AD7 : Enters prog 293 := fun args w => call293 args w
theorem I5 {c : Nat} (hc : D.cnt ≤ c) : fC σ d D S 225 #[] D.files c := fun σ1 hd _ R h => by
 refine Mf.start (h σ1 S ?_ (Ext.refl _))
 obtain ⟨m, cl, rows, T, a, b, e, hd⟩ := hd
 exact ⟨m, cl, rows, T, a, b, e, hd.AD4 hc⟩
theorem XI {L M : List ByteArray} (hn : L.Nodup) (h : ∀ x ∈ L, x ∈ M) : L.length ≤ M.length := by
 induction L generalizing M with
 | nil => simp
 | cons a L ih =>
   rw [List.nodup_cons] at hn
   obtain ⟨m1, m2, rfl⟩ := List.append_of_mem (h a (by simp))
   have := ih hn.2 (M := m1 ++ m2) fun x hx => by
     have h1 := h x (by simp [hx])
     simp only [List.mem_append, List.mem_cons] at h1 ⊢
     rcases h1 with h1 | rfl | h1
     · exact .inl h1
     · exact absurd hx hn.1
     · exact .inr h1
   simp only [List.length_append, List.length_cons] at this ⊢
   omega
def OW (D : Dk) : Prop := D.cnt < 1048576 ∨ ∃ F : List ByteArray, F.length < 1048576 ∧ ∀ s, (D.files s).isSome = true → s ∈ F
theorem OW.sub {D D' : Dk} (h : OW D) (hc : D'.cnt ≤ D.cnt) (hs : ∀ s, (D'.files s).isSome = true → (D.files s).isSome = true) : OW D' := by
 rcases h with h | ⟨F, h1, h2⟩
 · exact .inl (by omega)
 · exact .inr ⟨F, h1, fun s h => h2 s (hs s h)⟩
theorem ke {rows : List Row} (hf : D.files = Row.look rows) (hn : (rows.map (·.name)).Nodup) (hc : rows.length ≤ D.cnt) (h : OW D) : rows.length < 1048576 := by
 rcases h with h | ⟨F, h1, h2⟩
 · omega
 · have := XI hn (M := F) fun s hs => h2 s (by
     rw [hf, Row.look]
     cases hh : rows.find? (fun r => decide (r.name = s)) with
     | some r => rfl
     | none =>
       obtain ⟨r, hr, rfl⟩ := List.mem_map.1 hs
       have := List.find?_eq_none.1 hh r hr
       simp at this)
   rw [List.length_map] at this; omega
theorem Uq {s : ByteArray} {p : Option Addr} {n c b0 b1 b2 : Nat} (hd : A6 σ d D S) (h0 : (σ.off S) b0 = some (.cells #[.pointer (some ⟨d, 0, none⟩)] 106 (0, 0))) (h1 : (σ.off S) b1 = some (.cells #[.string s] 9 (0, 0)))
   (h2 : (σ.off S) b2 = some (.cells #[.slice p n c] 84 (0, 0))) (hn : Ae s = true) (hc : OW D) (hlen : ((D.files s).getD ⟨[], 0⟩).data.length + n ≤ 4194304) (h : R (.returned (.int .i64 0)) σ) :
   Spec prog 228 #[.pointer (some ⟨b1, 0, none⟩), .pointer (some ⟨b0, 0, none⟩), .pointer (some ⟨b2, 0, none⟩)] σ R := by
 obtain ⟨m, cl, rows, T, a, b, e, hd⟩ := hd
 have Yt := Hp.AG.1 h0
 have XD := Hp.AG.1 h1
 have fD := Hp.AG.1 h2
 have SB : (rows.map (·.name)).Nodup := by
   have := hd.map.nodup
   rw [List.map_map] at this
   have e : (rows.map ((fun e : MapEntry => e.key) ∘ Row.Cj)) = (rows.map (·.name)).map Value.string := by rw [List.map_map]; rfl
   rw [e, List.Nodup, List.pairwise_map] at this
   exact this.imp fun Ad e => Ad (by rw [e])
 have hcn := ke hd.files SB hd.cnt hc
 refine Gu.start ⟨s, AD XD.2 rfl, Kf ⟨_, rfl, fun hf => (by rw [hn] at hf; cases hf), fun _ => ⟨_, AD Yt.2 rfl, d, 0, rfl, some m, AD hd.obj rfl, s, AD XD.2 rfl, hd.look (fun _ JO => ⟨none, rfl, fun _ => ?_, fun hh => by simp at hh⟩) fun r1 r r2 CL Ez JO => ⟨_, rfl, fun hh => by simp at hh, fun _ => ?_⟩⟩⟩⟩
 · refine ⟨_, AD Yt.2 rfl, d, 0, rfl, some m, AD hd.obj rfl, _, vU hd.map, fun hh => ?_, fun _ => ⟨p, n, c, AD fD.2 rfl, fun hh => ?_, fun _ => ⟨fun hh => by simp at hh, fun _ => h⟩⟩⟩
   · simp at hh; omega
   · rw [JO] at hlen; simp at hlen; omega
 · rw [JO] at hlen
   simp only [Option.getD_some] at hlen
   have hr := hd.row r (by simp [CL])
   refine ⟨fun _ => ⟨p, n, c, AD fD.2 rfl, r.f, 0, rfl, r.p, r.n, r.c, AD hr.obj rfl, by unfold AN; simp only [Row.n]; omega, fun hh => ?_, fun _ => h⟩, fun hh => by simp at hh⟩
   simp only [Row.n] at hh; omega
theorem Fg {o : Obj} {b : Nat} (hd : A6 σ d D S) (hb : σ b = none) : ((σ.set b o).off S) b = some o ∧ A6 (σ.set b o) d D S ∧ Ext (σ.off S) ((σ.set b o).off S) := by
 have VZ : b ∉ S := fun hs => hd.known _ hs hb
 exact ⟨by rw [Hp.ES VZ, Hp.AA], hd.mono (.set hb), (Ext.set hb).off S⟩
theorem OX {s : ByteArray} {p : Option Addr} {n c : Nat} {xs : List Int} (hd : A6 σ d D S) (EB : D.up = true) (hn : Ae s = true) (hc : OW D) (hx : By .u8 (σ.off S) p n xs) (hlen : ((D.files s).getD ⟨[], 0⟩).data.length + n ≤ 4194304)
   (hw : Wr σ S d D (EY D.files s xs) (EY D.files s xs) (D.cnt + 1) R) : Spec prog 135 #[.pointer (some ⟨d, 0, none⟩), .string s, .slice p n c] σ R := by
 refine IL.start fun b3 Ur b4 fE b5 XJ => ?_
 obtain ⟨q3, d3, x3⟩ := Fg (o := .cells #[.pointer (some ⟨d, 0, none⟩)] 106 (0, 0)) hd Ur
 obtain ⟨q4, d4, x4⟩ := Fg (o := .cells #[.string s] 9 (0, 0)) d3 fE
 obtain ⟨q5, d5, x5⟩ := Fg (o := .cells #[.slice p n c] 84 (0, 0)) d4 XJ
 have Yu := x5 _ _ (x4 _ _ q3)
 have q4' := x5 _ _ q4
 have Cm := hx.mono (x3.trans (x4.trans x5))
 refine ⟨_, AD (Hp.AG.1 Yu).2 rfl, I4 d5 EB AKA AD5 AD5 (fun R h => Uq d5 Yu q4' q5 hn hc hlen h) (fun σ1 Ro he R h => Mi hn Ro (he _ _ Yu) (he _ _ q4') (he _ _ q5) (Cm.mono he) hlen h)
   (fun σ1 Ro he R h => Mi hn Ro (he _ _ Yu) (he _ _ q4') (he _ _ q5) (Cm.mono he) hlen h) ⟨fun σ' S' hD hE => ⟨0, rfl, hw.ok σ' S' hD (x3.trans (x4.trans (x5.trans hE)))⟩, fun ha σ' S' gs hg hD hE => ⟨60, rfl, hw.bad ha σ' S' gs hg hD (x3.trans (x4.trans (x5.trans hE)))⟩⟩⟩
theorem Z7 {s : ByteArray} {f : Fl} {b0 b1 : Nat} (h0 : (σ.off S) b0 = some (.cells #[.pointer (some ⟨d, 0, none⟩)] 106 (0, 0))) (h1 : (σ.off S) b1 = some (.cells #[.string s] 9 (0, 0))) (hf : D.files s = some f) :
   fC σ d D S 224 #[.pointer (some ⟨b0, 0, none⟩), .pointer (some ⟨b1, 0, none⟩)] (BD D.files s (some ⟨f.data, f.data.length⟩)) D.cnt := fun σ1 hd hx R h => by
 obtain ⟨m, cl, rows, T, a, b, e, hd⟩ := hd
 have Yt := Hp.AG.1 (hx _ _ h0)
 have XD := Hp.AG.1 (hx _ _ h1)
 refine ID.start ⟨_, AD Yt.2 rfl, d, 0, rfl, some m, AD hd.obj rfl, s, AD XD.2 rfl, hd.look (fun hn JO => (by rw [hf] at JO; cases JO)) fun r1 r r2 CL Ez JO => ⟨_, rfl, r.f, 0, rfl, r.p, r.n, r.c, ?_⟩⟩
 subst CL
 have hr := hd.row r (by simp)
 have FB := hd.out r (by simp)
 rw [hf] at JO
 cases JO
 refine ⟨AD hr.obj rfl, AJ.store (v := .int .i64 r.n) HT hr.obj rfl (by simp) (by simp [Value.cells, Value.oneCell']) ?_⟩
 have hw : DU #[Value.slice r.p r.n r.c, .int .i64 r.fl.GD] (0 + 1) (Value.int .i64 r.n).cells.toList = #[.slice r.p r.n r.c, .int .i64 r.n] := rfl
 rw [hw]
 have key := hd.change (σ' := σ1.set r.f (.cells #[.slice r.p r.n r.c, .int .i64 r.n] r.T (0, 0))) (r' := { r with fl := ⟨r.fl.data, r.n⟩ }) rfl rfl rfl
   ⟨Hp.AA _ _ _, Own.loc hr.own fun b hb => Hp.AH fun e => FB.1 (e ▸ hb), Nat.le_refl _, hr.small, hr.nm⟩ FB.1 (fun b u hb => by
     have h3 := Hp.AG.1 hb
     exact Hp.AG.2 ⟨h3.1, by rw [Hp.AH fun e => h3.1 (by simp [Row.blocks, e])]; exact h3.2⟩)
 rw [Ez] at key
 exact h _ _ ⟨_, _, _, _, _, _, _, key.1⟩ key.2
theorem TP {s : ByteArray} {f : Fl} (hd : A6 σ d D S) (EB : D.up = true) (hn : Ae s = true) (hf : D.files s = some f)
   (hw : Wr σ S d D (BD D.files s (some ⟨f.data, f.data.length⟩)) D.files D.cnt R) : Spec prog 133 #[.pointer (some ⟨d, 0, none⟩), .string s] σ R := by
 refine KE.start fun b3 Ur b4 fE => ?_
 obtain ⟨q3, d3, x3⟩ := Fg (o := .cells #[.pointer (some ⟨d, 0, none⟩)] 106 (0, 0)) hd Ur
 obtain ⟨q4, d4, x4⟩ := Fg (o := .cells #[.string s] 9 (0, 0)) d3 fE
 have Yu := x4 _ _ q3
 refine ⟨_, AD (Hp.AG.1 Yu).2 rfl, I4 d4 EB AKB AKC yC (fun R h => IF.start ⟨_, AD (Hp.AG.1 Yu).2 rfl, s, AD (Hp.AG.1 q4).2 rfl, I3 d4 (fun hh => by rw [hn] at hh; cases hh) (fun _ hh => by rw [hf] at hh; cases hh) fun f' _ _ => ⟨0, rfl, h⟩⟩)
   (Z7 Yu q4 hf) (I5 (Nat.le_refl _)) ⟨fun σ' S' hD hE => ⟨0, rfl, hw.ok σ' S' hD (x3.trans (x4.trans hE))⟩, fun ha σ' S' gs hg hD hE => ⟨60, rfl, hw.bad ha σ' S' gs hg hD (x3.trans (x4.trans hE))⟩⟩⟩
theorem Ao.AKF {m cl : Nat} {r1 r2 : List Row} {r : Row} {T : TypeId} {a b e : Int} (hd : Ao σ d D S m cl (r1 ++ r :: r2) T a b e) {σ' : Hp} (hσ : ∀ b, b ≠ m → σ' b = σ b) {cl' : Nat} (hm : A2 σ' m ((r1 ++ r2).map Row.Cj) cl') :
   Ao σ' d { D with files := BD D.files r.name none } (TwW.EW d m (r1 ++ r2)) m cl' (r1 ++ r2) T a b e ∧ Ext (σ.off S) (σ'.off (TwW.EW d m (r1 ++ r2))) := by
 have CV : ∀ x ∈ r1 ++ r2, x ∈ r1 ++ r :: r2 := fun x hx => by
   rcases List.mem_append.1 hx with h | h <;> simp [h]
 refine hd.kX hσ hm (fun x hx => hd.row x (CV x hx)) (fun x hx b hb => ⟨hd.OU (CV x hx) hb, fun e => (hd.out x (CV x hx)).2.1 (e ▸ hb), fun e => (hd.out x (CV x hx)).2.2 (e ▸ hb)⟩) (fun x hx => (hd.out x (CV x hx)).1) ?_ ?_ ?_
 · exact hd.sep.sublist (List.Sublist.append_left (List.sublist_cons_self ..) _)
 · rw [hd.files, Row.XB hd.names]
 · have := hd.cnt; simp at this ⊢; omega
theorem Us {s : ByteArray} {f : Fl} {b0 b1 : Nat} (h0 : (σ.off S) b0 = some (.cells #[.pointer (some ⟨d, 0, none⟩)] 106 (0, 0))) (h1 : (σ.off S) b1 = some (.cells #[.string s] 9 (0, 0))) (hf : D.files s = some f) :
   fC σ d D S 233 #[.pointer (some ⟨b0, 0, none⟩), .pointer (some ⟨b1, 0, none⟩)] (BD D.files s none) D.cnt := fun σ1 hd hx R h => by
 obtain ⟨m, cl, rows, T, a, b, e, hd⟩ := hd
 have Yt := Hp.AG.1 (hx _ _ h0)
 have XD := Hp.AG.1 (hx _ _ h1)
 refine Gq.start ⟨_, AD Yt.2 rfl, d, 0, rfl, some m, AD hd.obj rfl, s, AD XD.2 rfl, Pw (T := 186) hd.map (fun hn => ?_) (fun l1 x l2 hl hx σ' hσ hm => ?_) rfl⟩
 · exfalso
   rw [hd.files, Row.FV (IS hn)] at hf; cases hf
 · obtain ⟨r1, r, r2, rfl, rfl, rfl, rfl⟩ := EX hl
   have key := hd.AKF (σ' := σ') (fun b hb => by rw [hσ, Hp.AH hb]) (by simpa using hm)
   rw [GU.1 hx] at key
   exact h _ _ ⟨_, _, _, _, _, _, _, key.1⟩ key.2
theorem OY {s : ByteArray} {f : Fl} (hd : A6 σ d D S) (EB : D.up = true) (hn : Ae s = true) (hf : D.files s = some f)
   (hw : Wr σ S d D (BD D.files s none) D.files D.cnt R) : Spec prog 138 #[.pointer (some ⟨d, 0, none⟩), .string s] σ R := by
 refine II.start fun b3 Ur b4 fE => ?_
 obtain ⟨q3, d3, x3⟩ := Fg (o := .cells #[.pointer (some ⟨d, 0, none⟩)] 106 (0, 0)) hd Ur
 obtain ⟨q4, d4, x4⟩ := Fg (o := .cells #[.string s] 9 (0, 0)) d3 fE
 have Yu := x4 _ _ q3
 refine ⟨_, AD (Hp.AG.1 Yu).2 rfl, I4 d4 EB AKD AKE yC (fun R h => Gn.start ⟨_, AD (Hp.AG.1 Yu).2 rfl, s, AD (Hp.AG.1 q4).2 rfl, I3 d4 (fun hh => by rw [hn] at hh; cases hh) (fun _ hh => by rw [hf] at hh; cases hh) fun f' _ _ => ⟨0, rfl, h⟩⟩)
   (Us Yu q4 hf) (I5 (Nat.le_refl _)) ⟨fun σ' S' hD hE => ⟨0, rfl, hw.ok σ' S' hD (x3.trans (x4.trans hE))⟩, fun ha σ' S' gs hg hD hE => ⟨60, rfl, hw.bad ha σ' S' gs hg hD (x3.trans (x4.trans hE))⟩⟩⟩
def fF (L : List (List Nat)) : Prop := L.Pairwise fun a b => ∀ x ∈ a, x ∉ b
theorem Nq {L L' : List (List Nat)} (h : L.Perm L') (g : fF L) : fF L' := (h.pairwise_iff (fun {x y} hxy b hb JW => hxy b JW hb)).1 g
theorem Nr {rows : List Row} : (rows.Pairwise fun r s => ∀ b ∈ r.blocks, b ∉ s.blocks) ↔ fF (rows.map Row.blocks) := by rw [fF, List.pairwise_map]
theorem Qf {r q : Row} : ∀ {r1 r2 q1 q2 : List Row}, ((r1 ++ r :: r2).map (·.name)).Nodup → r1 ++ r :: r2 = q1 ++ q :: q2 → r.name = q.name → r1 = q1 ∧ r = q ∧ r2 = q2
 | [], _, [], _, _, h, _ => by simp at h; exact ⟨rfl, h⟩
 | [], r2, c :: q1, q2, hn, h, he => by
   simp at h
   obtain ⟨rfl, rfl⟩ := h
   exact absurd he.symm ((HS (r1 := []) hn).2 q (by simp))
 | c :: r1, r2, [], q2, hn, h, he => by
   simp at h
   obtain ⟨rfl, rfl⟩ := h
   exact absurd he.symm ((HS hn).1 c (by simp))
 | c :: r1, r2, c' :: q1, q2, hn, h, he => by
   simp at h
   obtain ⟨rfl, h⟩ := h
   have := Qf (by simp at hn ⊢; exact hn.2) h he
   exact ⟨by rw [this.1], this.2⟩
theorem Ut {s t : ByteArray} {f : Fl} {b0 b1 b2 : Nat} (hnt : Ae t = true) (h0 : (σ.off S) b0 = some (.cells #[.pointer (some ⟨d, 0, none⟩)] 106 (0, 0))) (h1 : (σ.off S) b1 = some (.cells #[.string s] 9 (0, 0))) (h2 : (σ.off S) b2 = some (.cells #[.string t] 9 (0, 0))) (hf : D.files s = some f) :
   fC σ d D S 293 #[.pointer (some ⟨b0, 0, none⟩), .pointer (some ⟨b1, 0, none⟩), .pointer (some ⟨b2, 0, none⟩)] (BD (BD D.files s none) t (some f)) D.cnt := fun σ1 hd hx R h => by
 obtain ⟨m, cl, rows, T, a, b, e, hd⟩ := hd
 have h0 := hx _ _ h0
 have h1 := hx _ _ h1
 have h2 := hx _ _ h2
 have Yt := Hp.AG.1 h0
 have XD := Hp.AG.1 h1
 have fD := Hp.AG.1 h2
 have n0 : b0 ≠ m := fun e => Yt.1 (e ▸ hd.Mh)
 have n2 : b2 ≠ m := fun e => fD.1 (e ▸ hd.Mh)
 refine Gv.start ⟨_, AD Yt.2 rfl, d, 0, rfl, some m, AD hd.obj rfl, s, AD XD.2 rfl, hd.look (fun hn JO => (by rw [hf] at JO; cases JO)) fun r1 r r2 CL Ez JO => ⟨_, rfl, _, AD Yt.2 rfl, d, 0, rfl, some m, AD hd.obj rfl, s, AD XD.2 rfl, ?_⟩⟩
 refine Pw (T := 186) hd.map (fun hn => ?_) (fun l1 x l2 hl Ay σ2 Zp hm2 => ?_) rfl
 · exfalso
   rw [hd.files, Row.FV (IS hn)] at hf; cases hf
 · obtain ⟨q1, q, q2, yD, rfl, rfl, rfl⟩ := EX hl
   have SB := hd.names
   rw [CL] at SB
   obtain ⟨rfl, rfl, rfl⟩ := Qf SB (CL.symm.trans yD) (Ez.trans (GU.1 Ay).symm)
   subst CL
   have CV : ∀ x ∈ r1 ++ r2, x ∈ r1 ++ r :: r2 := fun x hx => by
     rcases List.mem_append.1 hx with h | h <;> simp [h]
   have Cf : ∀ x ∈ r1 ++ r :: r2, ∀ b ∈ x.blocks, b ∈ S ∧ b ≠ d ∧ b ≠ m := fun x hx b hb => ⟨hd.OU hx hb, fun e => (hd.out x hx).2.1 (e ▸ hb), fun e => (hd.out x hx).2.2 (e ▸ hb)⟩
   have AD8 : ((r1 ++ r2).map (·.name)).Nodup := SB.sublist ((List.Sublist.append_left (List.sublist_cons_self ..) _).map _)
   rw [hf] at JO
   cases JO
   have kf : fF ((r :: (r1 ++ r2)).map Row.blocks) := Nq (List.perm_middle.map _) (Nr.1 hd.sep)
   have N8 : BD D.files s none = Row.look (r1 ++ r2) := by rw [hd.files, Row.XB SB, Ez]
   have hlen : (r1 ++ r2).length + 1 ≤ D.cnt := by have := hd.cnt; simp at this ⊢; omega
   have hm3 : A2 σ2 m ((r1 ++ r2).map Row.Cj) cl := by simpa using hm2
   refine ⟨_, AD (by rw [Zp, Hp.AH n0]; exact Yt.2) rfl, d, 0, rfl, some m, AD (by rw [Zp, Hp.AH (Ne.symm hd.ne)]; exact hd.obj) rfl, t, AD (by rw [Zp, Hp.AH n2]; exact fD.2) rfl, EE hm3 (fun BQ σ3 yE hm => ?_) fun k1 x k2 hk fG σ3 yE hm => ?_⟩
   · have key := hd.kX (σ' := σ3) (rows' := (r1 ++ r2) ++ [{ r with name := t, born := cl }]) (clock' := cl + 1) (fs := BD (BD D.files s none) t (some r.fl)) (cnt := D.cnt) (fun b hb => by rw [yE, Hp.AH hb, Zp, Hp.AH hb]) (by simpa [Row.Cj] using hm) ?_ ?_ ?_ ?_ ?_ ?_
     · exact h σ3 _ ⟨_, _, _, _, _, _, _, key.1⟩ key.2
     · intro x hx
       rcases List.mem_append.1 hx with hx | hx
       · exact hd.row x (CV x hx)
       · rw [List.mem_singleton] at hx; subst hx
         have := hd.row r (by simp)
         exact ⟨this.obj, this.own, this.GD, this.small, hnt⟩
     · intro x hx
       rcases List.mem_append.1 hx with hx | hx
       · exact Cf x (CV x hx)
       · rw [List.mem_singleton] at hx; subst hx
         exact Cf r (by simp)
     · intro x hx
       rcases List.mem_append.1 hx with hx | hx
       · exact (hd.out x (CV x hx)).1
       · rw [List.mem_singleton] at hx; subst hx
         exact (hd.out r (by simp)).1
     · rw [Nr]
       refine Nq ?_ kf
       rw [List.map_cons, List.map_append (l₁ := r1 ++ r2)]
       exact (List.perm_append_singleton (Row.blocks r) _).symm
     · rw [N8]
       exact (Row.TO (r := { r with name := t, born := cl }) (fun x hx => IS BQ x hx)).symm
     · simp at hlen ⊢; omega
   · obtain ⟨q1, q, q2, hq, rfl, rfl, rfl⟩ := EX hk
     rw [hq] at CV AD8 kf N8 hlen
     have key := hd.kX (σ' := σ3) (rows' := q1 ++ { r with name := t, born := q.born } :: q2) (clock' := cl) (fs := BD (BD D.files s none) t (some r.fl)) (cnt := D.cnt) (fun b hb => by rw [yE, Hp.AH hb, Zp, Hp.AH hb]) (by simpa [Row.Cj] using hm) ?_ ?_ ?_ ?_ ?_ ?_
     · exact h σ3 _ ⟨_, _, _, _, _, _, _, key.1⟩ key.2
     · intro x hx
       rcases List.mem_append.1 hx with hx | hx
       · exact hd.row x (CV x (by simp [hx]))
       · rcases List.mem_cons.1 hx with rfl | hx
         · have := hd.row r (by simp)
           exact ⟨this.obj, this.own, this.GD, this.small, hnt⟩
         · exact hd.row x (CV x (by simp [hx]))
     · intro x hx
       rcases List.mem_append.1 hx with hx | hx
       · exact Cf x (CV x (by simp [hx]))
       · rcases List.mem_cons.1 hx with rfl | hx
         · exact Cf r (by simp)
         · exact Cf x (CV x (by simp [hx]))
     · intro x hx
       rcases List.mem_append.1 hx with hx | hx
       · exact (hd.out x (CV x (by simp [hx]))).1
       · rcases List.mem_cons.1 hx with rfl | hx
         · exact (hd.out r (by simp)).1
         · exact (hd.out x (CV x (by simp [hx]))).1
     · rw [Nr]
       have h1 : fF ((r :: (q1 ++ q2)).map Row.blocks) := kf.sublist (((List.Sublist.append_left (List.sublist_cons_self ..) _).cons₂ r).map _)
       refine Nq ?_ h1
       rw [List.map_cons, List.map_append, List.map_append, List.map_cons]
       exact List.perm_middle.symm
     · rw [N8, ← GU.1 fG]
       exact (Row.OV (r' := { r with name := q.name, born := q.born }) AD8 rfl).symm
     · simp at hlen ⊢; omega
theorem XK {s t : ByteArray} {f : Fl} (hd : A6 σ d D S) (EB : D.up = true) (hn : Ae s = true) (Jj : Ae t = true) (hf : D.files s = some f)
   (hw : Wr σ S d D (BD (BD D.files s none) t (some f)) D.files D.cnt R) : Spec prog 231 #[.pointer (some ⟨d, 0, none⟩), .string s, .string t] σ R := by
 refine IQ.start fun b3 Ur b4 fE b5 XJ => ?_
 obtain ⟨q3, d3, x3⟩ := Fg (o := .cells #[.pointer (some ⟨d, 0, none⟩)] 106 (0, 0)) hd Ur
 obtain ⟨q4, d4, x4⟩ := Fg (o := .cells #[.string s] 9 (0, 0)) d3 fE
 obtain ⟨q5, d5, x5⟩ := Fg (o := .cells #[.string t] 9 (0, 0)) d4 XJ
 have Yu := x5 _ _ (x4 _ _ q3)
 have q4' := x5 _ _ q4
 refine ⟨_, AD (Hp.AG.1 Yu).2 rfl, I4 d5 EB AD6 AD7 yC (fun R h => Gz.start ⟨t, AD (Hp.AG.1 q5).2 rfl, Kf ⟨_, rfl, fun hh => (by rw [Jj] at hh; cases hh), fun _ => ⟨_, AD (Hp.AG.1 Yu).2 rfl, s, AD (Hp.AG.1 q4').2 rfl,
     I3 d5 (fun hh => by rw [hn] at hh; cases hh) (fun _ hh => by rw [hf] at hh; cases hh) fun f' _ _ => ⟨0, rfl, h⟩⟩⟩⟩)
   (Ut Jj Yu q4' q5 hf) (I5 (Nat.le_refl _)) ⟨fun σ' S' hD hE => ⟨0, rfl, hw.ok σ' S' hD (x3.trans (x4.trans (x5.trans hE)))⟩, fun ha σ' S' gs hg hD hE => ⟨60, rfl, hw.bad ha σ' S' gs hg hD (x3.trans (x4.trans (x5.trans hE)))⟩⟩⟩
end
end TwW
end
section
namespace TwW
open Go Tw Go.Proofs.Tryz
section
variable {σ : Hp} {d : Nat} {D : Dk} {S : List Nat} {R : Rr}
theorem SC (h : ∀ d σ' S', A6 σ' d ⟨fun _ => none, true, false, 0⟩ S' → Ext σ (σ'.off S') → R (.returned (.pointer (some ⟨d, 0, none⟩))) σ') : Spec prog 42 #[] σ R := by
 refine Wk.start (HM fun m hm => ⟨m, rfl, fun d hd => ?_⟩)
 have Ad : m ≠ d := fun e => by rw [e, Hp.AA] at hd; cases hd
 have yF : σ d = none := by rw [Hp.AH (Ne.symm Ad)] at hd; exact hd
 refine h d _ [d, m] ⟨m, 0, [], 188, 0, 0, 0, ⟨rfl, Ad, by simp, by simp, Hp.AA _ _ _, ?_, by simp, rfl, Nat.le_refl _⟩⟩ ((Ext.set hm).trans (Ext.set hd) |>.ij (by simp [hm, yF]))
 exact A2.fresh.loc (Hp.AH Ad)
theorem cn (hd : A6 σ d D S) (h : R (.returned (.bool D.up)) σ) : Spec prog 91 #[.pointer (some ⟨d, 0, none⟩)] σ R := by
 obtain ⟨m, cl, rows, T, a, b, e, hd⟩ := hd
 exact MV.start ⟨d, 0, rfl, _, AD hd.obj rfl, h⟩
theorem fH {s : ByteArray} {f : Fl} (hd : A6 σ d D S) (EB : D.up = true) (hn : Ae s = true) (hf : D.files s = some f)
   (h : ∀ p c σ', AS .u8 (σ.new σ') p f.data.length c f.data → Ext σ σ' → R (.returned (.tuple #[.slice p f.data.length c, .int .i64 0])) σ') : Spec prog 176 #[.pointer (some ⟨d, 0, none⟩), .string s] σ R := by
 have yF := hd
 obtain ⟨m, cl, rows, T, a, b, e, hdi⟩ := yF
 refine J7.start ⟨d, 0, rfl, _, AD hdi.obj rfl, fun hh => (by rw [EB] at hh; cases hh), fun _ => I3 hd (fun hh => by rw [hn] at hh; cases hh) (fun _ hh => by rw [hf] at hh; cases hh) fun f' _ _ => ⟨0, rfl, fun hh => absurd rfl hh, fun _ PU hb => ?_⟩⟩
 have SD := hdi.mono (σ' := σ.set PU (.cells #[] 5 (0, 0))) (.set hb)
 refine ⟨some m, AD SD.obj rfl, SD.look (fun _ JO => by rw [hf] at JO; cases JO) fun r1 r r2 CL Ez JO => ⟨_, rfl, r.f, 0, rfl, r.p, r.n, r.c, ?_⟩⟩
 rw [hf] at JO
 cases JO
 have hr := SD.row r (by simp [CL])
 refine ⟨AD hr.obj rfl, ?_⟩
 have FW : r.n ≤ 140737488355328 := Nat.le_trans hr.small (by decide)
 have hq : ∀ a : Addr, (some (⟨PU, 0, none⟩ : Addr)) = some a → σ a.block = none := fun a ha => by cases ha; exact hb
 refine ER (T := 84) Own.empty (Own.rd hr.own) CN.Cn (by rw [Nat.zero_add, Nat.mul_one]; exact FW) fun p' c' σ' AZ EK => ⟨p', _, c', rfl, ?_⟩
 rw [Nat.zero_add] at AZ ⊢
 exact h p' c' σ' (Own.CO AZ (Bt hq EK (.set hb))) (CX hq EK (.set hb))
theorem AD9 {s : ByteArray} {h : Nat} (hh : h ≤ s.size) : YF prog (Instr.sliceAt 9 (.string s) none (some (.int .i64 (h : Int))) none) σ (.string (s.extract 0 h)) := fun w _ => by
 rw [run_sliceAt_string (h := underlying9)]
 have h1 : (h : Int) ≤ s.size := by omega
 simp [Instr.slice, run_underlying underlying9, Instr.sliceBounds, run_sliceBound, h1, Result.andThen]
theorem qQ {s : ByteArray} {l : Nat} (hl : l ≤ s.size) : YF prog (Instr.sliceAt 9 (.string s) (some (.int .i64 (l : Int))) none none) σ (.string (s.extract l s.size)) := fun w _ => by
 rw [run_sliceAt_string (h := underlying9)]
 have h1 : (l : Int) ≤ s.size := by omega
 simp [Instr.slice, run_underlying underlying9, Instr.sliceBounds, run_sliceBound, h1, Result.andThen]
def BP (s t : ByteArray) : Bool := decide (t.data.toList <+: s.data.toList)
theorem XL {s : ByteArray} {i j : Nat} : (s.extract i j).data.toList = (s.data.toList.drop i).take (j - i) := by
 rw [ByteArray.data_extract, Array.toList_extract, List.extract]
theorem Qg {a b : ByteArray} : (ByteArray.toList a == ByteArray.toList b) = decide (a.data.toList = b.data.toList) := by
 rw [ByteArray.toList_eq, ByteArray.toList_eq]
 by_cases h : a.data.toList = b.data.toList
 · simp [h]
 · rw [decide_eq_false h]; exact beq_eq_false_iff_ne.2 h
theorem Qh {s t : ByteArray} (h : R (.returned (.bool (BP s t))) σ) : Spec prog 169 #[.string s, .string t] σ R := by
 have hs : s.data.toList.length = s.size := rfl
 have ht : t.data.toList.length = t.size := rfl
 refine Cw.start ⟨fun hle => ⟨_, AD9 (by omega), ?_⟩, fun hgt => ?_⟩
 · rw [Qg, XL]
   have : (List.take (t.size - 0) (List.drop 0 s.data.toList) = t.data.toList) ↔ t.data.toList <+: s.data.toList := by
     rw [List.drop_zero, Nat.sub_zero, ← ht]
     exact ⟨fun e => e ▸ List.take_prefix _ _, fun e => (List.prefix_iff_eq_take.1 e).symm⟩
   rw [show decide (List.take (t.size - 0) (List.drop 0 s.data.toList) = t.data.toList) = BP s t from decide_eq_decide.2 this]
   exact h
 · have : BP s t = false := by
     unfold BP
     rw [decide_eq_false_iff_not]
     intro e
     have := e.length_le
     omega
   rwa [this] at h
theorem fI {s t : ByteArray} (h : R (.returned (.bool (BP s t))) σ) : Spec prog 92 #[.string s, .string t] σ R :=
 strings_HasPrefix.start (Qh ⟨_, rfl, h⟩)
theorem fJ {s t : ByteArray} (h0 : BP s t = false → R (.returned (.tuple #[.string s, .bool false])) σ) (h1 : BP s t = true → R (.returned (.tuple #[.string (s.extract t.size s.size), .bool true])) σ) : Spec prog 300 #[.string s, .string t] σ R := by
 refine strings_CutPrefix.start (Ct.start (Qh ⟨_, rfl, fun hf => ⟨_, _, rfl, h0 hf⟩, fun ht => ⟨_, qQ ?_, _, _, rfl, h1 ht⟩⟩))
 have : t.data.toList <+: s.data.toList := by simpa [BP] using ht
 exact this.length_le
end
end TwW
end
