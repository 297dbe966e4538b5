/-
  Part 6 of the proof that the law EvalMomentsUptoCardSaid of the given program answers true for every input of the given statement; the input reads behind the call as it did. (The texts: packed from 5 texts. Names are shortened by the packing program, for the bound on size.)
-/
import Derived.Test.YthdjajblkfphiaaGreatDoorA5
import Derived.Test.YthdjajblkfphiaaGreatDoorCards
import Derived.Test.YthdjajblkfphiaaGreatDoorTie
import Derived.WalkKit
import Derived.OpenShut
import Derived.Deep.DeepHandedRow
import Derived.Stop.LaidErr
import Derived.Shelf.Vars
set_option linter.all false
section
namespace TwW
open Go Tw Go.RowKit Go.Proofs.Tryz
structure tO where
 b5:Nat
 b6:Nat
 CC:Nat
 A7:Nat
 Bc:Nat
 BT:Nat
 D:Nat
 l:Nat
 m:Nat
 p:Option Addr
 n:Nat
 c:Nat
 q:Option Addr
 k:Nat
 d:Nat
 r0:Loop
abbrev tO.L (X:tO)(w:Option Addr)(k e:Nat)(om:Obj)(x:Int)(lo:Loop):List (Nat×Obj):=
 [(X.l,.loop lo),(X.D,.deferred (some [])),(X.BT,.cells #[.slice w k e] 23 (0,0)),(X.Bc,.cells #[.map (some X.m)] 57 (0,0)),(X.A7,.cells #[.I x] 26 (0,0)),(X.CC,.cells #[.N] 23 (0,0)),(X.b6,.cells #[.slice X.q X.k X.d] 23 (0,0)),(X.b5,.cells #[.slice X.p X.n X.c] 22 (0,0)),(X.m,om)]
abbrev tO.bl (X:tO):List Nat:=[X.l,X.D,X.BT,X.Bc,X.A7,X.CC,X.b6,X.b5,X.m]
def tO.nd (X:tO):Prop:=X.bl.Nodup
def tO.off (X:tO)(B:Hp):Prop:=∀b∈X.bl,B b=none
def MO (m:Nat)(om:Obj)(L:List (ByteArray×Nat)):Prop:=∀σ:Hp,σ m=some om→MS (fun v (i:Nat)=>v=.I i) σ m L
section
variable {σ τ B:Hp}{R:Rr}{X:tO}{w:Option Addr}{j e:Nat}{gs:List Gr}{qs:List (Option Addr×Nat)}{om:Obj}
theorem MO.of {m:Nat}{L:List (ByteArray×Nat)}(h:MS (fun v (i:Nat)=>v=.I i) B m L)(ho:B m=some om):MO m om L:=fun σ' h'=>h.loc (h'.trans ho.symm)
theorem sK {BR i Kw RF:Nat}{t v Ma:Int}{Lc:Int}{vl:Value}{g:Gr}{Ur:Option Addr}(hn:(BR::X.bl).Nodup)(JJ:X.off B)(tL:B BR=none)(hG:Gk GL1 2 EPv τ B w j e gs qs)(hg:gs[i]?=some g)(hk:g.2.length≤3000000000000)
  (next:∀B' UZ,X.off B'→Gk GL1 2 EPv τ B' w j e (gs.set i (g.1,g.2++[(t,v)])) UZ→AM (Ma+1)∧A9.Wf R X.l X.r0 X.Bc X.BT t Ur Kw RF Lc (Ma+1) (AU B' (X.L w j e om 0 (lp X.r0 .busy none)))) :
  A9.uG R X.l X.r0 X.Bc X.BT t BR (i:Int) Ur Kw RF Lc Ma (AU B ((BR,.cells #[vl,.U v] 64 (0,0))::X.L w j e om 0 (lp X.r0 .busy none))):=by
 obtain⟨bg,og,q,pl,nl,cl,rfl,hq,Ee,_⟩:=hG.at hg;have I2:i<j:=by have:=hG.fL;have:=(AWk.1 hg).1;omega
 let L:List (Nat×Obj):=(BR,.cells #[vl,.U v] 64 (0,0))::X.L (some ⟨bg,og,none⟩) j e om 0 (lp X.r0 .busy none)
 have hL:(names L).Nodup:=hn;have ho:HZ L B:=fun x hx=>by
  rcases AWo.1 hx with rfl|hx
  ·exact tL
  ·exact JJ x hx
 have tI:Ext B (AU B L):=HZ.ext hL ho;have e14:Hp.ld (AU B L) ⟨X.BT,0,none⟩=some (.slice (some ⟨bg,og,none⟩) j e):=Pj (i:=3) hL rfl rfl;have lW:Hp.ld (AU B L) ⟨bg,(og+Int.toNat (i:Int)*2)+1,none⟩=some (.slice q.1 g.2.length q.2):=by
  rw[AYe];exact(Ee.mono tI).2.1
 refine A9.uQ ⟨_,j,e,e14,_,j,e,e14,bg,og,rfl,⟨by omega,by omega⟩,q.1,g.2.length,q.2,lW,v,Pj (i:=0) hL rfl rfl,fun Uu APj=>?_⟩;obtain⟨n109,hB9⟩:=BD (L:=L) APj;show AH prog (Builtin.append_ #[43,43] 43 #[.slice q.1 g.2.length q.2,.slice (some ⟨Uu,0,none⟩) 1 1]) ((AU B L).set Uu (.cells #[.I t,.U v] 42 (0,0))) _
 rw[Dy n109];refine AH.Cd hL (ho.set n109) (Gk.push (T:=43) (Et:=42) (ty:=43) (TS:=43) (x:=(t,v)) (vs:=[.I t,.U v]) (Φ:=fun _ σ2=>HZ L σ2→AM (Ma+1)∧A9.Wf R X.l X.r0 X.Bc X.BT t Ur Kw RF Lc (Ma+1) (AU σ2 L)) r5 hG hg hq rfl rfl rfl (fun u hu=>by
  simp only[AWo,AXA,AXk]at hu;rcases hu with rfl|rfl<;>rfl) hB9 (by omega) (fun p' c' σ1 _ IH CU=>⟨p',g.2.length+1,c',rfl,tu (i:=3) hL rfl,bg,og,rfl,⟨by omega,by omega⟩,?_⟩) fun q' σ2 zI UX=>?_)
 ·rw[AYe,AZR];exact AH.Cd hL CU IH
 ·have n19:BR ∉ X.bl:=(AXL.1 hn).1;have APk:σ2 BR=none:=UX BR (AW1 ..);have e1:AU σ2 L=AU (σ2.set BR (.cells #[vl,.U v] 64 (0,0))) (X.L (some ⟨bg,og,none⟩) j e om 0 (lp X.r0 .busy none)):=Dy (L:=X.L (some ⟨bg,og,none⟩) j e om 0 (lp X.r0 .busy none)) n19;rw[e1];exact next _ _ (fun y hy=>by rw[Hp.AF (show y≠BR from fun e=>n19 (e▸hy))];exact UX y (AWq _ hy)) (zI.mono (Ext.set APk))
theorem AC2 {i Kw RF:Nat}{t:Int}{l:List El}{x:El}{Ur:Option Addr}(hn:X.nd)(JJ:X.off B)(hG:VB σ τ B w j e gs qs)(hm:MO X.m om (UN 0 (gs.map Gr.sr)))(hr:Ac 2 By τ Ur Kw l)(hx:l[i]?=some x)(YG:Ai x.ls)(bY:Bd (gs.map Gr.sr) 2800000000000)(hi:i≤4000000000000)
  (next:∀τ' B' w' j' e' Ua UZ Q5,X.off B'→VB σ τ' B' w' j' e' Ua UZ→MO X.m Q5 (UN 0 (Ua.map Gr.sr))→Ua.map Gr.sr=HJ (gs.map Gr.sr) x.ls (t,x.v)→Ext τ τ'→A9.Wf R X.l X.r0 X.Bc X.BT t Ur Kw RF (Kw:Int) ((i+1:Nat):Int) (AU B' (X.L w' j' e' Q5 0 (lp X.r0 .busy none)))) :
  A9.Wf R X.l X.r0 X.Bc X.BT t Ur Kw RF (Kw:Int) (i:Int) (AU B (X.L w j e om 0 (lp X.r0 .busy none))):=by
 have hL:(names (X.L w j e om 0 (lp X.r0 .busy none))).Nodup:=hn;have tI:Ext B (AU B (X.L w j e om 0 (lp X.r0 .busy none))):=HZ.ext hL JJ;have zG:gs.length=j:=hG.gk.fL;have hbl:=bY.1;rw[AW9]at hbl;have tH:i<Kw:=by have:=(AWk.1 hx).1;have h9:l.length=Kw:=hr.1;omega
 obtain⟨Ve,lL,q,m',d,rfl,hl,APm⟩:=By.at hr hx;have U9:Dz B q m' x.ls:=APm.mono BM.mono hG.gk.ext;have yu:m'≤1000000000:=by
  have:=YG.1;have h9:x.ls.length=m':=U9.1;omega
 have nxt:∀τ' B' w' j' e' Ua UZ Q5,X.off B'→VB σ τ' B' w' j' e' Ua UZ→MO X.m Q5 (UN 0 (Ua.map Gr.sr))→Ua.map Gr.sr=HJ (gs.map Gr.sr) x.ls (t,x.v)→Ext τ τ'→AM ((i:Int)+1)∧A9.Wf R X.l X.r0 X.Bc X.BT t (some ⟨Ve,lL,none⟩) Kw RF (Kw:Int) ((i:Int)+1) (AU B' (X.L w' j' e' Q5 0 (lp X.r0 .busy none))):=fun τ' B' w' j' e' Ua UZ Q5 h1 h2 h3 h4 h5=>⟨by unfold AM;omega,by
  have:=next τ' B' w' j' e' Ua UZ Q5 h1 h2 h3 h4 h5
  rw[show((i+1:Nat):Int)=(i:Int)+1 by omega]at this;exact this⟩
 refine A9.fx ⟨fun _=>⟨Ve,lL,rfl,⟨by omega,by omega⟩,q,m',d,x.v,by simpa using hl.mono (hG.gk.ext.trans tI),fun BR tL=>?_⟩,fun hh=>by omega⟩;obtain⟨n19,APn⟩:=BD (L:=X.L w j e om 0 (lp X.r0 .busy none)) tL;have rR:(BR::X.bl).Nodup:=AXL.2 ⟨n19,hn⟩
 let L0:List (Nat×Obj):=(BR,.cells #[.N,.U 0] 64 (0,0))::X.L w j e om 0 (lp X.r0 .busy none)
 let Lo:Option Addr→Nat→Nat→Obj→List (Nat×Obj):=fun w j e om=>(BR,.cells #[.slice q m' d,.U x.v] 64 (0,0))::X.L w j e om 0 (lp X.r0 .busy none)
 let L1:List (Nat×Obj):=(BR,.cells #[.slice q m' d,.U x.v] 64 (0,0))::X.L w j e om 0 (lp X.r0 .busy none)
 have sN:(names L1).Nodup:=rR;have CU:∀{B' w j e om},X.off B'→B' BR=none→HZ (Lo w j e om) B':=fun ho h9 x hx=>by
  rcases AWo.1 hx with rfl|hx
  ·exact h9
  ·exact ho x hx
 have wq:∀{B' w j e om},HZ (Lo w j e om) B'→X.off B'∧B' BR=none:=fun ho=>⟨fun x hx=>ho x (AWq _ hx),ho BR (AW1 ..)⟩;show AH prog (Instr.storeAt 64 (.pointer (some ⟨BR,0,none⟩)) (.agg #[.slice q m' d,.U x.v])) (AU B L0) _
 refine AH.Fm (L:=L0) (i:=0) (c:=#[.N,.U 0]) (c':=#[.slice q m' d,.U x.v]) ACi rR rfl rfl rfl rfl rfl ?_;show ∃dD:Option Nat,Hp.ld (AU B L1) ⟨X.Bc,0,none⟩=some (.map dD)∧∃p76:Option Addr,∃n76:Nat,∃c76:Nat,Hp.ld (AU B L1) ⟨BR,0,none⟩=some (.slice p76 n76 c76)∧Spec prog 19 #[.slice p76 n76 c76] (AU B L1) _
 have AKQ:∀{B':Hp} {R':Rr},Ext B B'→X.off B'→B' BR=none→(∀B2,Ext B' B2→X.off B2→B2 BR=none→R' (.returned (.string (EE x.ls))) (AU B2 L1))→Spec prog 19 #[.slice q m' d] (AU B' L1) R':=fun hx ho h9 hh=>
  Spec.Cd sN (CU ho h9) (E9 (U9.mono BM.mono hx) YG fun B2 A4 Bp=>hh B2 A4 (wq Bp).1 (wq Bp).2)
 refine⟨some X.m,Pj (L:=L1) (i:=4) sN rfl rfl,q,m',d,Pj (L:=L1) (i:=0) sN rfl rfl,AKQ (.refl _) JJ APn fun B2 A4 Bp h92=>⟨_,rfl,tu (L:=L1) (i:=4) sN rfl,?_⟩⟩;refine(hm _ (A2 (L:=L1) (i:=9) sN rfl)).hZ (z:=.I 0) (fun w=>by kernel_rfl) (fun DS=>⟨0,false,rfl,fun _=>?_,fun hh=>(by cases hh)⟩) fun v' i' hh hv=>?_
 ·refine⟨w,j,e,Pj (L:=L1) (i:=3) sN rfl rfl,some X.m,Pj (L:=L1) (i:=4) sN rfl rfl,q,m',d,Pj (L:=L1) (i:=0) sN rfl rfl,AKQ A4 Bp h92 fun B3 CG Db h93=>⟨_,rfl,tu (L:=L1) (i:=4) sN rfl,?_⟩⟩;refine(hm _ (A2 (L:=L1) (i:=9) sN rfl)).put (x:=j) rfl fun Q5 hm4=>?_;have e2:(AU B3 L1).set X.m Q5=AU B3 (Lo w j e Q5):=FR (L:=L1) (i:=9) sN rfl;obtain⟨no1,no2⟩:=rv DS;have hm5:MO X.m Q5 (UN 0 ((gs++[((x.ls,(⟨none,0,0⟩:P4)),([]:List Pt))]).map Gr.sr)):=by
   have h9:=MO.of hm4 (Hp.AA _ _ _);rw[LL no2]at h9;rw[AXG,AXu,ay,AW9,zG,AXl];exact h9
  rw[e2]
  let L2:List (Nat×Obj):=Lo w j e Q5
  have hL2:(names L2).Nodup:=rR;refine⟨w,j,e,Pj (L:=L2) (i:=3) hL2 rfl rfl,q,m',d,Pj (L:=L2) (i:=0) hL2 rfl rfl,fun fy h91=>?_⟩;obtain⟨n91,APo⟩:=BD (L:=L2) h91;have h3:=A4.trans CG;show AH prog (Builtin.append_ #[37,37] 37 #[.slice (some ⟨fy,0,none⟩) 0 0,.slice q m' d]) ((AU B3 L2).set fy (.cells #[] 36 (0,0))) _
  rw[Dy n91];refine AH.Cd hL2 (HZ.set (CU Db h93) n91) (E8 (U9.mono BM.mono h3) yu (fun p5 c5 B5 Mw du AC3=>⟨p5,m',c5,rfl,tu (L:=L2) (i:=3) hL2 rfl,fun uP h96=>?_⟩) APo);obtain⟨n96,APp⟩:=BD (L:=L2) h96;have AC3:HZ L2 B5:=AC3;show AH prog (Builtin.append_ #[23,23] 23 #[.slice w j e,.slice (some ⟨uP,0,none⟩) 1 1]) ((AU B5 L2).set uP (.cells #[.slice p5 m' c5,.N] 45 (0,0))) _
  rw[Dy n96];refine AH.Cd hL2 (AC3.set n96) (Gk.add (ls:=(x.ls,(⟨p5,m',c5⟩:P4))) (hG.gk.mono h3) du (show GL1 (B3.new B5) p5 m' c5 (x.ls,⟨p5,m',c5⟩) from⟨rfl,Mw⟩) APp (by omega) fun τ' p6 c6 B6 hG6 htt wu=>⟨p6,j+1,c6,rfl,?_⟩);refine AH.Fm (L:=L2) (i:=3) (c:=#[.slice w j e]) (c':=#[.slice p6 (j+1) c6]) RT hL2 rfl rfl rfl rfl rfl ?_;have wu:HZ L2 B6:=wu;have sf:(gs++[((x.ls,(⟨p5,m',c5⟩:P4)),([]:List Pt))])[j]?=some ((x.ls,⟨p5,m',c5⟩),[]):=by rw[AXV (by omega),zG,AX5];rfl
  have hS6:=hG.snoc hG6 htt h3 Mw;refine sK (i:=j) rR (wq wu).1 (wq wu).2 hG6 sf (AWx _) fun B7 qs7 ho7 hG7=>nxt _ B7 _ _ _ _ qs7 Q5 ho7 (hS6.set sf hG7) ?_ ?_ htt
  ·rw[fB (N:=(gs++[((x.ls,(⟨none,0,0⟩:P4)),([]:List Pt))]).map Gr.sr)]
   ·exact hm5
   ·rw[AYh _ _ (by omega),zG,AX5];simp[Gr.sr]
  ·rw[AYh _ _ (by omega),zG,AX5,wS _ no1];simp[Gr.sr]
 ·subst hv;obtain⟨jj,s,hj0,h1,h2,h4⟩:=ax (t,x.v) hh;rw[AXl]at hj0;subst hj0;rw[AXM]at h1;cases hg:gs[i']? with
  | none=>rw[hg]at h1;cases h1
  | some g=>
   rw[hg]at h1;simp only[AXT,AWp]at h1;subst h1;have vw:g.2.length≤3000000000000:=AXD (bY.2 g.sr (AXB.2 ⟨g,AWn hg,rfl⟩)) (by decide);have e3:(gs.set i' (g.1,g.2++[(t,x.v)])).map Gr.sr=(gs.map Gr.sr).set i' ⟨x.ls,g.sr.ps++[(t,x.v)]⟩:=by rw[AZu,←h2];rfl
   refine⟨(i':Int),true,rfl,fun hh=>(by cases hh),fun _=>sK rR Bp h92 (hG.gk.mono A4) hg vw fun B3 qs3 Db zJ=>nxt τ B3 w j e _ qs3 om Db (VB.set ⟨hG.gk.mono A4,hG.base,hG.w0,hG.wd⟩ hg zJ) ?_ (by rw[e3,h4]) (.refl _)⟩;rw[fB (N:=gs.map Gr.sr)]
   ·exact hm
   ·rw[e3,←h2];exact ru (M:=gs.map Gr.sr) (by rw[AXM,hg];rfl)
theorem wv {Kw RF:Nat}{t:Int}{l:List El}{Ur:Option Addr}{G0:List Sr}{N:Nat}(hn:X.nd)(YG:∀x∈l,Ai x.ls)(AVR:l.length=Kw)(hb0:Bd G0 N)(hN:N+l.length≤2800000000000)
  (next:∀τ' B' w' j' e' Ua UZ Q5,X.off B'→VB σ τ' B' w' j' e' Ua UZ→MO X.m Q5 (UN 0 (Ua.map Gr.sr))→Ua.map Gr.sr=UO G0 t l→Ext τ τ'→R (.B true) (AU B' (X.L w' j' e' Q5 0 (lp X.r0 .ready none)))) :
  ∀(g i:Nat) (τ1 B:Hp) (w:Option Addr) (j e:Nat) (gs:List Gr) (qs:List (Option Addr×Nat)) (om:Obj),l.length-i=g→i≤l.length→X.off B→VB σ τ1 B w j e gs qs→MO X.m om (UN 0 (gs.map Gr.sr))→gs.map Gr.sr=UO G0 t (l.take i)→Ext τ τ1→Ac 2 By τ1 Ur Kw l→
   A9.Wf R X.l X.r0 X.Bc X.BT t Ur Kw RF (Kw:Int) (i:Int) (AU B (X.L w j e om 0 (lp X.r0 .busy none))):=by
 intro g
 induction g with
 | zero=>
  intro i τ1 B w j e gs qs om hg hi JJ hG hm ve hx hr;have hL:(names (X.L w j e om 0 (lp X.r0 .busy none))).Nodup:=hn;rw[AWt (by omega)]at ve;refine A9.fx ⟨fun hh=>by omega,fun _=>⟨A2 (i:=0) hL rfl,?_⟩⟩;have e1:(AU B (X.L w j e om 0 (lp X.r0 .busy none))).set X.l (.loop (lp X.r0 .ready none))=AU B (X.L w j e om 0 (lp X.r0 .ready none)):=Hp.set_set;rw[e1];exact next τ1 B w j e gs qs om JJ hG hm ve hx
 | succ g ih=>
  intro i τ1 B w j e gs qs om hg hi JJ hG hm ve hx hr;obtain⟨x,hxi⟩:=hr.ex (k:=i) (by omega);refine AC2 hn JJ hG hm hr hxi (YG x (AWn hxi)) (by rw[ve];exact(fC hb0).le (by rw[AW0];omega)) (by omega) fun τ' B' w' j' e' Ua UZ Q5 h1 h2 h3 h4 h5=>ih (i+1) τ' B' w' j' e' Ua UZ Q5 (by omega) (by omega) h1 h2 h3 ?_ (hx.trans h5) (hr.mono By.mono h5);rw[h4,ve,Ag hxi];unfold UO;rw[AYN];rfl
theorem AC4 {T:List Nd}{ss:List Sr}{t kf:Int}{N:Nat}(hn:X.nd)(JJ:X.off B)(hG:VB σ τ B w j e gs qs)(hm:MO X.m om (UN 0 (gs.map Gr.sr)))(hg:Gl σ)(hr:Ac 10 Ha σ X.p X.n T)(hs:Ac 2 CA σ X.q X.k ss)(hS:ed ss)(sO:X.n≤4096)(rz:ss.length≤1048576)(ht:FC t)(BC:DQ T []=some [kf])(hb:Bd (gs.map Gr.sr) N)(hN:N≤2700000000000)
  (next:∀l τ' B' w' j' e' Ua UZ Q5,Aj FF T ss t=some l→X.off B'→VB σ τ' B' w' j' e' Ua UZ→MO X.m Q5 (UN 0 (Ua.map Gr.sr))→Ua.map Gr.sr=UO (gs.map Gr.sr) t l→Ext τ τ'→R (.B true) (AU B' (X.L w' j' e' Q5 0 (lp X.r0 .ready none))))
  (stop:∀B',Aj FF T ss t=none→X.off B'→Ext τ B'→R (.B false) (AU B' (X.L w j e om 223 (lp X.r0 .done (some .ret))))) :
  A9.JV R X.l X.r0 X.b5 X.b6 X.CC X.A7 X.Bc X.BT t (AU B (X.L w j e om 0 (lp X.r0 .ready none))):=by
 have hL:(names (X.L w j e om 0 (lp X.r0 .busy none))).Nodup:=hn;have hL':(names (X.L w j e om 0 (lp X.r0 .ready none))).Nodup:=hn;have el:(AU B (X.L w j e om 0 (lp X.r0 .ready none))).set X.l (.loop (lp X.r0 .busy none))=AU B (X.L w j e om 0 (lp X.r0 .busy none)):=Hp.set_set;have hTl:T.length=X.n:=hr.1;obtain⟨ht1,ht2⟩:=ht;refine A9.Kx ⟨A2 (i:=0) hL' rfl,?_⟩;rw[el];refine⟨X.p,X.n,X.c,Pj (i:=7) hL rfl rfl,X.q,X.k,X.d,Pj (i:=6) hL rfl rfl,?_⟩;refine Spec.Cd hL JJ (Spec.qH (N:=τ) (M:=B.minus τ) hG.gk.ext (Ext.Y4 _ _) (vJ.minus _ _) (Qg (hg.mono hG.base) (hr.mono Ha.mono hG.base) (hs.mono CA.mono hG.base) hS (by omega) (by omega) BC (fun l p' n' c' σ1 fP Bi U9 AKR CU=>?_) fun fP σ1 Bi AKR CU=>?_))
 ·obtain⟨mo1,mo2⟩:=ID hS BC fP;have hll:l.length=n':=U9.1;have qX:l.length≤4294967297:=by
   have:=AYT (show T.length≤4096 by omega) rz;omega
  refine⟨_,_,_,_,rfl,fun hh=>absurd rfl hh,fun _=>?_⟩;have hG1:VB σ σ1 (σ1.or (B.minus τ)) w j e gs qs:=⟨hG.gk.more Bi AKR,hG.base.trans Bi,hG.w0,hG.wd⟩;exact wv (τ:=σ1) hn mo1 hll hb (by omega) (fun τ' B' w' j' e' Ua UZ Q5 h1 h2 h3 h4 h5=>next l τ' B' w' j' e' Ua UZ Q5 fP h1 h2 h3 h4 (Bi.trans h5)) l.length 0 σ1 _ w j e gs qs om rfl (AWx _) CU hG1 hm rfl (.refl _) U9
 ·refine⟨_,_,_,_,rfl,fun _=>?_,fun hh=>absurd (by decide) hh⟩;have CU:X.off (σ1.or (B.minus τ)):=CU;refine AH.Fm (L:=X.L w j e om 0 (lp X.r0 .busy none)) (i:=5) (c:=#[.N]) (c':=#[.N]) RT hL rfl rfl rfl rfl rfl ?_;refine AH.Fm (L:=X.L w j e om 0 (lp X.r0 .busy none)) (i:=4) (c:=#[.I 0]) (c':=#[.I 223]) XS hL rfl rfl rfl rfl rfl ?_;refine⟨A2 (L:=X.L w j e om 223 (lp X.r0 .busy none)) (i:=0) hL rfl,?_⟩;have e1:(AU (σ1.or (B.minus τ)) (X.L w j e om 223 (lp X.r0 .busy none))).set X.l (.loop (lp X.r0 .done (some .ret)))=AU (σ1.or (B.minus τ)) (X.L w j e om 223 (lp X.r0 .done (some .ret))):=Hp.set_set;exact e1▸stop _ fP CU (Bi.trans (Ext.U2 _ _))
end
section
variable {σ:Hp}{R:Rr}
theorem ia {T:List Nd}{ss:List Sr}(h:CO T ss=0):∃k,JM T=some k∧k≠3∧DC none ss=true:=by
 unfold CO at h;cases hq:JM T with
 | none=>rw[hq]at h;dsimp only at h;exact absurd h (by decide)
 | some k=>
  rw[hq]at h;dsimp only at h;by_cases h3:k=3
  ·rw[AWl h3]at h;exact absurd h (by decide)
  ·rw[AWj h3]at h;cases ho:DC none ss with
   | true=>exact⟨k,rfl,h3,rfl⟩
   | false=>rw[ho]at h;exact absurd h (by decide)
structure sP (a b s:Int)(K:Nat):Prop where
 lo:FC a
 hi:FC b
 le:a≤b
 st:1≤s
 k:(K:Int)=(b-a)/s
theorem sP.at {a b s:Int}{K:Nat}(h:sP a b s K){j:Nat}:j≤K↔a+j*s≤b:=by
 have e:=Int.le_ediv_iff_mul_le (a:=(j:Int)) (b:=b-a) (show 0<s from h.st);rw[←h.k]at e
 constructor
 ·intro hj;have:=e.1 (by omega);omega
 ·intro hj;have:=e.2 (by omega);omega
theorem sP.time {a b s:Int}{K:Nat}(h:sP a b s K){j:Nat}(hj:j≤K):FC (a+j*s)∧a≤a+j*s:=by
 have h1:=h.at.1 hj;have h2:0≤(j:Int)*s:=Int.mul_nonneg (by omega) (by have:=h.st;omega);obtain⟨h3,h4⟩:=h.lo;obtain⟨h5,h6⟩:=h.hi;exact⟨⟨by omega,by omega⟩,by omega⟩
theorem sP.of {a b s:Int}(h:FC a∧FC b∧a≤b∧1≤s):sP a b s ((b-a)/s).toNat:=by
 obtain⟨h1,h2,h3,h4⟩:=h;exact⟨h1,h2,h3,h4,Int.toNat_of_nonneg (Int.ediv_nonneg (by omega) (by omega))⟩
theorem sP.wrap {a b s:Int}{K:Nat}(h:sP a b s K):AM (b-a)∧s≠0∧IntKind.i64.wrap (Int.tdiv (b-a) s)=K:=by
 obtain⟨h3,h4⟩:=h.lo;obtain⟨h5,h6⟩:=h.hi;have h7:=h.le;have h8:=h.st;have h9:(b-a)/s≤b-a:=Int.ediv_le_self _ (by omega);have hk:=h.k;refine⟨by unfold AM;omega,by omega,?_⟩;rw[Int.tdiv_eq_ediv_of_nonneg (by omega),←hk];exact AM.wrap (by unfold AM;omega)
theorem lD {σ0:Hp}{b1 b2 b3 l K:Nat}{a b s:Int}{I:Nat→Hp→Prop}(hS:sP a b s K)(h0:I 0 σ0)(hI:∀j σ,I j σ→Hp.ld σ ⟨b1,0,none⟩=some (.I a)∧Hp.ld σ ⟨b2,0,none⟩=some (.I s)∧Hp.ld σ ⟨b3,0,none⟩=some (.I b))
  (st:∀(j:Nat) σ,j≤K→I j σ→GV prog l #[.I (a+j*s)] σ (fun e σ'=>(e=.B true∧I (j+1) σ')∨(e=.B false∧R (.T #[]) σ'))) (Un:∀σ,I (K+1) σ→R (.T #[]) σ) :
  Spec prog 34 #[.func (.yield l) #[] #[],.pointer (aD b1 0),.pointer (aD b2 0),.pointer (aD b3 0)] σ0 R:=by
 obtain⟨t1,t2⟩:=hS.hi;have H:∀(g j:Nat) (σ:Hp),K-j=g→j≤K→I j σ→BX.pt6 R (.func (.yield l) #[] #[]) b2 b3 (a+j*s) σ:=by
  intro g
  induction g with
  | zero=>
   intro j σ hg hj hi;obtain⟨⟨u1,u2⟩,u3⟩:=hS.time hj;refine BX.nF ⟨l,rfl,(st j σ hj hi).mono fun e σ1 he=>?_⟩;rcases he with ⟨rfl,hi1⟩|⟨rfl,hR⟩
   ·obtain⟨c1,c2,c3⟩:=hI _ σ1 hi1;refine⟨true,rfl,fun _=>⟨s,c2,b,c3,by unfold AM;omega,fun hle=>?_,fun _=>?_⟩,fun hh=>absurd hh (by decide)⟩
    ·have:j+1≤K:=hS.at.2 (by rw[AZe,Int.add_mul];omega);omega
    ·rw[show j=K by omega]at hi1;exact Un σ1 hi1
   ·exact⟨false,rfl,fun hh=>absurd hh (by decide),fun _=>hR⟩
  | succ g ih=>
   intro j σ hg hj hi;obtain⟨⟨u1,u2⟩,u3⟩:=hS.time hj;have lv:j+1≤K:=by omega
   obtain⟨⟨v1,v2⟩,v3⟩:=hS.time lv;have e1:a+((j+1:Nat):Int)*s=a+j*s+s:=by rw[AZe,Int.add_mul];omega
   refine BX.nF ⟨l,rfl,(st j σ hj hi).mono fun e σ1 he=>?_⟩;rcases he with ⟨rfl,hi1⟩|⟨rfl,hR⟩
   ·obtain⟨c1,c2,c3⟩:=hI _ σ1 hi1;have hb:=hS.at.1 lv;refine⟨true,rfl,fun _=>⟨s,c2,b,c3,by unfold AM;omega,fun hle=>⟨s,c2,by unfold AM;omega,?_⟩,fun hn=>absurd (by omega) hn⟩,fun hh=>absurd hh (by decide)⟩;have:=ih (j+1) σ1 (by omega) lv hi1;rw[e1]at this;exact this
   ·exact⟨false,rfl,fun hh=>absurd hh (by decide),fun _=>hR⟩
 obtain⟨a1,_,_⟩:=hI 0 σ0 h0;have:=H K 0 σ0 rfl (AWx _) h0;rw[show a+((0:Nat):Int)*s=a by simp]at this;exact BX.start ⟨a,a1,this⟩
theorem Ql {p q:Option Addr}{n c m d:Nat}{T:List Nd}{ss:List Sr}{a b s:Int}(hg:Gl σ)(hr:Ac 10 Ha σ p n T)(hs:Ac 2 CA σ q m ss)(hM:Modest T ss)(rz:ss.length≤1048576)
  (h:∀p' n' c' σ' M rows,JN T ss a b s=(0,M)→lB σ σ' p' n' c' M rows→R (.T #[.slice p' n' c',.I 0]) σ') (h':∀e σ',JN T ss a b s=(e,[])→e≠0→Ext σ σ'→R (.T #[.N,.I e]) σ') :
  Spec prog 6 #[.slice p n c,.slice q m d,.I a,.I b,.I s] σ R:=by
 refine A9.start fun b5 hb5 b6 hb6 CC APr A7 UJ=>?_
 let L1:List (Nat×Obj):=[(b5,.cells #[.slice p n c] 22 (0,0))]
 let L2:List (Nat×Obj):=(b6,.cells #[.slice q m d] 23 (0,0))::L1
 let L3:List (Nat×Obj):=(CC,.cells #[.N] 23 (0,0))::L2
 let L4:List (Nat×Obj):=(A7,.cells #[.I 0] 26 (0,0))::L3
 obtain⟨n6,h6⟩:=BD (L:=L1) hb6;obtain⟨n10,Y6⟩:=BD (L:=L2) APr;obtain⟨n11,iE⟩:=BD (L:=L3) UJ;have sO:(names L4).Nodup:=AXL.2 ⟨n11,AXL.2 ⟨n10,AXL.2 ⟨n6,by simp[L1,names]⟩⟩⟩;have KW:HZ L4 σ:=fun b hb=>by
  simp only[L4,L3,L2,L1,names,AXa,AZI,AWo,AXA,AXk]at hb;rcases hb with rfl|rfl|rfl|rfl
  ·exact iE
  ·exact Y6
  ·exact h6
  ·exact hb5
 have ret:∀(e:Int) (σ1:Hp),HZ L4 σ1→Ext σ σ1→JN T ss a b s=(e,[])→e≠0→AH prog (Instr.storeAt 23 (.pointer (some ⟨CC,0,none⟩)) (.N)) (AU σ1 L4) (fun _ σ2=>AH prog (Instr.storeAt 26 (.pointer (some ⟨A7,0,none⟩)) (.I e)) σ2 (fun _ σ3=>∃Bz:Option Addr,∃B4:Nat,∃B8:Nat,∃B9:Int,Hp.ld σ3 ⟨CC,0,none⟩=some (.slice Bz B4 B8)∧Hp.ld σ3 ⟨A7,0,none⟩=some (.I B9)∧R (.T #[.slice Bz B4 B8,.I B9]) σ3)):=fun e σ1 JJ hx he Ay=>by
  refine AH.Fm (L:=L4) (i:=1) (c:=#[.N]) (c':=#[.N]) RT sO rfl rfl rfl rfl rfl ?_;refine AH.Fm (L:=L4) (i:=0) (c:=#[.I 0]) (c':=#[.I e]) XS sO rfl rfl rfl rfl rfl ?_
  let L9:List (Nat×Obj):=(A7,.cells #[.I e] 26 (0,0))::L3
  exact⟨none,0,0,e,Pj (L:=L9) (i:=1) sO rfl rfl,Pj (L:=L9) (i:=0) sO rfl rfl,h' e _ he Ay (hx.trans (HZ.ext (L:=L9) sO JJ))⟩
 refine⟨p,n,c,Pj (L:=L4) (i:=3) sO rfl rfl,q,m,d,Pj (L:=L4) (i:=2) sO rfl rfl,?_⟩;show Spec prog 15 #[.slice p n c,.slice q m d] (AU σ L4) _
 have bad:CO T ss=0→¬(FC a∧FC b∧a≤b∧1≤s)→JN T ss a b s=(221,[]):=fun h0 hh=>by unfold JN;rw[AWj (by rw[h0];decide),AWl hh]
 refine Spec.Cd sO KW (WE hr hs hM fun σ1 Bi CU=>⟨_,rfl,fun Ay=>ret _ σ1 CU Bi (by unfold JN;rw[AWl Ay]) Ay,fun h0=>Pz ⟨_,rfl,fun hf=>ret _ σ1 CU Bi (bad (AW7.1 h0) fun hh=>AW2 hf hh.1) (by decide),fun ht1=>Pz ⟨_,rfl,fun hf=>ret _ σ1 CU Bi (bad (AW7.1 h0) fun hh=>AW2 hf hh.2.1) (by decide),fun ht2=>⟨fun Am=>ret _ σ1 CU Bi (bad (AW7.1 h0) fun hh=>by have:=hh.2.2.1;omega) (by decide),fun hle=>⟨fun Io=>ret _ σ1 CU Bi (bad (AW7.1 h0) fun hh=>by have:=hh.2.2.2;omega) (by decide),fun Io=>?_⟩⟩⟩⟩⟩);have h0:=AW7.1 h0;have CH:FC a∧FC b∧a≤b∧1≤s:=⟨AWr ht1,AWr ht2,by omega,by omega⟩;have hS:=sP.of CH;generalize hK:((b-a)/s).toNat=K at hS;obtain⟨w1,w2,w3⟩:=hS.wrap;have hkk:=hS.k;refine⟨w1,w2,fun Ug e49=>?_⟩;rw[w3]at e49;subst e49;refine⟨fun Am=>ret _ σ1 CU Bi (by unfold JN;rw[AWj (by rw[h0];decide),AWj (by rw[AW7];exact CH),AWl (by omega)]) (by decide),fun Am=>?_⟩;have hK5:K<512:=by omega
 have hF:JN T ss a b s=match Gj T ss a s (K+1) with
   | none=>(223,[])
   | some x=>(0,x.2):=by
  unfold JN;rw[AWj (by rw[h0];decide),AWj (by rw[AW7];exact CH),AWj (by omega),hK];rfl
 obtain⟨k,hk,hk3,mD⟩:=ia h0;have hSG:=ed.of hM mD;obtain⟨BC,hlen⟩:=Ki hk;have hTl:T.length=n:=hr.1;have CU:HZ L4 σ1:=CU;refine AH.Cd sO CU (EC fun mm hmm sQ=>⟨mm,rfl,?_⟩);have sQ:HZ L4 (σ1.set mm (.map #[] 0)):=sQ
 let Lm:List (Nat×Obj):=[(A7,.cells #[.I 0] 26 (0,0)),(CC,.cells #[.N] 23 (0,0)),(b6,.cells #[.slice q m d] 23 (0,0)),(b5,.cells #[.slice p n c] 22 (0,0)),(mm,.map #[] 0)]
 have APs:∀b∈names L4,b≠mm:=fun b hb e=>by
  have:=sQ b hb;rw[e,Hp.AA]at this;cases this
 have vN:(names Lm).Nodup:=by
  have:names Lm=names L4++[mm]:=rfl;rw[this];exact AYD.2 ⟨sO,by simp,fun x hx y hy e=>by rw[AWs]at hy;exact APs x hx (e.trans hy)⟩
 have hom:HZ Lm σ1:=fun x hx=>by
  have:names Lm=names L4++[mm]:=rfl;rw[this]at hx;rcases AW8.1 hx with hx|hx
  ·exact CU x hx
  ·rw[AWs]at hx;subst hx;exact hmm
 intro Bc AC5;have AC5:(AU σ1 Lm) Bc=none:=AC5;obtain⟨n13,h13⟩:=BD (L:=Lm) AC5
 let L5:List (Nat×Obj):=(Bc,.cells #[.map none] 57 (0,0))::Lm
 let L5':List (Nat×Obj):=(Bc,.cells #[.map (some mm)] 57 (0,0))::Lm
 have hn5:(names L5').Nodup:=AXL.2 ⟨n13,vN⟩;show AH prog (Instr.storeAt 57 (.pointer (some ⟨Bc,0,none⟩)) (.map (some mm))) (AU σ1 L5) _
 refine AH.Fm (L:=L5) (i:=0) (c:=#[.map none]) (c':=#[.map (some mm)]) (fun w=>by kernel_rfl) (AXL.2 ⟨n13,vN⟩) rfl rfl rfl rfl rfl fun BT APu=>?_;obtain⟨n14,h14⟩:=BD (L:=L5') APu
 let L6:List (Nat×Obj):=(BT,.cells #[.N] 23 (0,0))::L5'
 have hn6:(names L6).Nodup:=AXL.2 ⟨n14,hn5⟩;have ho6:HZ L6 σ1:=fun b hb=>by
  rcases AWo.1 hb with rfl|hb
  ·exact h14
  rcases AWo.1 hb with rfl|hb
  ·exact h13
  exact hom b hb
 show Spec prog 17 #[.I a,.I b,.I s] (AU σ1 L6) _
 refine Spec.Cd hn6 ho6 (NL.start fun c3 hc3 c4 hc4 c5 hc5 UY=>⟨_,_,_,rfl,_,_,rfl,BX.en,fun D l r0 hDl hD hl hy=>?_⟩);have UY:HZ L6 (((σ1.set c3 (.cells #[.I a] 2 (0,0))).set c4 (.cells #[.I b] 2 (0,0))).set c5 (.cells #[.I s] 2 (0,0))):=UY;have x3:=Ext.set (o:=.cells #[.I a] 2 (0,0)) hc3;have x4:=Ext.set (o:=.cells #[.I b] 2 (0,0)) hc4;have x5:=Ext.set (o:=.cells #[.I s] 2 (0,0)) hc5;have g3:=(x4.trans x5) c3 _ (Hp.AA _ _ _);have g4:=x5 c4 _ (Hp.AA _ _ _);have g5:(((σ1.set c3 (.cells #[.I a] 2 (0,0))).set c4 (.cells #[.I b] 2 (0,0))).set c5 (.cells #[.I s] 2 (0,0))) c5=some (.cells #[.I s] 2 (0,0)):=Hp.AA _ _ _;have tI:=Bi.trans (x3.trans (x4.trans x5));generalize hB0:(((σ1.set c3 (.cells #[.I a] 2 (0,0))).set c4 (.cells #[.I b] 2 (0,0))).set c5 (.cells #[.I s] 2 (0,0)))=B0 at *;clear x3 x4 x5 hc3 hc4 hc5;obtain⟨nD,hDB⟩:=BD (L:=L6) hD;obtain⟨nl,hlB⟩:=BD (L:=L6) hl
 let X:tO:=⟨b5,b6,CC,A7,Bc,BT,D,l,mm,p,n,c,q,m,d,r0⟩
 have hX:X.nd:=AXL.2 ⟨fun hm=>by
  rcases AWo.1 hm with e|hm
  ·exact hDl e.symm
  ·exact nl hm,AXL.2 ⟨nD,hn6⟩⟩
 have hoX:X.off B0:=fun b hb=>by
  rcases AWo.1 hb with rfl|hb
  ·exact hlB
  rcases AWo.1 hb with rfl|hb
  ·exact hDB
  exact UY b hb
 show Spec prog 34 #[.func (.yield l) #[] #[],.pointer (aD c3 0),.pointer (aD c5 0),.pointer (aD c4 0)] (AU B0 (X.L none 0 0 (.map #[] 0) 0 (lp X.r0 .ready none))) _
 have eL:∀{B w i e om x lo} lo',(AU B (X.L w i e om x lo)).set X.l (.loop lo')=AU B (X.L w i e om x lo'):=fun {B w i e om x lo} lo'=>Hp.set_set;have APw:∀{B w i e om x lo},X.off B→Ext B (AU B (X.L w i e om x lo)):=fun {B w i e om x lo} ho=>HZ.ext (L:=X.L w i e om x lo) hX ho;have AKU:∀{j:Nat} {x:List Sr×List Sr},j≤K+1→Gj T ss a s j=some x→_:=fun {j x} hj hx=>fD (x:=x) hM h0 hlen rz BC hSG CH.2.2.2 (fun i hi=>(hS.time (j:=i) (by omega)).1) hx;refine lD (K:=K) (I:=fun j σ'=>∃τ B w i e gs qs om x,σ'=AU B (X.L w i e om 0 (lp X.r0 .ready none))∧X.off B∧VB σ τ B w i e gs qs∧Ext B0 τ∧MO X.m om (UN 0 (gs.map Gr.sr))∧Gj T ss a s j=some x∧x.1=gs.map Gr.sr) hS
  ⟨B0,B0,none,0,0,[],[],.map #[] 0,([],[]),rfl,hoX,⟨Gk.nil (.refl _),tI,fun g hg=>(by cases hg),.nil⟩,.refl _,MO.of (B:=σ1.set mm (.map #[] 0)) MS.fresh (Hp.AA _ _ _),rfl,rfl⟩ ?_ ?_ ?_
 ·rintro j _ ⟨τ,B,w,i,e,gs,qs,om,x,rfl,hoB,hG,hxt,_,_,_⟩
  have hx:=hxt.trans (hG.gk.ext.trans (APw (w:=w) (i:=i) (e:=e) (om:=om) (x:=0) (lo:=lp X.r0 .ready none) hoB));exact⟨Af (hx _ _ g3) rfl,Af (hx _ _ g5) rfl,Af (hx _ _ g4) rfl⟩
 ·rintro j _ hj ⟨τ,B,w,i,e,gs,qs,om,x,rfl,hoB,hG,hxt,fP,N7,lE⟩
  obtain⟨_,bY,_⟩:=AKU (by omega) N7;refine hy _ _ (a+j*s) (A2 (L:=X.L w i e om 0 (lp X.r0 .ready none)) (i:=0) hX rfl) ?_;refine AC4 (X:=X) (T:=T) (ss:=ss) hX hoB hG fP hg hr hs hSG (show n≤4096 by omega) rz (hS.time hj).1 BC (N:=j*4294967297) (by rw[←lE];exact bY) (by omega) (fun l τ' B' w' i' e' Ua UZ Q5 AC6 Qp hG' APx APy APz=>.inl ⟨rfl,τ',B',w',i',e',Ua,UZ,Q5,_,rfl,Qp,hG',hxt.trans APz,APx,by rw[Gj,N7];show Option.map _ (Aj FF T ss (a+j*s))=_;rw[AC6];rfl,by rw[APy,←lE]⟩) fun B' AC6 Qp AP0=>.inr ⟨rfl,?_⟩;have DS:Gj T ss a s (K+1)=none:=UQ (n:=j+1) (by rw[Gj,N7];show Option.map _ (Aj FF T ss (a+j*s))=_;rw[AC6];rfl) (by omega);have hX1:(names (X.L w i e om 223 (lp X.r0 .exhausted (some .ret)))).Nodup:=hX;refine⟨_,.done,some .ret,rfl,A2 (L:=X.L w i e om 223 (lp X.r0 .done (some .ret))) (i:=0) hX rfl,by decide,.inr ⟨rfl,?_⟩⟩;rw[eL]
  let L8:List (Nat×Obj):=(X.L w i e om 223 (lp X.r0 .exhausted (some .ret))).set 1 (X.D,.deferred none)
  show ∃Bz:Option Addr,∃B4:Nat,∃B8:Nat,∃B9:Int,AU B' (X.L w i e om 223 (lp X.r0 .exhausted (some .ret))) D=some (.deferred (some []))∧Hp.ld ((AU B' (X.L w i e om 223 (lp X.r0 .exhausted (some .ret)))).set D (.deferred none)) ⟨CC,0,none⟩=some (.slice Bz B4 B8)∧Hp.ld ((AU B' (X.L w i e om 223 (lp X.r0 .exhausted (some .ret)))).set D (.deferred none)) ⟨A7,0,none⟩=some (.I B9)∧R (.T #[.slice Bz B4 B8,.I B9]) ((AU B' (X.L w i e om 223 (lp X.r0 .exhausted (some .ret)))).set D (.deferred none))
  rw[show(AU B' (X.L w i e om 223 (lp X.r0 .exhausted (some .ret)))).set D (.deferred none)=AU B' L8 from FR (L:=X.L w i e om 223 (lp X.r0 .exhausted (some .ret))) (i:=1) hX1 rfl];exact⟨none,0,0,223,A2 (L:=X.L w i e om 223 (lp X.r0 .exhausted (some .ret))) (i:=1) hX1 rfl,Pj (L:=L8) (i:=5) hX rfl rfl,Pj (L:=L8) (i:=4) hX rfl rfl,h' 223 _ (by rw[hF,DS]) (by decide) ((hG.base.trans AP0).trans (HZ.ext (L:=L8) hX Qp))⟩
 ·rintro _ ⟨τ,B,w,i,e,gs,qs,om,x,rfl,hoB,hG,hxt,fP,N7,lE⟩
  obtain⟨wx,bY,hbl⟩:=AKU (AWu _) N7;have hXe:(names (X.L w i e om 0 (lp X.r0 .exhausted none))).Nodup:=hX;have vw:=hG.gk.fL;have hbg:=bY.1;rw[lE,AW9]at hbg;have qX:∀g∈gs,g.1.1.length≤100000000∧g.2.length≤100000000:=fun g hgm=>by
   have hm:g.sr∈x.1:=by rw[lE];exact AXB.2 ⟨g,hgm,rfl⟩
   have h1:Cy x.2 g.sr.ls=some g.sr.ps:=by rw[←wx.lk];exact iQ wx.key hm
   have h2:=Kk h1;have h3:=(Ai.of (Da wx.ok _ h2).1).1;have h4:=(wx.tm _ h2).2;have h3:g.1.1.length≤_:=h3;have h4:g.2.length≤_:=h4;exact⟨by omega,by omega⟩
  refine⟨_,.ready,none,rfl,A2 (L:=X.L w i e om 0 (lp X.r0 .ready none)) (i:=0) hX rfl,by decide,.inl ⟨rfl,?_⟩⟩;rw[eL];refine⟨w,i,e,Pj (L:=X.L w i e om 0 (lp X.r0 .exhausted none)) (i:=2) hXe rfl rfl,?_⟩;refine Spec.Cd hXe hoB (fM hG qX (by omega) fun B1 rows S hA qu j5 AKV=>⟨rfl,?_⟩);have hSM:S=x.2:=wx.sorted (by rw[lE];exact qu) j5;refine⟨w,i,e,Pj (L:=X.L w i e om 0 (lp X.r0 .exhausted none)) (i:=2) hXe rfl rfl,?_⟩;refine AH.Fm (L:=X.L w i e om 0 (lp X.r0 .exhausted none)) (i:=5) (c:=#[.N]) (c':=#[.slice w i e]) RT hXe rfl rfl rfl rfl rfl ?_
  let L7:List (Nat×Obj):=(X.L w i e om 0 (lp X.r0 .exhausted none)).set 5 (X.CC,.cells #[.slice w i e] 23 (0,0))
  let L8:List (Nat×Obj):=L7.set 1 (X.D,.deferred none)
  refine AH.Fm (L:=L7) (i:=4) (c:=#[.I 0]) (c':=#[.I 0]) XS hX rfl rfl rfl rfl rfl ?_;show ∃Bz:Option Addr,∃B4:Nat,∃B8:Nat,∃B9:Int,AU B1 L7 D=some (.deferred (some []))∧Hp.ld ((AU B1 L7).set D (.deferred none)) ⟨CC,0,none⟩=some (.slice Bz B4 B8)∧Hp.ld ((AU B1 L7).set D (.deferred none)) ⟨A7,0,none⟩=some (.I B9)∧R (.T #[.slice Bz B4 B8,.I B9]) ((AU B1 L7).set D (.deferred none))
  rw[show(AU B1 L7).set D (.deferred none)=AU B1 L8 from FR (L:=L7) (i:=1) hX rfl];have AKW:HZ L8 B1:=AKV;exact⟨w,i,e,0,A2 (L:=L7) (i:=1) hX rfl,Pj (L:=L8) (i:=5) hX rfl rfl,Pj (L:=L8) (i:=4) hX rfl rfl,h w i e _ x.2 rows (by rw[hF,N7]) (hSM▸hA.mono (HZ.ext (L:=L8) hX AKW))⟩
end
theorem AKX:JN T0 iS 0 60 60=(0,[⟨[],[(0,v1),(60,v8)]⟩]):=by
 have h1:Aj FF T0 iS (0+((0:Nat):Int)*60)=some [⟨[],v1⟩]:=API;have h2:Aj FF T0 iS (0+((1:Nat):Int)*60)=some [⟨[],v8⟩]:=AJ4;have h3:Gj T0 iS 0 60 2=some ([⟨[],[(0,v1),(60,v8)]⟩],[⟨[],[(0,v1),(60,v8)]⟩]):=by
  rw[Gj,Gj,Gj,h1];show((some ([⟨[],[(0,v1)]⟩],D1 [] [⟨[],[(0,v1)]⟩]):Option (List Sr×List Sr)).bind _)=_
  rw[HD,AYj,h2];show some ([(⟨[],[(0,v1),(60,v8)]⟩:Sr)],D1 [⟨[],[(0,v1)]⟩] [⟨[],[(60,v8)]⟩])=_
  rw[GD];show some ([(⟨[],[(0,v1),(60,v8)]⟩:Sr)],(⟨[],C0 [(0,v1)] [(60,v8)]⟩:Sr)::D1 [] [])=_
  rw[HD,IE fun p hp=>by rw[AWs]at hp;subst hp;decide];rfl
 unfold JN;rw[AWj (by rw[AJ5];decide),AWj (by rw[AW7];decide),AWj (by decide),show((60-0:Int)/60).toNat+1=2 from rfl,h3]
theorem AP1:AJ8:=fun hg hr hs h=>by
 refine Ql hg hr hs XR (by decide) (fun p' n' c' σ' M rows hm hA=>?_) fun e σ' hm Ay=>absurd (by rw[AKX]at hm;cases hm) Ay;rw[AKX]at hm;cases hm;have hn:1=n':=hA.rd.1;subst hn;obtain⟨IU,yU,p1,n1,c1,q1,m1,d1,rfl,hl,_,HR,_⟩:=CA.at hA.rd (i:=0) (s:=⟨[],[(0,v1),(60,v8)]⟩) rfl;have kh:2=m1:=HR.1;subst kh;exact h _ _ _ _ _ _ hA.ext (by simpa using hl.2.1)
theorem ib {x:Int}{k:Nat}(hk:k<64):0≤Go.bits .and .i64 x ((2^k-1:Nat):Int)∧Go.bits .and .i64 x ((2^k-1:Nat):Int)≤((2^k-1:Nat):Int):=by
 have e:Go.bits .and .i64 x ((2^k-1:Nat):Int)=IntKind.i64.wrap (((BitVec.ofInt 64 x) &&& (BitVec.ofInt 64 ((2^k-1:Nat):Int))).toNat:Int):=rfl;have h2:2^k-1<2^63:=by
  have:=Nat.pow_le_pow_right (show 0<2 by decide) (show k≤63 by omega);have h1:0<2^k:=Nat.pow_pos (by decide);omega
 have h3:((BitVec.ofInt 64 x) &&& (BitVec.ofInt 64 ((2^k-1:Nat):Int))).toNat≤2^k-1:=by
  rw[BitVec.toNat_and];refine AXD Nat.and_le_right ?_;rw[show BitVec.ofInt 64 ((2^k-1:Nat):Int)=BitVec.ofNat 64 (2^k-1) from rfl,BitVec.toNat_ofNat];exact Nat.mod_le _ _
 rw[e,AM.wrap (by unfold AM;omega)];exact⟨AX7 _,by omega⟩
section
variable {σ:Hp}{R:Rr}{ss:List Sr}
theorem sR {x:Int}(h:∀y:Int,0≤y→y≤9223372036854775807→R (.returned (.I y)) σ):Spec prog 4 #[.I x] σ R:=Yy.start fun y hy=>by
 have:=ib (x:=x) (k:=63) (by decide);rw[show(((2^63-1:Nat):Int))=9223372036854775807 by decide]at this;rw[hy];exact h _ this.1 this.2
theorem XX {p q:Option Addr}{n c m dd:Nat}{T:List Nd}{a k0 s0:Int}(AC7:Awk)(hg:Gl σ)(hr:Ac 10 Ha σ p n T)(hs:Ac 2 CA σ q m ss)(hM:Modest T ss)(hT:TOk T)(hS:SOk ss)(rz:ss.length≤1048576)(h:∀σ',Ext σ σ'→R (.B true) σ'):
  Spec prog 3 #[.slice p n c,.slice q m dd,.I a,.I k0,.I s0] σ R:=by
 have hl:T.length=n:=hr.1;refine BI.start (sR fun y hy0 zN=>⟨_,rfl,by decide,fun Cz e23 Ky e25=>?_⟩);have AVh:0≤Cz∧Cz≤5:=by
  rw[e23,AYl hy0];omega
 have AVi:0≤Ky∧Ky≤1023:=by
  have:=ib (x:=s0) (k:=10) (by decide);rw[show(((2^10-1:Nat):Int))=1023 by decide]at this;rw[e25];exact this
 have awk:Spec prog 5 #[] σ (Ap R (CB fun t33 AE=>R (.B t33) AE)):=AC7 σ _ hg fun σ' hx=>⟨_,rfl,h σ' hx⟩;refine⟨by unfold AM;omega,fun hlo=>awk,fun hlo=>⟨fun hhi=>awk,fun hhi=>?_⟩⟩;obtain⟨K,rfl⟩:∃K:Nat,Cz=K:=⟨Cz.toNat,by omega⟩;obtain⟨D,hD⟩:∃D:Nat,1+Ky=(D:Int):=⟨(1+Ky).toNat,by omega⟩;rw[hD];have hD1:1≤D∧D≤1024:=by omega
 have hK5:K≤5:=by omega
 have mul:∀j:Nat,j≤K→(0:Int)≤(j:Int)*D∧(j:Int)*D≤5120:=fun j hj=>by
  have h1:j*D≤5*1024:=AYT (by omega) hD1.2;have h2:(j:Int)*(D:Int)=((j*D:Nat):Int):=by simp
  rw[h2];exact⟨by omega,by omega⟩
 have hKD:=mul K (AWu _);have zR:sP a (a+K*D) D K:=⟨⟨by omega,by omega⟩,⟨by omega,by omega⟩,by omega,by omega,by
  rw[show a+(K:Int)*D-a=K*D by omega,Int.mul_ediv_cancel _ (by omega)]⟩
 refine Qi hr hT fun p36 c36 σ1 cw=>⟨_,_,_,rfl,Nz (hs.mono CA.mono cw.up) hS fun p38 c38 σ2 AP2 x2=>⟨_,_,_,rfl,by unfold AM;omega,by unfold AM;omega,?_⟩⟩;have X2:=cw.up.trans x2;have AP3:=(cw.rd Ha.mono).mono Ha.mono x2;have hF:∀{x},CO T ss=0→Gj T ss a D (K+1)=x→JN T ss a (a+K*D) D=match x with
   | none=>(223,[])
   | some x=>(0,x.2):=fun {x} h0 hx=>by
  unfold JN;rw[AWj (by rw[h0];decide),AWj (by rw[AW7];exact⟨zR.lo,zR.hi,zR.le,zR.st⟩),AWj (by rw[←zR.k];omega),←zR.k,show(K:Int).toNat=K from rfl,hx];rfl
 have rounds:∀(σ3:Hp) (pa:Option Addr) (na ca:Nat),Ext σ2 σ3→Ac 2 CA σ3 pa na (JN T ss a (a+K*D) D).2→BI.pd R p n c q m dd a K D pa na ca (JN T ss a (a+K*D) D).1 none 0 0 0 σ3:=fun σ3 pa na ca x3 ha=>by
  suffices H:∀(g k:Nat) (pk:Option Addr) (nk ck:Nat) (σk:Hp) (x:List Sr×List Sr),K+1-k=g→k≤K+1→Gj T ss a D k=some x→Ac 2 CA σk pk nk x.2→nk≤ck→Ext σ3 σk→(0<k→CO T ss=0)→BI.pd R p n c q m dd a K D pa na ca (JN T ss a (a+K*D) D).1 pk nk ck (k:Int) σk from
   H (K+1) 0 none 0 0 σ3 ([],[]) rfl (AWx _) rfl Ac.nil (AWu _) (.refl _) fun hh=>by omega
  intro g
  induction g with
  | zero=>
   intro k pk nk ck σk x hgz hk hx zD hck Vz h0;rw[show k=K+1 by omega]at hx;have h0:=h0 (by omega);have e:=hF h0 hx;refine BI.ga ⟨fun hh=>by omega,fun _=>?_⟩;rw[e]at ha ⊢;exact⟨fun _=>fF (ha.mono CA.mono Vz) zD ⟨_,rfl,fun _=>AC7 σk _ (hg.mono (X2.trans (x3.trans Vz))) fun σ9 x9=>⟨_,rfl,h σ9 (X2.trans (x3.trans (Vz.trans x9)))⟩,fun hh=>(by cases hh)⟩,fun hh=>absurd rfl hh⟩
  | succ g ih=>
   intro k pk nk ck σk x hg' hk hx zD hck Vz h0;have hkK:k≤K:=by omega
   obtain⟨t1,t3⟩:=zR.time hkK;have mX:=mul k hkK;have Xk:=X2.trans (x3.trans Vz);refine BI.ga ⟨fun _=>Qi (hr.mono Ha.mono Xk) hT fun p56 c56 σ4 KW=>⟨_,_,_,rfl,Nz (hs.mono CA.mono (Xk.trans KW.up)) hS fun Mu N9 σ5 AP4 x5=>⟨_,_,_,rfl,by unfold AM;omega,by unfold AM;omega,?_⟩⟩,fun hh=>by omega⟩;have x45:=KW.up.trans x5;have X5:=Xk.trans x45;refine inst_spec (hg.mono X5) ((KW.rd Ha.mono).mono Ha.mono x5) AP4 hM (fun τ6 p6 n6 c6 σ6 bs hi0 hA hx6=>⟨_,_,_,_,rfl,fun Ay=>absurd rfl Ay,fun _ b83 h83=>?_⟩) fun σ6 Ay x6=>⟨_,_,_,_,rfl,fun _=>?_,fun hh=>absurd Ay hh⟩
   ·have X6:=x45.trans (hx6.trans hA.ext);have x83:=Ext.set (o:=.cells #[.slice pk nk ck,.slice p6 n6 c6] 23 (0,0)) h83;have UP:CO T ss=0:=by
     unfold instF at hi0;split at hi0
     ·rename_i h9;exact absurd hi0 h9
     ·rename_i h9;exact AW7.1 h9
    obtain⟨kk,hty,hk3,mD⟩:=ia UP;obtain⟨BC,hlen⟩:=Ki hty;have hSG:=ed.of hM mD;obtain⟨wx,_,hbl⟩:=fD (x:=x) hM UP hlen rz BC hSG (by omega) (fun i hi=>(zR.time (j:=i) (by omega)).1) hx;have hm:Aj FF T ss (a+k*D)=some (instF T ss (a+k*D)).2:=(inst_ok hi0).2;generalize qd:(instF T ss (a+k*D)).2=l at *;have AP6:DC none (JD (a+k*D) l)=true:=by
     have:=(inst_shape hM hi0).2.2.1;rw[qd]at this;exact this
    obtain⟨mo1,mo2⟩:=ID hSG BC hm;have qX:l.length≤4294967297:=by
     have:=AYT hlen rz;omega
    have Tk:Gj T ss a D (k+1)=some (UO x.1 (a+k*D) l,D1 x.2 (JD (a+k*D) l)):=by
     rw[Gj,hx];show Option.map _ (Aj FF T ss (a+k*D))=_
     rw[hm];rfl
    have AKZ:n6≤c6:=by obtain⟨cs,h1,_⟩:=hA.own;exact Ao.cap h1
    refine bF (A:=x.2) (B:=JD (a+k*D) l) (Hp.AA _ _ _) (zD.mono CA.mono (X6.trans x83)) hck (hA.rd.mono CA.mono x83) AKZ wx.ok AP6 (fun s hs=>?_) (fun s hs=>?_) (by rw[AW9];omega) fun p9 n9 c9 σ9 hr9 hc9 x9=>⟨_,_,_,_,rfl,fun Ay=>absurd rfl Ay,fun _=>⟨by unfold AM;omega,?_⟩⟩
    ·have h1:=(Ai.of (Da wx.ok s hs).1).1;have h2:=(wx.tm s hs).2;exact⟨by omega,by omega⟩
    ·obtain⟨e,he,rfl⟩:=AXB.1 hs;have:=(mo1 e he).1;exact⟨by dsimp only;omega,by show 1≤1000;decide⟩
    ·have:=ih (k+1) p9 n9 c9 σ9 _ (by omega) (by omega) Tk hr9 hc9 (Vz.trans (X6.trans (x83.trans x9))) fun _=>UP;rw[show((k+1:Nat):Int)=(k:Int)+1 by omega]at this;exact this
   ·
    have e:JN T ss a (a+K*D) D=((instF T ss (a+k*D)).1,[]):=by
     by_cases UP:CO T ss=0
     ·have hm:Aj FF T ss (a+k*D)=none∧(instF T ss (a+k*D)).1=223:=by
       unfold instF at Ay ⊢;rw[AWj (by rw[UP];decide),AWj (by rw[AW7];exact t1)]at Ay ⊢;cases hm:Aj FF T ss (a+k*D) with
       | none=>exact⟨rfl,rfl⟩
       | some l=>rw[hm]at Ay;exact absurd rfl Ay
      rw[hm.2];exact hF UP (UQ (n:=k+1) (by rw[Gj,hx];show Option.map _ (Aj FF T ss (a+k*D))=_;rw[hm.1];rfl) (by omega))
     ·unfold JN instF;rw[AWl UP,AWl UP]
    rw[e]at ha ⊢;have hna:0=na:=ha.1;subst hna;exact⟨fun _=>⟨fun _=>AC7 σ6 _ (hg.mono (X5.trans x6)) fun σ9 x9=>⟨_,rfl,h σ9 (X5.trans (x6.trans x9))⟩,fun hh=>absurd rfl hh⟩,fun hh=>absurd rfl hh⟩
 refine Ql (hg.mono X2) AP3 AP2 hM rz (fun pa na ca σ3 M rows mo hA=>⟨_,_,_,_,rfl,?_⟩) fun e σ3 mo Ay x3=>⟨_,_,_,_,rfl,?_⟩
 ·have:=rounds σ3 pa na ca hA.ext (by rw[mo];exact hA.rd);rw[mo]at this;exact this
 ·have:=rounds σ3 none 0 0 x3 (by rw[mo];exact Ac.nil);rw[mo]at this;exact this
end
end TwW
end
section
namespace TwW.Rw
open Go Tw Go.RowKit Go.ChangeShapes Go.WideShapes Go.ChangeAt Go.Deep Go.Proofs.Tryz Go.Proofs.YthdjajblkfphiaaGreatDoor
theorem own:ownKnob prog.godebug=none:=by kernel_rfl
theorem laidOut:laidOutB prog=true:=by kernel_rfl
theorem Fb {H:Type}(d:DataW H):1≤Rows.uptoBulk d:=by
 cases d with
 | lit l=>cases l<;>simp[Rows.uptoBulk]
 | _=>simp[Rows.uptoBulk]
theorem P5 {H:Type}{d:DataW H}:∀{l:List (DataW H)},d∈l→Rows.uptoBulk d≤Rows.uptoBulkAll l
 | x::l,h=>by
  simp only[Rows.uptoBulkAll];rcases AWo.1 h with rfl|h
  ·omega
  ·have:=P5 h;omega
theorem bH {H:Type}(l r:List (DataW H)):Rows.uptoBulkAll (l++r)=Rows.uptoBulkAll l+Rows.uptoBulkAll r:=by
 induction l with
 | nil=>simp[Rows.uptoBulkAll]
 | cons x l ih=>simp only[AXb,Rows.uptoBulkAll,ih];omega
theorem sS {H:Type}(l:List (DataW H)):l.length≤Rows.uptoBulkAll l:=by
 induction l with
 | nil=>simp
 | cons x l ih=>have:=Fb x;simp only[Rows.uptoBulkAll,AWw];omega
def EG {α:Type}(t:TypeId)(E:Hp→List Value→α→Prop)(I:α→Prop)(sz:α→Nat):Prop:=
 ∀{H:Type} {enc:TypeId×Value→H} {w:World} {base:Nat} {sp:Nat→Bool} {held:Bool} {fuel:Nat} {cs:List Value} {x:DataW H×List MemPlace},
  DataW.trod enc prog w base sp held fuel t cs=some x→Rows.uptoBulk x.1≤1048576→∃y,E (full w) cs y∧I y∧sz y≤Rows.uptoBulk x.1
theorem mkB {α:Type}{s:Nat}{E:Hp→List Value→α→Prop}{I:α→Prop}{sz:α→Nat}{σ:Hp}{b o:Nat}{H:Type}{D:Nat→DataW H}:∀{n:Nat},n≤4611686018427387904→(∀i,i<n→∃vs x,vs.length=s∧Av σ b (o+i*s) vs∧E σ vs x∧I x∧sz x≤Rows.uptoBulk (D i))→
  ∃xs,Ac s E σ (some ⟨b,o,none⟩) n xs∧(∀x∈xs,I x)∧(xs.map sz).sum≤Rows.uptoBulkAll ((List.range n).map D)
 | 0,_,_=>⟨[],Ac.nil,by simp,by simp⟩
 | n+1,hn,h=>by
  obtain⟨xs,⟨h1,cs,⟨hl,_,h2⟩,h3⟩,hI,hs⟩:=mkB (n:=n) (D:=D) (by omega) (fun i hi=>h i (by omega));obtain⟨vs,x,hv,Ee,hE,hx,hz⟩:=h n (by omega);have Lu:Av σ b o cs:=by
   rcases h2 with rfl|⟨b',o',hp,fp⟩
   ·have:cs=[]:=AXo (by simpa using hl);subst this;trivial
   ·cases hp;exact fp
  refine⟨xs++[x],⟨by simp[h1],cs++vs,⟨by rw[AWz,hl,hv,AXs];omega,hn,.inr ⟨b,o,rfl,Lu.snoc (by rw[hl];exact Ee)⟩⟩,h3.snoc hv hE⟩,fun y hy=>?_,?_⟩
  ·rcases AW8.1 hy with hy|hy
   ·exact hI y hy
   ·simp at hy;subst hy;exact hx
  ·rw[List.range_succ,AXG,AXG,bH,AYs];simp only[AXa,AZI,AZs,AZ1,Rows.uptoBulkAll];omega
def ESc {α:Type}(s:Nat)(E:Hp→List Value→α→Prop)(σ:Hp)(vs:List Value)(xs:List α):Prop:=∃p n c,vs=[.slice p n c]∧n≤c∧Ac s E σ p n xs
theorem EG.slice {α:Type}{t e:TypeId}{s:Nat}{E:Hp→List Value→α→Prop}{I:α→Prop}{sz:α→Nat}(ht:prog.underlying t=some (.slice e))(hs:prog.cellsOf e=s)(hs0:0<s)(he:EG e E I sz):
  EG t (ESc s E) (fun xs=>∀x∈xs,I x) (fun xs=>(xs.map sz).sum+1):=by
 intro H enc w base sp held fuel cs x h hw;subst hs;rcases open_slice ht h with ⟨rfl,rfl⟩|⟨a,len,cap,m,n,D,Pl,rfl,hb,hl,hm,hmm,rfl,hi⟩
 ·exact⟨[],⟨none,0,0,rfl,AWu _,Ac.nil⟩,by simp,by simp[Rows.uptoBulk]⟩
 ·have hlm:len≤m:=by rw[hmm];split<;>omega
  have bc:Rows.uptoBulkAll ((List.range len).map D)+1≤Rows.uptoBulk (DataW.slice ((List.range len).map D) ((List.range (m-len)).map fun j=>D (len+j))):=by
   simp only[Rows.uptoBulk];omega
  have hlen:=sS ((List.range len).map D);rw[AW9,List.length_range]at hlen;have hwD:∀i,i<len→Rows.uptoBulk (D i)≤1048576:=fun i Bj=>by
   have:=P5 (AXB.2 ⟨i,AY0.2 Bj,rfl⟩:D i∈(List.range len).map D);simp only at hw;omega
  by_cases h0:len=0
  ·subst h0;exact⟨[],⟨some a,0,cap,rfl,AWx _,Ac.nil⟩,by simp,by simp only[Rows.uptoBulk,AZI,AZ1];omega⟩
  ·have bI:a.spot=none:=by
    obtain⟨cs',hc,_⟩:=hi 0 (by omega);obtain⟨_,cz,sf⟩:=World.cells?_some hc;have h1:=sf 0 hs0;rw[AWm (by omega)]at h1;have:=VF h1;simpa[Addr.add] using this
   obtain⟨b,o,sp'⟩:=a;simp only at bI;subst bI;obtain⟨xs,hr,hI,hz⟩:=mkB (s:=prog.cellsOf e) (E:=E) (I:=I) (sz:=sz) (σ:=full w) (b:=b) (o:=o) (D:=D) (n:=len) (by simp only at hw;omega) (fun i Bj=>by
    obtain⟨cs',hc,ht'⟩:=hi i (by omega);obtain⟨_,cz,sf⟩:=World.cells?_some hc;obtain⟨y,hE,hy,eA⟩:=he ht' (hwD i Bj);refine⟨cs',y,cz,Av.of fun j v hj=>?_,hE,hy,eA⟩;have iy:j<prog.cellsOf e:=by have:=(AWk.1 hj).1;omega
    have h1:=sf j iy;rw[hj,Bl,Bl]at h1;exact RA h1)
   exact⟨xs,⟨some ⟨b,o,none⟩,len,cap,rfl,hl,hr⟩,hI,by simp only at hz bc ⊢;omega⟩
def wy (_:Hp)(vs:List Value)(s:ByteArray):Prop:=vs=[.string s]
theorem EG.str {t:TypeId}(ht:prog.underlying t=some .string):EG t wy (fun s=>s.size≤1048576) (fun s=>s.size+1):=fun h hw=>by
 obtain⟨n,rfl,rfl,_⟩:=DataW.trod_string ht h;have e:n.data.toList.length=n.size:=AXq;have hw:n.data.toList.length+1≤1048576:=hw;rw[e]at hw;exact⟨n,rfl,by omega,show n.size+1≤n.data.toList.length+1 by rw[e];exact AWu _⟩
theorem N6 {H:Type}{l:List (DataW H)}{d:DataW H}(h:Rows.uptoBulk (DataW.agg l)≤1048576)(hd:d∈l):Rows.uptoBulk d≤1048576:=by
 have:=P5 hd;simp only[Rows.uptoBulk]at h;omega
theorem wz {α:Type}:∀l:List α,(l.map fun _=>1).sum=l.length:=fun l=>by induction l with
 | nil=>rfl
 | cons a l ih=>simp;omega
theorem EG.len {α:Type}{t e:TypeId}{s:Nat}{E:Hp→List Value→α→Prop}{I:α→Prop}(ht:prog.underlying t=some (.slice e))(hs:prog.cellsOf e=s)(hs0:0<s)(he:EG e E I (fun _=>1)):
  EG t (ESc s E) (fun xs=>(∀x∈xs,I x)∧xs.length≤1048576) (fun _=>1):=fun h hw=>by
 obtain⟨xs,h1,h2,h3⟩:=EG.slice ht hs hs0 he h hw;dsimp only at h3;rw[wz]at h3;exact⟨xs,h1,⟨h2,by omega⟩,Fb _⟩
theorem EG.one {α:Type}{t:TypeId}{E:Hp→List Value→α→Prop}{I:α→Prop}{sz:α→Nat}(h:EG t E I sz):EG t E I (fun _=>1):=fun h1 hw=>by
 obtain⟨y,a,b,c⟩:=h h1 hw;exact⟨y,a,b,Fb _⟩
set_option maxRecDepth 100000
set_option linter.unusedSimpArgs false
theorem AC8:EG 42 C1 (fun p=>0≤p.2∧p.2<18446744073709551616) (fun _=>1):=by
 intro H enc w base sp held fuel cs x h hw;obtain⟨xs,n,_,rfl,hlen,lT,hg⟩:=DataW.trod_struct underlying42 h;rw[show prog.cellsOf 42=2 by kernel_rfl]at hlen
 match cs,hlen,xs,lT with
 | [c0,c1],_,[y0,y1],_=>
  have h0:=hg 0 _ rfl;have h1:=hg 1 _ rfl;simp only[show prog.cellsOf 2=1 by kernel_rfl,show prog.cellsOf 38=1 by kernel_rfl,List.drop,List.take,AXI,AXU]at h0 h1;obtain⟨a,e0,_,_⟩:=DataW.trod_int underlying2 h0;obtain⟨b,e1,_,wb⟩:=DataW.trod_int underlying38 h1;cases e0;cases e1;refine⟨(a,b),rfl,?_,Fb _⟩;simp[Lit.wf,IntKind.min,IntKind.max,IntKind.signed,IntKind.bits]at wb;exact⟨wb.1,by omega⟩
theorem AC9:EG 36 BM (fun _=>True) (fun _=>1):=by
 intro H enc w base sp held fuel cs x h hw;obtain⟨xs,n,_,rfl,hlen,lT,hg⟩:=DataW.trod_struct underlying36 h;rw[show prog.cellsOf 36=2 by kernel_rfl]at hlen
 match cs,hlen,xs,lT with
 | [c0,c1],_,[y0,y1],_=>
  have h0:=hg 0 _ rfl;have h1:=hg 1 _ rfl;simp only[show prog.cellsOf 9=1 by kernel_rfl,List.drop,List.take,AXI,AXU]at h0 h1;obtain⟨a,e0,_⟩:=DataW.trod_string underlying9 h0;obtain⟨b,e1,_⟩:=DataW.trod_string underlying9 h1;cases e0;cases e1;exact⟨(a,b),rfl,trivial,Fb _⟩
theorem ADA:EG 47 Ni (fun _=>True) (fun _=>1):=by
 intro H enc w base sp held fuel cs x h hw;obtain⟨xs,n,_,rfl,hlen,lT,hg⟩:=DataW.trod_struct underlying47 h;rw[show prog.cellsOf 47=3 by kernel_rfl]at hlen
 match cs,hlen,xs,lT with
 | [c0,c1,c2],_,[y0,y1,y2],_=>
  have h0:=hg 0 _ rfl;have h1:=hg 1 _ rfl;have h2:=hg 2 _ rfl;simp only[show prog.cellsOf 9=1 by kernel_rfl,show prog.cellsOf 3=1 by kernel_rfl,List.drop,List.take,AXI,AXU]at h0 h1 h2;obtain⟨z,e0,_⟩:=DataW.trod_int underlying3 h0;obtain⟨a,e1,_⟩:=DataW.trod_string underlying9 h1;obtain⟨b,e2,_⟩:=DataW.trod_string underlying9 h2;cases e0;cases e1;cases e2;exact⟨⟨z,a,b⟩,rfl,trivial,Fb _⟩
def bJ {α:Type}(I:α→Prop)(xs:List α):Prop:=(∀x∈xs,I x)∧xs.length≤1048576
theorem ADB:EG 37 (ESc 2 BM) (bJ fun _=>True) (fun _=>1):=EG.len (s:=2) underlying37 (by kernel_rfl) (by decide) AC9
theorem ADC:EG 43 (ESc 2 C1) (bJ fun p=>0≤p.2∧p.2<18446744073709551616) (fun _=>1):=EG.len (s:=2) underlying43 (by kernel_rfl) (by decide) AC8
theorem ADD:EG 48 (ESc 3 Ni) (bJ fun _=>True) (fun _=>1):=EG.len (s:=3) underlying48 (by kernel_rfl) (by decide) ADA
theorem ADE:EG 49 (ESc 1 wy) (bJ fun s=>s.size≤1048576) (fun _=>1):=EG.len (s:=1) underlying49 (by kernel_rfl) (by decide) (EG.one (EG.str underlying9))
theorem AKa {σ:Hp}:∀{cs:List Value} {xs:List ByteArray},Ch 1 wy σ cs xs→cs=xs.map .string:=by
 rintro cs xs ⟨h1,h2⟩
 refine AXm fun i=>?_;rw[AXM];cases hx:xs[i]? with
 | none=>
  have:=AYP.1 hx;simp only[Option.map_none];exact AYP.2 (by omega)
 | some x=>
  have:=h2 i x hx;simp only[wy]at this;have h3:=AWy (·[0]?) this;simp at h3;simpa using h3
theorem ADF:EG 45 CA (fun s=>s.ls.length≤1048576∧s.ps.length≤1048576∧∀p∈s.ps,0≤p.2∧p.2<18446744073709551616) (fun _=>1):=by
 intro H enc w base sp held fuel cs x h hw;obtain⟨xs,n,_,rfl,hlen,lT,hg⟩:=DataW.trod_struct underlying45 h;rw[show prog.cellsOf 45=2 by kernel_rfl]at hlen
 match cs,hlen,xs,lT with
 | [c0,c1],_,[y0,y1],_=>
  have h0:=hg 0 _ rfl;have h1:=hg 1 _ rfl;simp only[show prog.cellsOf 37=1 by kernel_rfl,show prog.cellsOf 43=1 by kernel_rfl,List.drop,List.take,AXI,AXU]at h0 h1;obtain⟨ls,⟨p,k,c,e0,hc0,r0⟩,⟨_,l0⟩,_⟩:=ADB h0 (N6 hw (by simp));obtain⟨ps,⟨q,m,d,e1,hc1,r1⟩,⟨i1,l1⟩,_⟩:=ADC h1 (N6 hw (by simp));cases e0;cases e1;exact⟨⟨ls,ps⟩,⟨p,k,c,q,m,d,rfl,r0,r1,hc1⟩,⟨l0,l1,i1⟩,Fb _⟩
theorem ADG:EG 51 Ha (fun x=>x.text.size≤1048576∧x.mt.length≤1048576∧x.names.length≤1048576) (fun _=>1):=by
 intro H enc w base sp held fuel cs x h hw;obtain⟨xs,n,_,rfl,hlen,lT,hg⟩:=DataW.trod_struct underlying51 h;rw[show prog.cellsOf 51=10 by kernel_rfl]at hlen
 match cs,hlen,xs,lT with
 | [c0,c1,c2,c3,c4,c5,c6,c7,c8,c9],_,[y0,y1,y2,y3,y4,y5,y6,y7,y8,y9],_=>
  have h0:=hg 0 _ rfl;have h1:=hg 1 _ rfl;have h2:=hg 2 _ rfl;have h3:=hg 3 _ rfl;have h4:=hg 4 _ rfl;have h5:=hg 5 _ rfl;have h6:=hg 6 _ rfl;have h7:=hg 7 _ rfl;have h8:=hg 8 _ rfl;have h9:=hg 9 _ rfl;simp only[show prog.cellsOf 3=1 by kernel_rfl,show prog.cellsOf 9=1 by kernel_rfl,show prog.cellsOf 48=1 by kernel_rfl,show prog.cellsOf 2=1 by kernel_rfl,show prog.cellsOf 49=1 by kernel_rfl,show prog.cellsOf 4=1 by kernel_rfl,List.drop,List.take,AXI,AXU]at h0 h1 h2 h3 h4 h5 h6 h7 h8 h9;obtain⟨a0,e0,_,_⟩:=DataW.trod_int underlying3 h0;obtain⟨a1,e1,_,_⟩:=DataW.trod_int underlying3 h1;obtain⟨a2,e2,i2,_⟩:=EG.str underlying9 h2 (N6 hw (by simp));obtain⟨a3,⟨p,k,c,e3,_,r3⟩,⟨_,l3⟩,_⟩:=ADD h3 (N6 hw (by simp));obtain⟨a4,e4,_,_⟩:=DataW.trod_int underlying2 h4;obtain⟨a5,e5,_,_⟩:=DataW.trod_int underlying2 h5;obtain⟨a6,e6,_,_⟩:=DataW.trod_int underlying3 h6;obtain⟨a7,⟨q,m,d,e7,_,r7⟩,⟨_,l7⟩,_⟩:=ADE h7 (N6 hw (by simp));obtain⟨a8,e8,_⟩:=DataW.trod_bool underlying4 h8;obtain⟨a9,e9,_,_⟩:=DataW.trod_int underlying3 h9;have e2:[c2]=[.string a2]:=e2;cases e0;cases e1;cases e2;cases e3;cases e4;cases e5;cases e6;cases e7;cases e8;cases e9;obtain⟨_,cs,g1,g2⟩:=r7;rw[AKa g2]at g1;exact⟨⟨a0,a1,a2,a3,a4,a5,a6,a7,a8,a9⟩,⟨p,k,c,q,m,d,rfl,r3,g1⟩,⟨i2,l3,l7⟩,Fb _⟩
section
variable {H:Type}{enc:TypeId×Value→H}{W:World}{base:Nat}{v v':Value}{d d':DataW H}{ps ps':List MemPlace}{r:Reach}
theorem sT (hv:Value.okWide prog W r base 22 v)(h:DataW.Trod enc prog W 0 (fun _=>true) true 22 v d ps)(hw:Rows.uptoBulk d≤1048576):∃p n c T,v=.slice p n c∧Ac 10 Ha (full W) p n T∧bJ (fun x:Nd=>x.text.size≤1048576∧x.mt.length≤1048576∧x.names.length≤1048576) T:=by
 obtain⟨a,l,c,rfl⟩:=okWide_slice underlying22 hv;obtain⟨fuel,hf⟩:=h;obtain⟨xs,⟨p,n,c',e,_,hr⟩,hI,_⟩:=EG.len (s:=10) underlying22 (by kernel_rfl) (by decide) ADG hf hw;have e':[Value.slice a l c]=[.slice p n c']:=by simpa[Value.cells] using e
 cases e';exact⟨a,l,c,xs,rfl,hr,hI⟩
theorem sU (hv:Value.okWide prog W r base 23 v)(h:DataW.Trod enc prog W 0 (fun _=>true) true 23 v d ps)(hw:Rows.uptoBulk d≤1048576):∃p n c ss,v=.slice p n c∧Ac 2 CA (full W) p n ss∧bJ (fun s:Sr=>s.ls.length≤1048576∧s.ps.length≤1048576∧∀p∈s.ps,0≤p.2∧p.2<18446744073709551616) ss:=by
 obtain⟨a,l,c,rfl⟩:=okWide_slice underlying23 hv;obtain⟨fuel,hf⟩:=h;obtain⟨xs,⟨p,n,c',e,_,hr⟩,hI,_⟩:=EG.len (s:=2) underlying23 (by kernel_rfl) (by decide) ADF hf hw;have e':[Value.slice a l c]=[.slice p n c']:=by simpa[Value.cells] using e
 cases e';exact⟨a,l,c,xs,rfl,hr,hI⟩
end
theorem ADH {f:FuncId}{fn:Func}{s:ChangeSpec}{H:Type}{enc:TypeId×Value→H}{W:World}{args:Array Value}{ds gs:List (DataW H)}{before:List MemPlace}(hr:(fn.params.toList.all fun t=>prog.readableRec t&&Nat.blt t prog.types.size)=true)
  (hrt:fn.resultTypes=#[4]) (hv:s.vars=[]) (Q6:(s.fn H (ds++gs)).results=[.lit (.bool true)]∧(s.fn H (ds++gs)).args=ds∧(s.fn H (ds++gs)).vars=[])
  (hW:DataW.Whole enc prog fn.params.toList s.vars false W args.toList ds gs before) (h:Lawful prog f args W) :
  Calls prog f args W fun e W'=>∃v,e=.returned v∧s.post enc prog fn false true false false W args v W':=
 h.calls.mono fun e W' ⟨he,hb⟩=>⟨_,he,mB laidOut hr hrt underlying4 hv Q6 hW hb⟩
end TwW.Rw
end
