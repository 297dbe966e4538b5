/-
  Part 7 of the proof that the law EvalInstantsUptoCardSaid of the given program answers true for every input of the given statement; the input reads behind the call as it did. (The texts: packed from 16 texts. Names are shortened by the packing program, for the bound on size.)
-/
import Derived.Test.YtamakbhlhpaiiaaGreatDoorA6
import Derived.Test.YtamakbhlhpaiiaaGreatDoorCards
import Derived.Test.YtamakbhlhpaiiaaGreatDoorTie
import Derived.WalkKit
import Derived.OpenShut
import Derived.Deep.DeepHandedRow
import Derived.Stop.LaidErr
import Derived.Shelf.Vars
set_option linter.all false
section
namespace TwW
open Go Tw Go.RowKit Go.Proofs.Tryz
abbrev Y8:Obj:=.cells #[.I 0,.U 0,.N,.I 0,.N] 90 (0,0)
theorem jd.one (σ:Hp)(vs:List Value)(x:RP)(h:jd σ vs x):G7 vs:=by
 obtain⟨p,n,c,q,m,d,rfl,_⟩:=h;intro u hu;simp only[AiT,Air,or_false]at hu;rcases hu with rfl|rfl|rfl|rfl|rfl<;>rfl
theorem AL.atD {σ0 σ:Hp}{p:Option Addr}{n c i:Nat}{xs:List RP}{x:RP}(h:AL 5 jd σ0 σ p n c xs)(hx:xs[i]?=some x):∃b o pv nv cv q m d,p=some ⟨b,o,none⟩∧Ae σ b (o+i*5) [.I x.kind,.U x.v,.slice pv nv cv,.I x.w,.slice q m d]∧AT 2 Aa (σ.del p) pv nv x.es∧AT 2 KV (σ.del p) q m x.rs∧nv≤cv:=by
 obtain⟨⟨hl,cs,ho,hc⟩,_⟩:=h;have hr:AT 5 (fun _ vs y=>jd (σ.del p) vs y) σ p n xs:=⟨hl,cs,ho.rd,hc⟩;obtain⟨b,o,vs,hp,⟨pv,nv,cv,q,m,d,rfl,h1,h2,h3⟩,CF⟩:=AT.idx hr hx;exact⟨b,o,pv,nv,cv,q,m,d,hp,CF,h1,h2,h3⟩
theorem Spec.own {α:Type}{P:Program}{f:FuncId}{args:Array Value}{s b n c:Nat}{o:Obj}{E:Hp→List Value→α→Prop}{σ0 σ:Hp}{p:Option Addr}{xs:List α}{R:Rr}(hE:Ht E)(ho:AL s E σ0 σ p n c xs)(hb:σ b=none)
  (h:Spec P f args (σ.del p) (fun e τ'=>∀y2,y2 b=none→y2.del p=τ'→(Ext (σ.del p) τ'→AL s E σ0 y2 p n c xs)→R e (y2.set b o))):Spec P f args (σ.set b o) R:=by
 obtain⟨⟨hl,cs,KE,hcc⟩,sU⟩:=ho;have hk:∀a,p=some a→∃u,σ a.block=some u:=fun a ha=>by
  cases hh:σ a.block with
  | none=>exact absurd hh (KE.block a ha)
  | some u=>exact⟨u,rfl⟩
 exact Spec.F6 hb (Spec.zp hk (h.mono fun e τ' hh y2 jR Jw po=>hh y2 po Jw fun hx=>⟨⟨hl,cs,Au.of_eq KE jR,by rw[Jw];exact hcc.mono hE hx⟩,by rw[Jw];exact sU.trans hx⟩))
theorem AKY:∀w,(Go.sizeOf 90).run prog w=.ok 5 w:=fun w=>by kernel_rfl
theorem AKZ:∀w,(Go.sizeOf 87).run prog w=.ok 1 w:=fun w=>by kernel_rfl
theorem AKa {σ:Hp}{b:Nat}{c:Array Value}{v0 v1 v2 v3 v4:Value}{Φ:Unit→Hp→Prop}(hc:c.size=5)(hb:σ b=some (.cells c 90 (0,0)))(h1:∀u∈[v0,v1,v2,v3,v4],u.oneCell'=true)(hv:(Value.agg #[v0,v1,v2,v3,v4]).cells=#[v0,v1,v2,v3,v4])
  (h:Φ () (σ.set b (.cells #[v0,v1,v2,v3,v4] 90 (0,0)))):AK prog (Instr.storeAt 90 (.pointer (some ⟨b,0,none⟩)) (.agg #[v0,v1,v2,v3,v4])) σ Φ:=by
 refine AK.store AKY hb (by rw[hv];rfl) (by omega) (by rw[hv];simpa using h1) ?_;rw[hv,SF (by rw[hc];rfl)];exact h
theorem ADz {ss:List Sr}{t:Int}{n:Nd}{L:List Vv}{M:List RP}(hl:M.length=L.length)(hD:∀(i:Nat) (v:Vv) (d:RP),L[i]?=some v→M[i]?=some d→Dr v d)(hV:∀x∈L,VG x){d:RP}(h:RI ss t n M=some d):d.es.length≤ss.length+(L.map Cc).sum:=by
 unfold RI at h;by_cases h1:n.kind=1
 ·rw[AiL h1]at h;cases h;exact AiR _
 rw[AiK h1]at h;by_cases h2:n.kind=2
 ·rw[AiL h2]at h;cases h;show(HV FF n ss t).length≤_
  exact Aiy (Aif _ _) (Aju _ _)
 rw[AiK h2]at h;by_cases h3:n.kind=3
 ·rw[AiL h3]at h;cases h;exact AiR _
 rw[AiK h3]at h
 match L,M,hl with
 | [x],[a],_=>
  have hx:=hD 0 x a rfl rfl;have hv:=hV x (by simp);have e0:([x].map Cc).sum=Cc x:=by simp
  rw[e0];dsimp only at h;split at h
  ·cases h;show(JB FF n ⟨a.kind,AV a.w,a.es,a.rs⟩).length≤_
   unfold JB Cc;rw[hx.es,hx.rs,Aid,Aii];refine Aiy (Nat.add_le_add_left (Aif _ _) _) ?_;dsimp only;omega
  split at h
  ·cases h;have e:Mp FF n ⟨2,0,a.es,[]⟩=Mp FF n x:=by unfold Mp;rw[hx.es]
   show(Mp FF n ⟨2,0,a.es,[]⟩).length≤_
   rw[e];have:=(zm (n:=n) hv).2;omega
  split at h
  ·cases h;split
   ·exact AiR _
   ·show(List.map _ a.es).length≤_
    rw[Aii,hx.es];unfold Cc;omega
  ·cases h
 | [x,y],[a,b],_=>
  have hx:=hD 0 x a rfl rfl;have hy:=hD 1 y b rfl rfl;have vx:=hV x (by simp);have vy:=hV y (by simp);have e0:([x,y].map Cc).sum=Cc x+Cc y:=by simp
  rw[e0];dsimp only at h;split at h
  ·unfold eE at h;split at h
   ·cases h;exact AiR _
   ·rw[hx.es,hy.es]at h;obtain⟨m,hm,rfl⟩:=map_some h;show m.length≤_
    have lx:x.vec.length≤Cc x:=Aju _ _;have ly:y.vec.length≤Cc y:=Aju _ _;split at hm
    ·cases hm;have:=Aif (fun z:El=>if BN n.op=false∨n.bool=true then some (⟨Bd z.ls,(A3 n.op a.v z.v).1⟩:El) else if(A3 n.op a.v z.v).2 then some z else none) y.vec;have e9:(JL n y.vec (A3 n.op a.v)).length≤y.vec.length:=Aif _ _;omega
    split at hm
    ·cases hm;have e9:(JL n x.vec fun v=>A3 n.op v b.v).length≤x.vec.length:=Aif _ _;omega
    split at hm
    ·cases hm;have:=(pg (n:=n) vx.el vy.el).2;omega
    ·have:=(ph vx.el hm).2;omega
  ·cases h
 | [],[],_=>cases h
 | _::_::_::_,_::_::_::_,_=>cases h
section
variable {σ:Hp}{R:Rr}
set_option maxHeartbeats 4000000 in
theorem eJ {p q:Option Addr}{n c m d:Nat}{T:List Nd}{ss:List Sr}{t kf:Int}(hr:AT 10 GF σ p n T)(hs:AT 2 Dh σ q m ss)(hS:jP ss)(EI:D1 none ss=true)(hD:SsD ss)(h64:∀s∈ss,∀p∈s.ps,Iu p.2)(hn:n≤4096)(ht:-4611686018427387904≤t∧t≤4611686018427387904)(VR:DA T []=some [kf])
  (h:∀v d' σ' pv nv cv qv mv dv,(Ip FF ss t T []).bind List.head?=some v→Dr v d'→Ext σ σ'→AT 2 Aa σ' pv nv d'.es→nv≤cv→R (.T #[Y0 d'.kind d'.v pv nv cv d'.w qv mv dv,.bool true]) σ')
  (h':(Ip FF ss t T []).bind List.head?=none→∀σ',Ext σ σ'→R (.T #[Y0 0 0 none 0 0 0 none 0 0,.bool false]) σ') :
  Spec prog 45 #[.slice p n c,.slice q m d,.I t] σ R:=by
 have hTl:T.length=n:=hr.1;have AJ6:=hS.ok.len;refine Cb.start fun _=>?_
 suffices H:∀g i:Nat,∀(p8:Option Addr) (n8 c8:Nat) (σ':Hp) (st:List Vv) (M:List RP),n-i=g→i≤n→AL 5 jd σ σ' p8 n8 c8 M→M.length=st.length→(∀(j:Nat) (v:Vv) (d:RP),st[j]?=some v→M[j]?=some d→Dr v d)→(∀x∈st,VG x)→(∀x∈st,uG x)→st.length≤i→(st.map Cc).sum≤i*ss.length→DA (T.drop i) (st.map (·.kind))=some [kf]→Ip FF ss t T []=Ip FF ss t (T.drop i) st→Cb.Ab R p n c q m d t 0 0 none 0 0 0 none 0 0 p8 n8 c8 (i:Int) σ' from
  H n 0 none 0 0 σ [] [] rfl (AiR _) (AL.nil (.refl _)) rfl (fun j v d hj=>by simp at hj) (fun x hx=>(by cases hx)) (fun x hx=>(by cases hx)) (AiR _) (AiR _) VR rfl
 intro g
 induction g with
 | zero=>
  intro i p8 n8 c8 σ' st M jH hi ho hMl hMD hV hW hsl AJ7 hT Bz;rw[Aib (by omega)]at hT Bz;have hk:st.map (·.kind)=[kf]:=by simpa[DA] using hT
  have zr:Ip FF ss t T []=some st:=by rw[Bz];rfl
  rw[zr]at h
  match st,hk,M,hMl with
  | [x],_,[y],_=>
   have hD0:=hMD 0 x y rfl rfl;obtain⟨b,o,pv,nv,cv,qv,mv,dv,rfl,CF,h5,h6,h7⟩:=AL.atD ho (i:=0) (x:=y) rfl;have Tp:1=n8:=ho.1.1;rw[AjS,AjH]at CF;exact Cb.AO ⟨fun Aq=>by omega,fun _=>⟨b,o,rfl,by unfold In;omega,y.kind,y.v,pv,nv,cv,y.w,qv,mv,dv,CF,h x y σ' pv nv cv qv mv dv rfl hD0 ho.up (h5.mono Aa.mono (Ext.Jb _ _)) h7⟩⟩
 | succ g ih=>
  intro i p8 n8 c8 σ' st M jH hi ho hMl hMD hV hW hsl AJ7 hT Bz;have BF:i<n:=by omega
  obtain⟨x,hx⟩:=hr.ex BF;obtain⟨b,o,p1,k1,c1,q1,m1,d1,rfl,CF,zo,uB⟩:=GF.at hr hx;have hX:=ho.up;rw[A0 hx]at hT Bz;have Eu:(BQ x (st.map (·.kind))).1=0:=Aj4 fun Ah=>by
   rw[DA,AiK Ah]at hT;cases hT
  rw[DA,AiL Eu]at hT;obtain⟨hf,zR,qZ,Sz,zt⟩:=V1 Eu;have hpn:=O1 hf;obtain⟨tp,htp⟩:∃tp:Nat,x.parts=tp:=⟨x.parts.toNat,by omega⟩;have hpt:x.parts.toNat=tp:=by omega
  have hMn:M.length=n8:=ho.1.1;have E2:st.length=n8:=by omega
  rw[Aii,E2,hpt]at Sz zt;rw[Aii]at zR;rw[zt]at hT;rw[←List.map_drop]at Sz hT;rw[←List.map_take]at hT;rw[Ip,E2,hpt]at Bz;have pj:(st.drop (n8-tp)).length=tp:=by rw[Aic];omega
  have hML:(M.drop (n8-tp)).length=tp:=by rw[Aic];omega
  have jQ:∀y∈st.drop (n8-tp),VG y:=fun y hy=>hV y (AjT hy);have hLW:∀y∈st.drop (n8-tp),uG y:=fun y hy=>hW y (AjT hy);have Ow:(st.map Cc).sum=((st.take (n8-tp)).map Cc).sum+((st.drop (n8-tp)).map Cc).sum:=by
   rw[←Ajy,←Aiq,Ai8]
  have hsb:i*ss.length≤4096*10000000:=Aj6 (by omega) AJ6;have rF:∀j v d,(st.drop (n8-tp))[j]?=some v→(M.drop (n8-tp))[j]?=some d→Dr v d:=fun j v d hj hd=>by
   rw[Ain]at hj hd;exact hMD _ v d hj hd
  have B8:=FU hf;have AGp:x.kind=6→1≤x.op∧x.op≤13∧(x.BW=0∨x.BW=3∨x.BW=4):=fun h6=>by
   unfold E1 at B8;rw[AiK (by omega),AiK (by omega),AiK (by omega),AiK (by omega),AiK (by omega),AiL h6,AiS]at B8;have:=AiP B8.1;exact⟨this.2.1,this.2.2.1,this.2.2.2⟩
  have ATI:=AKV (t:=t) (n:=x) EI (by rw[hML,pj]) rF jQ (fun h6=>(AGp h6).2.1);have tail:∀(y2:Hp) (Dd:Nat) (d0:RP) (okb:Bool) (pv:Option Addr) (nv cv:Nat) (qv:Option Addr) (mv dv:Nat) (NB:Int),y2 Dd=none→AL 5 jd σ y2 p8 n8 c8 M→AT 2 Aa (y2.del p8) pv nv d0.es→AT 2 KV (y2.del p8) qv mv d0.rs→nv≤cv→nv≤100000000000→(if okb=true then nO (Ez FF ss t x (st.drop (n8-tp))) (some d0) else Ez FF ss t x (st.drop (n8-tp))=none)→Cb.VE R (aD b o) n c q m d t 0 0 none 0 0 0 none 0 0 p8 n8 c8 (i:Int) x.kind x.op x.text p1 k1 c1 x.width x.back x.BW q1 m1 d1 x.bool x.parts Dd okb (y2.set Dd (.cells #[.I d0.kind,.U d0.v,.slice pv nv cv,.I d0.w,.slice qv mv dv] 90 (0,0))):=fun y2 Dd d0 okb pv nv cv qv mv dv NB hb A6 F1 Ha hcv hnv Zv=>by
   have x3:=Ext.set (o:=.cells #[.I d0.kind,.U d0.v,.slice pv nv cv,.I d0.w,.slice qv mv dv] 90 (0,0)) hb;have AKb:Ez FF ss t x (st.drop (n8-tp))=none→∀(y3:Hp),Ext σ (y3.del p8)→y3 Dd=none→R (.T #[Y0 0 0 none 0 0 0 none 0 0,.bool false]) (y3.set Dd (.cells #[.I d0.kind,.U d0.v,.slice pv nv cv,.I d0.w,.slice qv mv dv] 90 (0,0))):=fun hz y3 BU hy3=>
    h' (by rw[Bz,hz];rfl) _ ((BU.trans (Ext.Jb _ _)).trans (Ext.set hy3))
   refine Cb.ACj ⟨pv,nv,cv,Aj (Hp.AA _ _ _) rfl,Spec.own jd.mono A6 hb (eA F1 hnv (fun out σ3 p' n' c' AHR BU SM hc3 y3 hy3 Jw uJ=>⟨_,_,_,_,rfl,fun hf=>?_,fun ht=>⟨fun hh=>(by cases hh),fun _=>?_⟩⟩) fun Hj σ3 BU y3 hy3 Jw uJ=>⟨_,_,_,_,rfl,fun hf=>?_,fun ht=>⟨fun _=>?_,fun hh=>(by cases hh)⟩⟩)⟩
   ·rw[hf,AiK (by decide)]at Zv;exact AKb Zv y3 (by rw[Jw];exact A6.2.trans BU) hy3
   ·rw[ht,AiL rfl]at Zv;obtain⟨z,hz,hDz⟩:=(Zv.yes d0 rfl).1 out AHR;have DJ:=uJ BU;have DB:Au 5 (y3.set Dd (.cells #[.I d0.kind,.U d0.v,.slice pv nv cv,.I d0.w,.slice qv mv dv] 90 (0,0))) (some ⟨Dd,0,none⟩) 1 1 [.I d0.kind,.U d0.v,.slice pv nv cv,.I d0.w,.slice qv mv dv]:=⟨rfl,by decide,.inr ⟨Dd,0,_,90,rfl,Hp.AA _ _ _,AiV _,by simp,rfl⟩⟩;refine Au.da (j:=2) DB (by decide) AKZ rfl rfl fun obj ATJ=>?_;rw[Hp.set_set]at ATJ ⊢;have x5:=Ext.set (o:=obj) hy3;have uO:=x5.del p8;rw[Jw]at uO;have nQ:Ae (y3.set Dd obj) Dd 0 [.I d0.kind,.U d0.v,.slice p' n' c',.I d0.w,.slice qv mv dv]:=by
     obtain⟨_,_,hh⟩:=ATJ.rd;rcases hh with hh|⟨b',o',he,hh⟩
     ·exact absurd hh (by decide)
     ·cases he;exact hh
    have he:jd ((y3.set Dd obj).del p8) [.I d0.kind,.U d0.v,.slice p' n' c',.I d0.w,.slice qv mv dv] ⟨d0.kind,d0.v,out,d0.w,d0.rs⟩:=⟨p',n',c',qv,mv,dv,rfl,SM.mono Aa.mono uO,(Ha.mono KV.mono BU).mono KV.mono uO,hc3⟩;have KT:=(DJ.mono jd.mono x5).take (m:=n8-tp) (by omega);have zu:n8≤c8:=by obtain⟨cs,KE,_⟩:=DJ.1.2;exact Au.cap KE
    have e1:Int.toNat ((n8:Int)-x.parts)=n8-tp:=by omega
    obtain⟨w1,w2,w3⟩:=V0 hS.ok hS.nn hf Sz (by rw[pj,htp]) jQ hz;have w4:=AKW h64 hLW hz;rw[hz]at Bz;refine⟨by unfold AG;omega,⟨by omega,by omega⟩,d0.kind,d0.v,p',n',c',d0.w,qv,mv,dv,nQ,fun AJS ATK=>?_⟩;rw[e1];refine AL.Hu jd.mono KT rfl (jd.one _ _ _ he) he (by omega) (fun p7 c7 y4 FW _=>⟨_,_,_,rfl,AJ BF hr.big,?_⟩) ATK;have:=ih (i+1) p7 (n8-tp+1) c7 y4 (st.take (n8-tp)++[z]) (M.take (n8-tp)++[⟨d0.kind,d0.v,out,d0.w,d0.rs⟩]) (by omega) (by omega) FW (by simp only[Aid,AiU,AjG];omega) (fun j v dd hj hd=>?_) (fun u hu=>?_) (fun u hu=>?_) (by rw[Aid,AiU,AjG];omega) ?_ ?_ ?_
    ·rw[show((i+1:Nat):Int)=(i:Int)+1 by omega]at this;exact this
    ·rw[AjD,AiU]at hj hd;by_cases oA:j<n8-tp
     ·rw[AiL (by omega),Ail,AiL oA]at hj hd;exact hMD j v dd hj hd
     ·rw[AiK (by omega)]at hj hd;have e2:j-min (n8-tp) st.length=0:=by
       have:=(List.getElem?_eq_some_iff.1 hj).1;simp at this;omega
      have e3:j-min (n8-tp) M.length=0:=by omega
      rw[e2]at hj;rw[e3]at hd;cases hj;cases hd;exact hDz
    ·rcases List.mem_append.1 hu with hu|hu
     ·exact hV u (AjY hu)
     ·rw[AiY]at hu;rw[hu];exact w1
    ·rcases List.mem_append.1 hu with hu|hu
     ·exact hW u (AjY hu)
     ·rw[AiY]at hu;rw[hu];exact w4
    ·rw[Aiq,Ajy,Ajm,List.sum_singleton,Ajw];omega
    ·rw[Aiq,Ajm,w2];exact hT
    ·exact Bz
   ·rw[hf,AiK (by decide)]at Zv;exact AKb Zv y3 (by rw[Jw];exact A6.2.trans BU) hy3
   ·rw[ht,AiL rfl]at Zv;exact AKb ((Zv.yes d0 rfl).2 Hj) y3 (by rw[Jw];exact A6.2.trans BU) hy3
  have Y9:∀y∈st.drop (n8-tp),Cc y≤50000000000:=fun y hy=>by
   have:=dX (f:=Cc) (AjT hy);omega
  have AGr:∀d0,RI ss t x (M.drop (n8-tp))=some d0→d0.es.length≤100000000000:=fun d0 hd=>by
   have:=ADz (by rw[hML,pj]) rF jQ hd;omega
  have aft:∀(y2 τ':Hp) (Dd:Nat) (d0:RP) (okb:Bool) (pv:Option Addr) (nv cv:Nat) (qv:Option Addr) (mv dv:Nat),y2 Dd=none→y2.del p8=τ'→(Ext (σ'.del p8) τ'→AL 5 jd σ y2 p8 n8 c8 M)→Ext (σ'.del p8) τ'→AT 2 Aa τ' pv nv d0.es→AT 2 KV τ' qv mv d0.rs→nv≤cv→nv≤100000000000→(if okb=true then nO (Ez FF ss t x (st.drop (n8-tp))) (some d0) else Ez FF ss t x (st.drop (n8-tp))=none)→AK prog (Instr.storeAt 90 (.pointer (aD Dd 0)) (.agg #[.I d0.kind,.U d0.v,.slice pv nv cv,.I d0.w,.slice qv mv dv])) (y2.set Dd Y8) (fun _ AB=>Cb.VE R (aD b o) n c q m d t 0 0 none 0 0 0 none 0 0 p8 n8 c8 (i:Int) x.kind x.op x.text p1 k1 c1 x.width x.back x.BW q1 m1 d1 x.bool x.parts Dd okb AB):=fun y2 τ' Dd d0 okb pv nv cv qv mv dv hb Jw uJ An F1 Ha hcv hnv Zv=>by
   refine AKa rfl (Hp.AA _ _ _) (by simp[Value.oneCell']) rfl ?_;rw[Hp.set_set];subst Jw;exact tail y2 Dd d0 okb pv nv cv qv mv dv x.kind hb (uJ An) F1 Ha hcv hnv Zv
  have nR:∀d0,RI ss t x (M.drop (n8-tp))=some d0→(if(true:Bool)=true then nO (Ez FF ss t x (st.drop (n8-tp))) (some d0) else Ez FF ss t x (st.drop (n8-tp))=none):=fun d0 hd=>by rw[AiL rfl,←hd];exact ATI
  have hXd:Ext σ (σ'.del p8):=ho.2;have ATL:=zo.mono Jt.mono hXd;have ATM:=uB.mono hXd;have hsd:=hs.mono Dh.mono hXd;have WL:∀y∈x.mt,y.val.size≤100000:=fun y hy=>by
   unfold HW at qZ;split at qZ
   ·exact absurd qZ (by decide)
   ·cases ha:x.mt.all Sx with
    | true=>
     have:=List.all_eq_true.1 ha y hy;unfold Sx at this;simp only[AiS,AiW]at this;omega
    | false=>
     have:(if x.mt.all Sx=true then(0:Int) else 40)=0:=qZ;rw[ha]at this;exact absurd this (by decide)
  have e1:Int.toNat ((n8:Int)-x.parts)=n8-tp:=by omega
  have zu:n8≤c8:=by obtain⟨cs,KE,_⟩:=ho.1.2;exact Au.cap KE
  have part:∀(Dd:Nat) (TY:Obj) (j:Nat) (d1:RP),σ' Dd=none→(M.drop (n8-tp))[j]?=some d1→∃bp op pv nv cv qv mv dv,MK p8 (n8-tp) c8 5=some ⟨bp,op,none⟩∧Ae (σ'.set Dd TY) bp (op+j*5) [.I d1.kind,.U d1.v,.slice pv nv cv,.I d1.w,.slice qv mv dv]∧AT 2 Aa (σ'.del p8) pv nv d1.es∧AT 2 KV (σ'.del p8) qv mv d1.rs:=fun Dd TY j d1 Zw hj=>by
   rw[Ain]at hj;obtain⟨bp,op,pv,nv,cv,qv,mv,dv,hp8,nQ,r1,r2,_⟩:=AL.atD ho hj;have Aq:=(List.getElem?_eq_some_iff.1 hj).1;refine⟨bp,op+(n8-tp)*5,pv,nv,cv,qv,mv,dv,?_,?_,r1,r2⟩
   ·rw[hp8];unfold MK;rw[AiK (by omega)];simp[DH]
   ·rw[show op+(n8-tp)*5+j*5=op+(n8-tp+j)*5 by rw[AjM];omega];exact nQ.mono (Ext.set Zw)
  refine Cb.AO ⟨fun _=>⟨b,o,rfl,by unfold In;omega,_,_,_,_,_,_,_,_,_,_,_,_,_,_,by simpa using CF.mono hX,fun _=>⟨by unfold AG;omega,⟨by omega,by omega⟩,fun Dd Zw=>?_⟩⟩,fun hh=>by omega⟩;rw[e1];have ret:∀{f:Nat} {args:Array Value} {d0:RP},RI ss t x (M.drop (n8-tp))=some d0→(∀{Q:Rr},nK Q (σ'.del p8) d0→Spec prog f args (σ'.del p8) Q)→Spec prog f args (σ'.set Dd Y8) (BB R (fun z y=>∃xn xo xp xq xr xt xu xv xw,z=(.agg #[.I xn,.U xo,.slice xp xq xr,.I xt,.slice xu xv xw])∧AK prog (Instr.storeAt 90 (.pointer (aD Dd 0)) (.agg #[.I xn,.U xo,.slice xp xq xr,.I xt,.slice xu xv xw])) y (fun _ AB=>Cb.VE R (aD b o) n c q m d t 0 0 none 0 0 0 none 0 0 p8 n8 c8 (i:Int) x.kind x.op x.text p1 k1 c1 x.width x.back x.BW q1 m1 d1 x.bool x.parts Dd true AB))):=fun {f args d0} hd hq=>
   Spec.own jd.mono ho Zw (hq fun τ' pv nv cv qv mv dv hx F1 Ha hcv y2 jR Jw uJ=>⟨_,_,_,_,_,_,_,_,_,rfl,aft y2 τ' Dd d0 true pv nv cv qv mv dv jR Jw uJ hx F1 Ha hcv (by have h9:=AGr d0 hd;have h8:d0.es.length=nv:=F1.1;omega) (nR d0 hd)⟩)
  have VU:tp=1→∃v1 d1,st.drop (n8-tp)=[v1]∧M.drop (n8-tp)=[d1]∧Dr v1 d1∧VG v1∧uG v1∧Cc v1≤50000000000:=fun h1=>by
   rw[h1]at pj hML rF jQ hLW Y9 ⊢
   match Im:st.drop (n8-1),NR:M.drop (n8-1),pj,hML with
   | [v1],[d1],_,_=>
    rw[Im,NR]at rF;rw[Im]at jQ hLW Y9;exact⟨v1,d1,rfl,rfl,rF 0 v1 d1 rfl rfl,jQ v1 (by simp),hLW v1 (by simp),Y9 v1 (by simp)⟩
  have Zx:tp=2→∃v1 v2 d1 d2,st.drop (n8-tp)=[v1,v2]∧M.drop (n8-tp)=[d1,d2]∧(Dr v1 d1∧VG v1∧uG v1∧Cc v1≤50000000000)∧(Dr v2 d2∧VG v2∧uG v2∧Cc v2≤50000000000):=fun h1=>by
   rw[h1]at pj hML rF jQ hLW Y9 ⊢
   match Im:st.drop (n8-2),NR:M.drop (n8-2),pj,hML with
   | [v1,v2],[d1,d2],_,_=>
    rw[Im,NR]at rF;rw[Im]at jQ hLW Y9;exact⟨v1,v2,d1,d2,rfl,rfl,⟨rF 0 v1 d1 rfl rfl,jQ v1 (by simp),hLW v1 (by simp),Y9 v1 (by simp)⟩,rF 1 v2 d2 rfl rfl,jQ v2 (by simp),hLW v2 (by simp),Y9 v2 (by simp)⟩
  unfold E1 at B8;unfold Mz at Sz;refine Cb.Ff ⟨fun z1=>?_,fun z1=>⟨fun z2=>?_,fun z2=>⟨fun z3=>?_,fun z3=>⟨fun z4=>?_,fun z4=>⟨fun z5=>?_,fun z5=>⟨fun z7=>?_,fun z7=>⟨fun z6=>?_,fun z6=>?_⟩⟩⟩⟩⟩⟩⟩
  ·rw[AiL z1]at B8;exact Spec.own jd.mono ho Zw (eH B8 fun y2 jR Jw uJ=>⟨_,_,rfl,aft y2 _ Dd ⟨1,RB x.text,[],0,[]⟩ true none 0 0 none 0 0 jR Jw uJ (.refl _) AT.nil AT.nil (AiV _) (by decide) (nR _ (by unfold RI;rw[AiL z1]))⟩)
  ·exact ret (d0:=⟨2,0,HV FF x ss t,0,[]⟩) (by unfold RI;rw[AiK z1,AiL z2]) fun hq=>dw ATL hsd hD (V2 hf qZ (.inl z2)) WL ht hq
  ·exact ret (d0:=⟨3,0,[],x.width,Ol FF x ss t⟩) (by unfold RI;rw[AiK z1,AiK z2,AiL z3]) fun hq=>dz ATL hsd hD (V2 hf qZ (.inr z3)) WL ht hq
  ·rw[AiK z1,AiK z2,AiK z3,AiL z4]at B8 Sz;obtain⟨O0,NN,A6⟩:=AiP B8;obtain⟨v1,d1,Im,NR,VV,hVG,uC,kG⟩:=VU (by clear VU Zx;omega);clear VU Zx;obtain⟨bp,op,pv,nv,cv,qv,mv,dv,jm,nQ,r1,r2⟩:=part Dd Y8 0 d1 Zw (by rw[NR];rfl);rw[AjS,AjH]at nQ;have sx:=hVG.sh;unfold Sh at sx;rw[Im]at Sz;unfold Qe at Sz;have hc:v1.kind=(if x.op=11∨x.op=12 then 2 else 3):=by
    by_cases hc:([v1].map (·.kind))[0]?.getD 0=(if x.op=11∨x.op=12 then 2 else 3)
    ·exact hc
    ·rw[AiK hc]at Sz;exact absurd Sz (by decide)
   refine⟨bp,op,jm,by unfold In;omega,_,_,_,_,_,_,_,_,_,nQ,ret (d0:=⟨2,0,JB FF x ⟨d1.kind,AV d1.w,d1.es,d1.rs⟩,0,[]⟩) (by unfold RI;rw[AiK z1,AiK z2,AiK z3,NR];exact AiL z4) fun hq=>nM r1 r2 (fun Ah=>?_) (fun Ah=>?_) (fun y hy=>?_) (fun r hr9=>?_) ?_ hq⟩
   ·rw[VV.es]at Ah;rcases sx with ⟨_,h9,_⟩|⟨h9,_⟩|⟨h9,h8⟩
    ·exact absurd h9 Ah
    ·rw[h9]at hc;split at hc
     ·assumption
     ·omega
    ·exact absurd h8 Ah
   ·rw[VV.rs]at Ah;rcases sx with ⟨_,_,h9⟩|⟨h9,h8⟩|⟨h9,_⟩
    ·exact absurd h9 Ah
    ·exact absurd h8 Ah
    ·rw[h9]at hc;split at hc
     ·omega
     ·omega
   ·rw[VV.es]at hy;exact⟨(hVG.el y hy).1,uC.es y hy⟩
   ·rw[VV.rs]at hr9;exact hVG.rg r hr9
   ·rw[VV.es,VV.rs];unfold Cc at kG;omega
  ·rw[AiK z1,AiK z2,AiK z3,AiK z4,AiL z5]at B8;obtain⟨O0,NN,A6,hgr⟩:=AiP B8;obtain⟨v1,d1,Im,NR,VV,hVG,uC,kG⟩:=VU (by clear VU Zx;omega);clear VU Zx;obtain⟨bp,op,pv,nv,cv,qv,mv,dv,jm,nQ,r1,r2⟩:=part Dd Y8 0 d1 Zw (by rw[NR];rfl);rw[AjS,AjH]at nQ;refine⟨bp,op,jm,by unfold In;omega,_,_,_,_,_,_,_,_,_,nQ,ret (d0:=⟨2,0,Mp FF x ⟨2,0,d1.es,[]⟩,0,[]⟩) (by unfold RI;rw[AiK z1,AiK z2,AiK z3,NR];show(if x.kind=4 then _ else _)=_;rw[AiK z4,AiL z5]) fun hq=>tP (fun w=>by kernel_rfl) r1 ⟨NN,A6⟩ hgr ATM uB.2.1 (fun y hy=>?_) ?_ hq⟩
   ·rw[VV.es]at hy;exact(hVG.el y hy).1
   ·rw[VV.es];unfold Cc at kG;omega
  ·have z6:x.kind≠6:=by clear VU Zx;omega
   rw[AiK z1,AiK z2,AiK z3,AiK z4,AiK z5,AiK z6]at B8;have O0:=(AiP B8).2;obtain⟨v1,d1,Im,NR,VV,hVG,uC,kG⟩:=VU (by clear VU Zx;omega);clear VU Zx;obtain⟨bp,op,pv,nv,cv,qv,mv,dv,jm,nQ,r1,r2⟩:=part Dd Y8 0 d1 Zw (by rw[NR];rfl);rw[AjS,AjH]at nQ;refine⟨bp,op,jm,by unfold In;omega,_,_,_,_,_,_,_,_,_,nQ,ret (by unfold RI;rw[AiK z1,AiK z2,AiK z3,NR];show(if x.kind=4 then _ else _)=_;rw[AiK z4,AiK z5,AiL z7]) fun hq=>tL r1 (fun hk=>?_) (fun y hy=>?_) ?_ hq⟩
   ·rw[VV.k]at hk;rw[VV.v1 hk];exact uC.v
   ·rw[VV.es]at hy;exact⟨(hVG.el y hy).1,uC.es y hy⟩
   ·rw[VV.es];unfold Cc at kG;omega
  ·obtain⟨o1,o2,og⟩:=AGp z6;rw[AiK z1,AiK z2,AiK z3,AiK z4,AiK z5,AiL z6]at B8 Sz;rw[AiS]at B8;have O0:=(AiP B8.1).1;obtain⟨v1,v2,d1,d2,Im,NR,⟨VV,hVG,uC,kG⟩,AAf,ATN,hW2,hv2⟩:=Zx (by clear VU Zx;omega);clear VU Zx;obtain⟨bp,op,pv,nv,cv,qv,mv,dv,jm,nQ,r1,r2⟩:=part Dd Y8 0 d1 Zw (by rw[NR];rfl);obtain⟨bp',op',pv',nv',cv',qv',mv',dv',AGs,ATO,r1',r2'⟩:=part Dd Y8 1 d2 Zw (by rw[NR];rfl);rw[jm]at AGs;cases AGs;rw[AjS,AjH]at nQ;rw[Nat.one_mul]at ATO;have hTy:(Q8 x v1.kind v2.kind).2=0:=by rw[Im]at Sz;exact Sz
   have hsc:x.op≤10∨d1.kind≠1∧d2.kind≠1:=by
    rw[VV.k,AAf.k];by_cases VF:x.op≤10
    ·exact .inl VF
    ·unfold Q8 at hTy;split at hTy
     ·exact absurd hTy (by decide)
     ·rename_i Cg;refine .inr ?_;omega
   have hN:NdB (σ'.del p8) x q1 m1:=⟨ATM,uB.2.1,by
    rcases og with og|og
    ·refine .inl ⟨og,?_⟩;unfold Ci at hf;simp only[AiS]at hf;have hnf:=hf.1.1.2;unfold On at hnf;rw[AiS,Ajf]at hnf;rcases hnf.2 with h9|h9
     ·exact Ai0 (AiP h9)
     ·exact absurd og (AiP h9)
    ·exact .inr og⟩
   have AAg:RI ss t x (M.drop (n8-tp))=eE x d1 d2:=by
    unfold RI;rw[AiK z1,AiK z2,AiK z3,NR];exact AiL z6
   have sx:=hVG.sh;have sy:=ATN.sh;unfold Sh at sx sy;unfold Cc at kG hv2;refine⟨bp,op,jm,by unfold In;omega,_,_,_,_,_,_,_,_,_,nQ,by unfold In;omega,_,_,_,_,_,_,_,_,_,ATO,Spec.own jd.mono ho Zw (tS hN r1 r1' ⟨o1,o2⟩ hsc (fun y hy=>?_) (fun y hy=>?_) (by rw[VV.es];omega) (by rw[AAf.es];omega) (fun hk=>?_) (fun hk=>?_) ⟨fun d hd τ' pw nw cw qw mw ew hx F1 Ha hcv y2 jR Jw uJ=>⟨_,_,_,_,_,_,_,_,_,_,rfl,aft y2 τ' Dd d true pw nw cw qw mw ew jR Jw uJ hx F1 Ha hcv (by have h9:=AGr d (by rw[AAg];exact hd);have h8:d.es.length=nw:=F1.1;omega) (nR d (by rw[AAg];exact hd))⟩,fun hd τ' pw nw cw l hx F1 hcv hnw y2 jR Jw uJ=>⟨_,_,_,_,_,_,_,_,_,_,rfl,aft y2 τ' Dd ⟨2,0,l,0,[]⟩ false pw nw cw none 0 0 jR Jw uJ hx F1 AT.nil hcv hnw (by rw[AiK (by decide)];exact ATI.no (by rw[AAg];exact hd))⟩⟩)⟩
   ·rw[VV.es]at hy;exact(hVG.el y hy).1
   ·rw[AAf.es]at hy;exact(ATN.el y hy).1
   ·rw[VV.k]at hk;rw[VV.es];rcases sx with ⟨_,h9,_⟩|⟨h9,_⟩|⟨h9,_⟩
    ·exact h9
    ·omega
    ·omega
   ·rw[AAf.k]at hk;rw[AAf.es];rcases sy with ⟨_,h9,_⟩|⟨h9,_⟩|⟨h9,_⟩
    ·exact h9
    ·omega
    ·omega
  ·exfalso;rw[AiK z1,AiK z2,AiK z3,AiK z4,AiK z5,AiK z6]at B8;exact z7 (AiP B8).1
end
def Es (k:Int):Int:=if k=1∨k=2∨k=3 then 0 else if k=4∨k=5∨k=7 then 1 else if k=6 then 2 else -1
def jn (n:Nd):Prop:=n.parts=Es n.kind∧(n.names.all DC).toNat=1∧¬(n.BW=0∧0<n.names.length)∧¬(n.kind≠2∧n.kind≠3∧(0<n.mt.length∨n.back≠0))∧(n.kind≠3→n.width=0)∧(n.kind≠1→n.text.size=0)∧(n.kind≠6→n.bool.toNat=0)∧(n.kind≠5∧n.kind≠6→n.BW=0)
def Sd (n:Nd):Prop:=(n.kind=1→n.op=0∧(E4 n.text).toNat=1)∧(n.kind=2→n.op=0∧0≤n.back∧n.back≤2147483647)∧(n.kind=3→n.op=0∧0≤n.back∧n.back≤2147483647∧1≤n.width∧n.width≤2147483647)∧(n.kind=4→1≤n.op∧n.op≤12)∧(n.kind=5→1≤n.op∧n.op≤5∧0≤n.BW∧n.BW≤2)∧(n.kind=7→n.op=0)∧(n.kind=6→1≤n.op∧n.op≤13∧(n.BW=0∨n.BW=3∨n.BW=4)∧(5≤n.op∧n.op≤10∨n.bool.toNat=0))
theorem AZu {s:ByteArray}:s=ByteArray.mk #[]↔s.size=0:=⟨fun h=>by rw[h];rfl,fun h=>ByteArray.ext (Aip.1 (Ai0 (by rw[AjA];exact h)))⟩
theorem bt1 {b:Bool}:b.toNat=1↔b=true:=by cases b<;>decide
theorem bt0 {b:Bool}:b.toNat=0↔b=false:=by cases b<;>decide
theorem jo {n:Nd}(hk:1≤n.kind∧n.kind≤7):Ci n=true↔jn n∧Sd n:=by
 obtain⟨kind,op,text,mt,width,back,BW,names,bool,parts⟩:=n;dsimp only at hk;unfold jn Sd;dsimp only;rw[bt1,bt1,bt0];have hn:names.length=0↔names=[]:=List.length_eq_zero_iff;have hm:mt.length=0↔mt=[]:=List.length_eq_zero_iff;rcases(by omega:kind=1∨kind=2∨kind=3∨kind=4∨kind=5∨kind=6∨kind=7) with rfl|rfl|rfl|rfl|rfl|rfl|rfl
 all_goals
  unfold Ci HZ CY On E1 Es Lp BN;generalize E4 text=nb;generalize names.all DC=ab;dsimp only;generalize names.length=nl;generalize mt.length=ml;generalize hx:decide (text=ByteArray.mk #[])=tb;have An:(text=ByteArray.mk #[])↔tb=true:=by rw[←hx,AiW]
  rw[←AZu];simp only[An];clear hx;cases ab<;>cases nb<;>cases bool<;>cases tb<;>simp[An]<;>omega
section
variable {σ:Hp}{R:Rr}
theorem M3 {k:Int}(h:R (.returned (.I (Es k))) σ):Spec prog 49 #[.I k] σ R:=by
 have three:(k=1∨k=2∨k=3)→∀t,t=true→ED.Nb R k t σ:=fun hk t ht=>by
  subst ht;refine ED.KK ⟨fun _=>?_,fun hh=>by cases hh⟩;rw[show Es k=0 by unfold Es;rw[AiL hk]]at h;exact h
 refine ED.start ⟨fun h1=>three (.inl h1) _ rfl,fun h1=>⟨fun h2=>three (.inr (.inl h2)) _ rfl,fun h2=>?_⟩⟩;by_cases h3:k=3
 ·exact three (.inr (.inr h3)) _ (Aia h3)
 have e3:¬(k=1∨k=2∨k=3):=by omega
 rw[AiZ h3];have M4:(k=4∨k=5∨k=7)→∀t,t=true→ED.Hz R k t σ:=fun hk t ht=>by
  subst ht;refine ED.Ff ⟨fun _=>?_,fun hh=>by cases hh⟩;rw[show Es k=1 by unfold Es;rw[AiK e3,AiL hk]]at h;exact h
 refine ED.KK ⟨fun hh=>(by cases hh),fun _=>⟨fun h4=>M4 (.inl h4) _ rfl,fun h4=>⟨fun h5=>M4 (.inr (.inl h5)) _ rfl,fun h5=>?_⟩⟩⟩;by_cases h7:k=7
 ·exact M4 (.inr (.inr h7)) _ (Aia h7)
 have e7:¬(k=4∨k=5∨k=7):=by omega
 rw[AiZ h7];refine ED.Ff ⟨fun hh=>(by cases hh),fun _=>⟨fun h6=>?_,fun h6=>?_⟩⟩
 ·rw[show Es k=2 by unfold Es;rw[AiK e3,AiK e7,AiL h6]]at h;exact h
 ·rw[show Es k=-1 by unfold Es;rw[AiK e3,AiK e7,AiK h6]]at h;exact h
theorem O8 {v l:Int}(h:R (.returned (.bool (decide (l≤v∧v≤2147483647)))) σ):Spec prog 86 #[.I v,.I l] σ R:=by
 refine YG.start ⟨fun h1=>?_,fun h1=>?_⟩
 ·rw[show decide (l≤v∧v≤2147483647)=decide (v≤2147483647) from Ai9.2 ⟨fun g=>g.2,fun g=>⟨h1,g⟩⟩]at h;exact h
 ·rw[AiZ fun g=>h1 g.1]at h;exact h
theorem Se {p:Option Addr}{n c:Nat}{ns:List ByteArray}(hr:G6 1 σ p n (ns.map .string))(h:R (.returned (.bool (ns.all DC))) σ):Spec prog 84 #[.slice p n c] σ R:=by
 have hl:ns.length=n:=by have:=hr.1;rw[Aii,AjX]at this;exact this
 have H9:=hr.2.1;refine Ib.start ?_
 suffices H:∀g k:Nat,n-k=g→k≤n→(∀x∈ns.take k,DC x=true)→Ib.Fm R p n c (k:Int) σ from H n 0 rfl (AiR _) (fun x hx=>by rw[Aj7]at hx;cases hx)
 intro g
 induction g with
 | zero=>
  intro k hg hk GJ;rw[AiQ (by omega)]at GJ;rw[List.all_eq_true.2 GJ]at h;exact Ib.As ⟨fun hh=>by omega,fun _=>h⟩
 | succ g ih=>
  intro k hg hk GJ;have QC:k<n:=by omega
  obtain⟨x,hx⟩:∃x,ns[k]?=some x:=⟨_,AiN (by omega)⟩;rcases hr.2.2 with h0|⟨b,o,hp,CF⟩
  ·omega
  have NQ:σ.ld ⟨b,o+k,none⟩=some (.string x):=CF.get (by rw[Ait,hx];rfl);refine Ib.As ⟨fun _=>⟨b,o,hp,by unfold In;omega,x,by simpa using NQ,RH ⟨_,rfl,fun hf=>?_,fun ht=>⟨by unfold AG;omega,?_⟩⟩⟩,fun hh=>by omega⟩
  ·have e1:ns.all DC=false:=by
    rw[AjU];intro e;rw[List.all_eq_true]at e;rw[e x (AiM hx)]at hf;cases hf
   rw[e1]at h;exact h
  ·have:=ih (k+1) (by omega) (by omega) fun y hy=>by
    rw[AQ hx]at hy;rcases List.mem_append.1 hy with hy|hy
    ·exact GJ y hy
    ·rw[AiY.1 hy];exact ht
   rw[show((k+1:Nat):Int)=(k:Int)+1 by omega]at this;rw[gA hp];exact this
set_option maxHeartbeats 4000000 in
theorem jq {n:Nd}{p q:Option Addr}{k c m d:Nat}(hk:1≤n.kind∧n.kind≤7)(hm:n.mt.length=k)(hr:G6 1 σ q m (n.names.map .string))(hb:n.text.size≤4611686018427387904)(h:R (.returned (.bool (Ci n))) σ):Spec prog 50 #[KD n p k c q m d] σ R:=by
 have hl:n.names.length=m:=by have:=hr.1;rw[Aii,AjX]at this;exact this
 have AD1:=jo hk;have fal:¬(jn n∧Sd n)→R (.B false) σ:=fun Cg=>by
  rw[show Ci n=false by rw[AjU];exact fun e=>Cg (AD1.1 e)]at h;exact h
 have val:jn n→∀b:Bool,(b.toNat=1↔Sd n)→R (.B b) σ:=fun hg b bz=>by
  have:Ci n=b:=by
   cases b with
   | true=>exact AD1.2 ⟨hg,bz.1 rfl⟩
   | false=>rw[AjU];exact fun e=>absurd (bz.2 (AD1.1 e).2) (by decide)
  rw[this]at h;exact h
 clear h AD1;unfold jn at fal val;have last:(n.parts=Es n.kind∧(n.names.all DC).toNat=1∧¬(n.BW=0∧0<n.names.length)∧¬(n.kind≠2∧n.kind≠3∧(0<n.mt.length∨n.back≠0))∧(n.kind≠3→n.width=0)∧(n.kind≠1→n.text.size=0)∧(n.kind≠6→n.bool.toNat=0)∧(n.kind≠5∧n.kind≠6→n.BW=0))→H6.Iy R n.kind n.op n.text p k c n.width n.back n.BW q m d n.bool n.parts σ:=fun hg=>by
  have v2:=val hg;have dec:∀P:Prop,[Decidable P]→(P↔Sd n)→R (.returned (.bool (decide P))) σ:=fun P _ hP=>v2 _ (by rw[bt1,AiW];exact hP);have no:¬Sd n→R (.B false) σ:=fun hh=>v2 false ⟨fun e=>absurd e (by decide),fun e=>absurd e hh⟩;have yes:Sd n→R (.B true) σ:=fun hh=>v2 true ⟨fun _=>hh,fun _=>rfl⟩;have nt:(5≤n.op∧n.op≤10∨n.bool.toNat=0↔Sd n)→¬(5≤n.op∧n.op≤10)→R (.returned (.bool (!n.bool))) σ:=fun hh h5=>v2 _ (by
   rw[←hh];cases n.bool<;>simp<;>omega)
  unfold Sd at *;clear val fal;refine H6.Gf ⟨fun z1=>⟨fun z0=>Qj hb ⟨_,rfl,v2 _ (by clear v2 no yes nt dec;omega)⟩,fun z0=>no (by clear v2 no yes nt dec;omega)⟩,fun z1=>⟨fun z2=>⟨fun z0=>O8 ⟨_,rfl,dec _ (by clear v2 no yes nt dec;omega)⟩,fun z0=>no (by clear v2 no yes nt dec;omega)⟩,fun z2=>⟨fun z3=>⟨fun z0=>O8 ⟨_,rfl,fun ht=>O8 ⟨_,rfl,dec _ ?_⟩,fun hf=>no ?_⟩,fun z0=>no (by clear v2 no yes nt dec;omega)⟩,fun z3=>⟨fun z4=>⟨fun z0=>dec _ (by clear v2 no yes nt dec;omega),fun z0=>no (by clear v2 no yes nt dec;omega)⟩,fun z4=>⟨fun z5=>⟨fun z0=>⟨fun z8=>⟨fun z9=>dec _ (by clear v2 no yes nt dec;omega),fun z9=>no (by clear v2 no yes nt dec;omega)⟩,fun z8=>no (by clear v2 no yes nt dec;omega)⟩,fun z0=>no (by clear v2 no yes nt dec;omega)⟩,fun z5=>⟨fun z7=>dec _ (by clear v2 no yes nt dec;omega),fun z7=>?_⟩⟩⟩⟩⟩⟩
  ·have:=AiP ht;clear v2 no yes nt dec;omega
  ·have:=Aio hf;clear v2 no yes nt dec;omega
  ·clear v2 dec
   repeat' first
    | exact no (by clear no yes nt;omega)
    | exact yes (by clear no yes nt;omega)
    | exact nt (by clear no yes nt;omega) (by clear no yes nt;omega)
    | refine⟨fun _=>?_,fun _=>?_⟩
 have t14:(n.parts=Es n.kind∧(n.names.all DC).toNat=1∧¬(n.BW=0∧0<n.names.length)∧¬(n.kind≠2∧n.kind≠3∧(0<n.mt.length∨n.back≠0))∧(n.kind≠3→n.width=0)∧(n.kind≠1→n.text.size=0)∧(n.kind≠6→n.bool.toNat=0))→∀tb,tb=n.bool→H6.CX R n.kind n.op n.text p k c n.width n.back n.BW q m d tb n.parts σ:=fun hg tb uf=>by
  subst uf;refine H6.Vt ⟨fun h5=>⟨fun h6=>⟨fun hg0=>fal (fun hh=>hg0 (hh.1.2.2.2.2.2.2.2 ⟨h5,h6⟩)),fun hg0=>last ?_⟩,fun h6=>last ?_⟩,fun h5=>last ?_⟩
  ·clear fal val last;omega
  ·clear fal val last;omega
  ·clear fal val last;omega
 have P9:¬(n.parts=Es n.kind∧(n.names.all DC).toNat=1∧¬(n.BW=0∧0<n.names.length)∧¬(n.kind≠2∧n.kind≠3∧(0<n.mt.length∨n.back≠0))∧(n.kind≠3→n.width=0)∧(n.kind≠1→n.text.size=0)∧(n.kind≠6→n.bool.toNat=0))→R (.B false) σ:=fun hh=>fal fun hg=>hh ⟨hg.1.1,hg.1.2.1,hg.1.2.2.1,hg.1.2.2.2.1,hg.1.2.2.2.2.1,hg.1.2.2.2.2.2.1,hg.1.2.2.2.2.2.2.1⟩;clear fal val last;have hB0:n.bool=false→n.bool.toNat=0:=fun e=>by rw[e];rfl
 have hB1:n.bool=true→n.bool.toNat=1:=fun e=>by rw[e];rfl
 refine H6.start fun _=>⟨fun z2=>M3 ⟨_,rfl,fun hp=>P9 (fun hh=>hp hh.1),fun hp=>Se hr ⟨_,rfl,fun hf=>P9 (fun hh=>by rw[hf]at hh;exact absurd hh.2.1 (by decide)),fun ht=>?_⟩⟩,fun z2=>M3 ⟨_,rfl,fun hp=>P9 (fun hh=>hp hh.1),fun hp=>Se hr ⟨_,rfl,fun hf=>P9 (fun hh=>by rw[hf]at hh;exact absurd hh.2.1 (by decide)),fun ht=>?_⟩⟩⟩
 all_goals
  have hN:=bt1.2 ht;simp only[aq];by_cases hz:n.text.size=0
  ·simp only[Aia hz];cases hB:n.bool with
   | true=>
    have hB2:=hB1 hB;clear hB0 hB1
    repeat' first
     | contradiction
     | exact P9 (by clear P9 t14;omega)
     | exact t14 (by clear P9 t14;omega) _ hB.symm
     | refine⟨fun _=>?_,fun _=>?_⟩
   | false=>
    have hB2:=hB0 hB;clear hB0 hB1
    repeat' first
     | contradiction
     | exact P9 (by clear P9 t14;omega)
     | exact t14 (by clear P9 t14;omega) _ hB.symm
     | refine⟨fun _=>?_,fun _=>?_⟩
  ·simp only[AiZ hz];cases hB:n.bool with
   | true=>
    have hB2:=hB1 hB;clear hB0 hB1
    repeat' first
     | contradiction
     | exact P9 (by clear P9 t14;omega)
     | exact t14 (by clear P9 t14;omega) _ hB.symm
     | refine⟨fun _=>?_,fun _=>?_⟩
   | false=>
    have hB2:=hB0 hB;clear hB0 hB1
    repeat' first
     | contradiction
     | exact P9 (by clear P9 t14;omega)
     | exact t14 (by clear P9 t14;omega) _ hB.symm
     | refine⟨fun _=>?_,fun _=>?_⟩
end
section
variable {σ:Hp}{R:Rr}
theorem tU {p:Option Addr}{n c:Nat}{ms:List Mt}(hr:AT 3 Jt σ p n ms)(h:R (.returned (.I (HW DC ms))) σ):Spec prog 51 #[.slice p n c] σ R:=by
 have hl:ms.length=n:=hr.1;refine Jp.start ⟨fun h8=>?_,fun h8=>?_⟩
 ·rw[show HW DC ms=41 by unfold HW;rw[AiL (by omega)]]at h;exact h
 have hm:HW DC ms=if ms.all Sx then 0 else 40:=by unfold HW;rw[AiK (by omega)];rfl
 rw[hm]at h
 suffices H:∀g k:Nat,n-k=g→k≤n→ms.all Sx=(ms.drop k).all Sx→Jp.Aw R p n c (k:Int) σ from H n 0 rfl (AiR _) rfl
 intro g
 induction g with
 | zero=>
  intro k hg hk he;rw[Aib (by omega)]at he;rw[he]at h;exact Jp.Ay ⟨fun Aq=>by omega,fun _=>h⟩
 | succ g ih=>
  intro k hg hk he;have Ei:k<n:=by omega
  obtain⟨x,hx⟩:=hr.ex Ei;obtain⟨b,o,rfl,CF⟩:=Jt.at hr hx;rw[A0 hx,List.all_cons]at he;have bad:Sx x=false→R (.returned (.I 40)) σ:=fun hf=>by
   rw[hf]at he;rw[he]at h;exact h
  have By:In (k:Int) (n:Int):=by unfold In;omega
  have hl3:Ae σ b (o+Int.toNat (k:Int)*3) [.I x.kind,.string x.name,.string x.val]:=by simpa using CF
  refine Jp.Ay ⟨fun _=>⟨b,o,rfl,By,x.kind,hl3.1,fun h1=>bad ?_,fun h1=>⟨By,x.kind,hl3.1,fun h4=>bad ?_,fun h4=>⟨By,x.name,hl3.2.1,RH ⟨_,rfl,fun hf=>bad ?_,fun hn=>⟨By,x.val,hl3.2.2.1,fun hv=>bad ?_,fun hv=>⟨AJ Ei hr.big,?_⟩⟩⟩⟩⟩⟩,fun hh=>by omega⟩
  ·unfold Sx;rw[AiZ (fun g=>by omega)];rfl
  ·unfold Sx;rw[AiZ (fun g=>by omega)];rfl
  ·unfold Sx;rw[hf];simp
  ·unfold Sx;rw[show decide (x.val.size≤256)=false from AiZ (by omega)];simp
  ·have:=ih (k+1) (by omega) (by omega) (by rw[he,show Sx x=true by unfold Sx;rw[Aia (⟨by omega,by omega⟩:1≤x.kind∧x.kind≤4),hn,show decide (x.val.size≤256)=true from Aia (by omega)];rfl,AjR]);rw[show((k+1:Nat):Int)=(k:Int)+1 by omega]at this;exact this
theorem tV {n:Nd}{p q r:Option Addr}{k c m d j e:Nat}{l:List Int}(hf:Ci n=true)(hr:EP .i64 σ r j l)(hj:(l.length:Int)=n.parts)(VR:∀x∈l,1≤x∧x≤3)
  (h:R (.T #[.I (Mz n l).1,.I (Mz n l).2]) σ):Spec prog 52 #[KD n p k c q m d,.slice r j e] σ R:=by
 have hl:l.length=j:=hr.1;have B8:=FU hf;unfold E1 at B8;unfold Mz at h;have M4:(l.length=1)→∃a b o,l=[a]∧r=some ⟨b,o,none⟩∧σ.ld ⟨b,o,none⟩=some (.I a):=fun h1=>by
  match l,h1 with
  | [a],_=>
   obtain⟨b,o,hp,CF⟩:=EP.at hr (i:=0) (x:=a) rfl;exact⟨a,b,o,rfl,hp,by simpa using CF⟩
 refine Ih.start fun _=>⟨fun z1=>?_,fun z1=>⟨fun z2=>?_,fun z2=>⟨fun z3=>?_,fun z3=>⟨fun z4=>?_,fun z4=>⟨fun z5=>?_,fun z5=>⟨fun z7=>?_,fun z7=>?_⟩⟩⟩⟩⟩⟩
 ·rw[AiL z1]at h;exact h
 ·rw[AiK z1,AiL z2]at h;exact h
 ·rw[AiK z1,AiK z2,AiL z3]at h;exact h
 ·rw[AiK z1,AiK z2,AiK z3,AiL z4]at h B8;have O0:=(AiP B8).1;obtain⟨a,b,o,rfl,rfl,CF⟩:=M4 (by clear M4;omega);have j3:j=1:=by clear M4;simp at hl;omega
  clear M4;have h2:R (.T #[.I (Qe n a).1,.I (Qe n a).2]) σ:=h;unfold Qe at h2;have t37:∀w,w=(if n.op=11∨n.op=12 then(2:Int) else 3)→Ih.F7 R (some ⟨b,o,none⟩) j e w σ:=fun w hw=>by
   subst hw;refine Ih.IJ ⟨b,o,rfl,by unfold In;omega,a,CF,fun Ah=>?_,fun he=>?_⟩
   ·rw[AiK Ah]at h2;exact h2
   ·rw[AiL (Aig.1 he)]at h2;exact h2
  refine⟨fun IT=>t37 2 (by rw[AiL (.inl IT)]),fun IT=>⟨fun J4=>t37 2 (by rw[AiL (.inr J4)]),fun J4=>t37 3 (by rw[AiK (by omega)])⟩⟩
 ·rw[AiK z1,AiK z2,AiK z3,AiK z4,AiL z5]at h B8;have O0:=(AiP B8).1;obtain⟨a,b,o,rfl,rfl,CF⟩:=M4 (by clear M4;omega);have j3:j=1:=by clear M4;simp at hl;omega
  clear M4;have h2:R (.T #[.I (Uq a).1,.I (Uq a).2]) σ:=h;unfold Uq at h2;refine⟨b,o,rfl,by unfold In;omega,a,CF,fun Ah=>?_,fun he=>?_⟩
  ·rw[AiK Ah]at h2;exact h2
  ·rw[AiL (Aig.1 he)]at h2;exact h2
 ·have z6:n.kind≠6:=by clear M4;omega
  rw[AiK z1,AiK z2,AiK z3,AiK z4,AiK z5,AiK z6]at h B8;have O0:=(AiP B8).2;obtain⟨a,b,o,rfl,rfl,CF⟩:=M4 (by clear M4;omega);have j3:j=1:=by clear M4;simp at hl;omega
  clear M4;have h2:R (.T #[.I (VN a).1,.I (VN a).2]) σ:=h;unfold VN at h2;refine⟨b,o,rfl,by unfold In;omega,a,CF,fun h3=>?_,fun h3=>⟨by unfold In;omega,a,CF,?_⟩⟩
  ·rw[AiL h3]at h2;exact h2
  ·rw[AiK h3]at h2;exact h2
 ·have z6:n.kind=6:=by
   clear M4;by_cases h6:n.kind=6
   ·exact h6
   ·rw[AiK z1,AiK z2,AiK z3,AiK z4,AiK z5,AiK h6]at B8;exact absurd (AiP B8).1 z7
  clear M4;rw[AiK z1,AiK z2,AiK z3,AiK z4,AiK z5,AiL z6]at h B8;rw[AiS]at B8;obtain⟨O0,o1,o2,og⟩:=AiP B8.1
  match l,hl,hj,VR,hr,h with
  | [u,v],hl,hj,VR,hr,h=>
   obtain⟨b,o,rfl,CF⟩:=EP.at hr (i:=0) (x:=u) rfl;obtain⟨_,_,he,iq⟩:=EP.at hr (i:=1) (x:=v) rfl;cases he;rw[AjS,AjH]at CF;rw[Nat.one_mul]at iq;have hj2:j=2:=by simpa using hl.symm
   have hu:=VR u (by simp);have hv:=VR v (by simp);have h2:R (.T #[.I (Q8 n u v).1,.I (Q8 n u v).2]) σ:=h;have i0:In (0:Int) (j:Int):=by unfold In;omega
   have i1:In (1:Int) (j:Int):=by unfold In;omega
   unfold Q8 at h2;have bad:(u=3∨v=3∨((11≤n.op∧n.op≤13∨n.BW≠0)∧¬(u=2∧v=2))∨(u=1∧v=1∧BN n.op=true∧n.bool=false))→R (.T #[.I 0,.I 192]) σ:=fun hb=>by
    rw[AiL hb]at h2;exact h2
   have good:¬(u=3∨v=3∨((11≤n.op∧n.op≤13∨n.BW≠0)∧¬(u=2∧v=2))∨(u=1∧v=1∧BN n.op=true∧n.bool=false))→∀w,w=(if u<v then v else u)→R (.T #[.I w,.I 0]) σ:=fun hb w hw=>by
    rw[AiK hb]at h2;rw[hw];exact h2
   have AKe:5≤n.op∧n.op≤10↔BN n.op=true:=by unfold BN;rw[AiS,AiW,AiW]
   have t88:u≠3→v≠3→¬((11≤n.op∧n.op≤13∨n.BW≠0)∧¬(u=2∧v=2))→Ih.rr R n.kind n.op n.text p k c n.width n.back n.BW q m d n.bool n.parts (decide (u=1)&&decide (v=1)) σ:=fun hu3 hv3 Cg=>by
    have fin:(u=1∧v=1→¬(BN n.op=true∧n.bool=false))→Bo (decide (u=1)&&decide (v=1)) (R (.T #[.I 1,.I 0]) σ) (R (.T #[.I 2,.I 0]) σ):=fun hc=>by
     have pz:=good (fun hb=>by
      rcases hb with hb|hb|hb|⟨hb1,bz,hb3⟩
      ·exact hu3 hb
      ·exact hv3 hb
      ·exact Cg hb
      ·exact hc ⟨hb1,bz⟩ hb3)
     refine⟨fun hs=>?_,fun hs=>?_⟩
     ·rw[AiS,AiW,AiW]at hs;exact pz 1 (by rw[AiK (by omega)];omega)
     ·rw[AjW,Aik,Aik]at hs;exact pz 2 (by split<;>omega)
    refine Ih.ACX ⟨fun h5=>⟨fun VF=>⟨fun hs=>?_,fun hs=>(fin fun hh=>?_).2 hs⟩,fun VF=>fin fun _ hh=>VF (AKe.2 hh.1).2⟩,fun h5=>fin fun _ hh=>h5 (AKe.2 hh.1).1⟩
    ·have hs2:=hs;rw[AiS,AiW,AiW]at hs2;exact⟨fun hb=>bad (.inr (.inr (.inr ⟨hs2.1,hs2.2,AKe.1 ⟨h5,VF⟩,hb⟩))),fun hb=>(fin fun _ hh=>by rw[hb]at hh;cases hh.2).1 hs⟩
    ·rw[Aia hh.1,Aia hh.2]at hs;cases hs
   have t82:Ih.rq R (some ⟨b,o,none⟩) j e n.kind n.op n.text p k c n.width n.back n.BW q m d n.bool n.parts (decide (u=2)&&decide (v=2)) (decide (u=1)&&decide (v=1)) σ:=by
    refine Ih.ACV ⟨b,o,rfl,i0,u,CF,fun hu3=>bad (.inl hu3),fun hu3=>⟨i1,v,iq,fun hv3=>bad (.inr (.inl hv3)),fun hv3=>⟨fun IT=>⟨fun hb=>bad (.inr (.inr (.inl ⟨.inl ⟨IT,o2⟩,?_⟩))),fun hb=>⟨fun hg=>t88 hu3 hv3 ?_,fun hg=>t88 hu3 hv3 ?_⟩⟩,fun IT=>⟨fun hg=>⟨fun hb=>bad (.inr (.inr (.inl ⟨.inr hg,?_⟩))),fun hb=>t88 hu3 hv3 ?_⟩,fun hg=>t88 hu3 hv3 ?_⟩⟩⟩⟩
    ·rw[AjW,Aik,Aik]at hb;omega
    ·rw[AiS,AiW,AiW]at hb;exact fun g=>g.2 hb
    ·rw[AiS,AiW,AiW]at hb;exact fun g=>g.2 hb
    ·rw[AjW,Aik,Aik]at hb;omega
    ·rw[AiS,AiW,AiW]at hb;exact fun g=>g.2 hb
    ·exact fun g=>g.1.elim (fun g1=>IT g1.1) hg
   refine⟨b,o,rfl,i0,u,CF,fun u2=>⟨i1,v,iq,i0,u,CF,fun u1=>absurd (u1.symm.trans u2) (by decide),fun u1=>?_⟩,fun u2=>⟨i0,u,CF,fun u1=>⟨i1,v,iq,?_⟩,fun u1=>?_⟩⟩
   ·rw[show(decide (v=2))=(decide (u=2)&&decide (v=2)) by rw[Aia u2,AjR],show false=(decide (u=1)&&decide (v=1)) by rw[AiZ u1,AjN]];exact t82
   ·have e2:(decide (u=2)&&decide (v=2))=false:=by rw[AiZ u2,AjN]
    have e1:(decide (u=1)&&decide (v=1))=decide (v=1):=by rw[Aia u1,AjR]
    rw[e2,e1]at t82;exact t82
   ·have e2:(decide (u=2)&&decide (v=2))=false:=by rw[AiZ u2,AjN]
    have e1:(decide (u=1)&&decide (v=1))=false:=by rw[AiZ u1,AjN]
    rw[e2,e1]at t82;exact t82
  | [],hl,hj,_,_,_=>simp at hj;omega
  | [_],hl,hj,_,_,_=>simp at hj;omega
  | _::_::_::_,hl,hj,_,_,_=>simp at hj;omega
theorem AKf {n:Nd}{l:List Int}(hf:Ci n=true)(hj:(l.length:Int)=n.parts)(VR:∀x∈l,1≤x∧x≤3)(h0:(Mz n l).2=0):1≤(Mz n l).1∧(Mz n l).1≤3:=by
 have B8:=FU hf;unfold E1 at B8;unfold Mz at h0 ⊢;by_cases z1:n.kind=1
 ·rw[AiL z1];decide
 rw[AiK z1]at h0 B8 ⊢;by_cases z2:n.kind=2
 ·rw[AiL z2];decide
 rw[AiK z2]at h0 B8 ⊢;by_cases z3:n.kind=3
 ·rw[AiL z3];decide
 rw[AiK z3]at h0 B8 ⊢;by_cases z4:n.kind=4
 ·rw[AiL z4]at h0 ⊢;unfold Qe at h0 ⊢;by_cases hh:l[0]?.getD 0=(if n.op=11∨n.op=12 then 2 else 3)
  ·rw[AiL hh];exact⟨by decide,by decide⟩
  ·rw[AiK hh]at h0;exact absurd h0 (by decide)
 rw[AiK z4]at h0 B8 ⊢;by_cases z5:n.kind=5
 ·rw[AiL z5]at h0 ⊢;unfold Uq at h0 ⊢;split
  ·decide
  ·rename_i hh;rw[AiK hh]at h0;exact absurd h0 (by decide)
 rw[AiK z5]at h0 B8 ⊢;by_cases z6:n.kind=6
 ·rw[AiL z6]at h0 B8 ⊢;rw[AiS]at B8;have O0:=(AiP B8.1).1
  match l,hj,VR,h0 with
  | [u,v],_,VR,h0=>
   have hu:=VR u (by simp);have hv:=VR v (by simp);have Ju:(Q8 n u v).2=0:=h0;show 1≤(Q8 n u v).1∧(Q8 n u v).1≤3
   unfold Q8 at Ju ⊢;split
   ·rename_i hh;rw[AiL hh]at Ju;exact absurd Ju (by decide)
   ·dsimp only;split<;>omega
  | [],hj,_,_=>simp at hj;omega
  | [_],hj,_,_=>simp at hj;omega
  | _::_::_::_,hj,_,_=>simp at hj;omega
 ·rw[AiK z6]at h0 B8 ⊢;have O0:=(AiP B8).2
  match l,hj,VR,h0 with
  | [u],_,VR,h0=>
   have hu:=VR u (by simp);show 1≤(VN u).1∧(VN u).1≤3
   have Ju:(VN u).2=0:=h0;unfold VN at Ju ⊢;split
   ·rename_i hh;rw[AiL hh]at Ju;exact absurd Ju (by decide)
   ·exact hu
  | [],hj,_,_=>simp at hj;omega
  | _::_::_,hj,_,_=>simp at hj;omega
theorem Sf {p:Option Addr}{n c:Nat}{t:List Nd}(hr:AT 10 GF σ p n t)(hn:n≤1000000000)(hb:∀x∈t,x.text.size≤4611686018427387904)
  (h:∀k σ',I4 t=some k→Ext σ σ'→R (.T #[.I k,.I 0,.I 0]) σ') (h':∀k j e σ',I4 t=none→e≠0→Ext σ σ'→R (.T #[.I k,.I j,.I e]) σ') :
  Spec prog 29 #[.slice p n c] σ R:=by
 have hl:t.length=n:=hr.1;refine Ii.start ?_
 suffices H:∀g k:Nat,∀(r:Option Addr) (j e:Nat) (st:List Int) (σ':Hp),n-k=g→k≤n→j≤k→AL 1 (MM .i64) σ σ' r j e st→(∀x∈st,1≤x∧x≤3)→DA t []=DA (t.drop k) st→Ii.Ab R p n c r j e (k:Int) σ' from
  H n 0 none 0 0 [] _ rfl (AiR _) (AiV _) (AL.nil (.refl _)) (fun x hx=>by cases hx) rfl
 intro g
 induction g with
 | zero=>
  intro k r j e st σ' hg hk hj ho VR he;rw[Aib (by omega)]at he;have E2:st.length=j:=ho.1.1;have ht:I4 t=zH t (some st):=by unfold I4;rw[he];rfl
  refine Ii.AO ⟨fun Aq=>by omega,fun _=>⟨fun h1=>h' _ _ _ σ' ?_ (by decide) ho.up,fun h1=>⟨fun H9=>h' _ _ _ σ' ?_ (by decide) ho.up,fun TD=>?_⟩⟩⟩
  ·rw[ht]
   match st,E2 with
   | [],_=>rfl
   | [_],E2=>simp at E2;omega
   | _::_::_,_=>rfl
  ·rw[ht]
   match st,E2 with
   | [],_=>rfl
   | [_],E2=>exact AiK (by omega)
   | _::_::_,_=>rfl
  ·have j3:j=1:=by omega
   subst j3
   match st,E2 with
   | [x],_=>
    obtain⟨b,o,rfl,CF⟩:=EP.at (ho.rd (MM.mono _)) (i:=0) (x:=x) rfl;exact⟨b,o,rfl,by unfold In;omega,x,by simpa using CF,h x σ' (by rw[ht];exact AiL (by omega)) ho.up⟩
 | succ g ih=>
  intro k r j e st σ' hg hk hj ho VR he;have Ei:k<n:=by omega
  obtain⟨x,hx⟩:=hr.ex Ei;obtain⟨b,o,p1,k1,c1,q1,m1,d1,rfl,CF,h1,h2⟩:=GF.at hr hx;rw[A0 hx,DA]at he;have E2:st.length=j:=ho.1.1;have hX:=ho.up;have By:In (k:Int) (n:Int):=by unfold In;omega
  have AD2:Ae σ' b (o+Int.toNat (k:Int)*10) [.I x.kind,.I x.op,.string x.text,.slice p1 k1 c1,.I x.width,.I x.back,.I x.BW,.slice q1 m1 d1,.bool x.bool,.I x.parts]:=by simpa using CF.mono hX
  have bad:(BQ x st).1≠0→∀e2:Int,e2≠0→R (.T #[.I 0,.I (k:Int),.I e2]) σ':=fun Ah e2 Vw=>h' _ _ _ σ' (by unfold I4;rw[he,AiK Ah];rfl) Vw hX;have hks:Ci x=true→1≤x.kind∧x.kind≤7:=fun hf=>by
   have B8:=FU hf;unfold E1 at B8;by_cases h1:x.kind=1
   ·omega
   by_cases h2:x.kind=2
   ·omega
   by_cases h3:x.kind=3
   ·omega
   by_cases h4:x.kind=4
   ·omega
   by_cases h5:x.kind=5
   ·omega
   by_cases h6:x.kind=6
   ·omega
   rw[AiK h1,AiK h2,AiK h3,AiK h4,AiK h5,AiK h6]at B8;have:=(AiP B8).1;omega
  have hpo:Ci x=true→x.parts=Es x.kind:=fun hf=>((jo (hks hf)).1 hf).1.1;have AKg:(Ci x=false∨(st.length:Int)<x.parts)→(BQ x st).1≠0:=fun hh=>by unfold BQ;rw[AiL hh];show(190:Int)≠0;decide
  have orf:(Ci x=true→False)→(BQ x st).1≠0:=fun hh=>AKg (.inl (by rw[AjU];exact hh));refine Ii.AO ⟨fun _=>⟨b,o,rfl,By,x.kind,AD2.1,M3 ⟨_,rfl,fun Tj=>bad (orf fun hf=>?_) 190 (by decide),fun Tj=>⟨fun hsh=>bad ?_ 190 (by decide),fun hsh=>⟨By,_,_,_,_,_,_,_,_,_,_,_,_,_,_,AD2,jq ?_ h1.1 (h2.mono hX) (hb x (AiM hx)) ⟨_,rfl,fun hf=>bad (AKg (.inl hf)) 190 (by decide),fun hf=>⟨By,p1,k1,c1,AD2.2.2.2.1,tU (h1.mono Jt.mono hX) ⟨_,rfl,fun Ah=>bad ?_ 193 (by decide),fun heq=>⟨By,_,_,_,_,_,_,_,_,_,_,_,_,_,_,AD2,?_⟩⟩⟩⟩⟩⟩⟩⟩,fun hh=>by omega⟩
  ·have hk7:=hks hf;unfold Es at Tj;split at Tj
   ·omega
   ·split at Tj
    ·omega
    ·split at Tj<;>omega
  ·by_cases hf:Ci x=true
   ·exact AKg (.inr (by have:=hpo hf;omega))
   ·exact orf hf
  ·
   unfold Es at Tj;split at Tj
   ·omega
   ·split at Tj
    ·omega
    ·split at Tj<;>omega
  ·unfold BQ;rw[AiK (by
    rw[not_or];exact⟨by rw[hf];decide,by have:=hpo hf;omega⟩),AiL Ah]
   show(193:Int)≠0
   decide
  ·have uE:HW DC x.mt=0:=Aig.1 heq;have hpx:=hpo hf;have hnn:=O1 hf;obtain⟨tp,htp⟩:∃tp:Nat,x.parts=tp:=⟨x.parts.toNat,by omega⟩;have e1:Int.toNat ((j:Int)-Es x.kind)=j-tp:=by omega
   have zu:j≤e:=by obtain⟨cs,KE,_⟩:=ho.1.2;exact Au.cap KE
   have VM:=AT.sub (i:=j-tp) (m:=j-(j-tp)) (ho.rd (MM.mono _)) (by decide) (by omega) zu;rw[AiQ (by rw[Aic];omega)]at VM;have Eu:BQ x st=((Mz x (st.drop (st.length-x.parts.toNat))).2,st.take (st.length-x.parts.toNat)++[(Mz x (st.drop (st.length-x.parts.toNat))).1]):=by
    unfold BQ;rw[AiK (by
     rw[not_or];exact⟨by rw[hf];decide,by omega⟩),AiK (fun hh=>hh uE)]
   have etp:st.length-x.parts.toNat=j-tp:=by omega
   rw[etp]at Eu;have AGv:((st.drop (j-tp)).length:Int)=x.parts:=by rw[Aic];omega
   have ATQ:∀y∈st.drop (j-tp),1≤y∧y≤3:=fun y hy=>VR y (AjT hy);refine⟨by unfold AG;omega,⟨by omega,by omega⟩,?_⟩;rw[e1];refine tV hf VM AGv ATQ ⟨_,_,rfl,fun ADj=>bad (by rw[Eu];exact ADj) _ ADj,fun h02=>⟨by unfold AG;omega,⟨by omega,by omega⟩,fun rX AZx=>?_⟩⟩;have ATR:=Aig.1 h02;refine AL.Hu (vs:=[.I (Mz x (st.drop (j-tp))).1]) (MM.mono _) (ho.take (m:=j-tp) (by omega)) rfl (fun u hu=>by rw[AiY.1 hu];rfl) (x:=(Mz x (st.drop (j-tp))).1) rfl (by omega) (fun p' c' σ4 FW _=>⟨_,_,_,rfl,AJ Ei hr.big,?_⟩) AZx;have:=ih (k+1) p' (j-tp+1) c' _ σ4 (by omega) (by omega) (by omega) FW (fun y hy=>?_) (by rw[he,Eu,AiL ATR])
   ·rw[show((k+1:Nat):Int)=(k:Int)+1 by omega]at this;exact this
   ·rcases List.mem_append.1 hy with hy|hy
    ·exact VR y (AjY hy)
    ·rw[AiY.1 hy];exact AKf hf AGv ATQ ATR
end
structure Sl9 where
 p:Option Addr
 n:Nat
 c:Nat
def EIw (τ:Hp)(vs:List Value)(x:El×Nat×Sl9):Prop:=vs=[.slice x.2.2.p x.2.2.n x.2.2.c,.slice (aD x.2.1 0) 1 1]∧Dy τ x.2.2.p x.2.2.n x.1.ls
theorem EIw.mono:Ht EIw:=fun _ _ _ _ hx ⟨hv,h⟩=>⟨hv,h.mono BL.mono hx⟩
structure I6 (t:Int)(τ0 τ σ:Hp)(p:Option Addr)(n c:Nat)(l:List El)(bs:List Nat)(ws:List Sl9):Prop where
 len:bs.length=l.length
 wl:ws.length=l.length
 own:∃cs,Au 2 σ p n c cs∧Ch 2 EIw τ cs (l.zip (bs.zip ws))
 ZH:∀(i b:Nat) (e:El),bs[i]?=some b→l[i]?=some e→σ b=some (.cells #[.I t,.U e.v] 61 (0,0))
 op:∀a,p=some a→τ a.block=none∧a.block ∉ bs
 tb:∀b∈bs,τ b=none
 nd:bs.Nodup
 ext:Ext τ σ
 base:Ext τ0 τ
 wr:∀w∈ws,∃cs,Au 2 τ w.p w.n w.c cs
 w0:∀w∈ws,∀a,w.p=some a→τ0 a.block=none
 wd:∀(i j:Nat) (w v:Sl9),ws[i]?=some w→ws[j]?=some v→i≠j→∀a a',w.p=some a→v.p=some a'→a.block≠a'.block
section
variable {σ σ' τ0:Hp}{R:Rr}{t:Int}{τ:Hp}{p:Option Addr}{n c:Nat}{l:List El}{bs:List Nat}{ws:List Sl9}
theorem I6.known (h:I6 t τ0 τ σ p n c l bs ws):∀b∈bs,∃u,σ b=some u:=fun b hb=>by
 obtain⟨i,hi⟩:=List.mem_iff_getElem?.1 hb;have Aq:=(List.getElem?_eq_some_iff.1 hi).1;exact⟨_,h.ZH i b _ hi (AiN (by rw[←h.len];exact Aq))⟩
theorem I6.mono (h:I6 t τ0 τ σ p n c l bs ws)(hx:Ext σ σ'):I6 t τ0 τ σ' p n c l bs ws:=
 ⟨h.len,h.wl,let ⟨cs,h1,h2⟩:=h.own;⟨cs,h1.mono hx,h2⟩,fun i b e hb he=>hx _ _ (h.ZH i b e hb he),h.op,h.tb,h.nd,h.ext.trans hx,h.base,h.wr,h.w0,h.wd⟩
theorem I6.V6 (h:I6 t τ0 τ σ p n c l bs ws):(l.zip (bs.zip ws)).length=l.length:=by
 rw[AjO,AjO,h.len,h.wl,Ajx,Ajx]
theorem I6.Zu (h:I6 t τ0 τ σ p n c l bs ws):l.length=n:=by
 obtain⟨cs,h1,h2⟩:=h.own;have a1:=h1.1;have a2:=h2.1;rw[h.V6]at a2;omega
theorem I6.get (h:I6 t τ0 τ σ p n c l bs ws){i:Nat}{e:El}(he:l[i]?=some e):∃b w,bs[i]?=some b∧ws[i]?=some w∧(l.zip (bs.zip ws))[i]?=some (e,b,w):=by
 have Aq:=(List.getElem?_eq_some_iff.1 he).1;obtain⟨b,hb⟩:∃b,bs[i]?=some b:=⟨_,AiN (by rw[h.len];exact Aq)⟩;obtain⟨w,hw⟩:∃w,ws[i]?=some w:=⟨_,AiN (by rw[h.wl];exact Aq)⟩;exact⟨b,w,hb,hw,List.getElem?_zip_eq_some.2 ⟨he,List.getElem?_zip_eq_some.2 ⟨hb,hw⟩⟩⟩
theorem I6.rd (h:I6 t τ0 τ σ p n c l bs ws):AT 2 Dh σ p n (l.map fun e=>⟨e.ls,[(t,e.v)]⟩):=by
 obtain⟨cs,h1,h2⟩:=h.own;refine⟨by rw[Aii];exact h.Zu,cs,h1.rd,by rw[h2.1,h.V6,Aii],fun i s hs=>?_⟩;rw[Ait]at hs;cases he:l[i]? with
 | none=>rw[he]at hs;cases hs
 | some e=>
  rw[he]at hs;simp only[Aiv,AiO]at hs;subst hs;obtain⟨b,w,hb,hw,hz⟩:=h.get he;obtain⟨hv,NM⟩:=h2.2 i (e,b,w) hz;refine⟨w.p,w.n,w.c,aD b 0,1,1,hv,NM.mono BL.mono h.ext,⟨rfl,[.I t,.U e.v],⟨rfl,by omega,.inr ⟨b,0,rfl,Ae.BY (c:=[.I t,.U e.v]) (h.ZH i b e hb he)⟩⟩,rfl,fun j y hy=>?_⟩,AiV _⟩;cases j with
  | zero=>simp only[Aim,AiO]at hy;subst hy;rfl
  | succ j=>simp at hy
theorem I6.add {b:Nat}{e:El}{pl:Option Addr}{nl cl:Nat}{y:Hp}{Φ:Value→Hp→Prop}(h:I6 t τ0 τ σ p n c l bs ws)(hy:Ext σ y)(hr:Ix 2 BL (σ.new y) pl nl cl e.ls)(hb:y b=none)(hn:n≤1000000000000)
  (hΦ:∀τ' p' c' σ',I6 t τ0 τ' σ' p' (n+1) c' (l++[e]) (bs++[b]) (ws++[⟨pl,nl,cl⟩])→Ext τ τ'→Φ (.slice p' (n+1) c') σ') :
  Al (Hp.set y b (.cells #[.I t,.U e.v] 61 (0,0))) fun RM=>AK prog (Builtin.append_ #[23,23] 23 #[.slice p n c,(.slice (aD RM 0) 1 1)]) (Hp.set (Hp.set y b (.cells #[.I t,.U e.v] 61 (0,0))) RM (.cells #[.slice pl nl cl,.slice (aD b 0) 1 1] 51 (0,0))) Φ:=fun RM dY=>by
 obtain⟨cs,h1,h2⟩:=h.own;obtain⟨NM,ds,hro,hrc⟩:=hr;have xb:=Ext.set (o:=.cells #[.I t,.U e.v] 61 (0,0)) hb;have xc:=Ext.set (o:=.cells #[.slice pl nl cl,.slice (aD b 0) 1 1] 51 (0,0)) dY;have X:=hy.trans (xb.trans xc);have hz:=h.V6;have Tz:σ b=none:=Am hy hb;have zG:b≠RM:=fun e=>by rw[←e,Hp.AA]at dY;cases dY
 refine DT (h1.mono X) (q:=aD RM 0) (ys:=[.slice pl nl cl,.slice (aD b 0) 1 1]) ⟨rfl,by omega,.inr ⟨RM,0,rfl,Ae.BY (c:=[.slice pl nl cl,.slice (aD b 0) 1 1]) (Hp.AA _ _ _)⟩⟩ (fun u hu=>by
  simp only[AiT,Air,or_false]at hu;rcases hu with rfl|rfl<;>rfl) (by omega) fun p' c' σ5 KT Sv=>?_
 have T:∀k u,σ k=some u→(∀a,p=some a→k≠a.block)→σ5 k=some u∧∀a,p'=some a→k≠a.block:=fun k u hk Ah=>by
  obtain⟨a1,a2⟩:=AN.1 (Sv k u (AN.2 ⟨Ah,X _ _ hk⟩));exact⟨a2,a1⟩
 have Tb:=AN.1 (Sv b _ (AN.2 ⟨fun a ha e=>h1.block a ha (by rw[←e];exact Tz),xc _ _ (Hp.AA _ _ _)⟩));have tt:Ext τ (τ.or (σ.new y)):=Ext.mG _ _;have nt:Ext (σ.new y) (τ.or (σ.new y)):=Ext.R7 fun k hk=>by
  cases hh:τ k with
  | none=>rfl
  | some u=>
   have h3:=h.ext _ _ hh;cases h4:(σ.new y) k with
   | none=>exact absurd h4 hk
   | some v=>rw[(AR.1 h4).1]at h3;cases h3
 have kn:∀k,(∃u,σ k=some u)→τ k=none→(τ.or (σ.new y)) k=none:=fun k ⟨u,hu⟩ hk=>by
  rw[Hp.R7 hk];cases hh:(σ.new y) k with
  | none=>rfl
  | some v=>rw[(AR.1 hh).1]at hu;cases hu
 have tb:(τ.or (σ.new y)) b=none:=by
  rw[Hp.R7 (Am h.ext Tz)];cases hh:(σ.new y) b with
  | none=>rfl
  | some v=>rw[(AR.1 hh).2]at hb;cases hb
 have hbn:b ∉ bs:=fun hc=>by obtain⟨u,hu⟩:=h.known b hc;rw[Tz]at hu;cases hu
 have hE5:Ext (τ.or (σ.new y)) σ5:=fun k u hk=>by
  have mO:y k=some u:=(Ext.YQ (h.ext.trans hy) (Ext.B9 _ _)) _ _ hk;refine(AN.1 (Sv k u (AN.2 ⟨fun a ha e=>?_,xc _ _ (xb _ _ mO)⟩))).2;have kF:∃u,σ a.block=some u:=by
   cases hh:σ a.block with
   | none=>exact absurd hh (h1.block a ha)
   | some u=>exact⟨u,rfl⟩
  rw[e,kn a.block kF (h.op a ha).1]at hk;cases hk
 have AKh:∀a,pl=some a→σ a.block=none:=fun a ha=>by
  cases hh:(σ.new y) a.block with
  | none=>exact absurd hh (hro.block a ha)
  | some u=>exact(AR.1 hh).1
 have ATS:∀w∈ws,∀a,w.p=some a→∃u,σ a.block=some u:=fun w hw a ha=>by
  obtain⟨es,ho⟩:=h.wr w hw;cases hh:τ a.block with
  | none=>exact absurd hh (ho.block a ha)
  | some u=>exact⟨u,h.ext _ _ hh⟩
 refine hΦ (τ.or (σ.new y)) p' c' σ5 ⟨by simp[h.len],by simp[h.wl],⟨_,KT,?_⟩,fun i b' e' Iw QZ=>?_,fun a ha=>⟨?_,fun hc=>?_⟩,fun b' Iw=>?_,?_,hE5,h.base.trans tt,fun w hw=>?_,fun w hw a ha=>?_,fun i j w v hw hv JE a a' ha GI=>?_⟩ tt
 ·rw[List.zip_append (by rw[h.len,h.wl]),List.zip_append (by rw[AjO,h.len,h.wl,Ajx])];exact(h2.mono EIw.mono tt).snoc rfl ⟨rfl,(show Dy (σ.new y) pl nl e.ls from⟨NM,ds,hro.rd,hrc.mono BL.mono (Ext.Jb _ _)⟩).mono BL.mono nt⟩
 ·rw[AjD]at Iw QZ;split at Iw
  ·rename_i Aq;rw[AiL (by rw[←h.len];exact Aq)]at QZ;have:=h.ZH i b' e' Iw QZ;exact(T b' _ this fun a ha e=>(h.op a ha).2 (e▸AiM Iw)).1
  ·rename_i Aq;rw[AiK (by rw[←h.len];exact Aq),←h.len]at QZ;cases hq:i-bs.length with
   | zero=>
    rw[hq]at Iw QZ;simp only[Aim,AiO]at Iw QZ;subst Iw;subst QZ;exact Tb.2
   | succ j=>rw[hq]at Iw;simp at Iw
 ·cases hh:(τ.or (σ.new y)) a.block with
  | none=>rfl
  | some u=>
   exfalso;have mO:y a.block=some u:=(Ext.YQ (h.ext.trans hy) (Ext.B9 _ _)) _ _ hh;refine(AN.1 (Sv a.block u (AN.2 ⟨fun a' GI e=>?_,xc _ _ (xb _ _ mO)⟩))).1 a ha rfl;have kF:∃u,σ a'.block=some u:=by
    cases hh:σ a'.block with
    | none=>exact absurd hh (h1.block a' GI)
    | some u=>exact⟨u,rfl⟩
   rw[e,kn a'.block kF (h.op a' GI).1]at hh;cases hh
 ·rcases List.mem_append.1 hc with hc|hc
  ·obtain⟨u,hu⟩:=h.known _ hc;exact(T a.block u hu fun a' GI e=>(h.op a' GI).2 (e▸hc)).2 a ha rfl
  ·rw[AiY]at hc;exact Tb.1 a ha hc.symm
 ·rcases List.mem_append.1 Iw with Iw|Iw
  ·exact kn b' (h.known _ Iw) (h.tb _ Iw)
  ·rw[AiY]at Iw;rw[Iw];exact tb
 ·rw[List.nodup_append];exact⟨h.nd,by simp,fun a ha b' Iw e=>by rw[AiY]at Iw;rw[e,Iw]at ha;exact hbn ha⟩
 ·rcases List.mem_append.1 hw with hw|hw
  ·obtain⟨es,ho⟩:=h.wr w hw;exact⟨es,ho.mono tt⟩
  ·rw[AiY]at hw;subst hw;exact⟨ds,hro.mono nt⟩
 ·rcases List.mem_append.1 hw with hw|hw
  ·exact h.w0 w hw a ha
  ·rw[AiY]at hw;subst hw;exact Am (h.base.trans h.ext) (AKh a ha)
 ·rw[AjD]at hw hv;have last:∀(i:Nat) (w:Sl9),¬i<ws.length→([(⟨pl,nl,cl⟩:Sl9)][i-ws.length]?=some w)→i=ws.length∧w=⟨pl,nl,cl⟩:=fun i w hi hw=>by
   cases hq:i-ws.length with
   | zero=>rw[hq]at hw;simp only[Aim,AiO]at hw;exact⟨by omega,hw.symm⟩
   | succ k=>rw[hq]at hw;simp at hw
  by_cases hi:i<ws.length
  ·rw[AiL hi]at hw;by_cases hj:j<ws.length
   ·rw[AiL hj]at hv;exact h.wd i j w v hw hv JE a a' ha GI
   ·rw[AiK hj]at hv;obtain⟨_,rfl⟩:=last j v hj hv;obtain⟨u,hu⟩:=ATS w (AiM hw) a ha;exact fun e=>by rw[e,AKh a' GI]at hu;cases hu
  ·rw[AiK hi]at hw;obtain⟨e1,rfl⟩:=last i w hi hw;by_cases hj:j<ws.length
   ·rw[AiL hj]at hv;obtain⟨u,hu⟩:=ATS v (AiM hv) a' GI;exact fun e=>by rw[←e,AKh a ha]at hu;cases hu
   ·rw[AiK hj]at hv;obtain⟨e2,_⟩:=last j v hj hv;omega
end
section
variable {σ σ' σ0:Hp}{R:Rr}
theorem instW_spec {p q:Option Addr}{n c m d:Nat}{T:List Nd}{ss:List Sr}{t:Int}(hg:Gl σ)(hr:AT 10 GF σ p n T)(hs:AT 2 Dh σ q m ss)(hM:Modest T ss)
  (h:∀τ p' n' c' σ' bs ws,(instF T ss t).1=0→I6 t σ τ σ' p' n' c' (instF T ss t).2 bs ws→R (.T #[.slice p' n' c',.I 0]) σ') (h':∀σ',(instF T ss t).1≠0→Ext σ σ'→R (.T #[.N,.I (instF T ss t).1]) σ') :
  Spec prog 8 #[.slice p n c,.slice q m d,.I t] σ R:=by
 refine CA.start (Ty hr hs hM fun σ1 Bc=>⟨_,rfl,fun Ah=>?_,fun h0=>Pf ⟨_,rfl,fun htf=>?_,fun zL=>?_⟩⟩)
 ·have e:instF T ss t=(Ef T ss,[]):=by unfold instF;rw[AiL Ah]
  rw[e] at h';exact h' σ1 Ah Bc
 ·have e:instF T ss t=(221,[]):=by unfold instF;rw[AiK h0,AiL (Aio htf)]
  rw[e] at h';exact h' σ1 (by dsimp only;decide) Bc
 have Ju:=Aig.1 h0;have ht:=AiP zL;obtain⟨k,hk,hk3,EI⟩:∃k,I4 T=some k∧k≠3∧D1 none ss=true:=by
  unfold Ef at Ju;cases hq:I4 T with
  | none=>rw[hq]at Ju;dsimp only at Ju;exact absurd Ju (by decide)
  | some k=>
   rw[hq]at Ju;dsimp only at Ju;by_cases h3:k=3
   ·rw[AiL h3]at Ju;exact absurd Ju (by decide)
   ·rw[AiK h3]at Ju;cases ho:D1 none ss with
    | true=>exact⟨k,rfl,h3,rfl⟩
    | false=>rw[ho]at Ju;exact absurd Ju (by decide)
 have hS:=jP.of hM EI;obtain⟨Bz,hlen⟩:=Jx hk;have hl:T.length=n:=hr.1;refine O2 (hg.mono Bc) (hr.mono GF.mono Bc) (hs.mono Dh.mono Bc) hS (by omega) (by omega) Bz (fun l p' n' c' σ2 hm An NM=>⟨_,_,_,_,rfl,fun hh=>absurd rfl hh,fun _=>?_⟩) fun hm σ2 An=>⟨_,_,_,_,rfl,fun _=>?_,fun hh=>absurd (by decide) hh⟩
 ·have e:instF T ss t=(0,l):=by unfold instF;rw[AiK h0,AiK (by rw[Aig];exact ht),hm]
  rw[e]at h;dsimp only at h;have hll:l.length=n':=NM.1;have hX:=Bc.trans An;obtain⟨mo1,mo2⟩:=Pe hS Bz hm;have zx:n'≤100000000000:=by
   have:=Aj6 hlen hS.ok.len;omega
  suffices H:∀g i:Nat,∀τ p1 n1 c1 σ3 bs ws,n'-i=g→i≤n'→I6 t σ τ σ3 p1 n1 c1 (l.take i) bs ws→Ext σ2 τ→CA.Nc R t p1 n1 c1 p' n' c' n' i σ3 from
   H n' 0 σ2 none 0 0 σ2 [] [] rfl (AiR _) ⟨rfl,rfl,⟨[],Au.nil,by simp[Ch]⟩,fun i b e hb=>(by simp at hb),fun a ha=>(by cases ha),fun b hb=>(by cases hb),List.nodup_nil,.refl _,hX,fun w hw=>(by cases hw),fun w hw=>(by cases hw),fun i j w v hw=>(by simp at hw)⟩ (.refl _)
  intro g
  induction g with
  | zero=>
   intro i τ p1 n1 c1 σ3 bs ws jH hi hA BU;rw[AiQ (by omega)]at hA;exact CA.PN ⟨fun Aq=>by omega,fun _=>h τ p1 n1 c1 σ3 bs ws rfl hA⟩
  | succ g ih=>
   intro i τ p1 n1 c1 σ3 bs ws jH hi hA BU;have BF:i<n':=by omega
   obtain⟨x,hx⟩:=NM.ex BF;obtain⟨b,o,q1,m1,d1,rfl,CF,VQ⟩:=Aa.at NM hx;have kJ:=BU.trans hA.ext;have mq:=VQ.mono BL.mono kJ;have NR:m1≤1000000000:=by
    have:=(mo1 x (AiM hx)).rd VQ;omega
   have hn1:n1=i:=by
    have a4:=hA.Zu;rw[AiU]at a4;omega
   have next:∀τ' p2 c2 σ4 bs' ws',I6 t σ τ' σ4 p2 (n1+1) c2 (l.take i++[x]) bs' ws'→Ext σ2 τ'→AG ((i:Int)+1)∧CA.Nc R t p2 (n1+1) c2 (aD b o) n' c' n' ((i:Int)+1) σ4:=fun τ' p2 c2 σ4 bs' ws' dZ JK=>
    ⟨AJ BF NM.big,ih (i+1) τ' p2 (n1+1) c2 σ4 bs' ws' (by omega) (by omega) (by rw[AQ hx];exact dZ) JK⟩
   refine CA.PN ⟨fun _=>⟨b,o,rfl,by omega,q1,m1,d1,x.v,by simpa using CF.mono kJ,fun _=>⟨fun Vi Yn=>⟨?_,fun I9 T1=>?_⟩,fun I9 T1 Vi Yn=>?_⟩⟩,fun hh=>by omega⟩
   ·refine Dz mq NR (fun ZZ Za y ho hy=>⟨_,_,_,rfl,fun I9 T1=>I6.add hA hy ho T1 (by omega) fun τ' p2 c2 σ4 dZ JK=>⟨_,_,_,rfl,next _ _ _ _ _ _ dZ (BU.trans JK)⟩⟩) Yn
   ·have jS:=(Hp.C9 T1);refine AK.F6 T1 (Dz mq NR (fun ZZ Za y ho hy eu=>⟨_,_,_,rfl,I6.add hA hy ho eu (by omega) fun τ' p2 c2 σ4 dZ JK=>⟨_,_,_,rfl,next _ _ _ _ _ _ dZ (BU.trans JK)⟩⟩) Yn)
   ·have mr:=(Hp.C9 Yn);have jS:(σ3.set Vi (.cells #[] 71 (0,0))) I9=none:=by rw[Hp.AM (AjI mr.1)];exact T1
    dsimp only;rw[Hp.Ll (AjI mr.1)];refine AK.F6 jS (Dz mq NR (fun ZZ Za y ho hy eu=>⟨_,_,_,rfl,I6.add hA hy ho eu (by omega) fun τ' p2 c2 σ4 dZ JK=>⟨_,_,_,rfl,next _ _ _ _ _ _ dZ (BU.trans JK)⟩⟩) mr.2)
 ·have e:instF T ss t=(223,[]):=by unfold instF;rw[AiK h0,AiK (by rw[Aig];exact ht),hm]
  rw[e] at h';exact h' σ2 (by dsimp only;decide) (Bc.trans An)
end
section
variable {σ σ':Hp}{R:Rr}
theorem AAh:∀w,(Go.sizeOf 61).run prog w=.ok 2 w:=fun w=>by kernel_rfl
theorem qW:∀w,(Go.sizeOf 71).run prog w=.ok 2 w:=fun w=>by kernel_rfl
theorem AKi:∀w,(Go.sizeOf 51).run prog w=.ok 2 w:=fun w=>by kernel_rfl
theorem Au.two {b o n c j:Nat}{cs:List Value}{v0 v1:Value}{T:TypeId}{Φ:Unit→Hp→Prop}(ho:Au 2 σ (some ⟨b,o,none⟩) n c cs)(hj:j<n)(hz:∀w,(Go.sizeOf T).run prog w=.ok 2 w)(hv:(Value.agg #[v0,v1]).cells=#[v0,v1])(h1:v0.oneCell'=true∧v1.oneCell'=true)
  (hΦ:∀σ' cs',Au 2 σ' (some ⟨b,o,none⟩) n c cs'→(∀i,i≠j*2→i≠j*2+1→cs'[i]?=cs[i]?)→(∀k,k≠b→σ' k=σ k)→Φ () σ'):AK prog (Instr.storeAt T (.pointer (some ⟨b,o+j*2,none⟩)) (.agg #[v0,v1])) σ Φ:=by
 obtain⟨hl,hb0,h⟩:=ho;rcases h with ⟨hp,_⟩|⟨b',o',arr,T',hp,hb,oC,J2,LK⟩
 ·cases hp
 ·cases hp;refine AK.store hz hb (by rw[hv];rfl) (by omega) (by rw[hv];intro u hu;simp at hu;rcases hu with rfl|rfl;exact h1.1;exact h1.2) (hΦ _ (((Qp arr (o+j*2) (Value.agg #[v0,v1]).cells.toList).toList.drop o).take (n*2)) ⟨?_,hb0,.inr ⟨b,o,_,T',rfl,Hp.AA _ _ _,oC,by simp[IV];exact J2,rfl⟩⟩ (fun i h2 h3=>?_) fun k hk=>Hp.AM hk)
  ·rw[AiU,Aic,AjA,IV];omega
  ·rw[hv,←LK];simp only[Qp,Array.toList_setIfInBounds];rw[Ail,Ail];by_cases hi:i<n*2
   ·rw[AiL hi,AiL hi,Ain,Ain,Ajq,Ajq,AiK (by omega),AiK (by omega)]
   ·rw[AiK hi,AiK hi]
def jr (p:Option Addr)(σ σ':Hp):Prop:=∀k u,σ k=some u→(∀a,p=some a→k≠a.block)→σ' k=some u
theorem jr.trans {p:Option Addr}{σ1 σ2 σ3:Hp}(h:jr p σ1 σ2)(h':jr p σ2 σ3):jr p σ1 σ3:=fun k u hk Ah=>h' k u (h k u hk Ah) Ah
theorem T7 {p:Option Addr}{n c:Nat}{cs:List Value}(ho:Au 2 σ p n c cs)(hn:n≤100000000)(h:∀σ',jr p σ σ'→R (.T #[]) σ'):Spec prog 34 #[.slice p n c] σ R:=by
 refine Bj.start fun b7 hb7=>?_;have x7:=Ext.set (o:=.cells #[(.string (ByteArray.mk #[115,112,111,105,108,116])),(.string (ByteArray.mk #[115,112,111,105,108,116]))] 71 (0,0)) hb7;refine WD (ho.mono x7) (q:=aD b7 0) (ys:=[(.string (ByteArray.mk #[115,112,111,105,108,116])),(.string (ByteArray.mk #[115,112,111,105,108,116]))]) ⟨rfl,by decide,.inr ⟨b7,0,rfl,Ae.BY (c:=[(.string (ByteArray.mk #[115,112,111,105,108,116])),(.string (ByteArray.mk #[115,112,111,105,108,116]))]) (Hp.AA _ _ _)⟩⟩ (fun u hu=>by
  simp only[AiT,Air,or_false]at hu;rcases hu with rfl|rfl<;>rfl) (by omega) fun p8 c8 y Qi hx8 halt=>⟨_,_,_,rfl,?_⟩
 have second:∀(g i:Nat) (σ1:Hp) (es:List Value),n-i=g→i≤n→Au 2 σ1 p n c es→jr p σ σ1→Bj.cQ R p n c (i:Int) σ1:=by
  intro g
  induction g with
  | zero=>exact fun i σ1 es hg hi NN hx=>Bj.Rf ⟨fun hh=>by omega,fun _=>h σ1 hx⟩
  | succ g ih=>
   intro i σ1 es hg hi NN hx;have By:i<n:=by omega
   have hp:∃b o,p=some ⟨b,o,none⟩:=by
    rcases NN.2.2 with ⟨_,h0,_⟩|⟨b,o,_,_,hp,_⟩
    ·omega
    ·exact⟨b,o,hp⟩
   obtain⟨b,o,rfl⟩:=hp;refine Bj.Rf ⟨fun _=>⟨b,o,rfl,by unfold In;omega,?_⟩,fun hh=>by omega⟩;rw[Aiu];refine Au.two NN By qW rfl ⟨rfl,rfl⟩ fun σ2 es2 A6 _ hk=>⟨by unfold AG;omega,?_⟩;have:=ih (i+1) σ2 es2 (by omega) (by omega) A6 (hx.trans fun k u hu Ah=>by rw[hk k (Ah _ rfl)];exact hu);rw[show((i+1:Nat):Int)=(i:Int)+1 by omega]at this;exact this
 have first:∀(g i:Nat) (σ1:Hp) (es:List Value),n+1-i=g→i≤n+1→Au 2 σ1 p8 (n+1) c8 es→(∃nS,Au 2 σ1 p n c nS)→jr p σ σ1→Bj.Fm R p n c p8 (n+1) c8 (i:Int) σ1:=by
  intro g
  induction g with
  | zero=>exact fun i σ1 es hg hi NN ⟨nS,nT⟩ hx=>Bj.As ⟨fun hh=>by omega,fun _=>second n 0 σ1 nS rfl (AiR _) nT hx⟩
  | succ g ih=>
   intro i σ1 es hg hi NN nT hx;have By:i<n+1:=by omega
   have hp:∃b o,p8=some ⟨b,o,none⟩:=by
    rcases NN.2.2 with ⟨_,h0,_⟩|⟨b,o,_,_,hp,_⟩
    ·omega
    ·exact⟨b,o,hp⟩
   obtain⟨b,o,rfl⟩:=hp;refine Bj.As ⟨fun _=>⟨b,o,rfl,by unfold In;omega,?_⟩,fun hh=>by omega⟩;rw[Aiu];refine Au.two NN By qW rfl ⟨rfl,rfl⟩ fun σ2 es2 A6 _ hk=>⟨by unfold AG;omega,?_⟩;have Tn:(∃nS,Au 2 σ2 p n c nS)∧jr p σ σ2:=by
    rcases halt with ⟨rfl,rfl,hcc⟩|⟨_,_,zG⟩
    ·exact⟨⟨_,A6.take (m:=n) (by omega)⟩,hx.trans fun k u hu Ah=>by rw[hk k (Ah _ rfl)];exact hu⟩
    ·have Tz:σ b=none:=Am x7 (zG _ rfl);obtain⟨nS,Sb⟩:=nT;refine⟨⟨nS,Au.di Sb fun a ha=>hk _ fun e=>?_⟩,fun k u hu Ah=>?_⟩
     ·have:=ho.block a ha;rw[e]at this;exact this Tz
     ·rw[hk k (fun e=>by rw[e,Tz]at hu;cases hu)];exact hx k u hu Ah
   have:=ih (i+1) σ2 es2 (by omega) (by omega) A6 Tn.1 Tn.2;rw[show((i+1:Nat):Int)=(i:Int)+1 by omega]at this;exact this
 refine first (n+1) 0 y _ rfl (AiR _) Qi ?_ ?_
 ·rcases halt with ⟨rfl,rfl,hcc⟩|⟨_,YU,zG⟩
  ·exact⟨_,Qi.take (m:=n) (by omega)⟩
  ·exact⟨cs,(ho.mono x7).mono YU⟩
 ·intro k u hu Ah;exact(AN.1 (hx8 k u (AN.2 ⟨Ah,x7 _ _ hu⟩))).2
theorem T8 {p:Option Addr}{n c:Nat}{cs:List Value}(ho:Au 2 σ p n c cs)(hn:n≤100000000)(h:∀σ',jr p σ σ'→R (.T #[]) σ'):Spec prog 35 #[.slice p n c] σ R:=by
 refine Bi.start fun b7 hb7=>?_;have x7:=Ext.set (o:=.cells #[(.I (-7)),.U 77] 61 (0,0)) hb7;refine WD (ho.mono x7) (q:=aD b7 0) (ys:=[(.I (-7)),.U 77]) ⟨rfl,by decide,.inr ⟨b7,0,rfl,Ae.BY (c:=[(.I (-7)),.U 77]) (Hp.AA _ _ _)⟩⟩ (fun u hu=>by
  simp only[AiT,Air,or_false]at hu;rcases hu with rfl|rfl<;>rfl) (by omega) fun p8 c8 y Qi hx8 halt=>⟨_,_,_,rfl,?_⟩
 have second:∀(g i:Nat) (σ1:Hp) (es:List Value),n-i=g→i≤n→Au 2 σ1 p n c es→jr p σ σ1→Bi.cQ R p n c (i:Int) σ1:=by
  intro g
  induction g with
  | zero=>exact fun i σ1 es hg hi NN hx=>Bi.Rf ⟨fun hh=>by omega,fun _=>h σ1 hx⟩
  | succ g ih=>
   intro i σ1 es hg hi NN hx;have By:i<n:=by omega
   have hp:∃b o,p=some ⟨b,o,none⟩:=by
    rcases NN.2.2 with ⟨_,h0,_⟩|⟨b,o,_,_,hp,_⟩
    ·omega
    ·exact⟨b,o,hp⟩
   obtain⟨b,o,rfl⟩:=hp;refine Bi.Rf ⟨fun _=>⟨b,o,rfl,by unfold In;omega,?_⟩,fun hh=>by omega⟩;rw[Aiu];refine Au.two NN By AAh rfl ⟨rfl,rfl⟩ fun σ2 es2 A6 _ hk=>⟨by unfold AG;omega,?_⟩;have:=ih (i+1) σ2 es2 (by omega) (by omega) A6 (hx.trans fun k u hu Ah=>by rw[hk k (Ah _ rfl)];exact hu);rw[show((i+1:Nat):Int)=(i:Int)+1 by omega]at this;exact this
 have first:∀(g i:Nat) (σ1:Hp) (es:List Value),n+1-i=g→i≤n+1→Au 2 σ1 p8 (n+1) c8 es→(∃nS,Au 2 σ1 p n c nS)→jr p σ σ1→Bi.Fm R p n c p8 (n+1) c8 (i:Int) σ1:=by
  intro g
  induction g with
  | zero=>exact fun i σ1 es hg hi NN ⟨nS,nT⟩ hx=>Bi.As ⟨fun hh=>by omega,fun _=>second n 0 σ1 nS rfl (AiR _) nT hx⟩
  | succ g ih=>
   intro i σ1 es hg hi NN nT hx;have By:i<n+1:=by omega
   have hp:∃b o,p8=some ⟨b,o,none⟩:=by
    rcases NN.2.2 with ⟨_,h0,_⟩|⟨b,o,_,_,hp,_⟩
    ·omega
    ·exact⟨b,o,hp⟩
   obtain⟨b,o,rfl⟩:=hp;refine Bi.As ⟨fun _=>⟨b,o,rfl,by unfold In;omega,?_⟩,fun hh=>by omega⟩;rw[Aiu];refine Au.two NN By AAh rfl ⟨rfl,rfl⟩ fun σ2 es2 A6 _ hk=>⟨by unfold AG;omega,?_⟩;have Tn:(∃nS,Au 2 σ2 p n c nS)∧jr p σ σ2:=by
    rcases halt with ⟨rfl,rfl,hcc⟩|⟨_,_,zG⟩
    ·exact⟨⟨_,A6.take (m:=n) (by omega)⟩,hx.trans fun k u hu Ah=>by rw[hk k (Ah _ rfl)];exact hu⟩
    ·have Tz:σ b=none:=Am x7 (zG _ rfl);obtain⟨nS,Sb⟩:=nT;refine⟨⟨nS,Au.di Sb fun a ha=>hk _ fun e=>?_⟩,fun k u hu Ah=>?_⟩
     ·have:=ho.block a ha;rw[e]at this;exact this Tz
     ·rw[hk k (fun e=>by rw[e,Tz]at hu;cases hu)];exact hx k u hu Ah
   have:=ih (i+1) σ2 es2 (by omega) (by omega) A6 Tn.1 Tn.2;rw[show((i+1:Nat):Int)=(i:Int)+1 by omega]at this;exact this
 refine first (n+1) 0 y _ rfl (AiR _) Qi ?_ ?_
 ·rcases halt with ⟨rfl,rfl,hcc⟩|⟨_,YU,zG⟩
  ·exact⟨_,Qi.take (m:=n) (by omega)⟩
  ·exact⟨cs,(ho.mono x7).mono YU⟩
 ·intro k u hu Ah;exact(AN.1 (hx8 k u (AN.2 ⟨Ah,x7 _ _ hu⟩))).2
theorem jr.own {q p:Option Addr}{s n c:Nat}{cs:List Value}(h:jr q σ σ')(ho:Au s σ p n c cs)(Ah:∀a a',p=some a→q=some a'→a.block≠a'.block):Au s σ' p n c cs:=
 Au.di ho fun a ha=>by
  cases hh:σ a.block with
  | none=>exact absurd hh (ho.block a ha)
  | some u=>exact h a.block u hh fun a' GI=>Ah a a' ha GI
theorem T9 {M τ0 τ:Hp}{t:Int}{p:Option Addr}{n c:Nat}{l:List El}{bs:List Nat}{ws:List Sl9}(hA:I6 t τ0 τ σ p n c l bs ws)(AKj:∀w∈ws,w.n≤100000000)(hM:Ext M σ)
  (hd1:∀a,p=some a→M a.block=none) (hd2:∀b∈bs,M b=none) (hd3:∀w∈ws,∀a,w.p=some a→M a.block=none)
  (h:∀σ',Ext M σ'→R (.T #[]) σ'):Spec prog 13 #[.slice p n c] σ R:=by
 obtain⟨cs,h1,h2⟩:=hA.own;have hn:=h1.2.1;have hln:=hA.Zu;have f1:∀w∈ws,∀a a',p=some a→w.p=some a'→a.block≠a'.block:=fun w hw a a' ha GI e=>by
  obtain⟨es,hwo⟩:=hA.wr w hw;exact hwo.block a' GI (by rw[←e];exact(hA.op a ha).1)
 have f3:∀w∈ws,∀b∈bs,∀a,w.p=some a→a.block≠b:=fun w hw b hb a ha e=>by
  obtain⟨es,hwo⟩:=hA.wr w hw;exact hwo.block a ha (by rw[e];exact hA.tb b hb)
 refine CU.start ?_
 suffices H:∀(g i:Nat) (σ1:Hp) (cs1:List Value),n-i=g→i≤n→Au 2 σ1 p n c cs1→(∀j,i*2≤j→cs1[j]?=cs[j]?)→(∀(j:Nat) (w:Sl9),i≤j→ws[j]?=some w→∃es,Au 2 σ1 w.p w.n w.c es)→(∀(j b:Nat),i≤j→bs[j]?=some b→∃es,Au 2 σ1 (aD b 0) 1 1 es)→Ext M σ1→CU.pt6 R p n c (i:Int) σ1 from
  H n 0 σ cs rfl (AiR _) h1 (fun _ _=>rfl) (fun j w _ hw=>by
   obtain⟨es,ho⟩:=hA.wr w (AiM hw);exact⟨es,ho.mono hA.ext⟩) (fun j b _ hb=>by
   have Aq:=(List.getElem?_eq_some_iff.1 hb).1;obtain⟨e,he⟩:∃e,l[j]?=some e:=⟨_,AiN (by rw[←hA.len];exact Aq)⟩;exact⟨[.I t,.U e.v],rfl,by decide,.inr ⟨b,0,_,61,rfl,hA.ZH j b e hb he,AiV _,by simp,rfl⟩⟩) hM
 intro g
 induction g with
 | zero=>exact fun i σ1 cs1 hg hi _ _ _ _ hM1=>CU.TI ⟨fun hh=>by omega,fun _=>h σ1 hM1⟩
 | succ g ih=>
  intro i σ1 cs1 hg hi NN LK hwj hbj hM1;have By:i<n:=by omega
  obtain⟨e,he⟩:∃e,l[i]?=some e:=⟨_,AiN (by omega)⟩;obtain⟨b,w,hb,hw,hz⟩:=hA.get he;obtain⟨hv,_⟩:=h2.2 i (e,b,w) hz;have uK:=AiM hw;have hbm:=AiM hb;have c0:cs[i*2]?=some (.slice w.p w.n w.c):=by
   have:((cs.drop (i*2)).take 2)[0]?=some (.slice w.p w.n w.c):=by rw[hv];rfl
   rw[Ail,AiL (by decide),Ain]at this;exact this
  have c1:cs[i*2+1]?=some (.slice (aD b 0) 1 1):=by
   have:((cs.drop (i*2)).take 2)[1]?=some (.slice (aD b 0) 1 1):=by rw[hv];rfl
   rw[Ail,AiL (by decide),Ain]at this;exact this
  have ld:∀(σ2:Hp),Au 2 σ2 p n c cs1→∃B o,p=some ⟨B,o,none⟩∧σ2.ld ⟨B,o+i*2,none⟩=some (.slice w.p w.n w.c)∧σ2.ld ⟨B,o+(i*2+1),none⟩=some (.slice (aD b 0) 1 1):=fun σ2 A6=>by
   obtain⟨_,_,hh⟩:=A6.rd;rcases hh with hh|⟨B,o,hp,hl⟩
   ·omega
   ·exact⟨B,o,hp,hl.get (by rw[LK _ (AiV _)];exact c0),hl.get (by rw[LK _ (by omega)];exact c1)⟩
  obtain⟨B,o,hp,l1,_⟩:=ld σ1 NN;obtain⟨es,AZ3⟩:=hwj i w (AiV _) hw;refine CU.TI ⟨fun _=>⟨B,o,hp,by unfold In;omega,w.p,w.n,w.c,by simpa using l1,T7 AZ3 (AKj w uK) fun σ2 x2=>⟨rfl,by unfold In;omega,?_⟩⟩,fun hh=>by omega⟩;have A6:=x2.own NN fun a a' ha GI=>f1 w uK a a' ha GI;obtain⟨B',o',hp',_,l2⟩:=ld σ2 A6;rw[hp] at hp';cases hp';obtain⟨es2,AZ4⟩:=hbj i b (AiV _) hb;have ATV:=x2.own AZ4 fun a a' ha GI=>by cases ha;exact fun e=>f3 w uK b hbm a' GI e.symm
  refine⟨aD b 0,1,1,by simpa[Nat.add_assoc] using l2,T8 ATV (by decide) fun σ3 x3=>⟨rfl,by unfold In;omega,?_⟩⟩;have DJ:=x3.own A6 fun a a' ha GI=>by cases GI;exact fun e=>(hA.op a ha).2 (by rw[e];exact hbm)
  rw[Aiu];subst hp;refine Au.two DJ By AKi rfl ⟨rfl,rfl⟩ fun σ4 cs4 FW hag hk=>⟨by unfold AG;omega,?_⟩;have k4:∀{s:Nat} {q:Option Addr} {m d:Nat} {ds:List Value},Au s σ3 q m d ds→(∀a,q=some a→a.block≠B)→Au s σ4 q m d ds:=fun ho Ah=>Au.di ho fun a ha=>hk a.block (Ah a ha);have:=ih (i+1) σ4 cs4 (by omega) (by omega) FW (fun j hj=>by rw[hag j (by omega) (by omega)];exact LK j (by omega)) (fun j v hj hv=>?_) (fun j b' hj Iw=>?_) (fun k u Ei=>?_)
  ·rw[show((i+1:Nat):Int)=(i:Int)+1 by omega]at this;exact this
  ·obtain⟨es3,hov⟩:=hwj j v (by omega) hv;have hvm:=AiM hv;exact⟨es3,k4 (x3.own (x2.own hov fun a a' ha GI=>hA.wd j i v w hv hw (by omega) a a' ha GI) fun a a' ha GI=>by cases GI;exact f3 v hvm b hbm a ha) fun a ha=>fun e=>f1 v hvm ⟨B,o,none⟩ a rfl ha e.symm⟩
  ·obtain⟨es3,hov⟩:=hbj j b' (by omega) Iw;have ATW:=AiM Iw;refine⟨es3,k4 (x3.own (x2.own hov fun a a' ha GI=>by cases ha;exact fun e=>f3 w uK b' ATW a' GI e.symm) fun a a' ha GI=>by
    cases ha;cases GI;intro e;have hjj:j=i:=by
     have hlj:=(List.getElem?_eq_some_iff.1 Iw);have zB:=(List.getElem?_eq_some_iff.1 hb);exact(List.getElem_inj hA.nd).1 (by rw[hlj.2,zB.2];exact e)
    omega) fun a ha=>by
    cases ha;exact fun e=>(hA.op ⟨B,o,none⟩ rfl).2 (by rw[←e];exact ATW)⟩
  ·have n1:k≠B:=fun e=>by rw[e,hd1 ⟨B,o,none⟩ rfl]at Ei;cases Ei
   rw[hk k n1];refine x3 k u (x2 k u (hM1 k u Ei) fun a ha e=>?_) fun a ha e=>?_
   ·rw[e,hd3 w uK a ha]at Ei;cases Ei
   ·cases ha;rw[e,hd2 b hbm]at Ei;cases Ei
end
theorem ATX:Ef T0 mu=0:=by kernel_rfl
theorem tW [G9]{R:Rr}{σ:Hp}{p q:Option Addr}{c d:Nat}{p1 q1:Option Addr}{n1 c1 m1 d1:Nat}(h:∀σ',Ext σ σ'→R (.returned (.I 0)) σ'):Spec prog 41 #[.agg #[.slice p 0 c,.slice p1 n1 c1],.agg #[.slice q 0 d,.slice q1 m1 d1]] σ R:=
 Ri.start fun _ _=>Pb (ls:=[]) (ms:=[]) AT.nil AT.nil fun σ' hx=>⟨_,rfl,h σ' hx⟩
theorem tX {R:Rr}{σ0:Hp}{b1 b2 b3 l:Nat}{I:Nat→Hp→Prop}(h0:I 0 σ0)(hI:∀j σ,I j σ→Hp.ld σ ⟨b1,0,none⟩=some (.I 0)∧Hp.ld σ ⟨b2,0,none⟩=some (.I 60)∧Hp.ld σ ⟨b3,0,none⟩=some (.I 60))
  (s0:∀σ,I 0 σ→LL prog l #[.I 0] σ (fun e σ'=>e=.B true∧I 1 σ')) (s1:∀σ,I 1 σ→LL prog l #[.I 60] σ (fun e σ'=>e=.B true∧I 2 σ')) (ub:∀σ,I 2 σ→R (.T #[]) σ) :
  Spec prog 55 #[.func (.yield l) #[] #[],.pointer (aD b1 0),.pointer (aD b2 0),.pointer (aD b3 0)] σ0 R:=by
 obtain⟨a1,a2,a3⟩:=hI 0 σ0 h0;refine Dp.start ⟨0,a1,Dp.TI ⟨l,rfl,(s0 σ0 h0).mono fun e σ1 he=>?_⟩⟩;obtain⟨rfl,hi⟩:=he;obtain⟨c1,c2,c3⟩:=hI 1 σ1 hi;refine⟨true,rfl,fun _=>⟨60,c2,60,c3,by unfold AG;omega,fun _=>⟨60,c2,by unfold AG;omega,Dp.TI ⟨l,rfl,(s1 σ1 hi).mono fun e σ2 he=>?_⟩⟩,fun hh=>absurd (by decide) hh⟩,fun hh=>absurd hh (by decide)⟩;obtain⟨rfl,hi2⟩:=he;obtain⟨d1,d2,d3⟩:=hI 2 σ2 hi2;exact⟨true,rfl,fun _=>⟨60,d2,60,d3,by unfold AG;omega,fun hh=>absurd hh (by decide),fun _=>ub σ2 hi2⟩,fun hh=>absurd hh (by decide)⟩
section
variable {σ:Hp}{R:Rr}
theorem AZ7:Sort.SWO (Proofs.ltOf fun(_ _:Unit)=>(0:Int)):=⟨fun _=>rfl,fun _ _ _ h=>(by cases h),fun _ _ _ _ _=>rfl⟩
theorem AAi {p q:Option Addr}{n c k d:Nat}(hg:Gl σ)(hr:AT 10 GF σ p n T0)(hs:AT 2 Dh σ q k mu)(h:∀b o e p2 c2 σ',Ext σ σ'→Hp.ld σ' ⟨b,o+1,none⟩=some (.slice p2 2 c2)→R (.T #[.slice (some ⟨b,o,none⟩) 1 e,.I 0]) σ'):
  Spec prog 16 #[.slice p n c,.slice q k d,.I 0,.I 60,.I 60] σ R:=by
 refine Db.start fun b5 hb5 b6 hb6 FB AZ8 CH Yt=>?_
 let L1:List (Nat×Obj):=[(b5,.cells #[.slice p n c] 22 (0,0))]
 let L2:List (Nat×Obj):=(b6,.cells #[.slice q k d] 23 (0,0))::L1
 let L3:List (Nat×Obj):=(FB,.cells #[.N] 23 (0,0))::L2
 let L4:List (Nat×Obj):=(CH,.cells #[.I 0] 24 (0,0))::L3
 obtain⟨n6,h6⟩:=Dx (L:=L1) hb6;obtain⟨n10,VF⟩:=Dx (L:=L2) AZ8;obtain⟨n11,IT⟩:=Dx (L:=L3) Yt;have hn4:(names L4).Nodup:=List.nodup_cons.2 ⟨n11,List.nodup_cons.2 ⟨n10,List.nodup_cons.2 ⟨n6,by simp[L1,names]⟩⟩⟩;have FW:Ui L4 σ:=fun b hb=>by
  simp only[L4,L3,L2,L1,names,Ai4,List.map_nil,AiT,Air,or_false]at hb;rcases hb with rfl|rfl|rfl|rfl
  ·exact IT
  ·exact VF
  ·exact h6
  ·exact hb5
 refine⟨p,n,c,iW (L:=L4) (i:=3) hn4 rfl rfl,q,k,d,iW (L:=L4) (i:=2) hn4 rfl rfl,?_⟩;show Spec prog 25 #[.slice p n c,.slice q k d] (BP σ L4) _
 refine Spec.HT hn4 FW (Ty hr hs V3 fun σ1 Bc O3=>⟨_,rfl,fun Ah=>absurd ATX Ah,fun _=>Pf ⟨_,rfl,fun hh=>absurd hh (by decide),fun _=>Pf ⟨_,rfl,fun hh=>absurd hh (by decide),fun _=>⟨fun hh=>absurd hh (by decide),fun _=>⟨fun hh=>absurd hh (by decide),fun _=>⟨by unfold AG;omega,by decide,fun RY e49=>⟨fun hh=>?_,fun _=>?_⟩⟩⟩⟩⟩⟩⟩)
 ·have e1:RY=1:=e49.trans (by decide);rw[e1]at hh;exact absurd hh (by decide)
 have O3:Ui L4 σ1:=O3;refine AK.HT hn4 O3 (G3 fun m hm AAj=>⟨m,rfl,fun D9 AZ9=>?_⟩);have AAj:Ui L4 (σ1.set m (.map #[] 0)):=AAj;have xm:=Ext.set (o:=.map #[] 0) hm;have AaA:σ m=none:=Am Bc hm;obtain⟨n13,h13⟩:=Dx (L:=L4) AZ9
 let L5:List (Nat×Obj):=(D9,.cells #[.map none] 78 (0,0))::L4
 let L5':List (Nat×Obj):=(D9,.cells #[.map (some m)] 78 (0,0))::L4
 have hn5:(names L5').Nodup:=List.nodup_cons.2 ⟨n13,hn4⟩;show AK prog (Instr.storeAt 78 (.pointer (some ⟨D9,0,none⟩)) (.map (some m))) (BP (σ1.set m (.map #[] 0)) L5) _
 refine AK.YL (L:=L5) (i:=0) (c:=#[.map none]) (c':=#[.map (some m)]) (fun w=>by kernel_rfl) (List.nodup_cons.2 ⟨n13,hn4⟩) rfl rfl rfl rfl rfl fun DO AaC=>?_;obtain⟨n14,h14⟩:=Dx (L:=L5') AaC
 let L6:List (Nat×Obj):=(DO,.cells #[.N] 23 (0,0))::L5'
 have hn6:(names L6).Nodup:=List.nodup_cons.2 ⟨n14,hn5⟩;have ho6:Ui L6 (σ1.set m (.map #[] 0)):=fun b hb=>by
  rcases AiT.1 hb with rfl|hb
  ·exact h14
  rcases AiT.1 hb with rfl|hb
  ·exact h13
  exact AAj b hb
 show Spec prog 38 #[.I 0,.I 60,.I 60] (BP (σ1.set m (.map #[] 0)) L6) _
 refine Spec.HT hn6 ho6 (R1.start fun c3 hc3 c4 hc4 c5 hc5 AAk=>⟨_,_,_,rfl,_,_,rfl,Dp.en,fun D l r0 rF hD hl hy=>?_⟩);have AAk:Ui L6 ((((σ1.set m (.map #[] 0)).set c3 (.cells #[.I 0] 2 (0,0))).set c4 (.cells #[.I 60] 2 (0,0))).set c5 (.cells #[.I 60] 2 (0,0))):=AAk;have x3:=Ext.set (o:=.cells #[.I 0] 2 (0,0)) hc3;have x4:=Ext.set (o:=.cells #[.I 60] 2 (0,0)) hc4;have x5:=Ext.set (o:=.cells #[.I 60] 2 (0,0)) hc5;have g3:=(x4.trans x5) c3 _ (Hp.AA _ _ _);have g4:=x5 c4 _ (Hp.AA _ _ _);have g5:((((σ1.set m (.map #[] 0)).set c3 (.cells #[.I 0] 2 (0,0))).set c4 (.cells #[.I 60] 2 (0,0))).set c5 (.cells #[.I 60] 2 (0,0))) c5=some (.cells #[.I 60] 2 (0,0)):=Hp.AA _ _ _;have AaD:MS (fun v _=>v=.I 0) _ m ([]:List (ByteArray×Int)):=(MS.fresh (E:=fun v _=>v=.I 0) (σ:=σ1)).mono (x3.trans (x4.trans x5));have gm:=(x3.trans (x4.trans x5)) m _ (Hp.AA _ _ _);have hxB:=Bc.trans (xm.trans (x3.trans (x4.trans x5)));generalize hB0:((((σ1.set m (.map #[] 0)).set c3 (.cells #[.I 0] 2 (0,0))).set c4 (.cells #[.I 60] 2 (0,0))).set c5 (.cells #[.I 60] 2 (0,0)))=B0 at *;clear x3 x4 x5 hc3 hc4 hc5 xm;obtain⟨nD,hDB⟩:=Dx (L:=L6) hD;obtain⟨nl,hlB⟩:=Dx (L:=L6) hl
 let X:Bx:=⟨b5,b6,FB,CH,D9,DO,D,l,m,p,n,c,q,k,d,r0⟩
 have hX:X.nd:=List.nodup_cons.2 ⟨fun hm=>by
  rcases AiT.1 hm with e|hm
  ·exact rF e.symm
  ·exact nl hm,List.nodup_cons.2 ⟨nD,hn6⟩⟩
 have hoX:X.off B0:=fun b hb=>by
  rcases AiT.1 hb with rfl|hb
  ·exact hlB
  rcases AiT.1 hb with rfl|hb
  ·exact hDB
  exact AAk b hb
 let σb:=B0.del (some ⟨m,0,none⟩)
 have zD:σb m=none:=by
  cases hh:σb m with
  | none=>rfl
  | some u=>exact absurd rfl ((AN.1 hh).1 _ rfl)
 have xb:Ext σb B0:=Ext.Jb _ _;have xσ:Ext σ σb:=fun y u hy=>AN.2 ⟨fun a ha e=>(by cases ha;rw[e,AaA]at hy;cases hy),hxB _ _ hy⟩;have db:∀{y:Nat} {a:Array Value} {t:Nat},B0 y=some (.cells a t (0,0))→σb y=some (.cells a t (0,0)):=fun {y a t} hy=>AN.2 ⟨fun a' ha e=>(by cases ha;rw[e,gm]at hy;cases hy),hy⟩;show Spec prog 55 #[.func (.yield l) #[] #[],.pointer (aD c3 0),.pointer (aD c5 0),.pointer (aD c4 0)] (BP B0 (X.L none 0 0 (lp X.r0 .ready none))) _
 have AaE:∀{B w j e lo},X.off B→Ext B (BP B (X.L w j e lo)):=fun {B w j e lo} ho=>Ui.ext (L:=X.L w j e lo) hX ho;have step:∀(x v:Int) (j:Nat),j≤10→0≤x∧x≤60→Bl FF T0 mu x=some [⟨[],v⟩]→∀σ',(∃B w i e,σ'=BP B (X.L w i e (lp X.r0 .ready none))∧X.off B∧Sta σb B X.m w i e j)→LL prog l #[.I x] σ' (fun e σ'=>e=.B true∧∃B w i e,σ'=BP B (X.L w i e (lp X.r0 .ready none))∧X.off B∧Sta σb B X.m w i e (j+1)):=by
  rintro x v j hj hx hM _ ⟨B,w,i,e,rfl,hoB,E2⟩
  refine hy _ _ x (HS (L:=X.L w i e (lp X.r0 .ready none)) (i:=0) hX rfl) ?_;refine sr (X:=X) hX hoB E2.ext (hg.mono xσ) (hr.mono GF.mono xσ) (hs.mono Dh.mono xσ) hM hx fun B1 p1 c1 Bc NN NM=>?_;exact mz hX NN (E2.mono Bc) hj NM fun B2 b o e2 A6 AaF=>⟨rfl,B2,_,1,e2,rfl,A6,.inr ⟨Nat.succ_pos _,b,o,rfl,rfl,AaF⟩⟩
 refine tX (I:=fun j σ'=>∃B w i e,σ'=BP B (X.L w i e (lp X.r0 .ready none))∧X.off B∧Sta σb B X.m w i e j) ⟨B0,none,0,0,rfl,hoX,.inl ⟨rfl,rfl,rfl,rfl,xb,zD,AaD⟩⟩ ?_ (step 0 v1 0 (by decide) (by decide) AYj) (step 60 v8 1 (by decide) (by decide) ASk) ?_
 ·rintro j _ ⟨B,w,i,e,rfl,hoB,E2⟩
  have hx:=E2.ext.trans (AaE (w:=w) (j:=i) (e:=e) (lo:=lp X.r0 .ready none) hoB);exact⟨Aj (hx _ _ (db g3)) rfl,Aj (hx _ _ (db g5)) rfl,Aj (hx _ _ (db g4)) rfl⟩
 rintro _ ⟨B,w,i,e,rfl,hoB,⟨h0,_⟩|⟨_,b,o,rfl,rfl,E2⟩⟩
 ·cases h0
 have eL:∀lo,(BP B (X.L (some ⟨b,o,none⟩) 1 e (lp X.r0 .ready none))).set l (.loop lo)=BP B (X.L (some ⟨b,o,none⟩) 1 e lo):=fun lo=>Hp.set_set;refine⟨_,.ready,none,rfl,HS (L:=X.L (some ⟨b,o,none⟩) 1 e (lp X.r0 .ready none)) (i:=0) hX rfl,by decide,.inl ⟨rfl,?_⟩⟩;rw[eL];have hXe:(names (X.L (some ⟨b,o,none⟩) 1 e (lp X.r0 .exhausted none))).Nodup:=hX;refine⟨_,1,e,iW (L:=X.L (some ⟨b,o,none⟩) 1 e (lp X.r0 .exhausted none)) (i:=2) hXe rfl rfl,?_⟩;obtain⟨pl,cl,pp,cc,ds,k1,k2,k3⟩:=E2.own;refine Spec.HT hXe hoB (pX (ρ:=Go.Proofs.Tryz.Ym) Go.Proofs.Tryz.AJx (fun w=>by kernel_rfl) (fun w=>by kernel_rfl) (α:=Unit) (enc:=fun _=>[.slice pl 0 cl,.slice pp 2 cc]) (fun _=>rfl) (fun _ u hu=>by
  simp only[AiT,Air,or_false]at hu;rcases hu with rfl|rfl<;>rfl) (cf:=fun _ _=>(0:Int)) AZ7 (g:=41) (fun args w=>call41 args w) (b:=b) (o:=o) (ds:=[()]) k1 rfl (by decide) (by decide) (fun w hw x y=>?_) fun B1 ds' hp tz DB I2 O3=>⟨rfl,?_⟩)
 ·exact Spec.zX (R:=fun e=>e=.returned (.I 0)) (@tW ⟨True⟩ _ _ _ _ _ _ _ _ _ _ _ _ fun σ' KU=>⟨rfl,KU⟩) hw
 have hds:ds'=[()]:=by
  have:=hp.length_eq
  match ds',this with
  | [()],_=>rfl
 subst hds;have hXL:∀{w' j' e' lo'},(names (X.L w' j' e' lo')).Nodup:=hX;refine⟨_,1,e,iW (L:=X.L (some ⟨b,o,none⟩) 1 e (lp X.r0 .exhausted none)) (i:=2) hXe rfl rfl,?_⟩;refine AK.YL (L:=X.L (some ⟨b,o,none⟩) 1 e (lp X.r0 .exhausted none)) (i:=5) (c:=#[.N]) (c':=#[.slice (some ⟨b,o,none⟩) 1 e]) pq hXe rfl rfl rfl rfl rfl ?_
 let L7:List (Nat×Obj):=(X.L (some ⟨b,o,none⟩) 1 e (lp X.r0 .exhausted none)).set 5 (X.FB,.cells #[.slice (some ⟨b,o,none⟩) 1 e] 23 (0,0))
 let L8:List (Nat×Obj):=L7.set 1 (X.D,.deferred none)
 refine AK.YL (L:=L7) (i:=4) (c:=#[.I 0]) (c':=#[.I 0]) ADP hX rfl rfl rfl rfl rfl ?_;show ∃Ek:Option Addr,∃Em:Nat,∃En:Nat,∃Eo:Int,BP B1 L7 D=some (.deferred (some []))∧Hp.ld ((BP B1 L7).set D (.deferred none)) ⟨FB,0,none⟩=some (.slice Ek Em En)∧Hp.ld ((BP B1 L7).set D (.deferred none)) ⟨CH,0,none⟩=some (.I Eo)∧R (.T #[.slice Ek Em En,.I Eo]) ((BP B1 L7).set D (.deferred none))
 rw[show(BP B1 L7).set D (.deferred none)=BP B1 L8 from R6 (L:=L7) (i:=1) hX rfl];refine⟨some ⟨b,o,none⟩,1,e,0,HS (L:=L7) (i:=1) hX rfl,iW (L:=L8) (i:=5) hX rfl rfl,iW (L:=L8) (i:=4) hX rfl rfl,?_⟩;have ATY:Ui L8 B1:=O3;have x8:Ext B1 (BP B1 L8):=Ui.ext (L:=L8) hX ATY;refine h b o e pp cc _ (fun y u hyu=>x8 _ _ ?_) ?_
 ·refine(AN.1 (I2 y u (AN.2 ⟨fun a ha e=>?_,E2.ext _ _ (xσ _ _ hyu)⟩))).2;cases ha;have:=xσ _ _ hyu;rw[e,E2.hb]at this;cases this
 ·obtain⟨_,_,h0|⟨b',o',hp,hl⟩⟩:=(Au.rd DB).mono x8
  ·cases h0
  ·cases hp;exact hl.2.1
end
section
variable {σ:Hp}{R:Rr}
theorem Sg {b:Nat}(h:R (.returned (.U b)) σ):Spec prog 36 #[.float .f64 b] σ R:=aU.start (.y Oq ⟨_,rfl,h⟩)
set_option maxRecDepth 100000 in
theorem ATZ {x y : Operand} {a b a' b' : Int} : YF prog (do eqGuard .neq 61 x y (.agg #[.I a,.U b]) (.agg #[.I a',.U b']); binOp .neq 61 (.agg #[.I a,.U b]) (.agg #[.I a',.U b'])) σ (.bool (!(a == a' && b == b'))) := fun w _ => by
 have u1 := underlying2
 have u2 := underlying57
 have hS : prog.underlying 61 = some (.struct (prog.fieldsOf 61)) := by kernel_rfl
 have hp : prog.stoodInHeld 61 = false := by kernel_rfl
 have hf : (prog.fieldsOf 61).toList = [{ name := "T",type := 2,offset := 0,embedded := false,tag := "",pkgPath := "",byteOffset := 0 },{ name := "V",type := 57,offset := 1,embedded := false,tag := "",pkgPath := "",byteOffset := 8 }] := by kernel_rfl
 simp only [Sem.run_bind,run_eqGuard_agg _ _ _ _ _ _ _ (show prog.eqGuardType prog.depth 61 = false by kernel_rfl),Result.andThen_ok,run_neq_struct]
 rw [show (10000 : Nat) = 9999 + 1 from rfl,run_equalIn_agg w 9999 61 _ _ hS hp,hf]
 simp only [Op.eqFields]
 go_simp
 by_cases h1 : a = a' <;> by_cases h2 : b = b' <;> simp [h1,h2]
theorem Us {p p':Option Addr}{n n' c c':Nat}{ps:List Pt}(h1:AT 2 J5 σ p n ps)(h2:AT 2 J5 σ p' n' ps)(hR:R (.B true) σ):Spec prog 33 #[.slice p n c,.slice p' n' c'] σ R:=by
 have e1:ps.length=n:=h1.1;have e2:ps.length=n':=h2.1;refine ES.start ⟨fun Ah=>absurd (by omega) Ah,fun _=>?_⟩
 suffices H:∀d i:Nat,n-i=d→i≤n→ES.Aw R p n c p' n' c' i σ from H n 0 rfl (AiR _)
 intro d
 induction d with
 | zero=>exact fun i hd hi=>ES.Ay ⟨fun Aq=>by omega,fun _=>hR⟩
 | succ d ih=>
  intro i hd hi;obtain⟨x,hx⟩:=h1.ex (show i<n by omega);obtain⟨b,o,rfl,l1⟩:=J5.at h1 hx;obtain⟨b',o',rfl,l2⟩:=J5.at h2 hx;exact ES.Ay ⟨fun _=>⟨b,o,rfl,by omega,x.1,x.2,by simpa using l1,b',o',rfl,by omega,x.1,x.2,by simpa using l2,_,ATZ,fun hh=>by simp at hh,fun _=>⟨AJ (by omega) h1.big,ih (i+1) (by omega) (by omega)⟩⟩,fun hh=>by omega⟩
theorem AaG:AG ((0:Int)+0):=by unfold AG;omega
theorem ATa:AG ((0:Int)+0+300):=by unfold AG;omega
theorem AAl {p:Option Addr}{n c:Nat}(hr:AT 10 GF σ p n T0)(h:∀σ',Ext σ σ'→R (.T #[.I 300,.I 0]) σ'):Spec prog 9 #[.slice p n c] σ R:=by
 have hn:2=n:=hr.1;subst hn;refine Ak.start (RA hr (by decide) V3.tx (fun k σ' hk hx=>⟨_,_,_,rfl,fun hh=>absurd rfl hh,fun _=>?_⟩) fun k j e σ' hk=>by rw[ty0]at hk;cases hk);have F1:=hr.mono GF.mono hx;obtain⟨b,o,p1,k1,c1,q1,m1,d1,rfl,sB,_,_⟩:=GF.at F1 (i:=0) (x:=nV) rfl;obtain⟨b',o',p2,k2,c2,q2,m2,d2,he,QD,_,_⟩:=GF.at F1 (i:=1) (x:=nA) rfl;cases he;refine Ak.Ry ⟨fun _=>⟨b,o,rfl,by decide,_,_,_,_,_,_,_,_,_,_,_,_,_,_,sB,fun _=>⟨fun hh=>absurd rfl hh,fun _=>⟨AaG,fun _=>⟨ATa,Ak.Vr ?_⟩,fun hh=>absurd rfl hh⟩⟩⟩,fun hh=>absurd (by decide) hh⟩;refine⟨fun _=>Ak.IL (Ak.cu ⟨by unfold AG;omega,Ak.Ry ⟨fun _=>⟨b,o,rfl,by decide,_,_,_,_,_,_,_,_,_,_,_,_,_,_,QD,fun _=>⟨fun _=>⟨fun _=>Ak.cu ⟨by unfold AG;omega,Ak.Ry ⟨fun hh=>absurd hh (by decide),fun _=>h _ hx⟩⟩,fun hh=>absurd (by decide) hh⟩,fun hh=>absurd (by decide) hh⟩⟩,fun hh=>absurd (by decide) hh⟩⟩),fun hh=>by cases hh⟩
theorem js {σ:Hp}{b:Nat}{o:Obj}(h:σ b=none):Ext σ (σ.set b o)∧σ.set b o b=some o:=⟨.set h,Hp.AA _ _ _⟩
theorem O9 {α:Type}{s b n:Nat}{T:TypeId}{E:Hp→List Value→α→Prop}{cs:List Value}{xs:List α}(h:σ b=some (.cells cs.toArray T (0,0)))(hl:cs.length=n*s)(hn:xs.length=n)(hb:n≤1000)(hE:∀(i:Nat) (x:α),xs[i]?=some x→E σ ((cs.drop (i*s)).take s) x):AT s E σ (aD b 0) n xs:=
 ⟨hn,cs,⟨hl,by omega,.inr ⟨b,0,rfl,Ae.BY h⟩⟩,by rw[hl,hn],hE⟩
theorem nU:Awk:=fun σ R hg h=>by
 refine Ud.start fun CH IT=>Sg ⟨_,rfl,Sg ⟨_,rfl,fun IY ye gb h20=>Sg ⟨_,rfl,fun JH h23 H0 h25 ZE h27 eh h30=>?_⟩⟩⟩;have x11:=Ext.set (o:=.cells #[(.string (ByteArray.mk #[95,95,110,97,109,101,95,95])),(.string (ByteArray.mk #[120])),(.string (ByteArray.mk #[97])),(.string (ByteArray.mk #[49]))] 71 (0,0)) IT;have x16:=Ext.set (o:=.cells #[.I 0,.U v1,.I 60,.U v3] 61 (0,0)) ye;have II:=Ext.set (o:=.cells #[(.string (ByteArray.mk #[95,95,110,97,109,101,95,95])),(.string (ByteArray.mk #[120])),(.string (ByteArray.mk #[97])),(.string (ByteArray.mk #[50]))] 71 (0,0)) h20;have GC:=Ext.set (o:=.cells #[.I 60,.U v5] 61 (0,0)) h23;have Kz:=Ext.set (o:=.cells #[(.slice (aD CH 0) 2 2),(.slice (aD IY 0) 2 2),(.slice (aD gb 0) 2 2),(.slice (aD JH 0) 1 1)] 51 (0,0)) h25;have Kv:=Ext.set (o:=.cells #[.I 1,(.string (ByteArray.mk #[95,95,110,97,109,101,95,95])),(.string (ByteArray.mk #[120]))] 75 (0,0)) h27;obtain⟨LZ,g30⟩:=js (o:=.cells #[.I 2,.I 0,(.string (ByteArray.mk #[])),(.slice (aD ZE 0) 1 1),.I 0,.I 0,.I 0,.N,.bool false,.I 0,.I 5,.I 1,(.string (ByteArray.mk #[])),.N,.I 0,.I 0,.I 0,.N,.bool false,.I 1] 44 (0,0)) h30;have g11:=(x16.trans (II.trans (GC.trans (Kz.trans (Kv.trans LZ))))) CH _ (Hp.AA _ _ _);have g16:=(II.trans (GC.trans (Kz.trans (Kv.trans LZ)))) IY _ (Hp.AA _ _ _);have g20:=(GC.trans (Kz.trans (Kv.trans LZ))) gb _ (Hp.AA _ _ _);have g23:=(Kz.trans (Kv.trans LZ)) JH _ (Hp.AA _ _ _);have g25:=(Kv.trans LZ) H0 _ (Hp.AA _ _ _);have g27:=LZ ZE _ (Hp.AA _ _ _);have hx:=x11.trans (x16.trans (II.trans (GC.trans (Kz.trans (Kv.trans LZ)))))
 change Spec prog 8 #[.slice (aD eh 0) 2 2,.slice (aD H0 0) 2 2,.I 60] (Hp.set _ eh _) _
 generalize hτ:Hp.set _ eh _=τ at *;have rA:Dy τ (aD CH 0) 2 AKA:=O9 g11 rfl rfl (by decide) fun i x hx=>match i,hx with
  | 0,hx=>by cases hx;rfl
  | 1,hx=>by cases hx;rfl
  | i+2,hx=>by simp[AKA]at hx
 have rB:Dy τ (aD gb 0) 2 AKB:=O9 g20 rfl rfl (by decide) fun i x hx=>match i,hx with
  | 0,hx=>by cases hx;rfl
  | 1,hx=>by cases hx;rfl
  | i+2,hx=>by simp[AKB]at hx
 have rP:AT 2 J5 τ (aD IY 0) 2 [(0,v1),(60,v3)]:=O9 g16 rfl rfl (by decide) fun i x hx=>match i,hx with
  | 0,hx=>by cases hx;rfl
  | 1,hx=>by cases hx;rfl
  | i+2,hx=>by simp at hx
 have rQ:AT 2 J5 τ (aD JH 0) 1 [(60,v5)]:=O9 g23 rfl rfl (by decide) fun i x hx=>match i,hx with
  | 0,hx=>by cases hx;rfl
  | i+1,hx=>by simp at hx
 have rS:AT 2 Dh τ (aD H0 0) 2 mu:=O9 g25 rfl rfl (by decide) fun i x hx=>match i,hx with
  | 0,hx=>by cases hx;exact⟨_,_,_,_,_,_,rfl,rA,rP,by decide⟩
  | 1,hx=>by cases hx;exact⟨_,_,_,_,_,_,rfl,rB,rQ,by decide⟩
  | i+2,hx=>by simp[mu]at hx
 have rM:AT 3 Jt τ (aD ZE 0) 1 [⟨1,SA,sX⟩]:=O9 g27 rfl rfl (by decide) fun i x hx=>match i,hx with
  | 0,hx=>by cases hx;rfl
  | i+1,hx=>by simp at hx
 have rN:G6 1 τ none 0 (([]:List ByteArray).map .string):=⟨rfl,by decide,.inl rfl⟩;have rT:AT 10 GF τ (aD eh 0) 2 T0:=O9 g30 rfl rfl (by decide) fun i x hx=>match i,hx with
  | 0,hx=>by cases hx;exact⟨_,_,_,_,_,_,rfl,rM,rN⟩
  | 1,hx=>by cases hx;exact⟨_,_,_,_,_,_,rfl,AT.nil,rN⟩
  | i+2,hx=>by simp[T0]at hx
 have ATb:=hg.mono hx;refine inst_spec ATb rT rS V3 (fun τ1 p' n' c' σ1 bs h0 hA Bc=>⟨_,_,_,_,rfl,?_⟩) fun σ1 Ah=>absurd (by rw[inst60]) Ah;rw[inst60]at hA;have X1:=Bc.trans hA.ext;refine AAi (ATb.mono X1) (rT.mono GF.mono X1) (rS.mono Dh.mono X1) fun b o e p2 c2 σ2 An VP=>⟨_,_,_,_,rfl,AAl (rT.mono GF.mono (X1.trans An)) fun σ3 BU=>⟨_,_,rfl,?_⟩⟩;have hA3:=(hA.mono (An.trans BU)).rd;have hn1:1=n':=hA3.1;subst hn1;obtain⟨QV,o57,p1,n1,c1,q1,m1,d1,rfl,hl,_,Ha,_⟩:=Dh.at hA3 (i:=0) (s:=⟨[],[(60,v8)]⟩) rfl;have NR:1=m1:=Ha.1;subst NR;refine⟨fun _=>⟨fun _=>⟨QV,o57,rfl,by decide,q1,1,d1,by simpa using hl.2.1,Sg ⟨_,rfl,.Hs (.refl _),fun o6 h62=>?_⟩⟩,fun hh=>absurd rfl hh⟩,fun hh=>absurd rfl hh⟩;obtain⟨gO,g62⟩:=js (o:=.cells #[.I 60,.U v8] 61 (0,0)) h62;refine Us (ps:=[(60,v8)]) (Ha.mono J5.mono gO) (O9 g62 rfl rfl (by decide) fun i x hx=>match i,hx with
  | 0,hx=>by cases hx;rfl
  | i+1,hx=>by simp at hx) ⟨_,rfl,fun _=>⟨fun _=>⟨fun _=>⟨b,o,rfl,by decide,p2,2,c2,(BU.trans gO).ld VP,fun _=>⟨fun _=>?_,fun hh=>absurd rfl hh⟩,fun hh=>absurd rfl hh⟩,fun hh=>absurd rfl hh⟩,fun hh=>absurd rfl hh⟩,fun hh=>by cases hh⟩
 exact h _ (hx.trans (X1.trans (An.trans (BU.trans gO))))
end
section
variable {σ σ':Hp}{R:Rr}{p:Option Addr}{n c:Nat}{ss:List Sr}
set_option maxRecDepth 100000 in
theorem ATc {x y : Operand} {a b a' b' : ByteArray} : YF prog (do eqGuard .neq 71 x y (.agg #[.string a,.string b]) (.agg #[.string a',.string b']); binOp .neq 71 (.agg #[.string a,.string b]) (.agg #[.string a',.string b'])) σ (.bool (!(a.toList == a'.toList && b.toList == b'.toList))) := fun w _ => by
 have u9 := underlying9
 have hS : prog.underlying 71 = some (.struct (prog.fieldsOf 71)) := by kernel_rfl
 have hp : prog.stoodInHeld 71 = false := by kernel_rfl
 have hf : (prog.fieldsOf 71).toList = [{ name := "Name",type := 9,offset := 0,embedded := false,tag := "",pkgPath := "",byteOffset := 0 },{ name := "Value",type := 9,offset := 1,embedded := false,tag := "",pkgPath := "",byteOffset := 16 }] := by kernel_rfl
 simp only [Sem.run_bind,run_eqGuard_agg _ _ _ _ _ _ _ (show prog.eqGuardType prog.depth 71 = false by kernel_rfl),Result.andThen_ok,run_neq_struct]
 rw [show (10000 : Nat) = 9999 + 1 from rfl,run_equalIn_agg w 9999 71 _ _ hS hp,hf]
 simp only [Op.eqFields]
 go_simp
 by_cases h1 : a.toList = a'.toList <;> by_cases h2 : b.toList = b'.toList <;> simp [h1,h2]
theorem nW {p p':Option Addr}{n n' c c':Nat}{ls:List Lb}(h1:Dy σ p n ls)(h2:Dy σ p' n' ls)(hR:R (.B true) σ):Spec prog 32 #[.slice p n c,.slice p' n' c'] σ R:=by
 have e1:ls.length=n:=h1.1;have e2:ls.length=n':=h2.1;refine EU.start ⟨fun Ah=>absurd (by omega) Ah,fun _=>?_⟩
 suffices H:∀d i:Nat,n-i=d→i≤n→EU.Aw R p n c p' n' c' i σ from H n 0 rfl (AiR _)
 intro d
 induction d with
 | zero=>exact fun i hd hi=>EU.Ay ⟨fun Aq=>by omega,fun _=>hR⟩
 | succ d ih=>
  intro i hd hi;obtain⟨x,hx⟩:=h1.ex (show i<n by omega);obtain⟨b,o,rfl,l1⟩:=Dy.at h1 hx;obtain⟨b',o',rfl,l2⟩:=Dy.at h2 hx;exact EU.Ay ⟨fun _=>⟨b,o,rfl,by omega,x.1,x.2,by simpa using l1,b',o',rfl,by omega,x.1,x.2,by simpa using l2,_,ATc,fun hh=>by simp at hh,fun _=>⟨AJ (by omega) h1.big,ih (i+1) (by omega) (by omega)⟩⟩,fun hh=>by omega⟩
theorem M5 {q:Option Addr}{m d:Nat}(h1:AT 2 Dh σ p n ss)(h2:AT 2 Dh σ q m ss)(hR:R (.B true) σ):Spec prog 12 #[.slice p n c,.slice q m d] σ R:=by
 have e1:ss.length=n:=h1.1;have e2:ss.length=m:=h2.1;refine ER.start ⟨fun Ah=>absurd (by omega) Ah,fun _=>?_⟩
 suffices H:∀d' i:Nat,n-i=d'→i≤n→ER.Aw R p n c q m d i σ from H n 0 rfl (AiR _)
 intro d'
 induction d' with
 | zero=>exact fun i hd hi=>ER.Ay ⟨fun Aq=>by omega,fun _=>hR⟩
 | succ d' ih=>
  intro i hd hi;obtain⟨x,hx⟩:=h1.ex (show i<n by omega);obtain⟨b,o,p1,k1,c1,q1,m1,d1,rfl,l1,AaI,AaJ,_⟩:=Dh.at h1 hx;obtain⟨b',o',p2,k2,c2,q2,m2,d2,rfl,l2,AaK,AaL,_⟩:=Dh.at h2 hx;exact ER.Ay ⟨fun _=>⟨b,o,rfl,by omega,p1,k1,c1,by simpa using l1.1,b',o',rfl,by omega,p2,k2,c2,by simpa using l2.1,nW AaI AaK ⟨_,rfl,fun hh=>(by cases hh),fun _=>⟨by omega,q1,m1,d1,by simpa using l1.2.1,by omega,q2,m2,d2,by simpa using l2.2.1,Us AaJ AaL ⟨_,rfl,fun hh=>(by cases hh),fun _=>⟨AJ (by omega) h1.big,ih (i+1) (by omega) (by omega)⟩⟩⟩⟩⟩,fun hh=>by omega⟩
set_option maxRecDepth 100000 in
theorem ATd {x y : Operand} {k k' : Int} {a b a' b' : ByteArray} : YF prog (do eqGuard .neq 75 x y (.agg #[.I k,.string a,.string b]) (.agg #[.I k',.string a',.string b']); binOp .neq 75 (.agg #[.I k,.string a,.string b]) (.agg #[.I k',.string a',.string b'])) σ (.bool (!(k == k' && (a.toList == a'.toList && b.toList == b'.toList)))) := fun w _ => by
 have u9 := underlying9
 have u3 := underlying3
 have hS : prog.underlying 75 = some (.struct (prog.fieldsOf 75)) := by kernel_rfl
 have hp : prog.stoodInHeld 75 = false := by kernel_rfl
 have hf : (prog.fieldsOf 75).toList = [{ name := "Kind",type := 3,offset := 0,embedded := false,tag := "",pkgPath := "",byteOffset := 0 },{ name := "Name",type := 9,offset := 1,embedded := false,tag := "",pkgPath := "",byteOffset := 8 },{ name := "Value",type := 9,offset := 2,embedded := false,tag := "",pkgPath := "",byteOffset := 24 }] := by kernel_rfl
 simp only [Sem.run_bind,run_eqGuard_agg _ _ _ _ _ _ _ (show prog.eqGuardType prog.depth 75 = false by kernel_rfl),Result.andThen_ok,run_neq_struct]
 rw [show (10000 : Nat) = 9999 + 1 from rfl,run_equalIn_agg w 9999 75 _ _ hS hp,hf]
 simp only [Op.eqFields]
 go_simp
 by_cases h0 : k = k' <;> by_cases h1 : a.toList = a'.toList <;> by_cases h2 : b.toList = b'.toList <;> simp [h0,h1,h2]
theorem jt {p p':Option Addr}{n n' c c':Nat}{ms:List Mt}(h1:AT 3 Jt σ p n ms)(h2:AT 3 Jt σ p' n' ms)(hR:R (.B true) σ):Spec prog 30 #[.slice p n c,.slice p' n' c'] σ R:=by
 have e1:ms.length=n:=h1.1;have e2:ms.length=n':=h2.1;refine DV.start ⟨fun Ah=>absurd (by omega) Ah,fun _=>?_⟩
 suffices H:∀d i:Nat,n-i=d→i≤n→DV.Aw R p n c p' n' c' i σ from H n 0 rfl (AiR _)
 intro d
 induction d with
 | zero=>exact fun i hd hi=>DV.Ay ⟨fun Aq=>by omega,fun _=>hR⟩
 | succ d ih=>
  intro i hd hi;obtain⟨x,hx⟩:=h1.ex (show i<n by omega);obtain⟨b,o,rfl,l1⟩:=Jt.at h1 hx;obtain⟨b',o',rfl,l2⟩:=Jt.at h2 hx;exact DV.Ay ⟨fun _=>⟨b,o,rfl,by unfold In;omega,x.kind,x.name,x.val,by simpa using l1,b',o',rfl,by unfold In;omega,x.kind,x.name,x.val,by simpa using l2,_,ATd,fun hh=>by simp at hh,fun _=>⟨AJ (by omega) h1.big,ih (i+1) (by omega) (by omega)⟩⟩,fun hh=>by omega⟩
theorem ju {p p':Option Addr}{n n' c c':Nat}{ns:List ByteArray}(h1:G6 1 σ p n (ns.map .string))(h2:G6 1 σ p' n' (ns.map .string))(hR:R (.B true) σ):Spec prog 31 #[.slice p n c,.slice p' n' c'] σ R:=by
 have e1:ns.length=n:=by have:=h1.1;rw[Aii,AjX]at this;exact this
 have e2:ns.length=n':=by have:=h2.1;rw[Aii,AjX]at this;exact this
 refine FC.start ⟨fun Ah=>absurd (by omega) Ah,fun _=>?_⟩
 suffices H:∀d i:Nat,n-i=d→i≤n→FC.Aw R p n c p' n' c' i σ from H n 0 rfl (AiR _)
 intro d
 induction d with
 | zero=>exact fun i hd hi=>FC.Ay ⟨fun Aq=>by omega,fun _=>hR⟩
 | succ d ih=>
  intro i hd hi;obtain⟨x,hx⟩:∃x,ns[i]?=some x:=⟨_,AiN (by omega)⟩;have hb1:=h1.2.1;rcases h1.2.2 with h0|⟨b,o,hp,l1⟩
  ·omega
  rcases h2.2.2 with h0|⟨b',o',hp',l2⟩
  ·omega
  have g1:σ.ld ⟨b,o+i,none⟩=some (.string x):=l1.get (by rw[Ait,hx];rfl);have g2:σ.ld ⟨b',o'+i,none⟩=some (.string x):=l2.get (by rw[Ait,hx];rfl);refine FC.Ay ⟨fun _=>⟨b,o,hp,by unfold In;omega,x,by simpa using g1,b',o',hp',by unfold In;omega,x,by simpa using g2,fun hh=>?_,fun _=>⟨AJ (by omega) hb1,?_⟩⟩,fun hh=>by omega⟩
  ·rw[beq_self_eq_true]at hh;cases hh
  ·have:=ih (i+1) (by omega) (by omega);rw[show((i+1:Nat):Int)=(i:Int)+1 by omega]at this;rw[gA hp,gA hp'];exact this
abbrev nX:Obj:=.cells #[.I 0,.I 0,(.string (ByteArray.mk #[])),.N,.I 0,.I 0,.I 0,.N,.bool false,.I 0] 44 (0,0)
theorem AD4 {b:Nat}{Φ:Unit→Hp→Prop}{n:Nd}{p q:Option Addr}{k c m d:Nat}(h:Φ () (σ.set b (.cells (ndC n p k c q m d) 44 (0,0)))):AK prog (Instr.storeAt 44 (.pointer (some ⟨b,0,none⟩)) (KD n p k c q m d)) (σ.set b nX) Φ:=by
 refine AK.store yx (Hp.AA _ _ _) rfl (by simp) (by simp[Value.cells,Value.oneCell']) ?_;rw[Hp.set_set];rw[show(KD n p k c q m d).cells=ndC n p k c q m d from rfl,SF (by rfl)];exact h
theorem jv {p p':Option Addr}{n n' c c':Nat}{T:List Nd}(h1:AT 10 GF σ p n T)(h2:AT 10 GF σ p' n' T)(hR:∀σ',Ext σ σ'→R (.B true) σ'):Spec prog 11 #[.slice p n c,.slice p' n' c'] σ R:=by
 have e1:T.length=n:=h1.1;have e2:T.length=n':=h2.1;refine Ce.start ⟨fun Ah=>absurd (by omega) Ah,fun _=>?_⟩
 suffices H:∀d i:Nat,∀σ',n-i=d→i≤n→Ext σ σ'→Ce.Aw R p n c p' n' c' (i:Int) σ' from H n 0 σ rfl (AiR _) (.refl _)
 intro d
 induction d with
 | zero=>exact fun i σ' hd hi hx=>Ce.Ay ⟨fun Aq=>by omega,fun _=>hR σ' hx⟩
 | succ d ih=>
  intro i σ' hd hi hx;obtain⟨x,qN⟩:=h1.ex (show i<n by omega);obtain⟨b,o,p1,k1,c1,q1,m1,d1,rfl,QD,NR,hn1⟩:=GF.at (h1.mono GF.mono hx) qN;obtain⟨b',o',p2,k2,c2,q2,m2,d2,rfl,VP,sP,po⟩:=GF.at (h2.mono GF.mono hx) qN;have go:∀b6,σ' b6=none→AK prog (Instr.storeAt 44 (.pointer (aD b6 0)) (KD x p1 k1 c1 q1 m1 d1)) (Hp.set σ' b6 nX) (fun _ y=>Kp [b'] (Hp.set σ' b6 nX) y∧LI .i64 y b6 0 fun QN=>Br (QN≠x.kind) (R (.B false) y) (LI .i64 y b6 1 fun TR=>Br (TR≠x.op) (R (.B false) y) (LT y b6 2 fun s41=>Bn (ByteArray.toList s41==ByteArray.toList x.text) (R (.B false) y) (LS y b6 3 fun p48 n48 c48=>Spec prog 30 #[.slice p48 n48 c48,.slice p2 k2 c2] y (BB R (CB fun t51 AB=>Bn t51 (R (.B false) AB) (LI .i64 AB b6 4 fun oZ=>Br (oZ≠x.width) (R (.B false) AB) (LI .i64 AB b6 5 fun JR=>Br (JR≠x.back) (R (.B false) AB) (LI .i64 AB b6 6 fun va=>Br (va≠x.BW) (R (.B false) AB) (LS AB b6 7 fun vk vm vo=>Spec prog 31 #[.slice vk vm vo,.slice q2 m2 d2] AB (BB R (CB fun t80 AI=>Bn t80 (R (.B false) AI) (LB AI b6 8 fun t85=>Bo t85 (Bo x.bool (LI .i64 AI b6 9 fun lX=>Br (lX≠x.parts) (R (.B false) AI) (AG ((i:Int)+1)∧Ce.Aw R (aD b o) n c (aD b' o') n' c' ((i:Int)+1) AI)) (R (.B false) AI)) (Bo x.bool (R (.B false) AI) (LI .i64 AI b6 9 fun lX=>Br (lX≠x.parts) (R (.B false) AI) (AG ((i:Int)+1)∧Ce.Aw R (aD b o) n c (aD b' o') n' c' ((i:Int)+1) AI)))))))))))))))):=fun b6 hb6=>AD4 (by
   have x6:=Ext.set (o:=.cells (ndC x p1 k1 c1 q1 m1 d1) 44 (0,0)) hb6;have c6:=Hp.AA σ' b6 (.cells (ndC x p1 k1 c1 q1 m1 d1) 44 (0,0));have nx:AG ((i:Int)+1)∧Ce.Aw R (aD b o) n c (aD b' o') n' c' ((i:Int)+1) (σ'.set b6 (.cells (ndC x p1 k1 c1 q1 m1 d1) 44 (0,0))):=⟨AJ (by omega) h1.big,by
    have:=ih (i+1) (σ'.set b6 (.cells (ndC x p1 k1 c1 q1 m1 d1) 44 (0,0))) (by omega) (by omega) (hx.trans x6);rw[show((i+1:Nat):Int)=(i:Int)+1 by omega]at this;exact this⟩
   refine⟨fun k hk u hu=>?_,x.kind,Aj c6 rfl,fun hh=>absurd rfl hh,fun _=>⟨x.op,Aj c6 rfl,fun hh=>absurd rfl hh,fun _=>⟨x.text,Aj c6 rfl,fun hh=>(by rw[beq_self_eq_true]at hh;cases hh),fun _=>⟨p1,k1,c1,Aj c6 rfl,jt (NR.mono Jt.mono x6) (sP.mono Jt.mono x6) ⟨_,rfl,fun hh=>(by cases hh),fun _=>⟨x.width,Aj c6 rfl,fun hh=>absurd rfl hh,fun _=>⟨x.back,Aj c6 rfl,fun hh=>absurd rfl hh,fun _=>⟨x.BW,Aj c6 rfl,fun hh=>absurd rfl hh,fun _=>⟨q1,m1,d1,Aj c6 rfl,ju (hn1.mono x6) (po.mono x6) ⟨_,rfl,fun hh=>(by cases hh),fun _=>⟨x.bool,Aj c6 rfl,fun ht=>⟨fun _=>⟨x.parts,Aj c6 rfl,fun hh=>absurd rfl hh,fun _=>nx⟩,fun hf=>(by rw[ht]at hf;cases hf)⟩,fun hf=>⟨fun ht=>(by rw[ht]at hf;cases hf),fun _=>⟨x.parts,Aj c6 rfl,fun hh=>absurd rfl hh,fun _=>nx⟩⟩⟩⟩⟩⟩⟩⟩⟩⟩⟩⟩⟩;rw[AiY]at hk;subst hk;have Ah:k≠b6:=fun e=>by
    have h9:=VP.1;rw[e]at h9;simp[Hp.ld,hb6]at h9
   rw[Hp.AM Ah]at hu ⊢;exact hu)
  exact Ce.Ay ⟨fun _=>⟨b,o,rfl,by unfold In;omega,_,_,_,_,_,_,_,_,_,_,_,_,_,_,by simpa using QD,b',o',rfl,by unfold In;omega,_,_,_,_,_,_,_,_,_,_,_,_,_,_,by simpa using VP,fun b6 hb6 _=>go b6 hb6,fun _ b6 hb6=>go b6 hb6⟩,fun hh=>by omega⟩
end
section
variable {σ:Hp}{R:Rr}
abbrev ChA (s:ByteArray)(k:Nat):Prop:=∃m:Nat,((m=0∧vl 0 128 191 (s.data.toList.drop k)=false)∨(1≤m∧k+m≤s.size∧vl 0 128 191 (s.data.toList.drop k)=vl 0 128 191 (s.data.toList.drop (k+m))))∧∀{σ:Hp} {R:Rr},R (.returned (.I (m:Int))) σ→Spec prog 102 #[.string s,.I (k:Int)] σ R
theorem Hb {s:ByteArray}{k i n v:Nat}{least:Int}{u:UInt8}(hk:k+i≤1000000000)(hi:i<n)(hu:s.data.toList[k+i]?=some u)(h1:¬(128≤u.toNat∧u.toNat≤191))(h:R (.returned (.I 0)) σ):AW.Zc R s (k:Int) (n:Int) least (v:Int) (i:Int) σ:=by
 have EG:s.data[Int.toNat ((k:Int)+(i:Int))]?=some u:=by
  rw[show Int.toNat ((k:Int)+(i:Int))=k+i by omega];simpa using hu
 refine AW.dF ⟨fun _=>⟨by unfold AG;omega,u,by omega,EG,fun gO h62=>⟨fun Ah=>h,fun heq=>?_⟩⟩,fun hh=>by omega⟩;rw[h62,AAN]at heq;have Aq:u.toNat<256:=u.toNat_lt;exact absurd (show((u.toNat/64*64:Nat):Int)≠128 by omega) heq
theorem J0 {s:ByteArray}{k:Int}{n:Nat}{least v:Int}(h0:(least≤v∧v≤1114111∧¬(55296≤v∧v≤57343))→R (.returned (.I (n:Int))) σ)(h1:¬(least≤v∧v≤1114111∧¬(55296≤v∧v≤57343))→R (.returned (.I 0)) σ):AW.Zc R s k (n:Int) least v (n:Int) σ:=by
 refine AW.dF ⟨fun hh=>by omega,fun _=>⟨fun h2=>h1 (by omega),fun h2=>⟨fun h3=>h1 (by omega),fun h3=>⟨fun h4=>⟨fun h5=>h1 (by omega),fun h5=>h0 (by omega)⟩,fun h4=>h0 (by omega)⟩⟩⟩⟩
theorem Hc {m lo hi:Nat}{L:List UInt8}{k:Nat}{u:UInt8}(hu:L[k]?=some u):vl (m+1) lo hi (L.drop k)=if u.toNat<lo∨hi<u.toNat then false else vl m 128 191 (L.drop (k+1)):=by
 rw[Ey hu,vl]
theorem MC {m lo hi:Nat}{L:List UInt8}{k:Nat}(h:L.length≤k):vl (m+1) lo hi (L.drop k)=false:=by
 rw[Aib h];rfl
theorem Pj {m lo hi:Nat}{L:List UInt8}{k:Nat}{u:UInt8}(hu:L[k]?=some u)(h1:¬(128≤u.toNat∧u.toNat≤191))(jE:128≤lo)(ZG:hi≤191):vl (m+1) lo hi (L.drop k)=false:=by
 rw[Hc hu,AiL (by omega)]
theorem AAm {s:ByteArray}{k:Nat}(hk:k<s.size)(hs:s.size≤1000000):ChA s k:=by
 have J2:s.data.toList.length=s.size:=rfl;obtain⟨u,hu⟩:∃u,s.data.toList[k]?=some u:=⟨_,AiN (by omega)⟩;have EG:s.data[Int.toNat (k:Int)]?=some u:=by simpa using hu
 have Aq:u.toNat<256:=u.toNat_lt;have get:∀j,j<s.size→∃w,s.data.toList[j]?=some w:=fun j hj=>⟨_,AiN (by omega)⟩;have hv:vl 0 128 191 (s.data.toList.drop k)=if u.toNat<128 then vl 0 128 191 (s.data.toList.drop (k+1)) else if 194≤u.toNat∧u.toNat≤223 then vl 1 128 191 (s.data.toList.drop (k+1)) else if 224≤u.toNat∧u.toNat≤239 then(if u.toNat=224 then vl 2 160 191 (s.data.toList.drop (k+1)) else if u.toNat=237 then vl 2 128 159 (s.data.toList.drop (k+1)) else vl 2 128 191 (s.data.toList.drop (k+1))) else if 240≤u.toNat∧u.toNat≤244 then(if u.toNat=240 then vl 3 144 191 (s.data.toList.drop (k+1)) else if u.toNat=244 then vl 3 128 143 (s.data.toList.drop (k+1)) else vl 3 128 191 (s.data.toList.drop (k+1))) else false:=by
  rw[Ey hu,vl]
 by_cases h1:u.toNat<128
 ·rw[AiL h1]at hv;exact⟨1,.inr ⟨by decide,by omega,hv⟩,fun {σ R} h=>AW.start ⟨u,by omega,EG,fun _=>h,fun hh=>by omega⟩⟩
 rw[AiK h1]at hv;by_cases h2:192≤u.toNat∧u.toNat<224
 ·
  have enter:∀{σ:Hp} {R:Rr},AW.Gj R s (k:Int) 2 128 ((u.toNat%32:Nat):Int) σ→Spec prog 102 #[.string s,.I (k:Int)] σ R:=fun {σ R} h=>AW.start ⟨u,by omega,EG,fun hh=>by omega,fun _=>⟨fun _=>⟨fun _ JG h24 Kz h25=>by
   rw[ASq]at h24;have e:Kz=((u.toNat%32:Nat):Int):=by rw[h25,h24];exact wrap32 (by omega)
   rw[e];exact h,fun hh=>by omega⟩,fun hh=>by omega⟩⟩
  have bad:vl 0 128 191 (s.data.toList.drop k)=false→(∀{σ:Hp} {R:Rr},R (.returned (.I 0)) σ→AW.Gj R s (k:Int) 2 128 ((u.toNat%32:Nat):Int) σ)→ChA s k:=fun hf hb=>⟨0,.inl ⟨rfl,hf⟩,fun {σ R} h=>enter (hb h)⟩;by_cases nY:s.size<k+2
  ·refine bad ?_ fun {σ R} h=>AW.HH ⟨by unfold AG;omega,fun _=>h,fun hh=>by omega⟩;rw[hv];split
   ·exact MC (by omega)
   ·rw[AiK (by omega),AiK (by omega)]
  obtain⟨u1,a1⟩:=get (k+1) (by omega);have AhD:u1.toNat<256:=u1.toNat_lt;have nZ:∀{σ:Hp} {R:Rr},AW.Zc R s (k:Int) ((2:Nat):Int) 128 ((u.toNat%32:Nat):Int) ((1:Nat):Int) σ→AW.Gj R s (k:Int) 2 128 ((u.toNat%32:Nat):Int) σ:=fun {σ R} h=>AW.HH ⟨by unfold AG;omega,fun hh=>by omega,fun _=>h⟩;by_cases c1:128≤u1.toNat∧u1.toNat≤191
  ·by_cases h94:194≤u.toNat
   ·rw[AiL (by omega),Hc a1,AiK (by omega)]at hv;exact⟨2,.inr ⟨by decide,by omega,hv⟩,fun {σ R} h=>enter (nZ (A1 (by omega) (by decide) a1 c1 (by omega) (J0 (n:=2) (fun _=>h) fun Cg=>absurd (by omega) Cg)))⟩
   ·rw[AiK (by omega),AiK (by omega),AiK (by omega)]at hv;exact bad hv fun {σ R} h=>nZ (A1 (by omega) (by decide) a1 c1 (by omega) (J0 (n:=2) (fun AKk=>by omega) fun _=>h))
  ·refine bad ?_ fun {σ R} h=>nZ (Hb (by omega) (by decide) a1 c1 h);rw[hv];split
   ·exact Pj a1 c1 (by decide) (by decide)
   ·rw[AiK (by omega),AiK (by omega)]
 rw[AiK (by omega)]at hv;by_cases h3:224≤u.toNat∧u.toNat<240
 ·
  rw[AiL (by omega)]at hv;have enter:∀{σ:Hp} {R:Rr},AW.Gj R s (k:Int) 3 2048 ((u.toNat%16:Nat):Int) σ→Spec prog 102 #[.string s,.I (k:Int)] σ R:=fun {σ R} h=>AW.start ⟨u,by omega,EG,fun hh=>by omega,fun _=>⟨fun _=>⟨fun hh=>by omega,fun _=>⟨fun _=>⟨fun _ TR h34 QG h35=>by
   rw[ASr]at h34;have e:QG=((u.toNat%16:Nat):Int):=by rw[h35,h34];exact wrap32 (by omega)
   rw[e];exact h,fun hh=>by omega⟩,fun hh=>by omega⟩⟩,fun hh=>by omega⟩⟩
  have bad:vl 0 128 191 (s.data.toList.drop k)=false→(∀{σ:Hp} {R:Rr},R (.returned (.I 0)) σ→AW.Gj R s (k:Int) 3 2048 ((u.toNat%16:Nat):Int) σ)→ChA s k:=fun hf hb=>⟨0,.inl ⟨rfl,hf⟩,fun {σ R} h=>enter (hb h)⟩;obtain⟨lo,hi,jE,ZG,hlh,hv⟩:∃lo hi,128≤lo∧hi≤191∧((u.toNat=224∧lo=160∧hi=191)∨(u.toNat=237∧lo=128∧hi=159)∨(u.toNat≠224∧u.toNat≠237∧lo=128∧hi=191))∧vl 0 128 191 (s.data.toList.drop k)=vl 2 lo hi (s.data.toList.drop (k+1)):=by
   by_cases e1:u.toNat=224
   ·rw[AiL e1]at hv;exact⟨160,191,by decide,by decide,.inl ⟨e1,rfl,rfl⟩,hv⟩
   ·rw[AiK e1]at hv;by_cases e2:u.toNat=237
    ·rw[AiL e2]at hv;exact⟨128,159,by decide,by decide,.inr (.inl ⟨e2,rfl,rfl⟩),hv⟩
    ·rw[AiK e2]at hv;exact⟨128,191,by decide,by decide,.inr (.inr ⟨e1,e2,rfl,rfl⟩),hv⟩
  have nZ:s.size≥k+3→∀{σ:Hp} {R:Rr},AW.Zc R s (k:Int) ((3:Nat):Int) 2048 ((u.toNat%16:Nat):Int) ((1:Nat):Int) σ→AW.Gj R s (k:Int) 3 2048 ((u.toNat%16:Nat):Int) σ:=fun hh {σ R} h=>AW.HH ⟨by unfold AG;omega,fun hh=>by omega,fun _=>h⟩;by_cases nY:s.size<k+3
  ·refine bad ?_ fun {σ R} h=>AW.HH ⟨by unfold AG;omega,fun _=>h,fun hh=>by omega⟩;rw[hv];by_cases hs2:s.size<k+2
   ·exact MC (by omega)
   ·obtain⟨u1,a1⟩:=get (k+1) (by omega);rw[Hc a1];split
    ·rfl
    ·exact MC (by omega)
  obtain⟨u1,a1⟩:=get (k+1) (by omega);obtain⟨u2,a2⟩:=get (k+2) (by omega);by_cases c1:128≤u1.toNat∧u1.toNat≤191
  ·by_cases c2:128≤u2.toNat∧u2.toNat≤191
   ·rw[Hc a1]at hv;by_cases By:u1.toNat<lo∨hi<u1.toNat
    ·rw[AiL By]at hv;exact bad hv fun {σ R} h=>nZ (by omega) (A1 (by omega) (by decide) a1 c1 (by omega) (A1 (by omega) (by decide) a2 c2 (by omega) (J0 (n:=3) (fun AKk=>by omega) fun _=>h)))
    ·rw[AiK By,Hc a2,AiK (by omega)]at hv;exact⟨3,.inr ⟨by decide,by omega,hv⟩,fun {σ R} h=>enter (nZ (by omega) (A1 (by omega) (by decide) a1 c1 (by omega) (A1 (by omega) (by decide) a2 c2 (by omega) (J0 (n:=3) (fun _=>h) fun Cg=>absurd (by omega) Cg))))⟩
   ·refine bad ?_ fun {σ R} h=>nZ (by omega) (A1 (by omega) (by decide) a1 c1 (by omega) (Hb (by omega) (by decide) a2 c2 h));rw[hv,Hc a1];split
    ·rfl
    ·exact Pj a2 c2 (by decide) (by decide)
  ·refine bad ?_ fun {σ R} h=>nZ (by omega) (Hb (by omega) (by decide) a1 c1 h);rw[hv];exact Pj a1 c1 jE ZG
 rw[AiK (by omega)]at hv;by_cases h4:240≤u.toNat∧u.toNat<248
 ·
  have enter:∀{σ:Hp} {R:Rr},AW.Gj R s (k:Int) 4 65536 ((u.toNat%8:Nat):Int) σ→Spec prog 102 #[.string s,.I (k:Int)] σ R:=fun {σ R} h=>AW.start ⟨u,by omega,EG,fun hh=>by omega,fun _=>⟨fun _=>⟨fun hh=>by omega,fun _=>⟨fun _=>⟨fun hh=>by omega,fun _=>⟨fun _=>⟨fun _ Vk h44 j6 h45=>by
   rw[AY1]at h44;have e:j6=((u.toNat%8:Nat):Int):=by rw[h45,h44];exact wrap32 (by omega)
   rw[e];exact h,fun hh=>by omega⟩,fun hh=>by omega⟩⟩,fun hh=>by omega⟩⟩,fun hh=>by omega⟩⟩
  have bad:vl 0 128 191 (s.data.toList.drop k)=false→(∀{σ:Hp} {R:Rr},R (.returned (.I 0)) σ→AW.Gj R s (k:Int) 4 65536 ((u.toNat%8:Nat):Int) σ)→ChA s k:=fun hf hb=>⟨0,.inl ⟨rfl,hf⟩,fun {σ R} h=>enter (hb h)⟩;have nZ:s.size≥k+4→∀{σ:Hp} {R:Rr},AW.Zc R s (k:Int) ((4:Nat):Int) 65536 ((u.toNat%8:Nat):Int) ((1:Nat):Int) σ→AW.Gj R s (k:Int) 4 65536 ((u.toNat%8:Nat):Int) σ:=fun hh {σ R} h=>AW.HH ⟨by unfold AG;omega,fun hh=>by omega,fun _=>h⟩;by_cases h44:u.toNat≤244
  ·rw[AiL (by omega)]at hv;obtain⟨lo,hi,jE,ZG,hlh,hv⟩:∃lo hi,128≤lo∧hi≤191∧((u.toNat=240∧lo=144∧hi=191)∨(u.toNat=244∧lo=128∧hi=143)∨(u.toNat≠240∧u.toNat≠244∧lo=128∧hi=191))∧vl 0 128 191 (s.data.toList.drop k)=vl 3 lo hi (s.data.toList.drop (k+1)):=by
    by_cases e1:u.toNat=240
    ·rw[AiL e1]at hv;exact⟨144,191,by decide,by decide,.inl ⟨e1,rfl,rfl⟩,hv⟩
    ·rw[AiK e1]at hv;by_cases e2:u.toNat=244
     ·rw[AiL e2]at hv;exact⟨128,143,by decide,by decide,.inr (.inl ⟨e2,rfl,rfl⟩),hv⟩
     ·rw[AiK e2]at hv;exact⟨128,191,by decide,by decide,.inr (.inr ⟨e1,e2,rfl,rfl⟩),hv⟩
   by_cases nY:s.size<k+4
   ·refine bad ?_ fun {σ R} h=>AW.HH ⟨by unfold AG;omega,fun _=>h,fun hh=>by omega⟩;rw[hv];by_cases hs2:s.size<k+2
    ·exact MC (by omega)
    obtain⟨u1,a1⟩:=get (k+1) (by omega);rw[Hc a1];split
    ·rfl
    by_cases hs3:s.size<k+3
    ·exact MC (by omega)
    obtain⟨u2,a2⟩:=get (k+2) (by omega);rw[Hc a2];split
    ·rfl
    ·exact MC (by omega)
   obtain⟨u1,a1⟩:=get (k+1) (by omega);obtain⟨u2,a2⟩:=get (k+2) (by omega);obtain⟨u3,a3⟩:=get (k+3) (by omega);by_cases c1:128≤u1.toNat∧u1.toNat≤191
   ·by_cases c2:128≤u2.toNat∧u2.toNat≤191
    ·by_cases c3:128≤u3.toNat∧u3.toNat≤191
     ·rw[Hc a1]at hv;by_cases By:u1.toNat<lo∨hi<u1.toNat
      ·rw[AiL By]at hv;exact bad hv fun {σ R} h=>nZ (by omega) (A1 (by omega) (by decide) a1 c1 (by omega) (A1 (by omega) (by decide) a2 c2 (by omega) (A1 (by omega) (by decide) a3 c3 (by omega) (J0 (n:=4) (fun AKk=>by omega) fun _=>h))))
      ·rw[AiK By,Hc a2,AiK (by omega),Hc a3,AiK (by omega)]at hv;exact⟨4,.inr ⟨by decide,by omega,hv⟩,fun {σ R} h=>enter (nZ (by omega) (A1 (by omega) (by decide) a1 c1 (by omega) (A1 (by omega) (by decide) a2 c2 (by omega) (A1 (by omega) (by decide) a3 c3 (by omega) (J0 (n:=4) (fun _=>h) fun Cg=>absurd (by omega) Cg)))))⟩
     ·refine bad ?_ fun {σ R} h=>nZ (by omega) (A1 (by omega) (by decide) a1 c1 (by omega) (A1 (by omega) (by decide) a2 c2 (by omega) (Hb (by omega) (by decide) a3 c3 h)));rw[hv,Hc a1];split
      ·rfl
      rw[Hc a2];split
      ·rfl
      ·exact Pj a3 c3 (by decide) (by decide)
    ·refine bad ?_ fun {σ R} h=>nZ (by omega) (A1 (by omega) (by decide) a1 c1 (by omega) (Hb (by omega) (by decide) a2 c2 h));rw[hv,Hc a1];split
     ·rfl
     ·exact Pj a2 c2 (by decide) (by decide)
   ·refine bad ?_ fun {σ R} h=>nZ (by omega) (Hb (by omega) (by decide) a1 c1 h);rw[hv];exact Pj a1 c1 jE ZG
  ·
   rw[AiK (by omega)]at hv;refine bad hv fun {σ R} h=>?_;by_cases nY:s.size<k+4
   ·exact AW.HH ⟨by unfold AG;omega,fun _=>h,fun hh=>by omega⟩
   obtain⟨u1,a1⟩:=get (k+1) (by omega);obtain⟨u2,a2⟩:=get (k+2) (by omega);obtain⟨u3,a3⟩:=get (k+3) (by omega);refine nZ (by omega) ?_;by_cases c1:128≤u1.toNat∧u1.toNat≤191
   ·by_cases c2:128≤u2.toNat∧u2.toNat≤191
    ·by_cases c3:128≤u3.toNat∧u3.toNat≤191
     ·exact A1 (by omega) (by decide) a1 c1 (by omega) (A1 (by omega) (by decide) a2 c2 (by omega) (A1 (by omega) (by decide) a3 c3 (by omega) (J0 (n:=4) (fun AKk=>by omega) fun _=>h)))
     ·exact A1 (by omega) (by decide) a1 c1 (by omega) (A1 (by omega) (by decide) a2 c2 (by omega) (Hb (by omega) (by decide) a3 c3 h))
    ·exact A1 (by omega) (by decide) a1 c1 (by omega) (Hb (by omega) (by decide) a2 c2 h)
   ·exact Hb (by omega) (by decide) a1 c1 h
 ·rw[AiK (by omega)]at hv;refine⟨0,.inl ⟨rfl,hv⟩,fun {σ R} h=>AW.start ⟨u,by omega,EG,fun hh=>by omega,fun _=>⟨fun _=>⟨fun hh=>by omega,fun _=>⟨fun _=>⟨fun hh=>by omega,fun _=>⟨fun _=>⟨fun hh=>by omega,fun _=>h⟩,fun hh=>by omega⟩⟩,fun hh=>by omega⟩⟩,fun _=>⟨fun hh=>by omega,fun _=>⟨fun hh=>by omega,fun _=>h⟩⟩⟩⟩⟩
theorem ng {s:ByteArray}(h:R (.returned (.bool (decide (1≤s.size∧s.size≤256)&&Oi s))) σ):Spec prog 64 #[.string s] σ R:=by
 refine Jl.start ⟨fun hh=>?_,fun h1=>⟨fun hh=>?_,fun h2=>?_⟩⟩
 ·rw[AiZ (by omega),AjN]at h;exact h
 ·rw[AiZ (by omega),AjN]at h;exact h
 rw[Aia (by omega),AjR]at h
 suffices H:∀g k:Nat,s.size-k=g→k≤s.size→Oi s=vl 0 128 191 (s.data.toList.drop k)→Jl.Aw R s (k:Int) σ from H s.size 0 rfl (AiR _) rfl
 intro g
 induction g using Nat.strongRecOn with
 | ind g ih=>
  intro k hg hk hv;by_cases Aq:k<s.size
  ·obtain⟨m,hm,m4⟩:=AAm Aq (by omega);refine Jl.Ay ⟨fun _=>m4 ⟨_,rfl,fun h0=>?_,fun Ah=>?_⟩,fun hh=>by omega⟩
   ·rcases hm with ⟨_,hf⟩|⟨h3,_⟩
    ·rw[hv,hf]at h;exact h
    ·omega
   ·rcases hm with ⟨h3,_⟩|⟨m1,m2,m3⟩
    ·subst h3;exact absurd rfl Ah
    ·refine⟨by unfold AG;omega,?_⟩;have:=ih (s.size-(k+m)) (by omega) (k+m) rfl m2 (hv.trans m3);rw[show((k+m:Nat):Int)=(k:Int)+(m:Int) by omega]at this;exact this
  ·refine Jl.Ay ⟨fun hh=>by omega,fun _=>?_⟩;rw[Aib (by show s.size≤k;omega)]at hv;rw[hv]at h;exact h
end
section
variable {σ:Hp}{R:Rr}
theorem nh {p:Option Addr}{n c:Nat}{ls:List Lb}(hr:Dy σ p n ls)(h:R (.returned (.I (GD ls))) σ):Spec prog 43 #[.slice p n c] σ R:=by
 have hn:ls.length=n:=hr.1;refine H5.start ⟨fun h1=>?_,fun h1=>?_⟩
 ·rw[GD,AiL (by omega)]at h;exact h
 rw[GD,AiK (by omega)]at h
 suffices H:∀g k:Nat,n-k=g→k≤n→GV none ls=GV (if k=0 then none else(ls[k-1]?).map (·.1)) (ls.drop k)→H5.Aw R p n c (k:Int) σ from H n 0 rfl (AiR _) rfl
 intro g
 induction g with
 | zero=>
  intro k hg hk he;refine H5.Ay ⟨fun hh=>by omega,fun _=>?_⟩;rw[Aib (by omega)]at he;have e:GV none ls=0:=by
   rw[he];cases(if k=0 then none else(ls[k-1]?).map (·.1))<;>rfl
  rw[e]at h;exact h
 | succ g ih=>
  intro k hg hk he;have Ei:k<n:=by omega
  obtain⟨x,hx⟩:=hr.ex Ei;obtain⟨b,o,rfl,NQ⟩:=Dy.at hr hx;rw[Ey hx]at he;have Vw:GV none ls=if DC x.1=false then 31 else if x.2.size=0∨256<x.2.size∨Oi x.2=false then 32 else if(if k=0 then none else(ls[k-1]?).map (·.1)).any (sle x.1 ·)=true then 33 else GV (some x.1) (ls.drop (k+1)):=by
   rw[he];cases(if k=0 then none else(ls[k-1]?).map (·.1))<;>rfl
  have next:DC x.1=true→¬(x.2.size=0∨256<x.2.size∨Oi x.2=false)→¬(if k=0 then none else(ls[k-1]?).map (·.1)).any (sle x.1 ·)=true→AG ((k:Int)+1)∧H5.Aw R (aD b o) n c ((k:Int)+1) σ:=fun e1 e2 e3=>by
   rw[AiK (by rw[e1];decide),AiK e2,AiK e3]at Vw;have:=ih (k+1) (by omega) (by omega) (by rw[AiK (by omega),AkE,hx];exact Vw);rw[show((k+1:Nat):Int)=(k:Int)+1 by omega]at this;exact⟨AJ Ei hr.big,this⟩
  refine H5.Ay ⟨fun _=>⟨b,o,rfl,by unfold In;omega,x.1,by simpa using NQ.1,RH ⟨_,rfl,fun hf=>?_,fun e1=>⟨by unfold In;omega,x.2,by simpa using NQ.2.1,ng ⟨_,rfl,fun hf=>?_,fun ht=>?_⟩⟩⟩⟩,fun hh=>by omega⟩
  ·rw[AiL hf]at Vw;rw[Vw]at h;exact h
  ·rw[AiK (by rw[e1];decide),AiL]at Vw
   ·rw[Vw]at h;exact h
   ·rw[AjW,Aik]at hf;rcases hf with hf|hf
    ·omega
    ·exact .inr (.inr hf)
  ·rw[AiS,AiW]at ht;have e2:¬(x.2.size=0∨256<x.2.size∨Oi x.2=false):=by
    rintro(h4|h4|h4)
    ·omega
    ·omega
    ·rw[ht.2]at h4;cases h4
   refine⟨fun WE=>?_,fun h0=>next e1 e2 ?_⟩
   ·obtain⟨y,hy⟩:=hr.ex (show k-1<n by omega);obtain⟨b',o',hp',SC⟩:=Dy.at hr hy;cases hp';have ek:Int.toNat ((k:Int)-1)=k-1:=by omega
    have hpv:(if k=0 then none else(ls[k-1]?).map (·.1))=some y.1:=by rw[AiK (by omega),hy];rfl
    rw[hpv]at Vw;refine⟨by unfold In;omega,x.1,by simpa using NQ.1,by unfold AG;omega,by unfold In;omega,y.1,by rw[ek];simpa using SC.1,_,yh,fun ht2=>?_,fun hf2=>next e1 e2 ?_⟩
    ·rw[AiK (by rw[e1];decide),AiK e2,AiL (show(some y.1).any (sle x.1 ·)=true from ht2)]at Vw;rw[Vw]at h;exact h
    ·rw[hpv];show ¬sle x.1 y.1=true
     rw[hf2];decide
   ·have hk0:k=0:=by omega
    rw[AiL hk0];simp
def AD5 (q:Option (List Lb))(l:List Lb):Bool:=match q with
 | none=>true
 | some q=>decide (BX q l<0)
theorem AD6 {ps:List Pt}{i:Nat}{x y:Pt}(hx:ps[i]?=some x)(hy:ps[i+1]?=some y)(h:y.1≤x.1):Kx ps=false:=by
 cases hq:Kx ps with
 | false=>rfl
 | true=>
  have:=((Lq _).1 hq).2 i x y hx hy;omega
theorem jw {p:Option Addr}{n c:Nat}{ss:List Sr}(hr:AT 2 Dh σ p n ss)(h:R (.returned (.I (if D1 none ss then 0 else 100))) σ):Spec prog 18 #[.slice p n c] σ R:=by
 have hn:ss.length=n:=hr.1;refine DX.start ?_
 suffices H:∀g k:Nat,n-k=g→k≤n→D1 none ss=D1 (if k=0 then none else(ss[k-1]?).map (·.ls)) (ss.drop k)→DX.Fm R p n c (k:Int) σ from H n 0 rfl (AiR _) rfl
 intro g
 induction g with
 | zero=>
  intro k hg hk he;refine DX.As ⟨fun hh=>by omega,fun _=>?_⟩;rw[Aib (by omega)]at he;have e:D1 none ss=true:=by
   rw[he];cases(if k=0 then none else(ss[k-1]?).map (·.ls))<;>rfl
  rw[e]at h;exact h
 | succ g ih=>
  intro k hg hk he;have Ei:k<n:=by omega
  obtain⟨s,hs⟩:=hr.ex Ei;obtain⟨b,o,p1,n1,c1,q,m,d,rfl,GZ,h1,h2,h3⟩:=Dh.at hr hs;have he:D1 none ss=(decide (GD s.ls=0)&&Kx s.ps&&AD5 (if k=0 then none else(ss[k-1]?).map (·.ls)) s.ls&&D1 (some s.ls) (ss.drop (k+1))):=by
   rw[he,A0 hs,Lr];cases(if k=0 then none else(ss[k-1]?).map (·.ls))<;>rfl
  have hm:s.ps.length=m:=h2.1;have bad:(decide (GD s.ls=0)&&Kx s.ps&&(AD5 (if k=0 then none else(ss[k-1]?).map (·.ls)) s.ls))=false→R (.returned (.I 100)) σ:=fun hf=>by
   rw[hf,AjN]at he;rw[he]at h;exact h
  have next:GD s.ls=0→Kx s.ps=true→(AD5 (if k=0 then none else(ss[k-1]?).map (·.ls)) s.ls)=true→DX.Fm R (aD b o) n c ((k:Int)+1) σ:=fun e1 e2 e3=>by
   rw[e3,e2,Aia e1]at he;have:=ih (k+1) (by omega) (by omega) (by rw[AiK (by omega),AkE,hs];simpa using he);rw[show((k+1:Nat):Int)=(k:Int)+1 by omega]at this;exact this
  have ZH:GD s.ls=0→0<m→(AD5 (if k=0 then none else(ss[k-1]?).map (·.ls)) s.ls)=true→∀g i:Nat,m-i=g→1≤i→i≤m→(∀j a b,j+1<i→s.ps[j]?=some a→s.ps[j+1]?=some b→a.1<b.1)→DX.Pv R (aD b o) n c (k:Int) (i:Int) σ:=by
   intro e1 uE e3 g
   induction g with
   | zero=>
    intro i jH h1i hi mh;have F1:Kx s.ps=true:=(Lq _).2 ⟨by omega,fun j a b ha hb=>mh j a b (by have:=(List.getElem?_eq_some_iff.1 hb).1;omega) ha hb⟩;exact DX.Mj ⟨b,o,rfl,by unfold In;omega,q,m,d,by simpa using GZ.2.1,fun hh=>by omega,fun _=>⟨AJ Ei hr.big,next e1 F1 e3⟩⟩
   | succ g ihp=>
    intro i jH h1i hi mh;obtain⟨x,hx⟩:=h2.ex (show i<m by omega);obtain⟨y,hy⟩:=h2.ex (show i-1<m by omega);obtain⟨b2,o2,hq2,NQ⟩:=J5.at h2 hx;obtain⟨b3,o3,hq,SC⟩:=J5.at h2 hy;rw[hq2]at hq;cases hq;subst hq2;have ei:Int.toNat ((i:Int)-1)=i-1:=by omega
    have bz:=h2.big;refine DX.Mj ⟨b,o,rfl,by unfold In;omega,_,m,d,by simpa using GZ.2.1,fun _=>⟨by unfold In;omega,_,m,d,by simpa using GZ.2.1,b2,o2,rfl,by unfold In;omega,x.1,by simpa using NQ.1,by unfold In;omega,_,m,d,by simpa using GZ.2.1,by unfold AG;omega,b2,o2,rfl,by unfold In;omega,y.1,by rw[ei];simpa using SC.1,fun hle=>bad ?_,fun hgt=>⟨by unfold AG;omega,?_⟩⟩,fun hh=>by omega⟩
    ·rw[AD6 hy (by rw[show i-1+1=i by omega];exact hx) hle];simp
    ·have:=ihp (i+1) (by omega) (by omega) (by omega) fun j a b hj ha hb=>by
      by_cases ZJ:j+1=i
      ·have j3:j=i-1:=by omega
       subst j3;rw[hy]at ha;rw[show i-1+1=i by omega,hx]at hb;cases ha;cases hb;omega
      ·exact mh j a b (by omega) ha hb
     rw[show((i+1:Nat):Int)=(i:Int)+1 by omega]at this;exact this
  refine DX.As ⟨fun _=>⟨b,o,rfl,by unfold In;omega,p1,n1,c1,by simpa using GZ.1,nh h1 ⟨_,rfl,fun Ah=>bad (by simp[Ah]),fun h0=>⟨by unfold In;omega,q,m,d,by simpa using GZ.2.1,fun hz=>bad ?_,fun hnz=>⟨fun WE=>⟨by unfold AG;have:=hr.big;omega,by unfold In;omega,?_⟩,fun hz=>ZH (Aig.1 h0) (by omega) ?_ (m-1) 1 rfl (AiV _) (by omega) fun j a b hj=>by omega⟩⟩⟩⟩,fun hh=>by omega⟩
  ·have:s.ps=[]:=Ai0 (by omega);rw[this];show(decide (GD s.ls=0)&&false&&_)=false
   simp
  ·obtain⟨s',Va⟩:=hr.ex (k:=k-1) (by omega);obtain⟨_,_,p1',n1',c1',_,_,_,QZ,AJh,h1',_,_⟩:=Dh.at hr Va;cases QZ;have e1:Int.toNat ((k:Int)-1)=k-1:=by omega
   have hpv:(if k=0 then none else(ss[k-1]?).map (·.ls))=some s'.ls:=by rw[AiK (by omega),Va];rfl
   refine⟨p1',n1',c1',by rw[e1];simpa using AJh.1,by unfold In;omega,p1,n1,c1,by simpa using GZ.1,Lz h1' h1 ⟨_,rfl,fun Zg=>bad ?_,fun Aq=>ZH (Aig.1 h0) (by omega) ?_ (m-1) 1 rfl (AiV _) (by omega) fun j a b hj=>by omega⟩⟩
   ·rw[hpv];show(decide (GD s.ls=0)&&Kx s.ps&&decide (BX s'.ls s.ls<0))=false
    rw[show decide (BX s'.ls s.ls<0)=false from AiZ (by omega),Ajl]
   ·rw[hpv];show decide (BX s'.ls s.ls<0)=true
    exact Aia (by omega)
  ·rw[AiL (by omega)];rfl
end
abbrev jx (t:Int)(l:List El):List Sr:=l.map fun e=>⟨e.ls,[(t,e.v)]⟩
section
variable {σ σ' σ0:Hp}{R:Rr}
theorem ni {t:Int}(h:R (.returned (.bool (decide (-1099511627776≤t∧t≤1099511627776)))) σ):Spec prog 19 #[.I t] σ R:=by
 refine XB.start ⟨fun h1=>?_,fun h1=>?_⟩
 ·rw[show decide (-1099511627776≤t∧t≤1099511627776)=decide (t≤1099511627776) from Ai9.2 ⟨fun h=>h.2,fun h=>⟨h1,h⟩⟩]at h;exact h
 ·rw[show decide (-1099511627776≤t∧t≤1099511627776)=false from AiZ fun hh=>h1 hh.1]at h;exact h
theorem AL.ser {p pl:Option Addr}{n c nl cl b:Nat}{xs:List Sr}{t v:Int}{ls:List Lb}{y:Hp}{Φ:Value→Hp→Prop}(ho:AL 2 Dh σ0 σ p n c xs)(hy:Ext σ y)(hr:Dy (σ.new y) pl nl ls)(hb:y b=none)(hn:n≤1000000000000)
  (hΦ:∀p' c' σ',AL 2 Dh σ0 σ' p' (n+1) c' (xs++[⟨ls,[(t,v)]⟩])→Φ (.slice p' (n+1) c') σ') :
  Al (Hp.set y b (.cells #[.I t,.U v] 61 (0,0))) fun RM=>AK prog (Builtin.append_ #[23,23] 23 #[.slice p n c,(.slice (aD RM 0) 1 1)]) (Hp.set (Hp.set y b (.cells #[.I t,.U v] 61 (0,0))) RM (.cells #[.slice pl nl cl,.slice (aD b 0) 1 1] 51 (0,0))) Φ:=fun RM dY=>by
 have xb:=Ext.set (o:=.cells #[.I t,.U v] 61 (0,0)) hb;have A6:=ho.mono Dh.mono (hy.trans xb);have hbp:∀a,p=some a→a.block≠b:=fun a ha e=>by
  have h9:=ho.1.block a ha;rw[e]at h9;cases hh:σ b with
  | none=>exact h9 hh
  | some u=>rw[hy _ _ hh]at hb;cases hb
 have he:Dh ((Hp.set y b (.cells #[.I t,.U v] 61 (0,0))).del p) [.slice pl nl cl,.slice (aD b 0) 1 1] ⟨ls,[(t,v)]⟩:=by
  refine⟨pl,nl,cl,aD b 0,1,1,rfl,hr.mono BL.mono ((Ext.Jc xb).trans (ho.new (hy.trans xb))),⟨rfl,[.I t,.U v],⟨rfl,by decide,.inr ⟨b,0,rfl,Ae.BY (T:=61) (c:=[.I t,.U v]) ?_⟩⟩,rfl,fun j y hy=>?_⟩,AiV _⟩
  ·exact AN.2 ⟨fun a ha e=>hbp a ha e.symm,Hp.AA _ _ _⟩
  ·cases j with
   | zero=>simp only[Aim,AiO]at hy;subst hy;rfl
   | succ j=>simp at hy
 exact AL.Hu Dh.mono A6 rfl (Dh.one _ _ _ he) he (by omega) (fun p' c' σ' Sj _=>hΦ p' c' σ' Sj) dY
theorem AAn {p q:Option Addr}{n c m d:Nat}{T:List Nd}{ss:List Sr}{t kf:Int}(hr:AT 10 GF σ p n T)(hs:AT 2 Dh σ q m ss)(hS:jP ss)(EI:D1 none ss=true)(hD:SsD ss)(h64:∀s∈ss,∀p∈s.ps,Iu p.2)(hn:n≤4096)(ht:-4611686018427387904≤t∧t≤4611686018427387904)(VR:DA T []=some [kf])
  (h:∀l σ' p' n' c',Bl FF T ss t=some l→Ext σ σ'→AT 2 Dh σ' p' n' (jx t l)→R (.T #[.slice p' n' c',.I 0]) σ') (h':Bl FF T ss t=none→∀σ',Ext σ σ'→R (.T #[.N,.I 223]) σ') :
  Spec prog 20 #[.slice p n c,.slice q m d,.I t] σ R:=by
 refine Lh.start (eJ hr hs hS EI hD h64 hn ht VR (fun v d' σ1 pv nv cv qv mv dv hv VV Bc hrv hcv=>⟨_,_,_,_,_,_,_,_,_,_,rfl,fun _=>⟨fun hh=>(by cases hh),fun _=>?_⟩⟩) fun Cg σ1 Bc=>⟨_,_,_,_,_,_,_,_,_,_,rfl,fun _=>⟨fun _=>?_,fun hh=>(by cases hh)⟩⟩)
 ·have hm:Bl FF T ss t=some (if v.kind=1 then[⟨[],v.v⟩] else v.vec):=by
   unfold Bl;cases Bz:Ip FF ss t T [] with
   | none=>rw[Bz]at hv;cases hv
   | some st=>
    rw[Bz]at hv;show(st.head?.map _)=_
    rw[show st.head?=some v from hv];rfl
  refine⟨fun hk Rh h28 eh h30=>?_,fun hk=>?_⟩
  ·rw[VV.k]at hk;rw[AiL hk]at hm;have e1:=VV.v1 hk;have QN:=Ext.set (o:=.cells #[.I t,.U d'.v] 61 (0,0)) h28;have LZ:=Ext.set (o:=.cells #[.N,.slice (aD Rh 0) 1 1] 51 (0,0)) h30;refine h _ _ _ _ _ hm (Bc.trans (QN.trans LZ)) ⟨rfl,[.N,.slice (aD Rh 0) 1 1],⟨rfl,by decide,.inr ⟨eh,0,rfl,Ae.BY (c:=[.N,.slice (aD Rh 0) 1 1]) (Hp.AA _ _ _)⟩⟩,rfl,fun i y hy=>?_⟩;cases i with
   | zero=>
    simp only[Ai4,List.map_nil,Aim,AiO]at hy;subst hy;refine⟨none,0,0,aD Rh 0,1,1,rfl,AT.nil,⟨rfl,[.I t,.U d'.v],⟨rfl,by decide,.inr ⟨Rh,0,rfl,(Ae.BY (c:=[.I t,.U d'.v]) (Hp.AA _ _ _)).mono LZ⟩⟩,rfl,fun j y hy=>?_⟩,AiV _⟩;cases j with
    | zero=>simp only[Aim,AiO]at hy;subst hy;rw[←e1];rfl
    | succ j=>simp at hy
   | succ i=>simp at hy
  ·rw[VV.k]at hk;rw[AiK hk]at hm;rw[VV.es]at hrv;have hvl:v.vec.length=nv:=hrv.1;obtain⟨mo1,mo2⟩:=Pe hS VR hm;have hTl:T.length=n:=hr.1;have zx:nv≤100000000000:=by
    have:=Aj6 (show T.length≤4096 by omega) hS.ok.len;omega
   suffices H:∀(g i:Nat) Su n10 Pu σ2,nv-i=g→i≤nv→AL 2 Dh σ1 σ2 Su n10 Pu (jx t (v.vec.take i))→Lh.Pv R t d'.kind d'.v pv nv cv d'.w qv mv dv Su n10 Pu (i:Int) σ2 from H nv 0 none 0 0 σ1 rfl (AiR _) (AL.nil (.refl _))
   intro g
   induction g with
   | zero=>
    intro i Su n10 Pu σ2 hg hi ho;rw[AiQ (by omega)]at ho;exact Lh.Mj ⟨fun hh=>by omega,fun _=>h v.vec σ2 Su n10 Pu hm (Bc.trans ho.up) (ho.rd Dh.mono)⟩
   | succ g ih=>
    intro i Su n10 Pu σ2 hg hi ho;have BF:i<nv:=by omega
    obtain⟨x,hx⟩:=hrv.ex BF;obtain⟨b,o,q1,m1,d1,rfl,CF,VQ⟩:=Aa.at hrv hx;have hX:=ho.up;have VP:Ae σ2 b (o+Int.toNat (i:Int)*2) [.slice q1 m1 d1,.U x.v]:=by simpa using CF.mono hX
    have AKm:=VQ.mono BL.mono hX;have NR:m1≤1000000000:=by
     have:=(mo1 x (AiM hx)).rd VQ;omega
    have AhL:n10≤i:=by
     have h3:=ho.1.1;rw[Aii,AiU]at h3;omega
    have By:In (i:Int) (nv:Int):=by unfold In;omega
    have next:∀p9 c9 σ4,AL 2 Dh σ1 σ4 p9 (n10+1) c9 (jx t (v.vec.take i)++[⟨x.ls,[(t,x.v)]⟩])→AG ((i:Int)+1)∧Lh.Pv R t d'.kind d'.v (aD b o) nv cv d'.w qv mv dv p9 (n10+1) c9 ((i:Int)+1) σ4:=fun p9 c9 σ4 Sb=>⟨by unfold AG;omega,by
     have:=ih (i+1) p9 (n10+1) c9 σ4 (by omega) (by omega) (by rw[AQ hx];unfold jx;rw[Aiq];exact Sb);rw[show((i+1:Nat):Int)=(i:Int)+1 by omega]at this;exact this⟩
    have fF:∀k,σ2 k=none→b≠k:=fun k hk e=>by
     have h9:=VP.1;rw[e]at h9;simp[Hp.ld,hk]at h9
    refine Lh.Mj ⟨fun _=>⟨b,o,rfl,By,q1,m1,d1,VP.1,By,x.v,VP.2.1,fun PY h39=>⟨?_,fun Er h55=>?_⟩,fun Er h55 PY h39=>?_⟩,fun hh=>by omega⟩
    ·refine Dz AKm NR (fun gy eo y AAo hy=>⟨_,_,_,rfl,fun k hk u hu=>?_,fun Er h55=>AL.ser ho hy (AAo.rd BL.mono) h55 (by omega) fun p9 c9 σ4 Sb=>⟨_,_,_,rfl,next _ _ _ Sb⟩⟩) h39;rw[AiY]at hk;subst hk;rw[Hp.AM (fF PY h39)]at hu;exact hy _ _ hu
    ·have Ah:Er≠PY:=fun e=>by rw[e,Hp.AA]at h55;cases h55
     have ATf:σ2 Er=none:=by rw[Hp.AM Ah]at h55;exact h55
     exact AK.F6 h55 (Dz AKm NR (fun gy eo y AAo hy eu=>⟨_,_,_,rfl,AL.ser ho hy (AAo.rd BL.mono) eu (by omega) fun p9 c9 σ4 Sb=>⟨_,_,_,rfl,next _ _ _ Sb⟩⟩) h39)
    ·have AKn:=(Hp.C9 h39);have ATf:(σ2.set PY (.cells #[] 71 (0,0))) Er=none:=by rw[Hp.AM (AjI AKn.1)];exact h55
     dsimp only;rw[Hp.Ll (AjI AKn.1)];exact AK.F6 ATf (Dz AKm NR (fun gy eo y AAo hy eu=>⟨_,_,_,rfl,AL.ser ho hy (AAo.rd BL.mono) eu (by omega) fun p9 c9 σ4 Sb=>⟨_,_,_,rfl,next _ _ _ Sb⟩⟩) AKn.2)
 ·have hm:Bl FF T ss t=none:=by
   unfold Bl;cases Bz:Ip FF ss t T [] with
   | none=>rfl
   | some st=>
    rw[Bz]at Cg;show(st.head?.map _)=_
    rw[show st.head?=none from Cg];rfl
  exact h' hm σ1 Bc
theorem instD_spec {p q:Option Addr}{n c m d:Nat}{T:List Nd}{ss:List Sr}{t:Int}(hr:AT 10 GF σ p n T)(hs:AT 2 Dh σ q m ss)(hM:Modest T ss)(h64:∀s∈ss,∀p∈s.ps,Iu p.2)
  (h:∀σ' p' n' c',Ext σ σ'→AT 2 Dh σ' p' n' (jx t (instF T ss t).2)→R (.T #[.slice p' n' c',.I (instF T ss t).1]) σ') :
  Spec prog 5 #[.slice p n c,.slice q m d,.I t] σ R:=by
 have hl:T.length=n:=hr.1;have hMt:=hM.t;have bad:∀e:Int,instF T ss t=(e,[])→∀σ',Ext σ σ'→R (.T #[.N,.I e]) σ':=fun e he σ' hx=>by
  rw[he]at h;exact h σ' none 0 0 hx AT.nil
 have ATg:(∀k,I4 T=some k→k=3)→instF T ss t=(220,[]):=fun hk=>by
  have:Ef T ss=220:=by
   unfold Ef;cases hq:I4 T with
   | none=>rfl
   | some k=>dsimp only;rw[AiL (hk k hq)]
  unfold instF;rw[this,AiL (by decide)]
 refine QS.start (Wk.start (Sf hr (by omega) hM.tx (fun k σ1 hk Bc=>⟨_,_,_,rfl,fun _=>⟨_,rfl,fun hf=>?_,fun h3=>?_⟩,fun hh=>absurd rfl hh⟩) fun k j e σ1 hk he Bc=>⟨_,_,_,rfl,fun hh=>absurd hh he,fun _=>⟨_,rfl,fun _=>?_,fun hh=>(by cases hh)⟩⟩))
 ·have h3:k=3:=Aig.1 (Aio hf);exact bad 220 (ATg fun k' Ei=>by rw[hk]at Ei;cases Ei;exact h3) σ1 Bc
 ·have h3:k≠3:=AiP h3;refine jw (hs.mono Dh.mono Bc) ⟨_,rfl,fun Ah=>?_,fun h0=>ni ⟨_,rfl,fun htf=>?_,fun zL=>?_⟩⟩
  ·have ho:¬D1 none ss=true:=fun ho=>Ah (by rw[ho];rfl);have:Ef T ss=224:=by unfold Ef;rw[hk];dsimp only;rw[AiK h3,AiK ho]
   exact bad 224 (by unfold instF;rw[this,AiL (by decide)]) σ1 Bc
  ·have ho:D1 none ss=true:=by
    cases hq:D1 none ss with
    | true=>rfl
    | false=>rw[hq]at h0;exact absurd (by decide) h0
   have ha:Ef T ss=0:=by unfold Ef;rw[hk];dsimp only;rw[AiK h3,AiL ho]
   exact bad 221 (by unfold instF;rw[ha,AiK (by decide),AiL (Aio htf)]) σ1 Bc
  ·have ho:D1 none ss=true:=by
    cases hq:D1 none ss with
    | true=>rfl
    | false=>rw[hq]at h0;exact absurd (by decide) h0
   have ha:Ef T ss=0:=by unfold Ef;rw[hk];dsimp only;rw[AiK h3,AiL ho]
   have ht:=AiP zL;obtain⟨Bz,hlen⟩:=Jx hk;have hS:=jP.of hM ho;have hD:SsD ss:=⟨fun s hs=>Af.of (Ly ho s hs).1,hM.s,hM.ps⟩;refine AAn (hr.mono GF.mono Bc) (hs.mono Dh.mono Bc) hS ho hD h64 (by omega) (by omega) Bz (fun l σ2 p' n' c' hm An NM=>⟨_,_,_,_,rfl,?_⟩) fun hm σ2 An=>⟨_,_,_,_,rfl,?_⟩
   ·have e:instF T ss t=(0,l):=by unfold instF;rw[ha,AiK (by decide),AiK (by rw[Aig];exact ht),hm]
    rw[e]at h;exact h σ2 p' n' c' (Bc.trans An) NM
   ·exact bad 223 (by unfold instF;rw[ha,AiK (by decide),AiK (by rw[Aig];exact ht),hm]) σ2 (Bc.trans An)
 ·exact bad 220 (ATg fun k' Ei=>by rw[hk]at Ei;cases Ei) σ1 Bc
end
theorem eM:∀{T:List Nd} {st r:List Int},DA T st=some r→∀n∈T,Ci n=true∧HW DC n.mt=0
 | [],_,_,_,n,hn=>by cases hn
 | x::T,st,r,h,n,hn=>by
  rw[DA]at h;by_cases h0:(BQ x st).1=0
  ·rw[AiL h0]at h;rcases AiT.1 hn with rfl|hn
   ·unfold BQ at h0;by_cases h1:Ci n=false∨(st.length:Int)<n.parts
    ·rw[AiL h1]at h0;exact absurd h0 (by show ¬(190:Int)=0;decide)
    ·rw[AiK h1]at h0;by_cases h2:HW DC n.mt≠0
     ·rw[AiL h2]at h0;exact absurd h0 (by show ¬(193:Int)=0;decide)
     ·exact⟨by cases hq:Ci n with
      | true=>rfl
      | false=>exact absurd (.inl hq) h1,Aig.1 h2⟩
   ·exact eM h n hn
  ·rw[AiK h0]at h;cases h
theorem AGy {n:Nd}(h:Ci n=true):(n.kind=2→0≤n.back∧n.back≤2147483647∧n.width=0)∧(n.kind=3→0≤n.back∧n.back≤2147483647∧0≤n.width∧n.width≤2147483647):=by
 have hk:=FU h;have hp:=Pd h;unfold E1 at hk;unfold HZ at hp;have hp:=AiP hp
 constructor
 ·intro h2;rw[AiK (by omega),AiL h2]at hk;have hw:=hp.2.2.2.1;unfold CY at hw;rw[AiK (by omega),AiL h2]at hw;unfold Lp at hk;simp only[AiS,AiW]at hk;exact⟨by omega,by omega,hw⟩
 ·intro h3;rw[AiK (by omega),AiK (by omega),AiL h3]at hk;unfold Lp at hk;simp only[AiS,AiW]at hk;omega
section
variable {σ:Hp}{R:Rr}
end
def bkW (n:Nd):Int:=if n.kind=2 then n.back+300 else n.back+n.width
def Gb:List Nd→Int→Int→Int×Int
 | [],bU,DZ=>(bU,DZ)
 | n::t,bU,DZ=>if n.kind≠2∧n.kind≠3 then Gb t bU DZ else Gb t (if bU<bkW n then bkW n else bU) (if DZ<0∨n.back<DZ then n.back else DZ)
def VW (T:List Nd):Int×Int:=match I4 T with
 | none=>(0,0)
 | some _=>((Gb T 0 (-1)).1,if(Gb T 0 (-1)).2<0 then 0 else(Gb T 0 (-1)).2)
section
variable {σ:Hp}{R:Rr}
theorem eO {p:Option Addr}{n c:Nat}{T:List Nd}(hr:AT 10 GF σ p n T)(hn:n≤1000000000)(htx:∀x∈T,x.text.size≤4611686018427387904)
  (h:∀σ',Ext σ σ'→R (.T #[.I (VW T).1,.I (VW T).2]) σ'):Spec prog 9 #[.slice p n c] σ R:=by
 have hl:T.length=n:=hr.1;refine Ak.start (RA hr hn htx (fun k σ1 hk hx=>⟨_,_,_,rfl,fun hh=>absurd rfl hh,fun _=>?_⟩) fun k j e σ' hk he hx=>⟨_,_,_,rfl,fun _=>?_,fun hh=>absurd he hh⟩)
 ·have hf:=eM (Jx hk).1;have hw:VW T=((Gb T 0 (-1)).1,if(Gb T 0 (-1)).2<0 then 0 else(Gb T 0 (-1)).2):=by unfold VW;rw[hk]
  rw[hw]at h;have F1:=hr.mono GF.mono hx
  suffices H:∀(g i:Nat) (bU DZ x8:Int) (t9:Bool),n-i=g→i≤n→Gb T 0 (-1)=Gb (T.drop i) bU DZ→(t9=true∧0≤DZ∧x8=DZ∨t9=false∧DZ=-1∧x8=0)→Ak.ACT R bU x8 t9 p n c (n:Int) (i:Int) σ1 from H n 0 0 (-1) 0 false rfl (AiR _) rfl (.inr ⟨rfl,rfl,rfl⟩)
  intro g
  induction g with
  | zero=>
   intro i bU DZ x8 t9 hg hi he hs;rw[Aib (by omega)]at he;rw[he]at h;refine Ak.Ry ⟨fun hh=>by omega,fun _=>?_⟩;have h2:=h σ1 hx;have e8:(if DZ<0 then 0 else DZ)=x8:=by
    rcases hs with ⟨_,h1,h3⟩|⟨_,h1,h3⟩
    ·rw[AiK (by omega)];exact h3.symm
    ·rw[AiL (by omega)];exact h3.symm
   have h3:R (.T #[.I bU,.I (if DZ<0 then 0 else DZ)]) σ1:=h2;rw[e8]at h3;exact h3
  | succ g ih=>
   intro i bU DZ x8 t9 hg hi he hs;have BF:i<n:=by omega
   obtain⟨x,qN⟩:=F1.ex BF;have jC:=AiM qN;obtain⟨b,o,p1,k1,c1,q1,m1,d1,rfl,sB,_,_⟩:=GF.at F1 qN;obtain⟨n2,n3⟩:=AGy (hf x jC).1;rw[A0 qN,Gb]at he;have next:∀eP PA x8' t9',Gb T 0 (-1)=Gb (T.drop (i+1)) eP PA→(t9'=true∧0≤PA∧x8'=PA∨t9'=false∧PA=-1∧x8'=0)→Ak.ACU R eP x8' t9' (aD b o) n c (n:Int) (i:Int) σ1:=fun eP PA x8' t9' l1 l2=>by
    have:=ih (i+1) eP PA x8' t9' (by omega) (by omega) l1 l2;rw[show((i+1:Nat):Int)=(i:Int)+1 by omega]at this;exact Ak.cu ⟨AJ BF F1.big,this⟩
   have rv:(x.kind=2∨x.kind=3)→0≤x.back→∀(v:Int),v=bkW x→Ak.Tc R bU x8 t9 x.kind x.op x.text p1 k1 c1 x.width x.back x.BW q1 m1 d1 x.bool x.parts v (aD b o) n c (n:Int) (i:Int) σ1:=fun AaO hb0 v hv=>by
    subst hv;rw[AiK (by omega)]at he;refine Ak.Vr ⟨fun hf9=>Ak.IL (next _ (if DZ<0∨x.back<DZ then x.back else DZ) _ _ he (.inl ⟨rfl,?_⟩)),fun tR=>⟨fun Aq=>Ak.IL (next _ (if DZ<0∨x.back<DZ then x.back else DZ) _ _ he (.inl ⟨rfl,?_⟩)),fun Zg=>Ak.IL (next _ (if DZ<0∨x.back<DZ then x.back else DZ) _ _ he (.inl ⟨rfl,?_⟩))⟩⟩
    ·rcases hs with ⟨h1,_⟩|⟨_,h1,_⟩
     ·rw[h1]at hf9;cases hf9
     ·rw[AiL (.inl (by omega))];exact⟨hb0,rfl⟩
    ·rcases hs with ⟨_,h1,h3⟩|⟨h1,_⟩
     ·rw[AiL (.inr (by omega))];exact⟨hb0,rfl⟩
     ·rw[h1]at tR;cases tR
    ·rcases hs with ⟨_,h1,h3⟩|⟨h1,_⟩
     ·rw[AiK (by omega)];exact⟨h1,h3⟩
     ·rw[h1]at tR;cases tR
   refine Ak.Ry ⟨fun _=>⟨b,o,rfl,by unfold In;omega,_,_,_,_,_,_,_,_,_,_,_,_,_,_,by simpa using sB,fun _=>⟨fun k2=>⟨fun k3=>?_,fun k3=>?_⟩,fun k2=>?_⟩⟩,fun hh=>by omega⟩
   ·rw[AiL ⟨k2,k3⟩]at he;exact next bU DZ x8 t9 he hs
   ·have k3:=Aig.1 k3;obtain⟨a1,a2,a3,a4⟩:=n3 k3;exact⟨by unfold AG;omega,fun hk=>absurd hk k2,fun _=>rv (.inr k3) (by omega) _ (by unfold bkW;rw[AiK k2])⟩
   ·have k2:=Aig.1 k2;obtain⟨a1,a2,a3⟩:=n2 k2;exact⟨by unfold AG;omega,fun _=>⟨by unfold AG;omega,rv (.inl k2) (by omega) _ (by unfold bkW;rw[AiL k2];omega)⟩,fun hk=>absurd k2 hk⟩
 ·have:=h σ' hx;rw[show VW T=(0,0) by unfold VW;rw[hk]]at this;exact this
theorem jy {p:Option Addr}{n c:Nat}{T:List Nd}(hr:AT 10 GF σ p n T)(hn:n≤1000000000)(htx:∀x∈T,x.text.size≤4611686018427387904)
  (h:∀σ',Ext σ σ'→R (.T #[.I (VW T).1,.I (VW T).2]) σ'):Spec prog 10 #[.slice p n c] σ R:=by
 have hl:T.length=n:=hr.1;refine C6.start (Sf hr hn htx (fun k σ1 hk hx=>⟨_,_,_,rfl,fun hh=>absurd rfl hh,fun _=>?_⟩) fun k j e σ' hk he hx=>⟨_,_,_,rfl,fun _=>?_,fun hh=>absurd he hh⟩)
 ·have hf:=eM (Jx hk).1;have hw:VW T=((Gb T 0 (-1)).1,if(Gb T 0 (-1)).2<0 then 0 else(Gb T 0 (-1)).2):=by unfold VW;rw[hk]
  rw[hw]at h;have F1:=hr.mono GF.mono hx
  suffices H:∀(g i:Nat) (bU DZ:Int),n-i=g→i≤n→Gb T 0 (-1)=Gb (T.drop i) bU DZ→C6.Ns R p n c bU DZ (i:Int) σ1 from H n 0 0 (-1) rfl (AiR _) rfl
  intro g
  induction g with
  | zero=>
   intro i bU DZ hg hi he;rw[Aib (by omega)]at he;rw[he]at h;exact C6.KM ⟨fun hh=>by omega,fun _=>h σ1 hx⟩
  | succ g ih=>
   intro i bU DZ hg hi he;have BF:i<n:=by omega
   obtain⟨x,qN⟩:=F1.ex BF;have jC:=AiM qN;obtain⟨b,o,p1,k1,c1,q1,m1,d1,rfl,sB,_,_⟩:=GF.at F1 qN;obtain⟨n2,n3⟩:=AGy (hf x jC).1;rw[A0 qN,Gb]at he;have next:∀eP PA,Gb T 0 (-1)=Gb (T.drop (i+1)) eP PA→C6.rz R (aD b o) n c eP PA (i:Int) σ1:=fun eP PA l1=>by
    have:=ih (i+1) eP PA (by omega) (by omega) l1;rw[show((i+1:Nat):Int)=(i:Int)+1 by omega]at this;exact C6.ACc ⟨AJ BF F1.big,this⟩
   have rv:(x.kind=2∨x.kind=3)→∀(v:Int),v=bkW x→C6.Tc R (aD b o) n c bU DZ (i:Int) x.kind x.op x.text p1 k1 c1 x.width x.back x.BW q1 m1 d1 x.bool x.parts v σ1:=fun AaO v hv=>by
    subst hv;rw[AiK (by omega)]at he;refine C6.Vr ⟨fun hn0=>next _ _ ?_,fun hn0=>⟨fun Aq=>next _ _ ?_,fun Zg=>next _ _ ?_⟩⟩
    ·rw[show(if DZ<0∨x.back<DZ then x.back else DZ)=x.back from AiL (.inl hn0)]at he;exact he
    ·rw[show(if DZ<0∨x.back<DZ then x.back else DZ)=x.back from AiL (.inr Aq)]at he;exact he
    ·rw[show(if DZ<0∨x.back<DZ then x.back else DZ)=DZ from AiK (by omega)]at he;exact he
   refine C6.KM ⟨fun _=>⟨b,o,rfl,by unfold In;omega,_,_,_,_,_,_,_,_,_,_,_,_,_,_,by simpa using sB,fun _=>⟨fun k2=>⟨fun k3=>?_,fun k3=>?_⟩,fun k2=>?_⟩⟩,fun hh=>by omega⟩
   ·rw[AiL ⟨k2,k3⟩]at he;exact next bU DZ he
   ·have k3:=Aig.1 k3;obtain⟨a1,a2,a3,a4⟩:=n3 k3;exact⟨by unfold AG;omega,fun hk=>absurd hk k2,fun _=>rv (.inr k3) _ (by unfold bkW;rw[AiK k2])⟩
   ·have k2:=Aig.1 k2;obtain⟨a1,a2,a3⟩:=n2 k2;exact⟨by unfold AG;omega,fun _=>⟨by unfold AG;omega,rv (.inl k2) _ (by unfold bkW;rw[AiL k2])⟩,fun hk=>absurd k2 hk⟩
 ·have:=h σ' hx;rw[show VW T=(0,0) by unfold VW;rw[hk]]at this;exact this
end
theorem AG0 {τ0 σ:Hp}{b o:Nat}{l:List Value}(h:Ae σ b o l)(hb:τ0 b=none):Ae (τ0.new σ) b o l:=Ae.of fun j v hj=>by
 have h1:=h.get hj;have e:(τ0.new σ) b=σ b:=by simp[Hp.new,hb]
 unfold Hp.ld at h1 ⊢;dsimp only at h1 ⊢;rw[e];exact h1
theorem AAp {τ0 σ:Hp}{s n:Nat}{p:Option Addr}{cs:List Value}(h:G6 s σ p n cs)(hp:∀a,p=some a→τ0 a.block=none):G6 s (τ0.new σ) p n cs:=
 ⟨h.1,h.2.1,h.2.2.imp id fun⟨b,o,e,hl⟩=>⟨b,o,e,AG0 hl (hp _ e)⟩⟩
theorem I6.rdn {σ τ0 τ:Hp}{t:Int}{p:Option Addr}{n c:Nat}{l:List El}{bs:List Nat}{ws:List Sl9}(h:I6 t τ0 τ σ p n c l bs ws):AT 2 Dh (τ0.new σ) p n (jx t l):=by
 obtain⟨cs,h1,h2⟩:=h.own;refine⟨by rw[Aii];exact h.Zu,cs,AAp h1.rd fun a ha=>Am h.base (h.op a ha).1,by rw[h2.1,h.V6,Aii],fun i s hs=>?_⟩;rw[Ait]at hs;cases he:l[i]? with
 | none=>rw[he]at hs;cases hs
 | some e=>
  rw[he]at hs;simp only[Aiv,AiO]at hs;subst hs;obtain⟨b,w,hb,hw,hz⟩:=h.get he;obtain⟨hv,NM,ds,hd1,hd2⟩:=h2.2 i (e,b,w) hz;have uK:=AiM hw;have hb0:τ0 b=none:=Am h.base (h.tb b (AiM hb));refine⟨w.p,w.n,w.c,aD b 0,1,1,hv,⟨NM,ds,AAp (hd1.mono h.ext) fun a ha=>h.w0 w uK a ha,hd2.1,fun j x hx=>hd2.2 j x hx⟩,⟨rfl,[.I t,.U e.v],⟨rfl,by omega,.inr ⟨b,0,rfl,AG0 (Ae.BY (c:=[.I t,.U e.v]) (h.ZH i b e hb he)) hb0⟩⟩,rfl,fun j y hy=>?_⟩,AiV _⟩;cases j with
  | zero=>simp only[Aim,AiO]at hy;subst hy;rfl
  | succ j=>simp at hy
section
variable {σ σ':Hp}{R:Rr}{ss:List Sr}
theorem inst_err {T:List Nd}{t:Int}(h:(instF T ss t).1≠0):(instF T ss t).2=[]:=by
 unfold instF at h ⊢;split at h
 ·rename_i h0;rw[AiL h0]
 ·rename_i h0;rw[AiK h0];split at h
  ·rename_i h1;rw[AiL h1]
  ·rename_i h1;rw[AiK h1];split at h
   ·rfl
   ·exact absurd rfl h
theorem instants_spec {p q:Option Addr}{n c m dd:Nat}{T:List Nd}{t:Int}(AaP:Awk)(hg:Gl σ)(hr:AT 10 GF σ p n T)(hs:AT 2 Dh σ q m ss)(hM:Modest T ss)(hT:TOk T)(hS:SOk ss)(h64:∀s∈ss,∀p∈s.ps,Iu p.2)(h:∀σ',Ext σ σ'→R (.B true) σ'):
  Spec prog 3 #[.slice p n c,.slice q m dd,.I t] σ R:=by
 have hl:T.length=n:=hr.1;have hMt:=hM.t;refine Jg.start (instD_spec hr hs hM h64 fun σ1 pw nw cw x1 hw=>⟨_,_,_,_,rfl,jU (hr.mono GF.mono x1) hT fun gC aQ σ2 A6=>⟨_,_,_,rfl,df (hs.mono Dh.mono (x1.trans A6.up)) hS fun oY gD σ3 AAq x3=>⟨_,_,_,rfl,?_⟩⟩⟩);have X3:=x1.trans (A6.up.trans x3);have AAr:=(A6.rd GF.mono).mono GF.mono x3;have hw3:=hw.mono Dh.mono (A6.up.trans x3);have mid:∀(σ4:Hp) (pa:Option Addr) (na ca:Nat) (e:Int),e=(instF T ss t).1→Ext σ3 σ4→AT 2 Dh σ4 pa na (jx t (instF T ss t).2)→(∀σ7,Ext σ4 σ7→Spec prog 8 #[.slice gC n aQ,.slice oY m gD,.I t] σ7 (BB R (fun z ZQ=>∃gI gJ gK vP,z=(.tuple #[.slice gI gJ gK,.I vP])∧Spec prog 13 #[.slice pa na ca] ZQ (BB R (fun z lL=>z=(.tuple #[])∧Spec prog 12 #[.slice gI gJ gK,.slice pw nw cw] lL (BB R (CB fun t89 TH=>Bo t89 (Spec prog 12 #[.slice oY m gD,.slice q m dd] TH (BB R (CB fun t93 Po=>Bo t93 (Spec prog 14 #[] Po (BB R (CB fun t96 ZR=>R (.B t96) ZR))) (R (.B false) Po)))) (R (.B false) TH)))))))) → 
   Spec prog 9 #[.slice gC n aQ] σ4 (BB R (fun z DI=>∃vN vO,z=(.tuple #[.I vN,.I vO])∧Spec prog 10 #[.slice p n c] DI (BB R (fun z Gi=>∃gF gG,z=(.tuple #[.I gF,.I gG])∧Spec prog 11 #[.slice gC n aQ,.slice p n c] Gi (BB R (CB fun t49 Pn=>Bn t49 (R (.B false) Pn) (Spec prog 12 #[.slice oY m gD,.slice q m dd] Pn (BB R (CB fun t54 Qv=>Bn t54 (R (.B false) Qv) (Br (e≠(instF T ss t).1) (R (.B false) Qv) (Br (vN≠gF) (R (.B false) Qv) (Br (vO≠gG) (R (.B false) Qv) (Spec prog 12 #[.slice pa na ca,.slice pw nw cw] Qv (BB R (CB fun t75 gH=>Bn t75 (R (.B false) gH) (Spec prog 8 #[.slice gC n aQ,.slice oY m gD,.I t] gH (BB R (fun z ZQ=>∃gI gJ gK vP,z=(.tuple #[.slice gI gJ gK,.I vP])∧Spec prog 13 #[.slice pa na ca] ZQ (BB R (fun z lL=>z=(.tuple #[])∧Spec prog 12 #[.slice gI gJ gK,.slice pw nw cw] lL (BB R (CB fun t89 TH=>Bo t89 (Spec prog 12 #[.slice oY m gD,.slice q m dd] TH (BB R (CB fun t93 Po=>Bo t93 (Spec prog 14 #[] Po (BB R (CB fun t96 ZR=>R (.B t96) ZR))) (R (.B false) Po)))) (R (.B false) TH))))))))))))))))))))))):=fun σ4 pa na ca e he x4 ha pU=>
  eO (AAr.mono GF.mono x4) (by omega) hM.tx fun σ5 x5=>⟨_,_,rfl,jy (hr.mono GF.mono (X3.trans (x4.trans x5))) (by omega) hM.tx fun σ6 x6=>⟨_,_,rfl,jv (AAr.mono GF.mono (x4.trans (x5.trans x6))) (hr.mono GF.mono (X3.trans (x4.trans (x5.trans x6)))) fun σ7 x7=>⟨_,rfl,fun hh=>(by cases hh),fun _=>M5 (AAq.mono Dh.mono (x4.trans (x5.trans (x6.trans x7)))) (hs.mono Dh.mono (X3.trans (x4.trans (x5.trans (x6.trans x7))))) ⟨_,rfl,fun hh=>(by cases hh),fun _=>⟨fun hh=>absurd he hh,fun _=>⟨fun hh=>absurd rfl hh,fun _=>⟨fun hh=>absurd rfl hh,fun _=>M5 (ha.mono Dh.mono (x5.trans (x6.trans x7))) (hw3.mono Dh.mono (x4.trans (x5.trans (x6.trans x7)))) ⟨_,rfl,fun hh=>(by cases hh),fun _=>pU σ7 (x5.trans (x6.trans x7))⟩⟩⟩⟩⟩⟩⟩⟩
 have fin:∀(σ9:Hp) (pb:Option Addr) (nb cb:Nat),Ext σ3 σ9→AT 2 Dh σ9 pb nb (jx t (instF T ss t).2)→Spec prog 12 #[.slice pb nb cb,.slice pw nw cw] σ9 (BB R (CB fun t89 TH=>Bo t89 (Spec prog 12 #[.slice oY m gD,.slice q m dd] TH (BB R (CB fun t93 Po=>Bo t93 (Spec prog 14 #[] Po (BB R (CB fun t96 ZR=>R (.B t96) ZR))) (R (.B false) Po)))) (R (.B false) TH))):=fun σ9 pb nb cb x9 hb=>
  M5 hb (hw3.mono Dh.mono x9) ⟨_,rfl,fun _=>M5 (AAq.mono Dh.mono x9) (hs.mono Dh.mono (X3.trans x9)) ⟨_,rfl,fun _=>AaP σ9 _ (hg.mono (X3.trans x9)) fun AaQ x10=>⟨_,rfl,h AaQ (X3.trans (x9.trans x10))⟩,fun hh=>(by cases hh)⟩,fun hh=>(by cases hh)⟩
 refine instW_spec (hg.mono X3) AAr AAq hM (fun τ pa na ca σ4 bs ws h0 hA=>?_) fun σ4 Ah x4=>?_
 ·have x4:=hA.base.trans hA.ext;refine⟨_,_,_,_,rfl,mid σ4 pa na ca 0 h0.symm x4 hA.rd fun σ7 x7=>?_⟩;have X7:=x4.trans x7;refine instW_spec (hg.mono (X3.trans X7)) (AAr.mono GF.mono X7) (AAq.mono Dh.mono X7) hM (fun τ' pb nb cb σ8 bs' ws' _ hB=>⟨_,_,_,_,rfl,?_⟩) fun σ8 Ah _=>absurd h0 Ah;have x8:=hB.base.trans hB.ext;have kM:∀k,σ3 k=none→σ4 k≠none→(σ3.or (σ7.new σ8)) k=none:=fun k h3 h4=>by
   rw[Hp.R7 h3];cases hh:(σ7.new σ8) k with
   | none=>rfl
   | some u=>
    exfalso;cases h5:σ4 k with
    | none=>exact h4 h5
    | some v=>have:=x7 _ _ h5;rw[(AR.1 hh).1]at this;cases this
  have AKj:∀w∈ws,w.n≤100000000:=fun w uK=>by
   obtain⟨i,hi⟩:=List.mem_iff_getElem?.1 uK;have Aq:=(List.getElem?_eq_some_iff.1 hi).1;obtain⟨e,he⟩:∃e,(instF T ss t).2[i]?=some e:=⟨_,AiN (by rw[←hA.wl];exact Aq)⟩;obtain⟨b,w',_,hw',hz⟩:=hA.get he;rw[hi] at hw';cases hw';obtain⟨cs,_,h2⟩:=hA.own;obtain⟨_,NM⟩:=h2.2 i (e,b,w) hz;have h9:=(Af.of ((inst_shape hM h0).2.1 e (AiM he)).1).1;have h8:e.ls.length=w.n:=NM.1;omega
  refine T9 (M:=σ3.or (σ7.new σ8)) (hA.mono (x7.trans x8)) AKj (Ext.YQ (x4.trans (x7.trans x8)) (Ext.B9 _ _)) (fun a ha=>kM _ (Am hA.base (hA.op a ha).1) ?_) (fun b hb=>kM _ (Am hA.base (hA.tb b hb)) ?_) (fun w uK a ha=>kM _ (hA.w0 w uK a ha) ?_) fun σ9 x9=>⟨rfl,?_⟩
  ·obtain⟨cs,h1,_⟩:=hA.own;exact h1.block a ha
  ·obtain⟨u,hu⟩:=hA.known b hb;rw[hu];simp
  ·obtain⟨es,ho⟩:=hA.wr w uK;intro hn;exact ho.block a ha (Am hA.ext hn)
  ·have nt:Ext (σ7.new σ8) (σ3.or (σ7.new σ8)):=Ext.R7 fun k hk=>by
    cases hh:σ3 k with
    | none=>rfl
    | some u=>
     cases h4:(σ7.new σ8) k with
     | none=>exact absurd h4 hk
     | some v=>have:=X7 _ _ hh;rw[(AR.1 h4).1]at this;cases this
   exact fin σ9 pb nb cb ((Ext.mG _ _).trans x9) (hB.rdn.mono Dh.mono (nt.trans x9))
 ·have tK:=inst_err Ah;refine⟨_,_,_,_,rfl,mid σ4 none 0 0 _ rfl x4 (by rw[tK];exact AT.nil) fun σ7 x7=>?_⟩;have X7:=x4.trans x7;refine instW_spec (hg.mono (X3.trans X7)) (AAr.mono GF.mono X7) (AAq.mono Dh.mono X7) hM (fun τ' pb nb cb σ8 bs' ws' h0 _=>absurd h0 Ah) fun σ8 _ x8=>⟨_,_,_,_,rfl,CU.start (CU.TI ⟨fun hh=>absurd hh (by decide),fun _=>⟨rfl,fin σ8 none 0 0 (X7.trans x8) (by rw[tK];exact AT.nil)⟩⟩)⟩
end
end TwW
end
section
namespace TwW.Rw
open Go Tw Go.RowKit Go.ChangeShapes Go.WideShapes Go.ChangeAt Go.Deep Go.Proofs.Tryz Go.Proofs.YtamakbhlhpaiiaaGreatDoor
theorem own:ownKnob prog.godebug=none:=by kernel_rfl
theorem laidOut:laidOutB prog=true:=by kernel_rfl
theorem Iv {H:Type}(d:DataW H):1≤Rows.uptoBulk d:=by
 cases d with
 | lit l=>cases l<;>simp[Rows.uptoBulk]
 | _=>simp[Rows.uptoBulk]
theorem UA {H:Type}{d:DataW H}:∀{l:List (DataW H)},d∈l→Rows.uptoBulk d≤Rows.uptoBulkAll l
 | x::l,h=>by
  simp only[Rows.uptoBulkAll];rcases AiT.1 h with rfl|h
  ·omega
  ·have:=UA h;omega
theorem jz {H:Type}(l r:List (DataW H)):Rows.uptoBulkAll (l++r)=Rows.uptoBulkAll l+Rows.uptoBulkAll r:=by
 induction l with
 | nil=>simp[Rows.uptoBulkAll]
 | cons x l ih=>simp only[Ai1,Rows.uptoBulkAll,ih];omega
theorem AAs {H:Type}(l:List (DataW H)):l.length≤Rows.uptoBulkAll l:=by
 induction l with
 | nil=>simp
 | cons x l ih=>have:=Iv x;simp only[Rows.uptoBulkAll,AjB];omega
def G8 {α:Type}(t:TypeId)(E:Hp→List Value→α→Prop)(I:α→Prop)(sz:α→Nat):Prop:=
 ∀{H:Type} {enc:TypeId×Value→H} {w:World} {base:Nat} {sp:Nat→Bool} {held:Bool} {fuel:Nat} {cs:List Value} {x:DataW H×List MemPlace},
  DataW.trod enc prog w base sp held fuel t cs=some x→Rows.uptoBulk x.1≤1048576→∃y,E (full w) cs y∧I y∧sz y≤Rows.uptoBulk x.1
theorem mkB {α:Type}{s:Nat}{E:Hp→List Value→α→Prop}{I:α→Prop}{sz:α→Nat}{σ:Hp}{b o:Nat}{H:Type}{D:Nat→DataW H}:∀{n:Nat},n≤4611686018427387904→(∀i,i<n→∃vs x,vs.length=s∧Ae σ b (o+i*s) vs∧E σ vs x∧I x∧sz x≤Rows.uptoBulk (D i))→
  ∃xs,AT s E σ (some ⟨b,o,none⟩) n xs∧(∀x∈xs,I x)∧(xs.map sz).sum≤Rows.uptoBulkAll ((List.range n).map D)
 | 0,_,_=>⟨[],AT.nil,by simp,by simp⟩
 | n+1,hn,h=>by
  obtain⟨xs,⟨h1,cs,⟨hl,_,h2⟩,h3⟩,hI,hs⟩:=mkB (n:=n) (D:=D) (by omega) (fun i hi=>h i (by omega));obtain⟨vs,x,hv,CF,hE,hx,hz⟩:=h n (by omega);have LK:Ae σ b o cs:=by
   rcases h2 with rfl|⟨b',o',hp,UK⟩
   ·have:cs=[]:=Ai0 (by simpa using hl);subst this;trivial
   ·cases hp;exact UK
  refine⟨xs++[x],⟨by simp[h1],cs++vs,⟨by rw[Aid,hl,hv,AjM];omega,hn,.inr ⟨b,o,rfl,LK.snoc (by rw[hl];exact CF)⟩⟩,h3.snoc hv hE⟩,fun y hy=>?_,?_⟩
  ·rcases List.mem_append.1 hy with hy|hy
   ·exact hI y hy
   ·simp at hy;subst hy;exact hx
  ·rw[List.range_succ,Aiq,Aiq,jz,Ajy];simp only[Ai4,List.map_nil,List.sum_cons,List.sum_nil,Rows.uptoBulkAll];omega
def ESc {α:Type}(s:Nat)(E:Hp→List Value→α→Prop)(σ:Hp)(vs:List Value)(xs:List α):Prop:=∃p n c,vs=[.slice p n c]∧n≤c∧AT s E σ p n xs
theorem G8.slice {α:Type}{t e:TypeId}{s:Nat}{E:Hp→List Value→α→Prop}{I:α→Prop}{sz:α→Nat}(ht:prog.underlying t=some (.slice e))(hs:prog.cellsOf e=s)(hs0:0<s)(he:G8 e E I sz):
  G8 t (ESc s E) (fun xs=>∀x∈xs,I x) (fun xs=>(xs.map sz).sum+1):=by
 intro H enc w base sp held fuel cs x h hw;subst hs;rcases open_slice ht h with ⟨rfl,rfl⟩|⟨a,len,cap,m,n,D,Pl,rfl,hb,hl,hm,hmm,rfl,hi⟩
 ·exact⟨[],⟨none,0,0,rfl,AiV _,AT.nil⟩,by simp,by simp[Rows.uptoBulk]⟩
 ·have hlm:len≤m:=by rw[hmm];split<;>omega
  have fF:Rows.uptoBulkAll ((List.range len).map D)+1≤Rows.uptoBulk (DataW.slice ((List.range len).map D) ((List.range (m-len)).map fun j=>D (len+j))):=by
   simp only[Rows.uptoBulk];omega
  have hlen:=AAs ((List.range len).map D);rw[Aii,List.length_range]at hlen;have hwD:∀i,i<len→Rows.uptoBulk (D i)≤1048576:=fun i BF=>by
   have:=UA (List.mem_map.2 ⟨i,List.mem_range.2 BF,rfl⟩:D i∈(List.range len).map D);simp only at hw;omega
  by_cases h0:len=0
  ·subst h0;exact⟨[],⟨some a,0,cap,rfl,AiR _,AT.nil⟩,by simp,by simp only[Rows.uptoBulk,List.map_nil,List.sum_nil];omega⟩
  ·have j0:a.spot=none:=by
    obtain⟨cs',hc,_⟩:=hi 0 (by omega);obtain⟨_,ZC,hat⟩:=World.cells?_some hc;have h1:=hat 0 hs0;rw[AiN (by omega)]at h1;have:=Z2 h1;simpa[Addr.add] using this
   obtain⟨b,o,sp'⟩:=a;simp only at j0;subst j0;obtain⟨xs,hr,hI,hz⟩:=mkB (s:=prog.cellsOf e) (E:=E) (I:=I) (sz:=sz) (σ:=full w) (b:=b) (o:=o) (D:=D) (n:=len) (by simp only at hw;omega) (fun i BF=>by
    obtain⟨cs',hc,ht'⟩:=hi i (by omega);obtain⟨_,ZC,hat⟩:=World.cells?_some hc;obtain⟨y,hE,hy,mL⟩:=he ht' (hwD i BF);refine⟨cs',y,ZC,Ae.of fun j v hj=>?_,hE,hy,mL⟩;have Zz:j<prog.cellsOf e:=by have:=(List.getElem?_eq_some_iff.1 hj).1;omega
    have h1:=hat j Zz;rw[hj,DH,DH]at h1;exact Vb h1)
   exact⟨xs,⟨some ⟨b,o,none⟩,len,cap,rfl,hl,hr⟩,hI,by simp only at hz fF ⊢;omega⟩
def AD8 (_:Hp)(vs:List Value)(s:ByteArray):Prop:=vs=[.string s]
theorem G8.str {t:TypeId}(ht:prog.underlying t=some .string):G8 t AD8 (fun s=>s.size≤1048576) (fun s=>s.size+1):=fun h hw=>by
 obtain⟨n,rfl,rfl,_⟩:=DataW.trod_string ht h;have e:n.data.toList.length=n.size:=AjA;have hw:n.data.toList.length+1≤1048576:=hw;rw[e]at hw;exact⟨n,rfl,by omega,show n.size+1≤n.data.toList.length+1 by rw[e];exact AiV _⟩
theorem Si {H:Type}{l:List (DataW H)}{d:DataW H}(h:Rows.uptoBulk (DataW.agg l)≤1048576)(hd:d∈l):Rows.uptoBulk d≤1048576:=by
 have:=UA hd;simp only[Rows.uptoBulk]at h;omega
theorem AD9 {α:Type}:∀l:List α,(l.map fun _=>1).sum=l.length:=fun l=>by induction l with
 | nil=>rfl
 | cons a l ih=>simp;omega
theorem G8.len {α:Type}{t e:TypeId}{s:Nat}{E:Hp→List Value→α→Prop}{I:α→Prop}(ht:prog.underlying t=some (.slice e))(hs:prog.cellsOf e=s)(hs0:0<s)(he:G8 e E I (fun _=>1)):
  G8 t (ESc s E) (fun xs=>(∀x∈xs,I x)∧xs.length≤1048576) (fun _=>1):=fun h hw=>by
 obtain⟨xs,h1,h2,h3⟩:=G8.slice ht hs hs0 he h hw;dsimp only at h3;rw[AD9]at h3;exact⟨xs,h1,⟨h2,by omega⟩,Iv _⟩
theorem G8.one {α:Type}{t:TypeId}{E:Hp→List Value→α→Prop}{I:α→Prop}{sz:α→Nat}(h:G8 t E I sz):G8 t E I (fun _=>1):=fun h1 hw=>by
 obtain⟨y,a,b,c⟩:=h h1 hw;exact⟨y,a,b,Iv _⟩
set_option maxRecDepth 100000
set_option linter.unusedSimpArgs false
theorem AKo:G8 61 J5 (fun p=>0≤p.2∧p.2<18446744073709551616) (fun _=>1):=by
 intro H enc w base sp held fuel cs x h hw;obtain⟨xs,n,_,rfl,hlen,tw,hg⟩:=DataW.trod_struct underlying61 h;rw[show prog.cellsOf 61=2 by kernel_rfl]at hlen
 match cs,hlen,xs,tw with
 | [c0,c1],_,[y0,y1],_=>
  have h0:=hg 0 _ rfl;have h1:=hg 1 _ rfl;simp only[show prog.cellsOf 2=1 by kernel_rfl,show prog.cellsOf 57=1 by kernel_rfl,List.drop,List.take,Aim,Ai3]at h0 h1;obtain⟨a,e0,_,_⟩:=DataW.trod_int underlying2 h0;obtain⟨b,e1,_,wb⟩:=DataW.trod_int underlying57 h1;cases e0;cases e1;refine⟨(a,b),rfl,?_,Iv _⟩;simp[Lit.wf,IntKind.min,IntKind.max,IntKind.signed,IntKind.bits]at wb;exact⟨wb.1,by omega⟩
theorem AKp:G8 71 BL (fun _=>True) (fun _=>1):=by
 intro H enc w base sp held fuel cs x h hw;obtain⟨xs,n,_,rfl,hlen,tw,hg⟩:=DataW.trod_struct underlying71 h;rw[show prog.cellsOf 71=2 by kernel_rfl]at hlen
 match cs,hlen,xs,tw with
 | [c0,c1],_,[y0,y1],_=>
  have h0:=hg 0 _ rfl;have h1:=hg 1 _ rfl;simp only[show prog.cellsOf 9=1 by kernel_rfl,List.drop,List.take,Aim,Ai3]at h0 h1;obtain⟨a,e0,_⟩:=DataW.trod_string underlying9 h0;obtain⟨b,e1,_⟩:=DataW.trod_string underlying9 h1;cases e0;cases e1;exact⟨(a,b),rfl,trivial,Iv _⟩
theorem AKq:G8 75 Jt (fun _=>True) (fun _=>1):=by
 intro H enc w base sp held fuel cs x h hw;obtain⟨xs,n,_,rfl,hlen,tw,hg⟩:=DataW.trod_struct underlying75 h;rw[show prog.cellsOf 75=3 by kernel_rfl]at hlen
 match cs,hlen,xs,tw with
 | [c0,c1,c2],_,[y0,y1,y2],_=>
  have h0:=hg 0 _ rfl;have h1:=hg 1 _ rfl;have h2:=hg 2 _ rfl;simp only[show prog.cellsOf 9=1 by kernel_rfl,show prog.cellsOf 3=1 by kernel_rfl,List.drop,List.take,Aim,Ai3]at h0 h1 h2;obtain⟨z,e0,_⟩:=DataW.trod_int underlying3 h0;obtain⟨a,e1,_⟩:=DataW.trod_string underlying9 h1;obtain⟨b,e2,_⟩:=DataW.trod_string underlying9 h2;cases e0;cases e1;cases e2;exact⟨⟨z,a,b⟩,rfl,trivial,Iv _⟩
def j1 {α:Type}(I:α→Prop)(xs:List α):Prop:=(∀x∈xs,I x)∧xs.length≤1048576
theorem AKr:G8 47 (ESc 2 BL) (j1 fun _=>True) (fun _=>1):=G8.len (s:=2) underlying47 (by kernel_rfl) (by decide) AKp
theorem AKs:G8 49 (ESc 2 J5) (j1 fun p=>0≤p.2∧p.2<18446744073709551616) (fun _=>1):=G8.len (s:=2) underlying49 (by kernel_rfl) (by decide) AKo
theorem AKt:G8 41 (ESc 3 Jt) (j1 fun _=>True) (fun _=>1):=G8.len (s:=3) underlying41 (by kernel_rfl) (by decide) AKq
theorem AKu:G8 42 (ESc 1 AD8) (j1 fun s=>s.size≤1048576) (fun _=>1):=G8.len (s:=1) underlying42 (by kernel_rfl) (by decide) (G8.one (G8.str underlying9))
theorem ATj {σ:Hp}:∀{cs:List Value} {xs:List ByteArray},Ch 1 AD8 σ cs xs→cs=xs.map .string:=by
 rintro cs xs ⟨h1,h2⟩
 refine AjP fun i=>?_;rw[Ait];cases hx:xs[i]? with
 | none=>
  have:=List.getElem?_eq_none_iff.1 hx;simp only[Option.map_none];exact List.getElem?_eq_none_iff.2 (by omega)
 | some x=>
  have:=h2 i x hx;simp only[AD8]at this;have h3:=Aie (·[0]?) this;simp at h3;simpa using h3
theorem AKv:G8 51 Dh (fun s=>s.ls.length≤1048576∧s.ps.length≤1048576∧∀p∈s.ps,0≤p.2∧p.2<18446744073709551616) (fun _=>1):=by
 intro H enc w base sp held fuel cs x h hw;obtain⟨xs,n,_,rfl,hlen,tw,hg⟩:=DataW.trod_struct underlying51 h;rw[show prog.cellsOf 51=2 by kernel_rfl]at hlen
 match cs,hlen,xs,tw with
 | [c0,c1],_,[y0,y1],_=>
  have h0:=hg 0 _ rfl;have h1:=hg 1 _ rfl;simp only[show prog.cellsOf 47=1 by kernel_rfl,show prog.cellsOf 49=1 by kernel_rfl,List.drop,List.take,Aim,Ai3]at h0 h1;obtain⟨ls,⟨p,k,c,e0,hc0,r0⟩,⟨_,l0⟩,_⟩:=AKr h0 (Si hw (by simp));obtain⟨ps,⟨q,m,d,e1,hc1,r1⟩,⟨i1,l1⟩,_⟩:=AKs h1 (Si hw (by simp));cases e0;cases e1;exact⟨⟨ls,ps⟩,⟨p,k,c,q,m,d,rfl,r0,r1,hc1⟩,⟨l0,l1,i1⟩,Iv _⟩
theorem AKw:G8 44 GF (fun x=>x.text.size≤1048576∧x.mt.length≤1048576∧x.names.length≤1048576) (fun _=>1):=by
 intro H enc w base sp held fuel cs x h hw;obtain⟨xs,n,_,rfl,hlen,tw,hg⟩:=DataW.trod_struct underlying44 h;rw[show prog.cellsOf 44=10 by kernel_rfl]at hlen
 match cs,hlen,xs,tw with
 | [c0,c1,c2,c3,c4,c5,c6,c7,c8,c9],_,[y0,y1,y2,y3,y4,y5,y6,y7,y8,y9],_=>
  have h0:=hg 0 _ rfl;have h1:=hg 1 _ rfl;have h2:=hg 2 _ rfl;have h3:=hg 3 _ rfl;have h4:=hg 4 _ rfl;have h5:=hg 5 _ rfl;have h6:=hg 6 _ rfl;have h7:=hg 7 _ rfl;have h8:=hg 8 _ rfl;have h9:=hg 9 _ rfl;simp only[show prog.cellsOf 3=1 by kernel_rfl,show prog.cellsOf 9=1 by kernel_rfl,show prog.cellsOf 41=1 by kernel_rfl,show prog.cellsOf 2=1 by kernel_rfl,show prog.cellsOf 42=1 by kernel_rfl,show prog.cellsOf 4=1 by kernel_rfl,List.drop,List.take,Aim,Ai3]at h0 h1 h2 h3 h4 h5 h6 h7 h8 h9;obtain⟨a0,e0,_,_⟩:=DataW.trod_int underlying3 h0;obtain⟨a1,e1,_,_⟩:=DataW.trod_int underlying3 h1;obtain⟨a2,e2,i2,_⟩:=G8.str underlying9 h2 (Si hw (by simp));obtain⟨a3,⟨p,k,c,e3,_,r3⟩,⟨_,l3⟩,_⟩:=AKt h3 (Si hw (by simp));obtain⟨a4,e4,_,_⟩:=DataW.trod_int underlying2 h4;obtain⟨a5,e5,_,_⟩:=DataW.trod_int underlying2 h5;obtain⟨a6,e6,_,_⟩:=DataW.trod_int underlying3 h6;obtain⟨a7,⟨q,m,d,e7,_,r7⟩,⟨_,l7⟩,_⟩:=AKu h7 (Si hw (by simp));obtain⟨a8,e8,_⟩:=DataW.trod_bool underlying4 h8;obtain⟨a9,e9,_,_⟩:=DataW.trod_int underlying3 h9;have e2:[c2]=[.string a2]:=e2;cases e0;cases e1;cases e2;cases e3;cases e4;cases e5;cases e6;cases e7;cases e8;cases e9;obtain⟨_,cs,g1,g2⟩:=r7;rw[ATj g2]at g1;exact⟨⟨a0,a1,a2,a3,a4,a5,a6,a7,a8,a9⟩,⟨p,k,c,q,m,d,rfl,r3,g1⟩,⟨i2,l3,l7⟩,Iv _⟩
section
variable {H:Type}{enc:TypeId×Value→H}{W:World}{base:Nat}{v v':Value}{d d':DataW H}{ps ps':List MemPlace}{r:Reach}
theorem AAt (hv:Value.okWide prog W r base 22 v)(h:DataW.Trod enc prog W 0 (fun _=>true) true 22 v d ps)(hw:Rows.uptoBulk d≤1048576):∃p n c T,v=.slice p n c∧AT 10 GF (full W) p n T∧j1 (fun x:Nd=>x.text.size≤1048576∧x.mt.length≤1048576∧x.names.length≤1048576) T:=by
 obtain⟨a,l,c,rfl⟩:=okWide_slice underlying22 hv;obtain⟨fuel,hf⟩:=h;obtain⟨xs,⟨p,n,c',e,_,hr⟩,hI,_⟩:=G8.len (s:=10) underlying22 (by kernel_rfl) (by decide) AKw hf hw;have e':[Value.slice a l c]=[.slice p n c']:=by simpa[Value.cells] using e
 cases e';exact⟨a,l,c,xs,rfl,hr,hI⟩
theorem AAu (hv:Value.okWide prog W r base 23 v)(h:DataW.Trod enc prog W 0 (fun _=>true) true 23 v d ps)(hw:Rows.uptoBulk d≤1048576):∃p n c ss,v=.slice p n c∧AT 2 Dh (full W) p n ss∧j1 (fun s:Sr=>s.ls.length≤1048576∧s.ps.length≤1048576∧∀p∈s.ps,0≤p.2∧p.2<18446744073709551616) ss:=by
 obtain⟨a,l,c,rfl⟩:=okWide_slice underlying23 hv;obtain⟨fuel,hf⟩:=h;obtain⟨xs,⟨p,n,c',e,_,hr⟩,hI,_⟩:=G8.len (s:=2) underlying23 (by kernel_rfl) (by decide) AKv hf hw;have e':[Value.slice a l c]=[.slice p n c']:=by simpa[Value.cells] using e
 cases e';exact⟨a,l,c,xs,rfl,hr,hI⟩
end
theorem AKx {f:FuncId}{fn:Func}{s:ChangeSpec}{H:Type}{enc:TypeId×Value→H}{W:World}{args:Array Value}{ds gs:List (DataW H)}{before:List MemPlace}(hr:(fn.params.toList.all fun t=>prog.readableRec t&&Nat.blt t prog.types.size)=true)
  (hrt:fn.resultTypes=#[4]) (hv:s.vars=[]) (VX:(s.fn H (ds++gs)).results=[.lit (.bool true)]∧(s.fn H (ds++gs)).args=ds∧(s.fn H (ds++gs)).vars=[])
  (hW:DataW.Whole enc prog fn.params.toList s.vars false W args.toList ds gs before) (h:Lawful prog f args W) :
  Calls prog f args W fun e W'=>∃v,e=.returned v∧s.post enc prog fn false true false false W args v W':=
 h.calls.mono fun e W' ⟨he,hb⟩=>⟨_,he,ue laidOut hr hrt underlying4 hv VX hW hb⟩
end TwW.Rw
end
