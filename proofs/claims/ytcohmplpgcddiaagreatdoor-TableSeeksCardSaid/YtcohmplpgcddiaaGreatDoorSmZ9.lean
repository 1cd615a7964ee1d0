/- Part 9 of the proof of the law TableSeeks: the walks through its functions and the plain laws that they need. -/
import Derived.Test.YtcohmplpgcddiaaGreatDoorSmZ8
set_option linter.unusedSimpArgs false
set_option linter.unusedVariables false
noncomputable section
namespace Go.Proofs.YtcohmplpgcddiaaGreatDoor
open Go.ChangeShapes Go.WideShapes Go.ChangeAt Go.RowKit
theorem ahU:(Tryz.prog.info? 97).map (·.zero)=some (some (.nilFunc)):=by kernel_rfl
namespace InF.G
noncomputable def QM:=Tryz.f22.body.getD .skip
noncomputable def Z4b:=cL QM
noncomputable def QL:=cR QM
noncomputable def Z4d:=cL QL
noncomputable def QK:=cR QL
noncomputable def KR:=cL QK
noncomputable def KQ:=cR QK
noncomputable def Z4h:=cL KR
noncomputable def KP:=cR KR
noncomputable def QJ:=cL KP
noncomputable def Z4k:=cR KP
noncomputable def Z4l:=cL QJ
noncomputable def Z4m:=cR QJ
noncomputable def Z4n:=cL KQ
noncomputable def QI:=cR KQ
noncomputable def QH:=cL QI
noncomputable def QG:=cR QI
noncomputable def Z4r:=cL QH
noncomputable def Z4s:=cR QH
noncomputable def Z4t:=cR Z4s
noncomputable def Z4u:=cL QG
noncomputable def QF:=cR QG
noncomputable def Z4w:=cL QF
noncomputable def QE:=cR QF
noncomputable def Z4y:=cL QE
noncomputable def Z4z:=cR QE
set_option maxHeartbeats 2000000 in
set_option maxRecDepth 10000 in
theorem ahR{w:World}{M:Hp}{X:Fr}(d:Dg)(m:Mv){dA:Option Addr}{dc:Nat}{f:Nat}(hm:lh m)(hk:Fl m.kd=some f)(wh:aJ bu (M.un X.h) dA dc d.ae)(S:SH w M X []):Ct Tryz.prog 22 [.agg [.slice dA d.ae.length dc,.int .i64 d.loops].toArray,.agg [.int .i64 m.kd,.int .i64 m.at_,.int .i64 m.dG,.int .i64 m.ua,.bool m.ub,.int .i64 m.va,.bool m.vb,.bool m.ov].toArray] w M X (Ee (bR d m)):=by
 unfold Ct
 refine RI (b:=QM) Tryz.func22 rfl Tryz.ntmps22 rfl (fun C Cl hC=>?_)
 refine yx [(0,_),(1,_)] ⟨rfl,rfl,trivial⟩ ?_
 refine fe Z4b QL rfl rfl rfl ?_
 refine fQ rfl ?_
 refine bG (k:=0) (k':=1) rfl rfl rfl (dx (l:=[_,_]) rfl rfl rfl rfl rfl S ?_)
 intro aP w1 S1;clear S
 refine bG (k:=1) (k':=2) rfl rfl rfl (dx (l:=[_,_,_,_,_,_,_,_]) rfl rfl rfl rfl rfl S1 ?_)
 intro bJ w2 S2;clear S1
 refine bG (k:=2) (k':=3) rfl rfl rfl (bW (l:=[_,_]) rfl rfl rfl jo rfl S2 ?_)
 intro dE w3 S3;clear S2
 refine bG (k:=3) (k':=4) rfl rfl rfl (bW (l:=[_]) rfl rfl rfl ahX rfl S3 ?_)
 intro lK w4 S4;clear S3
 refine fq rfl ?_
 refine fy [(2,_),(3,_),(4,_),(5,_)] ⟨rfl,rfl,rfl,rfl,trivial⟩ ?_
 refine bK ?_
 refine fe Z4d QK rfl rfl rfl ?_
 refine fQ rfl ?_
 refine bG (k:=0) (k':=1) rfl rfl rfl (bT rfl rfl (uG (us:=[_,_]) rfl rfl aM rfl aN (S4.ql (i:=3) rfl ⟨rfl,rfl,trivial⟩)) ?_)
 refine bG (k:=1) (k':=2) rfl rfl rfl (Mk rfl rfl rfl rfl rfl rfl rfl YB S4 (U4 d (wh.mono S4.bn) S4.aT) ?_)
 intro PO w5 M1 Nw5 bh S5 Br;clear S4
 replace wh:=wh.mono (Hp.aD bh S5.mx)
 rcases Br with⟨hop,rfl,rfl⟩|⟨hop,dO,ggs,dY,iA,oA,fA,ic,oc,fc,fv,rfl,rfl,hsi,bq,gZ,il⟩
 ·have S6:SH _ _ _ [_,_,_,_]:=S5;clear S5
  refine bG (k:=2) (k':=3) rfl rfl rfl (bT rfl rfl (run_move rfl rfl) ?_)
  refine bG (k:=3) (k':=4) rfl rfl rfl (bT rfl rfl (BG rfl rfl rfl) ?_)
  refine bG (k:=4) (k':=5) rfl rfl rfl (bT rfl rfl (BG rfl rfl rfl) ?_)
  refine bG (k:=5) (k':=6) rfl rfl rfl (bT rfl rfl (run_assign rfl rfl) ?_)
  refine bG (k:=6) (k':=7) rfl rfl rfl (bT rfl rfl (run_assign rfl rfl) ?_)
  refine fq rfl ?_
  refine fy [(3,_),(4,_),(5,_),(6,_),(7,_)] ⟨rfl,rfl,rfl,rfl,rfl,trivial⟩ ?_
  refine bK ?_
  refine fe KR KQ rfl rfl rfl ?_
  refine fe Z4h KP rfl rfl rfl ?_
  refine fQ rfl ?_
  refine bG (k:=0) (k':=1) rfl rfl rfl (bT rfl rfl (run_move rfl rfl) ?_)
  refine bG (k:=1) (k':=2) rfl rfl rfl (bT rfl rfl (CG rfl rfl) ?_)
  refine fq rfl ?_
  refine fy [(3,_),(4,_),(5,_),(6,_),(15,_)] ⟨rfl,rfl,rfl,rfl,rfl,trivial⟩ ?_
  refine bK ?_
  refine K9 QJ rfl rfl rfl ?_
  refine fe Z4l Z4m rfl rfl rfl ?_
  refine fQ rfl ?_
  refine bG (k:=0) (k':=1) rfl rfl rfl (bT rfl rfl (run_build (l:=[_,_]) rfl rfl iC rfl rfl) ?_)
  refine bG (k:=1) (k':=2) rfl rfl rfl (gJ (i:=1) (us:=[_,_]) (l':=[_,_]) (H':=[_,_,_,_]) rfl rfl S6 rfl rfl rfl rfl aN rfl rfl rfl rfl ?_)
  intro w6 S7;clear S6
  refine bG (k:=2) (k':=3) rfl rfl rfl (gJ (i:=0) (us:=[_]) (l':=[_]) (H':=[_,_,_,_]) rfl rfl S7 rfl rfl rfl rfl Om rfl rfl rfl rfl ?_)
  intro w7 S8;clear S7
  refine fq rfl ?_
  refine fy [(4,_),(5,_)] ⟨rfl,rfl,trivial⟩ ?_
  refine bK ?_
  refine dI hC [_,_] rfl rfl ⟨⟨_,rfl,dK (us:=[_,_]) aM rfl aN (S8.ql (i:=1) rfl ⟨rfl,rfl,trivial⟩)⟩,⟨_,rfl,Lz JF rfl (S8.nJ (i:=0) rfl rfl)⟩,trivial⟩ ?_
  refine⟨_,rfl,_,bh,(S8.pick [] [] (by decide) trivial),?_⟩
  rw[show bR d m=(⟨[],0⟩,7)from by unfold bR;rw[if_pos hop]]
  exact⟨none,0,rfl,aJ.eO⟩
 ·have S9:SH _ _ _ [_,_,_,_,_,_,_]:=S5;clear S5
  obtain⟨hn,hab,hlo⟩:=EG hop
  refine bG (k:=2) (k':=3) rfl rfl rfl (bT rfl rfl (run_move rfl rfl) ?_)
  refine bG (k:=3) (k':=4) rfl rfl rfl (bT rfl rfl (BG rfl rfl rfl) ?_)
  refine bG (k:=4) (k':=5) rfl rfl rfl (bT rfl rfl (BG rfl rfl rfl) ?_)
  refine bG (k:=5) (k':=6) rfl rfl rfl (bT rfl rfl (run_assign rfl rfl) ?_)
  refine bG (k:=6) (k':=7) rfl rfl rfl (bT rfl rfl (run_assign rfl rfl) ?_)
  refine fq rfl ?_
  refine fy [(3,_),(4,_),(5,_),(6,_),(7,_)] ⟨rfl,rfl,rfl,rfl,rfl,trivial⟩ ?_
  refine bK ?_
  refine fe KR KQ rfl rfl rfl ?_
  refine fe Z4h KP rfl rfl rfl ?_
  refine fQ rfl ?_
  refine bG (k:=0) (k':=1) rfl rfl rfl (bT rfl rfl (run_move rfl rfl) ?_)
  refine bG (k:=1) (k':=2) rfl rfl rfl (bT rfl rfl (CG rfl rfl) ?_)
  refine fq rfl ?_
  refine fy [(3,_),(4,_),(5,_),(6,_),(15,_)] ⟨rfl,rfl,rfl,rfl,rfl,trivial⟩ ?_
  refine bK ?_
  refine DI Z4k rfl rfl rfl ?_
  refine uD rfl ?_
  refine fy [(3,_),(4,_),(5,_),(6,_)] ⟨rfl,rfl,rfl,rfl,trivial⟩ ?_
  refine bK ?_
  refine fe Z4n QI rfl rfl rfl ?_
  refine LI rfl (by kernel_rfl) S9 5 rfl ?_
  clear S9
  refine Ej (i:=1) (d:=18) 4 rfl (by kernel_rfl) (by kernel_rfl) (by kernel_rfl) rfl rfl rfl (fun w9=>GF rfl rfl eT rfl (aY) (aX)) ?_
  refine Ev (i:=2) (d:=19) 3 rfl (by kernel_rfl) (by kernel_rfl) (by kernel_rfl) rfl rfl rfl (fun M5 N4 lI cH cF=>.inl (sV rfl rfl aG rfl (cF.suf.nJ (i:=5) rfl rfl))) ?_
  refine Ij (i:=0) 2 rfl (by kernel_rfl) rfl rfl (fun ng cS=>?_)
  refine(Ji rfl rfl rfl rfl rfl rfl rfl akb cS (aep cS.aT) ?_)
  intro N9 lH anL cC AL;clear cS
  obtain⟨gmk,rfl,rfl⟩:=AL
  have bY:SH _ _ _ [_,_,_,_,_,_,_,_]:=cC;clear cC
  refine lC.grow [_] (Hp.le_refl _) bY ?_;clear bY
  change WA _ _ _ _ _ _ _ _ _ _ _ _ [_,_,_,_,_,_,_,_]
  refine yq ?_
  refine Ev (i:=3) (d:=20) 1 rfl (by kernel_rfl) (by kernel_rfl) (by kernel_rfl) rfl rfl rfl (fun M7 N6 ow iN dW=>.inl (zn (kc:=(Value.int .i64)) (vc:=xX) (es:=MA) (k:=m.kd) (zv:=(none:Option Nat)) (i:=0) rfl rfl rfl Db mr ahU dW.suf rfl)) ?_
  refine Ej (i:=4) (d:=8) 0 rfl (by kernel_rfl) (by kernel_rfl) (by kernel_rfl) rfl rfl rfl (fun oU=>run_assign rfl rfl) ?_
  refine EE (by kernel_rfl) (fun pU fM=>?_)
  refine fy [(3,_),(4,_),(5,_),(6,_),(8,_)] ⟨rfl,rfl,rfl,rfl,rfl,trivial⟩ ?_
  refine bK ?_
  refine fe QH QG rfl rfl rfl ?_
  refine fe Z4r Z4s rfl rfl rfl ?_
  refine iZ 8 (.func (.func f) #[] #[]) rfl (by show xX (Fl m.kd)=_;rw[hk];rfl) ?_
  refine fQ rfl ?_
  refine bG (k:=0) (k':=1) rfl rfl rfl (bT rfl rfl (run_move rfl rfl) ?_)
  refine bG (k:=1) (k':=2) rfl rfl rfl (bT rfl rfl (abp rfl rfl rfl aid) ?_)
  refine fq rfl ?_
  refine fy [(3,_),(4,_),(5,_),(6,_),(8,_),(22,_)] ⟨rfl,rfl,rfl,rfl,rfl,rfl,trivial⟩ ?_
  refine bK ?_
  refine DI Z4t rfl rfl rfl ?_
  refine uD rfl ?_
  refine fy [(3,_),(4,_),(5,_),(6,_),(8,_)] ⟨rfl,rfl,rfl,rfl,rfl,trivial⟩ ?_
  refine bK ?_
  refine fe Z4u QF rfl rfl rfl ?_
  refine fQ rfl ?_
  refine bG (k:=0) (k':=1) rfl rfl rfl (bT rfl rfl (GD (vs:=[_,_]) rfl rfl rfl rfl) ?_)
  refine abg (k:=1) (k':=2) (cap:=[_,_]) rfl rfl rfl rfl rfl rfl rfl rfl Cl ?_
  refine iK.fq rfl ?_
  refine iK.fy [(3,_),(4,_),(5,_),(6,_),(8,_)] ⟨rfl,rfl,rfl,rfl,rfl,trivial⟩ ?_
  refine iK.bK ?_
  refine iK.fe Z4w QE rfl rfl rfl ?_
  refine iK.fQ rfl ?_
  refine iK.bG (k:=0) (k':=1) rfl rfl rfl (bT rfl rfl (run_move rfl rfl) ?_)
  refine iK.bG (k:=1) (k':=2) rfl rfl rfl (bT rfl rfl (run_move rfl rfl) ?_)
  refine iK.bG (k:=2) (k':=3) rfl rfl rfl (bT rfl rfl (uG (us:=[_,_,_,_,_,_,_,_]) rfl rfl eT rfl sF (fM.ql (i:=6) rfl ⟨rfl,rfl,rfl,rfl,rfl,rfl,rfl,rfl,trivial⟩)) ?_)
  have eF:=fM.pick [1,2,3,0,4,5,6,7] [_,_,_,_,_,_,_,_] (by decide) ⟨rfl,rfl,rfl,rfl,rfl,rfl,rfl,rfl,trivial⟩;clear fM
  have fx:SH _ _ _ (Rs.cV [_,_,_]::[_,_,_,_,_]):=SH.qy (A:=[_,_,_]) (B:=[_,_,_,_,_]) eF;clear eF
  have jw:SH _ _ _ [_,_,_,_,_,_]:=fx.less (i:=0) rfl
  clear jw
  have O3:=ac1 m hm hk d hsi bq gZ il hn hab hlo (fx.mH (i:=0) rfl)
  refine iK.ab0 (k:=3) (k':=4) rfl rfl rfl rfl rfl rfl rfl rfl rfl rfl (acD hm hk) (Cm.two fx rfl O3) ?_ ?_
  ·rintro _ sY ⟨O2,M28,_,q8,fG,rfl,A28,c28,rfl,h28⟩
   clear O3 fx
   replace wh:=wh.mono (Hp.aD q8 fG.mx)
   replace hsi:=hsi.mono q8
   replace bq:=bq.mono q8
   replace gZ:=gZ.mono q8
   replace il:=il.mono q8
   replace fG:SH _ _ _ (Rs.cV [_,_]::[_,_,_,_,_]):=fG
   have gH:SH _ _ _ [_,_,_,_,_,_,_]:=SH.rX (A:=[_,_]) (B:=[_,_,_,_,_]) fG;clear fG
   refine iK.fq rfl ?_
   refine iK.fy [(4,_),(5,_),(6,_)] ⟨rfl,rfl,rfl,trivial⟩ ?_
   refine iK.bK ?_
   refine iK.fe Z4y Z4z rfl rfl rfl ?_
   refine iK.fQ rfl ?_
   refine iK.bG (k:=0) (k':=1) rfl rfl rfl (bT rfl rfl (run_move rfl rfl) ?_)
   refine iK.bG (k:=1) (k':=2) rfl rfl rfl (bT rfl rfl (KX rfl rfl) ?_)
   refine iK.bG (k:=2) (k':=3) rfl rfl rfl (bT rfl rfl (GF rfl rfl kX rfl (mW) (mN)) ?_)
   refine iK.bG (k:=3) (k':=4) rfl rfl rfl (bT rfl rfl (sV rfl rfl lB rfl (gH.nJ (i:=0) rfl rfl)) ?_)
   refine iK.bG (k:=4) (k':=5) rfl rfl rfl (bT rfl rfl (KX rfl rfl) ?_)
   refine iK.bG (k:=5) (k':=6) rfl rfl rfl (bT rfl rfl (GF rfl rfl jy rfl (jZ) (jX)) ?_)
   refine iK.bG (k:=6) (k':=7) rfl rfl rfl (bT rfl rfl (uG (us:=[_,_]) rfl rfl aM rfl aN (gH.ql (i:=1) rfl ⟨rfl,rfl,trivial⟩)) ?_)
   refine iK.bG (k:=7) (k':=8) rfl rfl rfl (gJ (i:=4) (us:=[_,_]) (l':=[_,_]) (H':=[_,_,_,_,_,_,_]) rfl rfl gH rfl rfl rfl rfl aN rfl rfl rfl rfl ?_)
   intro vP gN;clear gH
   refine iK.bG (k:=8) (k':=9) rfl rfl rfl (gJ (i:=3) (us:=[_]) (l':=[_]) (H':=[_,_,_,_,_,_,_]) rfl rfl gN rfl rfl rfl rfl Om rfl rfl rfl rfl ?_)
   intro BO gI;clear gN
   refine iK.fq rfl ?_
   refine iK.fy [(4,_),(5,_)] ⟨rfl,rfl,trivial⟩ ?_
   refine iK.bK ?_
   refine iK.LH rfl (fun a28 Gc=>?_)
   rw[hC]
   show LeavesInM Fence.wide 0 Tryz.prog Tryz.f22 a28.tmps _ a28.defers .returning _
   rw[Gc.df]
   refine Sw (fun h=>by cases h) Yp (CallsDIn.mono catchR ?_)
   rintro e9 u9 w9 ⟨rfl,rfl,rfl⟩
   refine⟨_,rfl,rfl,tup [_,_],BH Gc.Al rfl ⟨⟨_,rfl,dK (us:=[_,_]) aM rfl aN (gI.ql (i:=4) rfl ⟨rfl,rfl,trivial⟩)⟩,⟨_,rfl,Lz JF rfl (gI.nJ (i:=3) rfl rfl)⟩,trivial⟩,_,rfl,_,bh.trans q8,gI.pick [] [] (by decide) trivial,?_⟩
   rw[show bR d m=(jT d m,0)from by unfold bR;rw[if_neg (by rw[hop];decide),if_pos O2]]
   exact⟨_,_,rfl,h28⟩
  ·rintro _ sY ⟨O2,rfl,M28,q8,fG⟩ a28 Gc
   clear O3 fx
   replace fG:SH _ _ _ [_,_,_,_,_,_]:=fG
   rw[hC]
   show LeavesInM Fence.wide 0 Tryz.prog Tryz.f22 a28.tmps _ a28.defers (.panicking _) sY
   rw[Gc.df]
   refine Sw (fun h=>by cases h) Yp (CallsDIn.mono (catchP (fG.pick [3,2] [_,_] (by decide) ⟨rfl,rfl,trivial⟩)) ?_)
   rintro e9 u9 w9 ⟨rfl,vV,S9⟩
   refine⟨_,rfl,vV,tup [_,_],BH Gc.Al rfl ⟨⟨_,rfl,dK (us:=[_,_]) aM rfl aN (S9.ql (i:=0) rfl ⟨rfl,rfl,trivial⟩)⟩,⟨_,rfl,Lz JF rfl (S9.nJ (i:=1) rfl rfl)⟩,trivial⟩,_,rfl,M28,bh.trans q8,S9.pick [] [] (by decide) trivial,?_⟩
   rw[show bR d m=(⟨[],0⟩,jC d m)from by unfold bR;rw[if_neg (by rw[hop];decide),if_neg O2]]
   exact⟨none,0,rfl,aJ.eO⟩
end InF.G
theorem ZT{w:World}{M:Hp}{X:Fr}(d:Dg)(m:Mv)(hm:lh m){dA:Option Addr}{dc:Nat}(wh:aJ bu (M.un X.h) dA dc d.ae)(S:SH w M X []):Ct Tryz.prog 22 [.agg [.slice dA d.ae.length dc,.int .i64 d.loops].toArray,.agg [.int .i64 m.kd,.int .i64 m.at_,.int .i64 m.dG,.int .i64 m.ua,.bool m.ub,.int .i64 m.va,.bool m.vb,.bool m.ov].toArray] w M X (Ee (bR d m)):=by
 obtain⟨f,hk⟩:=acC hm
 exact InF.G.ahR d m hm hk wh S
end Go.Proofs.YtcohmplpgcddiaaGreatDoor
namespace Go.Proofs.YtcohmplpgcddiaaGreatDoor
open Go.ChangeShapes Go.WideShapes Go.ChangeAt Go.RowKit
def uP(e:Int)(D:Dg):Dg×Int:=if e=0 then(D,0)else(⟨[],0⟩,e)
theorem mY{e c:Int}{D:Dg}(h:e=c)(hc:c≠0):uP e D=(⟨[],0⟩,c):=by unfold uP;rw[h,if_neg hc]
theorem Vr{e:Int}{D E:Dg}(h:e=0)(hD:D=E):uP e D=(E,0):=by unfold uP;rw[if_pos h,hD]
theorem l7{N:Hp}(c:Int):Ee (⟨[],0⟩,c) (.tuple [.agg [.slice none 0 0,.int .i64 0].toArray,.int .i64 c].toArray) N:=⟨none,0,rfl,aJ.eO⟩
noncomputable def Z50:=Tryz.f5.body.getD .skip
set_option maxRecDepth 10000 in
theorem aer{w:World}{M:Hp}{X:Fr}(d:Dg){bz:Option Addr}{bw:Nat}(aC:aJ bu (M.un X.h) bz bw d.ae)(S:SH w M X []):Co Tryz.prog 5 [.agg [.slice bz d.ae.length bw,.int .i64 d.loops].toArray] w M X (fun v N=>∃vr,v=.agg [vr,.int .i64 d.loops].toArray/\N=[Rs.row bu vr d.ae]):=by
 unfold Co
 have iL:d.ae.length*40<=140737488355328:=aC.room
 refine cw (b:=Z50) Tryz.func5 rfl Tryz.ntmps5 rfl (fun C hC=>(cB [0] rfl (ar (aj rfl (dx (l:=[_,_]) rfl rfl rfl rfl rfl S ?_)))))
 intro aP w1 S1;clear S
 refine aj rfl (bW (l:=[_,_]) rfl rfl rfl jo rfl S1 ?_)
 intro bJ w2 S2;clear S1
 refine bL [1,2] rfl (ag rfl (az rfl aM rfl dN dM) (ag rfl (aw rfl cE (S2.bc 1 rfl rfl)) ?_))
 have S3:=S2.jI bu;clear S2
 refine aj rfl (sX (C:=bu) (i:=0) rfl rfl rfl rfl rfl rfl rfl rfl fX S3 rfl aC S3.um (by have h:_*40<=_:=aC.room;show(0+_)*40<=_;first|omega|(simp only[ls];omega)) ?_)
 intro vQ w3 S4;clear S3
 change SH _ _ _ [Rs.row bu vQ d.ae,_,_]at S4
 refine ag rfl (az rfl aM rfl dN dM) (aj rfl (gJ (i:=2) (us:=[_]) (l':=[_,_]) (H':=[_,_,_]) rfl rfl S4 rfl rfl rfl (S4.nS (i:=0) rfl) Dc rfl (iq (S4.one (i:=0) rfl) rfl) rfl rfl ?_))
 intro w4 S5;clear S4
 refine bL [1,2] rfl (ag rfl (aU [_,_] rfl aM aN (S5.bs 2 rfl rfl)) (aj rfl (gJ (i:=1) (us:=[_,_]) (l':=[_,_]) (H':=[_,_,_]) rfl rfl S5 rfl rfl rfl rfl aN rfl (iq (S5.one (i:=0) rfl) (iq rfl rfl)) rfl rfl ?_)))
 intro w5 S6;clear S5
 refine ax [2] rfl (dI hC [_] rfl rfl ⟨⟨_,rfl,dK (us:=[_,_]) aM rfl aN (S6.bs 1 rfl rfl)⟩,trivial⟩ ?_)
 exact⟨_,rfl,_,S6.pick [0] [_] (by decide) ⟨rfl,trivial⟩,⟨_,rfl,rfl⟩⟩
noncomputable def Z51:=Tryz.f67.body.getD .skip
set_option maxRecDepth 10000 in
theorem I9{w:World}{M:Hp}{X:Fr}{dY:Value}(xs:List Cr)(lo:Int)(c k:Nat)(a:Int)(hc:c<xs.length)(hk:k<4)(S:SH w M X [Rs.cV [Rs.row bu dY xs]]):C1 Tryz.prog 67 [.agg [dY,.int .i64 lo].toArray,.agg [.int .i64 (c:Int),.int .i64 (k:Int)].toArray,.int .i64 a] w M X (fun u M' r'=>u=.tuple [].toArray/\M'=M/\r'=Rs.cV [Rs.row bu dY (eB xs c k a)]):=by
 unfold C1
 replace S:=S.se
 refine cw (b:=Z51) Tryz.func67 rfl Tryz.ntmps67 rfl (fun C hC=>(cB [0,1,2] rfl (ar (aj rfl (dx (l:=[_,_]) rfl rfl rfl rfl rfl S ?_)))))
 intro aP w1 S1;clear S
 refine aj rfl (dx (l:=[_,_]) rfl rfl rfl rfl rfl S1 ?_)
 intro bJ w2 S2;clear S1
 refine bL [2,3,4] rfl (ag rfl (az rfl aM rfl dN dM) (ag rfl (aw rfl cE (S2.bc 1 rfl rfl)) (ag rfl (az rfl dR rfl aY aX) (ag rfl (aw rfl aG (S2.bc 0 rfl rfl)) (ag rfl (bS (i:=2) c rfl fX S2 rfl) (ag rfl (aU [_,_,_,_,_] rfl b6 fN (S2.qY (i:=2) (e:=c) (j:=0) rfl (by first|omega|(simp only[ls];omega)) ⟨rfl,rfl,rfl,rfl,rfl,trivial⟩)) ?_))))))
 refine aj rfl (bW (l:=[_,_,_,_,_]) rfl rfl rfl vt rfl S2 ?_)
 intro dE w3 S3;clear S2
 refine aj rfl (bH 0 [_,_,_,_,_] [_,_,_,_,_] [_,_,_,_] rfl S3 rfl rfl fN rfl rfl ?_)
 intro w4 S4;clear S3
 refine bM [2,3,4,6] rfl (ar (ag rfl (az rfl dR rfl aY aX) (ag rfl (aw rfl aG (S4.bc 1 rfl rfl)) (ax [2,3,4,6,14] rfl (bg (ar (af 2 rfl (ax [2,3,4,6,14,15] rfl ?_))))))))
 refine bp rfl (fun ajH=>?_) (fun ajH=>?_)
 ·refine aH (af 1 rfl (ag rfl (az rfl b6 rfl aY aX) (aj rfl (bH 0 [_] [_,_,_,_,_] [_,_,_,_] rfl S4 rfl rfl gp rfl rfl ?_))))
  intro w5 S5;clear S4
  refine aB (bE (aW [3,4,6] rfl (aH (ag rfl (az rfl aM rfl dN dM) (ag rfl (aw rfl cE (S5.bc 2 rfl rfl)) (ag rfl (az rfl dR rfl aY aX) (ag rfl (aw rfl aG (S5.bc 1 rfl rfl)) (ag rfl (aU [_,_,_,_,_] rfl b6 fN (S5.bs 0 rfl rfl)) ?_))))))))
  refine ag rfl (bS (i:=3) c rfl fX S5 rfl) (aj rfl (iE (C:=bu) (i:=3) (e:=c) (j:=0) (us:=[_,_,_,_,_]) (H':=[_,_,_,_]) (⟨a,(ga xs c).b,(ga xs c).c,(ga xs c).d,(ga xs c).plus⟩:Cr) rfl rfl S5 rfl (by first|omega|(simp only[ls];omega)) rfl rfl rfl fN rfl rfl rfl rfl ?_))
  intro w6 S6;clear S5
  refine aB (l8 hC [] rfl trivial ?_)
  refine⟨_,rfl,_,_,Hp.le_refl _,(S6.pick [3] [_] (by decide) ⟨rfl,trivial⟩).cV,?_⟩
  obtain rfl|rfl|rfl|rfl:k=0\/k=1\/k=2\/k=3:=by omega
  all_goals first|(exfalso;omega)|exact⟨rfl,rfl,rfl⟩
 ·refine ar (af 2 rfl (ax [2,3,4,6,14,19] rfl ?_))
  refine bp rfl (fun l5=>?_) (fun l5=>?_)
  ·refine aH (af 1 rfl (ag rfl (az rfl b6 rfl aY aX) (aj rfl (bH 0 [_] [_,_,_,_,_] [_,_,_,_] rfl S4 rfl rfl gp rfl rfl ?_))))
   intro w7 S7;clear S4
   refine aB (bE (aW [3,4,6] rfl (aH (ag rfl (az rfl aM rfl dN dM) (ag rfl (aw rfl cE (S7.bc 2 rfl rfl)) (ag rfl (az rfl dR rfl aY aX) (ag rfl (aw rfl aG (S7.bc 1 rfl rfl)) (ag rfl (aU [_,_,_,_,_] rfl b6 fN (S7.bs 0 rfl rfl)) ?_))))))))
   refine ag rfl (bS (i:=3) c rfl fX S7 rfl) (aj rfl (iE (C:=bu) (i:=3) (e:=c) (j:=0) (us:=[_,_,_,_,_]) (H':=[_,_,_,_]) (⟨(ga xs c).a,a,(ga xs c).c,(ga xs c).d,(ga xs c).plus⟩:Cr) rfl rfl S7 rfl (by first|omega|(simp only[ls];omega)) rfl rfl rfl fN rfl rfl rfl rfl ?_))
   intro w8 S8;clear S7
   refine aB (l8 hC [] rfl trivial ?_)
   refine⟨_,rfl,_,_,Hp.le_refl _,(S8.pick [3] [_] (by decide) ⟨rfl,trivial⟩).cV,?_⟩
   obtain rfl|rfl|rfl|rfl:k=0\/k=1\/k=2\/k=3:=by omega
   all_goals first|(exfalso;omega)|exact⟨rfl,rfl,rfl⟩
  ·refine ar (af 2 rfl (ax [2,3,4,6,14,23] rfl ?_))
   refine bp rfl (fun Bl=>?_) (fun Bl=>?_)
   ·refine aH (af 1 rfl (ag rfl (az rfl b6 rfl aY aX) (aj rfl (bH 0 [_] [_,_,_,_,_] [_,_,_,_] rfl S4 rfl rfl gp rfl rfl ?_))))
    intro w9 S9;clear S4
    refine aB (bE (aW [3,4,6] rfl (aH (ag rfl (az rfl aM rfl dN dM) (ag rfl (aw rfl cE (S9.bc 2 rfl rfl)) (ag rfl (az rfl dR rfl aY aX) (ag rfl (aw rfl aG (S9.bc 1 rfl rfl)) (ag rfl (aU [_,_,_,_,_] rfl b6 fN (S9.bs 0 rfl rfl)) ?_))))))))
    refine ag rfl (bS (i:=3) c rfl fX S9 rfl) (aj rfl (iE (C:=bu) (i:=3) (e:=c) (j:=0) (us:=[_,_,_,_,_]) (H':=[_,_,_,_]) (⟨(ga xs c).a,(ga xs c).b,a,(ga xs c).d,(ga xs c).plus⟩:Cr) rfl rfl S9 rfl (by first|omega|(simp only[ls];omega)) rfl rfl rfl fN rfl rfl rfl rfl ?_))
    intro ld bQ;clear S9
    refine aB (l8 hC [] rfl trivial ?_)
    refine⟨_,rfl,_,_,Hp.le_refl _,(bQ.pick [3] [_] (by decide) ⟨rfl,trivial⟩).cV,?_⟩
    obtain rfl|rfl|rfl|rfl:k=0\/k=1\/k=2\/k=3:=by omega
    all_goals first|(exfalso;omega)|exact⟨rfl,rfl,rfl⟩
   ·refine ar (af 2 rfl (ax [2,3,4,6,27] rfl ?_))
    refine bp rfl (fun F8=>?_) (fun F8=>?_)
    ·refine aH (af 1 rfl (ag rfl (az rfl b6 rfl aY aX) (aj rfl (bH 0 [_] [_,_,_,_,_] [_,_,_,_] rfl S4 rfl rfl gp rfl rfl ?_))))
     intro lI cz;clear S4
     refine aB (bE (aW [3,4,6] rfl (aH (ag rfl (az rfl aM rfl dN dM) (ag rfl (aw rfl cE (cz.bc 2 rfl rfl)) (ag rfl (az rfl dR rfl aY aX) (ag rfl (aw rfl aG (cz.bc 1 rfl rfl)) (ag rfl (aU [_,_,_,_,_] rfl b6 fN (cz.bs 0 rfl rfl)) ?_))))))))
     refine ag rfl (bS (i:=3) c rfl fX cz rfl) (aj rfl (iE (C:=bu) (i:=3) (e:=c) (j:=0) (us:=[_,_,_,_,_]) (H':=[_,_,_,_]) (⟨(ga xs c).a,(ga xs c).b,(ga xs c).c,a,(ga xs c).plus⟩:Cr) rfl rfl cz rfl (by first|omega|(simp only[ls];omega)) rfl rfl rfl fN rfl rfl rfl rfl ?_))
     intro nL cO;clear cz
     refine aB (l8 hC [] rfl trivial ?_)
     refine⟨_,rfl,_,_,Hp.le_refl _,(cO.pick [3] [_] (by decide) ⟨rfl,trivial⟩).cV,?_⟩
     obtain rfl|rfl|rfl|rfl:k=0\/k=1\/k=2\/k=3:=by omega
     all_goals first|(exfalso;omega)|exact⟨rfl,rfl,rfl⟩
    ·refine aV (bE (aW [3,4,6] rfl (aH (ag rfl (az rfl aM rfl dN dM) (ag rfl (aw rfl cE (S4.bc 2 rfl rfl)) (ag rfl (az rfl dR rfl aY aX) (ag rfl (aw rfl aG (S4.bc 1 rfl rfl)) (ag rfl (aU [_,_,_,_,_] rfl b6 fN (S4.bs 0 rfl rfl)) ?_))))))))
     refine ag rfl (bS (i:=3) c rfl fX S4 rfl) (aj rfl (iE (C:=bu) (i:=3) (e:=c) (j:=0) (us:=[_,_,_,_,_]) (H':=[_,_,_,_]) (⟨(ga xs c).a,(ga xs c).b,(ga xs c).c,(ga xs c).d,(ga xs c).plus⟩:Cr) rfl rfl S4 rfl (by first|omega|(simp only[ls];omega)) rfl rfl rfl fN rfl rfl rfl rfl ?_))
     intro ng cF;clear S4
     refine aB (l8 hC [] rfl trivial ?_)
     refine⟨_,rfl,_,_,Hp.le_refl _,(cF.pick [3] [_] (by decide) ⟨rfl,trivial⟩).cV,?_⟩
     obtain rfl|rfl|rfl|rfl:k=0\/k=1\/k=2\/k=3:=by omega
     all_goals first|(exfalso;omega)|exact⟨rfl,rfl,rfl⟩
noncomputable def Z52:=Tryz.f66.body.getD .skip
set_option maxRecDepth 10000 in
theorem K6{w:World}{M:Hp}{X:Fr}(d:Dg){bz:Option Addr}{bw:Nat}(a:Int)(aC:aJ bu (M.un X.h) bz bw d.ae)(hab:aO d=true)(ha:1<=a/\a<=2*(d.ae.length:Int))(S:SH w M X []):Cq Tryz.prog 66 [.agg [.slice bz d.ae.length bw,.int .i64 d.loops].toArray,.int .i64 a] w M X (fun u=>u=.int .i64 (hgt d a:Int)):=by
 unfold Cq
 have iL:d.ae.length*40<=140737488355328:=aC.room
 obtain⟨_,hx1,_⟩:=fO hab ha false
 obtain⟨_,hx2,_⟩:=fO hab ha true
 refine cw (b:=Z52) Tryz.func66 rfl Tryz.ntmps66 rfl (fun C hC=>(cB [0,1] rfl (ar (aj rfl (dx (l:=[_,_]) rfl rfl rfl rfl rfl S ?_)))))
 intro aP w1 S1;clear S
 refine af 1 rfl (bM [1,2] rfl (dH S1 12 ?_))
 clear S1
 refine ay 0 rfl (fun ah Sz=>aU [_,_] rfl aM aN (Sz.suf.bs 0 rfl rfl)) (aK 10 [1] rfl (dQ 2 rfl (fun ah Sz=>dZ rfl rfl rfl rfl rfl sJ Sz (sN d a false ((aC.mono (Hp.aD ah Sz.mx)).mono Sz.bn) Sz.aT)) (aS 3 rfl (rH rfl rfl dR rfl aG rfl rfl) (aS 4 rfl (rF rfl rfl rfl (by first|omega|(simp only[ls];omega))) ?_))))
 refine ay 5 rfl (fun ah Sz=>aU [_,_] rfl aM aN (Sz.suf.bs 0 rfl rfl)) (aK 5 [6] rfl (dQ 7 rfl (fun ah Sz=>dZ rfl rfl rfl rfl rfl sJ Sz (sN d a true ((aC.mono (Hp.aD ah Sz.mx)).mono Sz.bn) Sz.aT)) (aS 8 rfl (rH rfl rfl dR rfl aG rfl rfl) (aS 9 rfl (rF rfl rfl rfl (by first|omega|(simp only[ls];omega))) ?_))))
 refine aS 10 rfl (bj rfl) (aK 0 [11] rfl (cD (fun lH ct=>(aW [4] rfl (bU hC rfl ?_)))))
 exact⟨_,rfl,(ct.pick [] [] (by decide) trivial),(by show Value.int _ _=_;unfold hgt;rfl)⟩
theorem acQ{x:Cr}{k:Nat}(hk:k<4)(h:decide (dw x k=dw x ((k+1)%4))=true):curlN x 4=true:=by
 obtain rfl|rfl|rfl|rfl:k=0\/k=1\/k=2\/k=3:=by omega
 all_goals simp only[curlN,h,Bool.or_true,Bool.true_or]
noncomputable def Z53:=Tryz.f40.body.getD .skip
set_option maxRecDepth 10000 in
theorem TV{w:World}{M:Hp}{X:Fr}(d:Dg){bz:Option Addr}{bw:Nat}(i:Nat)(aC:aJ bu (M.un X.h) bz bw d.ae)(hi:i<d.ae.length)(S:SH w M X []):Cq Tryz.prog 40 [.agg [.slice bz d.ae.length bw,.int .i64 d.loops].toArray,.int .i64 (i:Int)] w M X (fun u=>u=.bool (curlN (ga d.ae i) 4)):=by
 unfold Cq
 have iL:d.ae.length*40<=140737488355328:=aC.room
 refine cw (b:=Z53) Tryz.func40 rfl Tryz.ntmps40 rfl (fun C hC=>(cB [0,1] rfl (ar (aj rfl (dx (l:=[_,_]) rfl rfl rfl rfl rfl S ?_)))))
 intro aP w1 S1;clear S
 refine af 1 rfl (bM [1,2] rfl (ar (af 1 rfl (aB (bK (bg ?_))))))
 refine ck (fun aZ au aR=>∃(k:Nat),aZ=4-k/\Env 23 [(1,.int .i64 (i:Int)),(2,.pointer (some ⟨aP,0,none⟩)),(5,.int .i64 (k:Int))] au/\SH aR M X [Rs.box aP 24 [.slice bz d.ae.length bw,.int .i64 d.loops]]/\k<=4/\curlN (ga d.ae i) k=false) rfl ?_ ?_
 ·intro au aq
  refine⟨_,⟨0,rfl,aq.su rfl,S1.pick [0] [_] (by decide) ⟨rfl,trivial⟩,?dh,?dC⟩⟩
  case dh=>omega
  case dC=>rfl
 ·rintro m1 a1 w2 ⟨k,rfl,bN,S2,hk,hno⟩
  clear S1
  refine cy bN ?_
  clear bN a1
  refine cJ (ar (af 2 rfl (ax [1,2,5,7] rfl ?_)))
  refine bp rfl (fun hb7=>?_) (fun hb7=>?_)
  ·refine aV (bC [1,2,5] rfl (bg (cJ (dH S2 13 ?_))))
   clear S2
   refine ay 0 rfl (fun ah Sz=>aU [_,_] rfl aM aN (Sz.suf.bs 0 rfl rfl)) (aK 10 [1,2] rfl (ay 3 rfl (fun ah Sz=>run_build (l:=[_,_]) rfl rfl rq rfl rfl) (dQ 4 rfl (fun ah Sz=>dZ rfl rfl rfl rfl rfl ux Sz (uB d i k ((aC.mono (Hp.aD ah Sz.mx)).mono Sz.bn) (by omega) (by omega) Sz.aT)) ?_)))
   refine ay 5 rfl (fun ah Sz=>aU [_,_] rfl aM aN (Sz.suf.bs 0 rfl rfl)) (aK 5 [6,7] rfl (aS 8 rfl (bj rfl) (aS 9 rfl (rF rfl rfl rfl (by first|omega|(simp only[ls];omega))) ?_)))
   refine tN 19 (.int .i64 (((k+1)%4:Nat):Int)) rfl (int_eq (by omega)) ?_
   refine ay 10 rfl (fun ah Sz=>run_build (l:=[_,_]) rfl rfl rq rfl rfl) (dQ 11 rfl (fun ah Sz=>dZ rfl rfl rfl rfl rfl ux Sz (uB d i ((k+1)%4) ((aC.mono (Hp.aD ah Sz.mx)).mono Sz.bn) (by omega) (by omega) Sz.aT)) ?_)
   refine aK 0 [12] rfl (cD (fun oU cC=>(aW [1,2,5,22] rfl ?_)))
   refine bp rfl (fun Bn=>?_) (fun Bn=>?_)
   ·refine ar (af 1 rfl (ax [4] rfl (bU hC rfl ?_)))
    exact⟨_,rfl,(cC.pick [] [] (by decide) trivial),(by show Value.bool _=Value.bool _;rw[acQ (k:=k) (by omega) (decide_eq_true Bn)])⟩
   ·refine aV (bE (aW [1,2,5] rfl (aH (af 1 rfl (ag rfl (bj rfl) (af 1 rfl (aB (br ?_))))))))
    intro au aq
    refine⟨_,?fK,⟨k+1,rfl,aq.su rfl,cC.pick [0] [_] (by decide) ⟨rfl,trivial⟩,?dv,?dL⟩⟩
    case dv=>omega
    case dL=>(rw[curlN,hno];exact decide_eq_false Bn)
    case fK=>omega
  ·refine bX rfl (cP [] rfl (af 1 rfl (aB (bK (bU hC rfl ?_)))))
   exact⟨_,rfl,(S2.pick [] [] (by decide) trivial),(by obtain rfl:k=4:=(by omega);show Value.bool _=Value.bool _;rw[hno])⟩
noncomputable def Z54:=Tryz.f43.body.getD .skip
set_option maxRecDepth 10000 in
theorem R3{w:World}{M:Hp}{X:Fr}(d:Dg){bz:Option Addr}{bw:Nat}(aC:aJ bu M bz bw d.ae)(S:SH w M X []):Ct Tryz.prog 43 [.agg [.slice bz d.ae.length bw,.int .i64 d.loops].toArray] w M X (Ee (uP (if d.loops<=16 then 0 else 2) d)):=by
 unfold Ct
 have iL:d.ae.length*40<=140737488355328:=aC.room
 refine cw (b:=Z54) Tryz.func43 rfl Tryz.ntmps43 rfl (fun C hC=>(cB [0] rfl (ar (aj rfl (dx (l:=[_,_]) rfl rfl rfl rfl rfl S ?_)))))
 intro aP w1 S1;clear S
 refine aj rfl (bW (l:=[_,_]) rfl rfl rfl jo rfl S1 ?_)
 intro bJ w2 S2;clear S1
 refine af 1 rfl (bM [1,2] rfl (ar (ag rfl (az rfl aM rfl aY aX) (ag rfl (aw rfl aG (S2.bc 1 rfl rfl)) (af 1 rfl (ax [1,2,6] rfl ?_))))))
 refine bp rfl (fun Cj=>?_) (fun Cj=>?_)
 ·refine ar (ag rfl (run_build (l:=[_,_]) rfl rfl iC rfl rfl) (aj rfl (bH 0 [_,_] [_,_] [_,_] rfl S2 rfl rfl aN rfl rfl ?_)))
  intro w3 S3;clear S2
  refine af 1 rfl (ax [2,3] rfl (dI hC [_,_] rfl rfl ⟨⟨_,rfl,dK (us:=[_,_]) aM rfl aN (S3.bs 0 rfl rfl)⟩,rfl,trivial⟩ ?_))
  refine⟨_,rfl,_,Hp.le_refl _,(S3.pick [] [] (by decide) trivial),?_⟩
  rw[mY (c:=2) (by rw[if_neg (by omega)]) (by decide)]
  exact l7 2
 ·refine aV (cP [1,2] rfl (ag rfl (aU [_,_] rfl aM aN (S2.bs 1 rfl rfl)) (aj rfl (bH 0 [_,_] [_,_] [_,_] rfl S2 rfl rfl aN rfl rfl ?_))))
  intro w4 S4;clear S2
  refine af 1 rfl (ax [2,3] rfl (dI hC [_,_] rfl rfl ⟨⟨_,rfl,dK (us:=[_,_]) aM rfl aN (S4.bs 0 rfl rfl)⟩,rfl,trivial⟩ ?_))
  refine⟨_,rfl,_,Hp.le_refl _,(S4.pick [] [] (by decide) trivial),?_⟩
  rw[Vr (E:=d) (by rw[if_pos (by omega)]) rfl]
  exact⟨_,_,rfl,aC⟩
end Go.Proofs.YtcohmplpgcddiaaGreatDoor
namespace Go.Proofs.YtcohmplpgcddiaaGreatDoor
open Go.RowKit
section
variable (e1 e2 : Nat → Nat)
end
def prJ(j:Nat):Nat:=4*(j/4)+(j%4+3)%4
structure Mp4(n:Nat)(h1 h2 hA F:Nat->Nat):Prop where
 lt:∀a,a<2*n->h1 a<4*n/\h2 a<4*n/\h1 a≠h2 a/\hA (h1 a)=a/\hA (h2 a)=a
 at_:∀j,j<4*n->hA j<2*n/\(j=h1 (hA j)\/j=h2 (hA j))
 nx:∀a,a<2*n->F (h1 a)=F (prJ (h2 a))/\F (h2 a)=F (prJ (h1 a))
 fl:∀j,j<4*n->F j<n+2
 fs:∀i,i<n+2->∃j,j<4*n/\F j=i
 con:∀Z:Nat->Prop,(∀a,a<2*n->(Z (h1 a/4)<->Z (h2 a/4)))->∀x y,x<n->y<n->Z x->Z y
section
variable {n : Nat} {h1 h2 hA F : Nat → Nat}
theorem Mp4.hs(m:Mp4 n h1 h2 hA F)(P:Nat->Bool):cn P (4*n)=cn (fun a=>P (h1 a)) (2*n)+cn (fun a=>P (h2 a)) (2*n):=by
 have hp:((List.range (2*n)).map h1++(List.range (2*n)).map h2).Perm (List.range (4*n)):=by
  rw[List.perm_ext_iff_of_nodup]
  ·intro j
   rw[List.mem_append,List.mem_map,List.mem_map,List.mem_range]
   constructor
   ·rintro(⟨a,ha,rfl⟩|⟨a,ha,rfl⟩)
    ·exact(m.lt a (List.mem_range.1 ha)).1
    ·exact(m.lt a (List.mem_range.1 ha)).2.1
   ·intro hj
    obtain⟨h3,h4|h4⟩:=m.at_ j hj
    ·exact .inl ⟨hA j,List.mem_range.2 h3,h4.symm⟩
    ·exact .inr ⟨hA j,List.mem_range.2 h3,h4.symm⟩
  ·rw[List.nodup_append]
   have inj:∀h:Nat->Nat,(∀a,a<2*n->hA (h a)=a)->((List.range (2*n)).map h).Nodup:=fun h hh=>by
    rw[List.nodup_iff_pairwise_ne,List.pairwise_map]
    refine List.Pairwise.imp_of_mem ?_ List.nodup_range
    intro a b ha hb hab e
    have h3:=hh a (List.mem_range.1 ha)
    have h4:=hh b (List.mem_range.1 hb)
    rw[e]at h3
    exact hab (h3.symm.trans h4)
   refine⟨inj h1 fun a ha=>(m.lt a ha).2.2.2.1,inj h2 fun a ha=>(m.lt a ha).2.2.2.2,?_⟩
   intro x hx y hy
   obtain⟨a,ha,rfl⟩:=List.mem_map.1 hx
   obtain⟨b,hb,rfl⟩:=List.mem_map.1 hy
   intro e
   have h3:=(m.lt a (List.mem_range.1 ha)).2.2
   have h4:=(m.lt b (List.mem_range.1 hb)).2.2
   have e2:a=b:=by rw[<-h3.2.1,e,h4.2.2]
   subst e2
   exact h3.1 e
  ·exact List.nodup_range
 have h3:=hp.countP_eq P
 rw[List.countP_append,List.countP_map,List.countP_map]at h3
 rw[Ei,Ei,Ei,<-List.countP_eq_length_filter,<-List.countP_eq_length_filter,<-List.countP_eq_length_filter,<-h3]
 rfl
end
end Go.Proofs.YtcohmplpgcddiaaGreatDoor
namespace Go.Proofs.YtcohmplpgcddiaaGreatDoor
open Go.RowKit
def Marks(seen:List Bool)(L:List Int):Prop:=L.Nodup/\∀y:Int,y∈L<->∃x:Nat,y=(x:Int)/\x<seen.length/\ga seen x=true
theorem Sv{seen:List Bool}{L:List Int}{x:Nat}(h:Marks seen L)(hx:x<seen.length)(hf:ga seen x=false):Marks (seen.set x true) (L++[(x:Int)]):=by
 obtain⟨h1,h2⟩:=h
 refine⟨?_,fun y=>?_⟩
 ·rw[List.nodup_append]
  refine⟨h1,by simp,?_⟩
  intro a ha b hb e
  rw[List.mem_singleton]at hb
  subst hb
  subst e
  obtain⟨x',e,_,h4⟩:=(h2 _).1 ha
  obtain rfl:x=x':=by omega
  rw[hf]at h4
  cases h4
 ·rw[List.mem_append,List.mem_singleton,h2]
  constructor
  ·rintro(⟨x',e,h3,h4⟩|rfl)
   ·refine⟨x',e,by rw[List.length_set];exact h3,?_⟩
    rw[eX _ _ _ _ hx]
    split<;>simp[h4]
   ·exact⟨x,rfl,by rw[List.length_set];exact hx,by rw[eX _ _ _ _ hx];simp⟩
  ·rintro⟨x',e,h3,h4⟩
   rw[List.length_set]at h3
   rw[eX _ _ _ _ hx]at h4
   by_cases vT:x=x'
   ·subst vT;exact .inr e
   ·rw[if_neg vT]at h4;exact .inl ⟨x',e,h3,h4⟩
theorem aaD{nx:Nat->Nat}(P:List Int)(seen:List Bool)(x:Nat)(acc:List Int)(h:Marks seen (P++acc)):
  Marks (ju nx seen x acc).1 (P++(ju nx seen x acc).2)/\(∀y,ga seen y=true->ga (ju nx seen x acc).1 y=true)/\(x<seen.length->ga (ju nx seen x acc).1 x=true):=by
 induction hk:free seen using Nat.strongRecOn generalizing seen x acc with
 |_ k ih=>
  by_cases hx:x<seen.length/\ga seen x=false
  ·rw[zj hx.1 hx.2]
   have hf:=sU hx.1 hx.2
   obtain⟨r1,r2,_⟩:=ih (free (seen.set x true)) (by omega) (seen.set x true) (nx x) (acc++[(x:Int)]) (by rw[<-List.append_assoc];exact Sv h hx.1 hx.2) rfl
   refine⟨r1,fun y hy=>r2 y ?_,fun _=>r2 x ?_⟩
   ·rw[eX _ _ _ _ hx.1];split<;>simp[hy]
   ·rw[eX _ _ _ _ hx.1];simp
  ·have e:ju nx seen x acc=(seen,acc):=by rw[ju];simp[hx]
   rw[e]
   refine⟨h,fun y hy=>hy,fun hl=>?_⟩
   cases hg:ga seen x
   ·exact absurd ⟨hl,hg⟩ hx
   ·rfl
theorem abH{xss:List (List Int)}(h:xss.flatten.Nodup){i j:Nat}(hi:i<xss.length)(hj:j<xss.length){y:Int}(h1:y∈ga xss i)(h2:y∈ga xss j):i=j:=by
 rw[cZ hi]at h1
 rw[cZ hj]at h2
 rcases Nat.lt_trichotomy i j with e|e|e
 ·exact absurd rfl ((List.pairwise_iff_getElem.1 (List.pairwise_flatten.1 h).2 i j hi hj e) y h1 y h2)
 ·exact e
 ·exact absurd rfl ((List.pairwise_iff_getElem.1 (List.pairwise_flatten.1 h).2 j i hj hi e) y h2 y h1)
def jS(d:Dg)(c:Nat):Prop:=2<=c/\c<4*d.ae.length+2
def Dr(d:Dg)(P:List Int):Prop:=∀y∈P,((fP d y.toNat:Nat):Int)∈P
theorem zX{d:Dg}(h:aO d=true){c e:Nat}(hc:jS d c)(he:jS d e)(heq:fP d c=fP d e):c=e:=by
 have h1:=congrArg dA heq
 rw[Ai h hc,Ai h he]at h1
 have o1:=nE hc
 have o2:=nE he
 have key:∀x:Da,okD d x->(aF d x.a x.b)=((aF d (jQ d x).a (!(jQ d x).b)).1,((aF d (jQ d x).a (!(jQ d x).b)).2+1)%4):=fun x hx=>by
  obtain⟨q1,q2,_⟩:=fO h hx x.b
  have e1:=sW h (c:=(aF d x.a x.b).1) (k:=((aF d x.a x.b).2+3)%4) (b:=!(jQ d x).b) q1 (Nat.mod_lt _ (by decide)) (by show bO d _ _=!!(bO d _ _);rw[Bool.not_not])
  rw[show(jQ d x).a=aL d (aF d x.a x.b).1 (((aF d x.a x.b).2+3)%4)from rfl,e1]
  exact Prod.ext rfl (by show _=(((aF d x.a x.b).2+3)%4+1)%4;omega)
 have k1:=key _ o1
 have k2:=key _ o2
 rw[h1]at k1
 have k3:=k1.trans k2.symm
 have t1:=ot h o1 (dA c).b
 have t2:=ot h o2 (dA e).b
 rw[k3]at t1
 have ea:(dA c).a=(dA e).a:=t1.1.symm.trans t2.1
 have eb:(dA c).b=(dA e).b:=by
  have:=t1.2.symm.trans t2.2
  cases h7:(dA c).b<;>cases h8:(dA e).b<;>simp_all
 refine VI ?_
 cases h7:dA c
 cases h8:dA e
 rw[h7,h8]at ea eb
 simp only at ea eb
 rw[ea,eb]
theorem RF{P:List Int}(f:Int->Int)(hnd:P.Nodup)(hf:∀y∈P,f y∈P)(hinj:∀a∈P,∀b∈P,f a=f b->a=b){x:Int}(hx:x∈P):∃z∈P,f z=x:=by
 refine Classical.byContradiction fun hno=>?_
 have h1:(P.map f).Nodup:=by
  rw[List.nodup_iff_pairwise_ne,List.pairwise_map]
  exact List.Pairwise.imp_of_mem (fun ha hb hab e=>hab (hinj _ ha _ hb e)) hnd
 have h2:x∉P.map f:=fun h=>by
  obtain⟨z,hz,e⟩:=List.mem_map.1 h
  exact hno ⟨z,hz,e⟩
 have h3:=nK (List.nodup_cons.2 ⟨h2,h1⟩) (ys:=P) (fun y hy=>by
  rcases List.mem_cons.1 hy with e|hy
  ·rw[e];exact hx
  ·obtain⟨z,hz,e⟩:=List.mem_map.1 hy
   rw[<-e];exact hf z hz)
 rw[List.length_cons,List.length_map]at h3
 omega
theorem abu{d:Dg}(h:aO d=true)(P:List Int)(hP:Dr d P)(Qr:∀y∈P,∃c:Nat,y=(c:Int)/\jS d c)(seen:List Bool)(x:Nat)(acc:List Int)(hm:Marks seen (P++acc))(hl:seen.length=4*d.ae.length+2)(hx:jS d x)
  (hacc:∀y∈acc,(∃c:Nat,y=(c:Int)/\jS d c)/\(((fP d y.toNat:Nat):Int)∈acc\/fP d y.toNat=x))(hlast:acc=[]\/∃y∈acc,fP d y.toNat=x):
  Dr d (ju (fP d) seen x acc).2/\∀y∈(ju (fP d) seen x acc).2,∃c:Nat,y=(c:Int)/\jS d c:=by
 induction hk:free seen using Nat.strongRecOn generalizing seen x acc with
 |_ k ih=>
  by_cases hg:x<seen.length/\ga seen x=false
  ·rw[zj hg.1 hg.2]
   have hf:=sU hg.1 hg.2
   refine ih (free (seen.set x true)) (by omega) (seen.set x true) (fP d x) (acc++[(x:Int)]) (by rw[<-List.append_assoc];exact Sv hm hg.1 hg.2) (by rw[List.length_set];exact hl) (zW h hx) ?_ (.inr ⟨(x:Int),by simp,rfl⟩) rfl
   intro y hy
   rw[List.mem_append,List.mem_singleton]at hy
   rcases hy with hy|rfl
   ·obtain⟨h1,h2⟩:=hacc y hy
    refine⟨h1,.inl ?_⟩
    rw[List.mem_append,List.mem_singleton]
    rcases h2 with h2|h2
    ·exact .inl h2
    ·exact .inr (by rw[h2])
   ·exact⟨⟨x,rfl,hx⟩,.inr rfl⟩
  ·have e:ju (fP d) seen x acc=(seen,acc):=by rw[ju];simp[hg]
   rw[e]
   refine⟨?_,fun y hy=>(hacc y hy).1⟩
   have hs:ga seen x=true:=by
    cases hq:ga seen x with
    |true=>rfl
    |false=>exact absurd ⟨by rw[hl];exact hx.2,hq⟩ hg
   have np:(x:Int)∈P++acc:=(hm.2 _).2 ⟨x,rfl,by rw[hl];exact hx.2,hs⟩
   have hxa:(x:Int)∈acc\/acc=[]:=by
    rcases List.mem_append.1 np with hp|ha
    ·right
     rcases hlast with h0|⟨y,hy,hyx⟩
     ·exact h0
     ·exfalso
      -- an element of P comes before x
      obtain⟨z,hz,hzx⟩:=RF (fun y=>((fP d y.toNat:Nat):Int)) (List.nodup_append.1 hm.1).1 hP (fun a ha b hb e9=>by
       obtain⟨c1,rfl,r1⟩:=Qr a ha
       obtain⟨c2,rfl,r2⟩:=Qr b hb
       simp only[Int.toNat_natCast]at e9
       rw[zX h r1 r2 (by omega)]) hp
      obtain⟨c1,rfl,r1⟩:=Qr z hz
      obtain⟨⟨c2,rfl,r2⟩,_⟩:=hacc y hy
      simp only[Int.toNat_natCast]at hzx hyx
      have:=zX h r1 r2 (by omega)
      subst this
      exact(List.nodup_append.1 hm.1).2.2 _ hz _ hy rfl
    ·exact .inl ha
   intro y hy
   rcases hxa with ha|ha
   ·rcases(hacc y hy).2 with h2|h2
    ·exact h2
    ·rw[h2];exact ha
   ·have hy':y∈acc:=hy
    rw[ha]at hy'
    cases hy'
theorem BJ {d : Dg} (h : aO d = true) (k : Nat) (hk : k ≤ 4 * d.ae.length) : Marks (gG d k).1 (gG d k).2.flatten ∧ (∀ c, 2 ≤ c → c < k + 2 → ga (gG d k).1 c = true) ∧ (∀ r ∈ (gG d k).2, Dr d r ∧ ∀ y ∈ r, ∃ c : Nat, y = (c : Int) ∧ jS d c) := by
  induction k with
  | zero =>
    refine ⟨⟨by simp [gG], fun y => ?_⟩, fun c h1 h2 => by omega, fun r hr => by simp [gG] at hr⟩
    simp only [gG, List.flatten_nil, List.not_mem_nil, List.length_replicate, false_iff]
    rintro ⟨x, _, h1, h2⟩
    rw [rZ _ _ _ h1] at h2
    cases h2
  | succ k ih =>
    obtain ⟨i1, i2, i3⟩ := ih (by omega)
    have hlen := DJ d k
    cases hg : ga (gG d k).1 (k + 2) with
    | true =>
      rw [xL rfl hg]
      refine ⟨i1, fun c h1 h2 => ?_, i3⟩
      by_cases e : c = k + 2
      · subst e; exact hg
      · exact i2 c h1 (by omega)
    | false =>
      rw [xK rfl hg rfl]
      dsimp only
      obtain ⟨r1, r2, r3⟩ := aaD (nx := fP d) (gG d k).2.flatten (gG d k).1 (k + 2) [] (by simpa using i1)
      have hc := abu h (gG d k).2.flatten (fun y hy => by
          obtain ⟨r, hr, P8⟩ := List.mem_flatten.1 hy
          exact List.mem_flatten.2 ⟨r, hr, (i3 r hr).1 y P8⟩) (fun y hy => by
          obtain ⟨r, hr, P8⟩ := List.mem_flatten.1 hy
          exact (i3 r hr).2 y P8) (gG d k).1 (k + 2) [] (by simpa using i1) hlen ⟨by omega, by omega⟩ (fun y hy => by cases hy) (.inl rfl)
      refine ⟨by rw [List.flatten_append]; simpa using r1, fun c h1 h2 => ?_, fun r hr => ?_⟩
      · by_cases e : c = k + 2
        · subst e; exact r3 (by omega)
        · exact r2 c (i2 c h1 (by omega))
      · rcases List.mem_append.1 hr with hr | hr
        · exact i3 r hr
        · rw [List.mem_singleton.1 hr]; exact hc
def jg(d:Dg):List (List Int):=(gG d (4*d.ae.length)).2
theorem rG(d:Dg):ai d=(jg d).map jY:=rfl
def kT(d:Dg)(c:Nat):Nat:=((List.range (jg d).length).find? fun i=>decide ((c:Int)∈ga (jg d) i)).getD 0
theorem yF{d:Dg}(h:aO d=true){c:Nat}(hc:jS d c):kT d c<(jg d).length/\(c:Int)∈ga (jg d) (kT d c):=by
 obtain⟨i1,i2,i3⟩:=BJ h _ (Nat.le_refl _)
 have hs:=i2 c hc.1 hc.2
 have hm:(c:Int)∈(jg d).flatten:=(i1.2 _).2 ⟨c,rfl,by rw[DJ];exact hc.2,hs⟩
 obtain⟨r,hr,hcr⟩:=List.mem_flatten.1 hm
 obtain⟨i,hi,rfl⟩:=List.mem_iff_getElem.1 hr
 unfold kT
 cases hf:(List.range (jg d).length).find? fun i=>decide ((c:Int)∈ga (jg d) i)with
 |none=>
  have:=List.find?_eq_none.1 hf i (List.mem_range.2 hi)
  rw[cZ hi]at this
  simp[hcr]at this
 |some j=>
  have h1:=List.find?_some hf
  have h2:=List.mem_range.1 (List.mem_of_find?_eq_some hf)
  exact⟨h2,of_decide_eq_true h1⟩
theorem I2{d:Dg}(h:aO d=true){c i:Nat}(hc:jS d c)(hi:i<(jg d).length)(hm:(c:Int)∈ga (jg d) i):kT d c=i:=by
 obtain⟨h1,h2⟩:=yF h hc
 exact abH (BJ h _ (Nat.le_refl _)).1.1 h1 hi h2 hm
theorem afw{d:Dg}(h:aO d=true){c:Nat}(hc:jS d c):kT d (fP d c)=kT d c:=by
 obtain⟨h1,h2⟩:=yF h hc
 refine I2 h (zW h hc) h1 ?_
 have:=((BJ h _ (Nat.le_refl _)).2.2 (ga (jg d) (kT d c)) (by rw[cZ h1];exact List.getElem_mem _)).1 _ h2
 rwa [Int.toNat_natCast]at this
end Go.Proofs.YtcohmplpgcddiaaGreatDoor
namespace Go.Proofs.YtcohmplpgcddiaaGreatDoor
open Go.ChangeShapes Go.WideShapes Go.ChangeAt Go.RowKit
def fw(d:Dg)(x:Da):Nat:=(aF d x.a x.b).1
theorem WN{d:Dg}(h:aO d=true){x:Da}(hx:okD d x):fw d x=fh d (jQ d x):=by
 obtain⟨q1,q2,_⟩:=fO h hx x.b
 have e1:=sW h (c:=(aF d x.a x.b).1) (k:=((aF d x.a x.b).2+3)%4) (b:=!(jQ d x).b) q1 (Nat.mod_lt _ (by decide)) (by show bO d _ _=!!(bO d _ _);rw[Bool.not_not])
 unfold fw fh
 rw[show(jQ d x).a=aL d (aF d x.a x.b).1 (((aF d x.a x.b).2+3)%4)from rfl,e1]
theorem SP{d:Dg}(h:aO d=true){x:List Da}(hx:x∈ai d):∃r:List Int,x=jY r/\r.Nodup/\Dr d r/\∀y∈r,∃c:Nat,y=(c:Int)/\jS d c:=by
 rw[rG]at hx
 obtain⟨r,hr,rfl⟩:=List.mem_map.1 hx
 obtain⟨i1,_,i3⟩:=BJ h _ (Nat.le_refl _)
 exact⟨r,rfl,(List.pairwise_flatten.1 i1.1).1 r hr,(i3 r hr).1,(i3 r hr).2⟩
theorem CV{d:Dg}(h:aO d=true){c:Nat}(hc:jS d c):fw d (dA c)=fh d (dA (fP d c)):=by
 rw[Ai h hc]
 exact WN h (nE hc)
theorem ED{d:Dg}{r:List Int}(h:Dr d r){c:Nat}(hc:(c:Int)∈r):((fP d c:Nat):Int)∈r:=by
 have h9:=h _ hc
 rwa [Int.toNat_natCast]at h9
theorem ais{l:List Int}(h:l.length=2):∃a b,l=[a,b]:=by
 match l,h with
 |[a,b],_=>exact⟨a,b,rfl⟩
theorem air{l:List Int}(h:l.length=3):∃a b c,l=[a,b,c]:=by
 match l,h with
 |[a,b,c],_=>exact⟨a,b,c,rfl⟩
theorem ahu{d:Dg}(h:aO d=true){x:List Da}(hx:x∈ai d)(hl:x.length=2):(fw d (ga x 0)=fh d (ga x 0)/\fw d (ga x 1)=fh d (ga x 1))\/(fw d (ga x 0)=fh d (ga x 1)/\fw d (ga x 1)=fh d (ga x 0)):=by
 obtain⟨r,rfl,hn,hc,hr⟩:=SP h hx
 have hl2:r.length=2:=by unfold jY at hl;rwa [List.length_map]at hl
 obtain⟨y0,y1,rfl⟩:=ais hl2
 obtain⟨c0,rfl,h0⟩:=hr y0 (by simp)
 obtain⟨c1,rfl,h1⟩:=hr y1 (by simp)
 have n0:=ED hc (c:=c0) (by simp)
 have n1:=ED hc (c:=c1) (by simp)
 have hn':(c0:Int)≠c1:=by simpa using hn
 have hne:c0≠c1:=fun e=>hn' (by rw[e])
 have k01:fP d c0≠fP d c1:=fun e=>hne (zX h h0 h1 e)
 have t0:=CV h h0
 have t1:=CV h h1
 simp only[List.mem_cons,List.not_mem_nil,or_false,Int.ofNat_inj]at n0 n1
 show(fw d (dA c0)=fh d (dA c0)/\fw d (dA c1)=fh d (dA c1))\/(fw d (dA c0)=fh d (dA c1)/\fw d (dA c1)=fh d (dA c0))
 rcases n0 with e0|e0<;>rcases n1 with e1|e1<;>first|(exfalso;omega)|(rw[e0]at t0;rw[e1]at t1;omega)
theorem WX{d:Dg}(h:aO d=true){x:List Da}(hx:x∈ai d)(hl:x.length=3):(fh d (ga x 0)≠fh d (ga x 1)/\fh d (ga x 0)≠fh d (ga x 2)/\fh d (ga x 1)≠fh d (ga x 2))<->(fw d (ga x 0)≠fw d (ga x 1)/\fw d (ga x 0)≠fw d (ga x 2)/\fw d (ga x 1)≠fw d (ga x 2)):=by
 obtain⟨r,rfl,hn,hc,hr⟩:=SP h hx
 have hl2:r.length=3:=by unfold jY at hl;rwa [List.length_map]at hl
 obtain⟨y0,y1,y2,rfl⟩:=air hl2
 obtain⟨c0,rfl,h0⟩:=hr y0 (by simp)
 obtain⟨c1,rfl,h1⟩:=hr y1 (by simp)
 obtain⟨c2,rfl,h2⟩:=hr y2 (by simp)
 have n0:=ED hc (c:=c0) (by simp)
 have n1:=ED hc (c:=c1) (by simp)
 have n2:=ED hc (c:=c2) (by simp)
 have mv:((c0:Int)≠c1/\(c0:Int)≠c2)/\(c1:Int)≠c2:=by simpa using hn
 obtain⟨⟨i01,i02⟩,i12⟩:=mv
 have h01:c0≠c1:=fun e=>i01 (by rw[e])
 have h02:c0≠c2:=fun e=>i02 (by rw[e])
 have h12:c1≠c2:=fun e=>i12 (by rw[e])
 have k01:fP d c0≠fP d c1:=fun e=>h01 (zX h h0 h1 e)
 have k02:fP d c0≠fP d c2:=fun e=>h02 (zX h h0 h2 e)
 have k12:fP d c1≠fP d c2:=fun e=>h12 (zX h h1 h2 e)
 have t0:=CV h h0
 have t1:=CV h h1
 have t2:=CV h h2
 simp only[List.mem_cons,List.not_mem_nil,or_false,Int.ofNat_inj]at n0 n1 n2
 show(fh d (dA c0)≠fh d (dA c1)/\fh d (dA c0)≠fh d (dA c2)/\fh d (dA c1)≠fh d (dA c2))<->(fw d (dA c0)≠fw d (dA c1)/\fw d (dA c0)≠fw d (dA c2)/\fw d (dA c1)≠fw d (dA c2))
 rcases n0 with e0|e0|e0<;>rcases n1 with e1|e1|e1<;>rcases n2 with e2|e2|e2<;>first|(exfalso;omega)|(rw[e0]at t0;rw[e1]at t1;rw[e2]at t2;constructor<;>(intro h9;refine⟨?_,?_,?_⟩<;>omega))
theorem QA(d:Dg)(f:List Da):(esN d f 3).length=3<->(fh d (ga f 0)≠fh d (ga f 1)/\fh d (ga f 0)≠fh d (ga f 2)/\fh d (ga f 1)≠fh d (ga f 2)):=by
 simp only[esN]
 generalize fh d (ga f 0)=a
 generalize fh d (ga f 1)=b
 generalize fh d (ga f 2)=c
 have e1:mp (a:Int) true ([]:List (Int×Bool))=[((a:Int),true)]:=rfl
 rw[e1]
 by_cases h1:b=a
 ·subst h1
  have e2:mp (b:Int) true [((b:Int),true)]=[((b:Int),true)]:=by unfold mp;rw[if_pos rfl]
  rw[e2]
  by_cases h2:c=b
  ·subst h2
   rw[e2]
   simp
  ·have e3:mp (c:Int) true [((b:Int),true)]=[((b:Int),true),((c:Int),true)]:=by unfold mp;rw[if_neg (by simp;omega)];rfl
   rw[e3]
   simp
 ·have e2:mp (b:Int) true [((a:Int),true)]=[((a:Int),true),((b:Int),true)]:=by unfold mp;rw[if_neg (by simp;omega)];rfl
  rw[e2]
  by_cases h2:c=a
  ·subst h2
   have e3:mp (c:Int) true [((c:Int),true),((b:Int),true)]=[((c:Int),true),((b:Int),true)]:=by unfold mp;rw[if_pos rfl]
   rw[e3]
   simp
  ·by_cases h3:c=b
   ·subst h3
    have e3:mp (c:Int) true [((a:Int),true),((c:Int),true)]=[((a:Int),true),((c:Int),true)]:=by unfold mp;rw[if_neg (by simp;omega)];unfold mp;rw[if_pos rfl]
    rw[e3]
    simp
   ·have e3:mp (c:Int) true [((a:Int),true),((b:Int),true)]=[((a:Int),true),((b:Int),true),((c:Int),true)]:=by unfold mp;rw[if_neg (by simp;omega)];unfold mp;rw[if_neg (by simp;omega)];rfl
    rw[e3]
    simp only[List.length_cons,List.length_nil,true_iff]
    exact⟨fun e=>h1 e.symm,fun e=>h2 e.symm,fun e=>h3 e.symm⟩
theorem VB(d:Dg)(a:Int):hgt d a<=2:=by unfold hgt;omega
theorem afr(d:Dg)(f:List Da)(i:Nat):kf d f 0 i+kf d f 1 i+kf d f 2 i=i:=by
 induction i with
 |zero=>rfl
 |succ i ih=>
  unfold kf
  have:=VB d (ga f i).a
  split<;>split<;>split<;>omega
theorem zm{d:Dg}(h:aO d=true){x:List Da}(hx:x∈ai d)(hl:x.length=3):ky d x=decide ((kf d x 0 3=1/\kf d x 1 3=1/\kf d x 2 3=1)/\(fw d (ga x 0)≠fw d (ga x 1)/\fw d (ga x 0)≠fw d (ga x 2)/\fw d (ga x 1)≠fw d (ga x 2))):=by
 unfold ky
 refine decide_eq_decide.2 ?_
 have hs:=afr d x 3
 rw[QA,WX h hx hl]
 constructor
 ·rintro⟨_,hD,h2,h0⟩
  exact⟨⟨h0,by omega,h2⟩,hD⟩
 ·rintro⟨⟨h0,_,h2⟩,hD⟩
  exact⟨hl,hD,h2,h0⟩
theorem abx(x:Cr)(k:Nat)(a b:Int):vB (vB x k a) k b=vB x k b:=by
 unfold vB
 split
 ·rfl
 ·split
  ·rfl
  ·split<;>rfl
theorem aaA{xs:List Cr}{c:Nat}(hc:c<xs.length)(k:Nat)(a b:Int):eB (eB xs c k a) c k b=eB xs c k b:=by
 unfold eB
 rw[eX _ _ _ _ hc,if_pos rfl,List.set_set,abx]
theorem RN{n:Nat}{k:Nat×Nat}(hk:k.1<n/\k.2<4)(v:Int):∀(r:List ((Nat×Nat)×Int)) (ys:List Cr),ys.length=n->(∀q∈r.map Prod.fst,(q.1<n/\q.2<4)/\k≠q)->eB (iu ys r) k.1 k.2 v=iu (eB ys k.1 k.2 v) r
 |[],_,_,_=>rfl
 |p::r,ys,hy,hr=>by
  obtain⟨h1,h2⟩:=hr p.1 (by simp)
  show eB (iu (eB ys p.1.1 p.1.2 p.2) r) k.1 k.2 v=iu (eB (eB ys k.1 k.2 v) p.1.1 p.1.2 p.2) r
  rw[RN hk v r _ ((pR _ _ _ _).trans hy) (fun q hq=>hr q (by rw[List.map_cons];exact List.mem_cons_of_mem _ hq)),RO hy hk h1 h2]
theorem Sk{d:Dg}{k:Nat×Nat}(hk:pP d k)(v:Int):∀(r:List ((Nat×Nat)×Int)) (xs:List Cr),xs.length=d.ae.length->tI d r->iu xs (mp k v r)=eB (iu xs r) k.1 k.2 v
 |[],_,_,_=>rfl
 |p::r,xs,hx,hr=>by
  obtain⟨h1,h2⟩:=hr
  rw[List.map_cons,List.nodup_cons]at h1
  have hr2:tI d r:=⟨h1.2,fun q hq=>h2 q (by rw[List.map_cons];exact List.mem_cons_of_mem _ hq)⟩
  unfold mp
  by_cases e:k=p.1
  ·rw[if_pos e]
   show iu (eB xs k.1 k.2 v) r=eB (iu (eB xs p.1.1 p.1.2 p.2) r) k.1 k.2 v
   rw[RN (n:=d.ae.length) hk v r _ ((pR _ _ _ _).trans hx) (fun q hq=>⟨hr2.2 q hq,fun e2=>h1.1 (by rw[<-e,e2];exact hq)⟩),<-e,aaA (by rw[hx];exact hk.1)]
  ·rw[if_neg e]
   show iu (eB xs p.1.1 p.1.2 p.2) (mp k v r)=eB (iu (eB xs p.1.1 p.1.2 p.2) r) k.1 k.2 v
   exact Sk hk v r _ ((pR _ _ _ _).trans hx) hr2
theorem El{d:Dg}{es:List ((Nat×Nat)×Int)}(h:tI d es){k:Nat×Nat}(hk:pP d k)(v:Int):iu d.ae (mp k v es)=eB (iu d.ae es) k.1 k.2 v:=Sk hk v es d.ae rfl h
def docN(d:Dg)(f:List Da):Nat->List Cr
 |0=>d.ae
 |i+1=>eB (eB (eB (eB (docN d f i) (aF d (ga f i).a false).1 (aF d (ga f i).a false).2 (aL d (cd (aF d (ga f i).a true)).1 (cd (aF d (ga f i).a true)).2)) (cd (aF d (ga f i).a false)).1 (cd (aF d (ga f i).a false)).2 (ga f i).a) (cd (aF d (ga f i).a true)).1 (cd (aF d (ga f i).a true)).2 (ga f i).a) (aF d (ga f i).a true).1 (aF d (ga f i).a true).2 (aL d (cd (aF d (ga f i).a false)).1 (cd (aF d (ga f i).a false)).2)
theorem TT(d:Dg)(f:List Da)(i:Nat):(docN d f i).length=d.ae.length:=by
 induction i with
 |zero=>rfl
 |succ i ih=>unfold docN;rw[pR,pR,pR,pR];exact ih
theorem ad4{d:Dg}(hab:aO d=true){f:List Da}(hf:∀x∈f,okD d x):∀i,i<=f.length->docN d f i=iu d.ae (nY d f i):=by
 intro i
 induction i with
 |zero=>intro _;rfl
 |succ i ih=>
  intro hi
  have hx:=hf _ (cY (show i<f.length by omega))
  have h1:=CA hab hx true
  have h2:=CA hab hx false
  have p0:=LU hab hf i (by omega)
  unfold docN nY
  rw[ih (by omega),El (((p0.put h2 _).put (oo h2) _).put (oo h1) _) h1,El ((p0.put h2 _).put (oo h2) _) (oo h1),El (p0.put h2 _) (oo h2),El p0 h2]
theorem adJ{e:Nat}(f:Nat->Value)(h:e<3):nth [f 0,f 1,f 2] (0+e*1)=some (f e):=by
 have:e=0\/e=1\/e=2:=by omega
 rcases this with rfl|rfl|rfl<;>rfl
theorem aeh{e:Nat}(f:Nat->Value)(v:Value)(h:e<3):Nat.ble (0+e*1+[v].length) [f 0,f 1,f 2].length=true:=by
 have:e=0\/e=1\/e=2:=by omega
 rcases this with rfl|rfl|rfl<;>rfl
theorem aeG{e:Nat}(h:Nat->Int)(v:Int)(he:e<3):spl [Value.int .i64 (h 0),Value.int .i64 (h 1),Value.int .i64 (h 2)] (0+e*1) [Value.int .i64 v]=[Value.int .i64 (upd h e v 0),Value.int .i64 (upd h e v 1),Value.int .i64 (upd h e v 2)]:=by
 have:e=0\/e=1\/e=2:=by omega
 rcases this with rfl|rfl|rfl<;>rfl
end Go.Proofs.YtcohmplpgcddiaaGreatDoor
namespace Go.Proofs.YtcohmplpgcddiaaGreatDoor
open Go.ChangeShapes Go.WideShapes Go.ChangeAt Go.RowKit
def hdN(d:Dg)(f:List Da):Nat->List Int
 |0=>[]
 |i+1=>hdN d f i++[(fw d (ga f i):Int)]
theorem UL(d:Dg)(f:List Da)(i:Nat):(hdN d f i).length=i:=by
 induction i with
 |zero=>rfl
 |succ i ih=>unfold hdN;rw[List.length_append,ih];rfl
noncomputable def Z55:=Tryz.f41.body.getD .skip
set_option maxHeartbeats 2000000 in
set_option maxRecDepth 10000 in
theorem RT{w:World}{M:Hp}{X:Fr}(d:Dg){bz:Option Addr}{bw:Nat}(i:Int)(j:Int)(aC:aJ bu (M.un X.h) bz bw d.ae)(hn:d.ae.length<=16)(hab:aO d=true)(S:SH w M X []):Ct Tryz.prog 41 [.agg [.slice bz d.ae.length bw,.int .i64 d.loops].toArray,.int .i64 i,.int .i64 j] w M X (fun x _=>x=.bool ((ai d).any (kR d i j))):=by
 unfold Ct
 have iL:d.ae.length*40<=140737488355328:=aC.room
 refine cw (b:=Z55) Tryz.func41 rfl Tryz.ntmps41 rfl (fun C hC=>(cB [0,1,2] rfl (ar (aj rfl (dx (l:=[_,_]) rfl rfl rfl rfl rfl S ?_)))))
 intro aP w1 S1;clear S
 refine af 1 rfl (bL [1,2,3] rfl (ag rfl (aU [_,_] rfl aM aN (S1.bs 0 rfl rfl)) (aj rfl (eo rfl rfl rfl rfl rfl rfl rfl J0 S1 (HV d (aC.mono S1.bn) (hn) (hab) S1.aT) ?_))))
 intro sZ w2 M1 bh S2 kY;clear S1
 replace aC:=aC.mono (Hp.aD bh S2.mx)
 obtain⟨A1,c1,vs1,rfl,hr1,hd1⟩:=kY
 have WM:=hd1.1
 refine af 1 rfl (bM [1,2,3,7] rfl (ar (af 1 rfl (aB (bK (bg ?_))))))
 refine ck (fun aZ au aR=>∃(k:Nat),aZ=(ai d).length-k/\Env 97 [(1,.int .i64 i),(2,.int .i64 j),(3,.pointer (some ⟨aP,0,none⟩)),(7,.slice A1 vs1.length c1),(8,.int .i64 (k:Int))] au/\SH aR M1 X [Rs.box aP 24 [.slice bz d.ae.length bw,.int .i64 d.loops]]/\k<=(ai d).length/\(∀q,q<k->kR d i j (ga (ai d) q)=false)) rfl ?_ ?_
 ·intro au aq
  refine⟨_,⟨0,rfl,aq.su rfl,S2.pick [0] [_] (by decide) ⟨rfl,trivial⟩,?dh,?dC⟩⟩
  case dh=>omega
  case dC=>(intro q hq;omega)
 ·rintro m1 a1 w3 ⟨k,rfl,bN,S3,hk,hno⟩
  clear S2
  refine cy bN ?_
  clear bN a1
  have Xw:=BF d
  refine cJ (ar (af 2 rfl (ag rfl (cK rfl qo) (af 1 rfl (ax [1,2,3,7,8,20] rfl ?_)))))
  refine bp rfl (fun xw=>?_) (fun xw=>?_)
  ·refine aV (bC [1,2,3,7,8] rfl (bg (cJ (ar (af 2 rfl (ag rfl (cN k rfl qp hr1) ?_))))))
   obtain⟨kG,hr2⟩:=hd1.2 k (by first|omega|(simp only[ls];omega))
   have Aq:(ga (ai d) k).length*16<=140737488355328:=hr2.room
   refine ag rfl (aw rfl nG (hr1.cell S3.m (i:=k) (by first|omega|(simp only[ls];omega)) 0 rfl (congrArg (fun n=>some (Value.slice _ n _)) kG))) ?_
   refine ag rfl (cK rfl nG) (af 1 rfl (ax [1,2,3,7,8,28] rfl ?_))
   refine bp rfl (fun mR=>?_) (fun mR=>?_)
   ·refine bX rfl (aW [1,2,3,7,8] rfl (aH (af 1 rfl (ag rfl (bj rfl) (af 1 rfl (aB (br ?_)))))))
    have hF:kR d i j (ga (ai d) k)=false:=by unfold kR;rw[decide_eq_false_iff_not];omega
    intro au aq
    refine⟨_,?fK,⟨k+1,rfl,aq.su rfl,S3.pick [0] [_] (by decide) ⟨rfl,trivial⟩,?dv,?dL⟩⟩
    case dv=>omega
    case dL=>(intro q hq;by_cases e:q=k;(subst e;exact hF);exact hno q (by omega))
    case fK=>omega
   ·have np:(ga (ai d) k)∈ai d:=cY (by omega)
    have GX:=Ic hab np
    have ho0:okD d (ga (ga (ai d) k) 0):=GX _ (cY (by omega))
    have uT:okD d (ga (ga (ai d) k) 1):=GX _ (cY (by omega))
    have hp0:1<=(ga (ga (ai d) k) 0).a/\(ga (ga (ai d) k) 0).a<=2*(d.ae.length:Int):=ho0
    have hp1:1<=(ga (ga (ai d) k) 1).a/\(ga (ga (ai d) k) 1).a<=2*(d.ae.length:Int):=uT
    have hf2:=ahu hab np (by omega)
    unfold fw at hf2
    refine aV (bC [1,2,3,7,8] rfl ?_)
    refine z6 (fun au aR=>∃(rR:Nat) (Qx:Nat),Env 97 [(1,.int .i64 i),(2,.int .i64 j),(3,.pointer (some ⟨aP,0,none⟩)),(7,.slice A1 vs1.length c1),(8,.int .i64 (k:Int)),(9,.pointer (some ⟨rR,0,none⟩)),(10,.pointer (some ⟨Qx,0,none⟩))] au/\SH aR M1 X [Rs.box rR 33 [.int .i64 ((ga (ga (ai d) k) 0).a),.bool ((ga (ga (ai d) k) 0).b)],Rs.box Qx 33 [.int .i64 ((ga (ga (ai d) k) 1).a),.bool ((ga (ga (ai d) k) 1).b)],Rs.box aP 24 [.slice bz d.ae.length bw,.int .i64 d.loops]]) ?_ ?_
    ·refine dH S3 16 ?_
     clear S3
     refine aK 14 [0,1] rfl (ay 2 rfl (fun ah Sz=>cN k rfl qp (hr1.mono ah)) ?_)
     obtain⟨mv,hr3⟩:=hd1.2 k (by first|omega|(simp only[ls];omega))
     have Wh:(ga (ai d) k).length*16<=140737488355328:=hr3.room
     refine ay 3 rfl (fun ah Sz=>aw rfl nG ((hr1.mono ah).cell Sz.m (i:=k) (by first|omega|(simp only[ls];omega)) 0 rfl (congrArg (fun n=>some (Value.slice _ n _)) mv))) ?_
     refine ay 4 rfl (fun ah Sz=>cN 0 rfl mM (hr3.mono ah)) (ay 5 rfl (fun ah Sz=>aU [_,_] rfl eA gD ((hr3.mono ah).j6 Sz.m (e:=0) (by first|omega|(simp only[ls];omega)) (j:=0) ⟨rfl,rfl,trivial⟩)) ?_)
     refine aK 8 [6,7] rfl (ay 8 rfl (fun ah Sz=>cN k rfl qp (hr1.mono ah)) ?_)
     obtain⟨yg,hr4⟩:=hd1.2 k (by first|omega|(simp only[ls];omega))
     have Fj:(ga (ai d) k).length*16<=140737488355328:=hr4.room
     refine ay 9 rfl (fun ah Sz=>aw rfl nG ((hr1.mono ah).cell Sz.m (i:=k) (by first|omega|(simp only[ls];omega)) 0 rfl (congrArg (fun n=>some (Value.slice _ n _)) yg))) ?_
     refine ay 10 rfl (fun ah Sz=>cN 1 rfl mM (hr4.mono ah)) (ay 11 rfl (fun ah Sz=>aU [_,_] rfl eA gD ((hr4.mono ah).j6 Sz.m (e:=1) (by first|omega|(simp only[ls];omega)) (j:=0) ⟨rfl,rfl,trivial⟩)) ?_)
     refine z7 (i:=12) (j:=13) 3 rfl rfl (by kernel_rfl) rfl rfl rfl rfl (fun BO ek=>?_) (fun BO ek=>?_)
     ·refine(bW (l:=[_,_]) rfl rfl rfl ra rfl ek ?_)
      intro bJ zu fM;clear ek
      refine dB [_] [_,_] rfl fM ?_;clear fM
      refine cm 13 rfl (fun xU fx=>((bW (l:=[_,_]) rfl rfl rfl ra rfl fx ?_)))
      intro dE DS jw;clear fx
      refine dB [_,_] [_,_,_] rfl jw ?_;clear jw
      refine cm 14 rfl (fun BN gI=>((bH 1 [_,_] [_,_] [_,_,_] rfl gI rfl rfl gD rfl rfl ?_)))
      intro xS kM;clear gI
      refine dB [_,_] [_,_,_] rfl kM ?_;clear kM
      refine cm 15 rfl (fun sY fG=>((bH 0 [_,_] [_,_] [_,_,_] rfl fG rfl rfl gD rfl rfl ?_)))
      intro vN gH;clear fG
      refine dB [_,_] [_,_,_] rfl gH ?_;clear gH
      refine cD (fun BM kj=>(br ?_))
      intro au aq
      refine⟨_,_,aq.su rfl,kj.pick [1,0,2] [_,_,_] (by decide) ⟨rfl,rfl,rfl,trivial⟩⟩
     ·refine(bW (l:=[_,_]) rfl rfl rfl ra rfl ek ?_)
      intro lK BL gM;clear ek
      refine dB [_] [_,_] rfl gM ?_;clear gM
      refine cm 12 rfl (fun zt jd=>((bW (l:=[_,_]) rfl rfl rfl ra rfl jd ?_)))
      intro iI xR gu;clear jd
      refine dB [_,_] [_,_,_] rfl gu ?_;clear gu
      refine cm 14 rfl (fun zr jH=>((bH 0 [_,_] [_,_] [_,_,_] rfl jH rfl rfl gD rfl rfl ?_)))
      intro GK lq;clear jH
      refine dB [_,_] [_,_,_] rfl lq ?_;clear lq
      refine cm 15 rfl (fun GJ iJ=>((bH 1 [_,_] [_,_] [_,_,_] rfl iJ rfl rfl gD rfl rfl ?_)))
      intro DN jc;clear iJ
      refine dB [_,_] [_,_,_] rfl jc ?_;clear jc
      refine cD (fun GI oJ=>(br ?_))
      intro au aq
      refine⟨_,_,aq.su rfl,oJ.pick [0,1,2] [_,_,_] (by decide) ⟨rfl,rfl,rfl,trivial⟩⟩
    ·rintro a2 w4 ⟨rR,Qx,cU,S4⟩
     clear S3
     refine Au cU ?_
     clear cU a2
     refine di (dH S4 16 ?_)
     clear S4
     refine ay 0 rfl (fun ah Sz=>aU [_,_] rfl aM aN (Sz.suf.bs 2 rfl rfl)) (aS 1 rfl (az rfl eA rfl aY aX) (ay 2 rfl (fun ah Sz=>aw rfl aG (Sz.suf.bc 0 rfl rfl)) (aS 3 rfl (az rfl eA rfl lM lJ) (ay 4 rfl (fun ah Sz=>aw rfl gY (Sz.suf.bc 0 rfl rfl)) (dQ 5 rfl (fun ah Sz=>dZ rfl rfl rfl rfl rfl sJ Sz (sN d ((ga (ga (ai d) k) 0).a) ((ga (ga (ai d) k) 0).b) ((aC.mono (Hp.aD ah Sz.mx)).mono Sz.bn) Sz.aT)) (aS 6 rfl (rH rfl rfl dR rfl aG rfl rfl) (ay 7 rfl (fun ah Sz=>aU [_,_] rfl aM aN (Sz.suf.bs 2 rfl rfl)) (aS 8 rfl (az rfl eA rfl aY aX) ?_))))))))
     refine ay 9 rfl (fun ah Sz=>aw rfl aG (Sz.suf.bc 1 rfl rfl)) (aS 10 rfl (az rfl eA rfl lM lJ) (ay 11 rfl (fun ah Sz=>aw rfl gY (Sz.suf.bc 1 rfl rfl)) (dQ 12 rfl (fun ah Sz=>dZ rfl rfl rfl rfl rfl sJ Sz (sN d ((ga (ga (ai d) k) 1).a) ((ga (ga (ai d) k) 1).b) ((aC.mono (Hp.aD ah Sz.mx)).mono Sz.bn) Sz.aT)) (aS 13 rfl (rH rfl rfl dR rfl aG rfl rfl) (aK 0 [14,15] rfl (cD (fun GG kV=>(bC [1,2,3,7,8,9,10,11,12] rfl (dH kV 10 ?_)))))))))
     clear kV
     refine ay 0 rfl (fun ah Sz=>aU [_,_] rfl aM aN (Sz.suf.bs 2 rfl rfl)) (aS 1 rfl (az rfl eA rfl aY aX) (ay 2 rfl (fun ah Sz=>aw rfl aG (Sz.suf.bc 0 rfl rfl)) (dQ 3 rfl (fun ah Sz=>dZ rfl rfl rfl rfl rfl Pm Sz (K6 d ((ga (ga (ai d) k) 0).a) ((aC.mono (Hp.aD ah Sz.mx)).mono Sz.bn) (hab) (by first|assumption|omega) Sz.aT)) ?_)))
     refine ay 4 rfl (fun ah Sz=>aU [_,_] rfl aM aN (Sz.suf.bs 2 rfl rfl)) (aS 5 rfl (az rfl eA rfl aY aX) (ay 6 rfl (fun ah Sz=>aw rfl aG (Sz.suf.bc 1 rfl rfl)) (dQ 7 rfl (fun ah Sz=>dZ rfl rfl rfl rfl rfl Pm Sz (K6 d ((ga (ga (ai d) k) 1).a) ((aC.mono (Hp.aD ah Sz.mx)).mono Sz.bn) (hab) (by first|assumption|omega) Sz.aT)) ?_)))
     refine aK 0 [8,9] rfl (cD (fun Kg jb=>(cP [1,2,3,7,8,11,12,13,14] rfl (af 4 rfl ?_))))
     refine lG (k':=8) (d:=70) (decide ((((aF d ((ga (ga (ai d) k) 0).a) ((ga (ga (ai d) k) 0).b)).1:Int)=i)/\(((aF d ((ga (ga (ai d) k) 1).a) ((ga (ga (ai d) k) 1).b)).1:Int)=j))) [(1,_),(2,_),(3,_),(7,_),(8,_),(11,_),(12,_),(13,_),(14,_)] ⟨rfl,rfl,rfl,rfl,rfl,rfl,rfl,rfl,rfl,trivial⟩ (fun Ya=>?_) ?_
     ·refine eN (t:=66) rfl (fun FX=>?_) (fun FX=>?_)
      ·refine af 4 rfl ?_
       exact dz 70 (.bool (decide ((((aF d ((ga (ga (ai d) k) 0).a) ((ga (ga (ai d) k) 0).b)).1:Int)=i)/\(((aF d ((ga (ga (ai d) k) 1).a) ((ga (ga (ai d) k) 1).b)).1:Int)=j)))) rfl (congrArg Value.bool (decide_eq_decide.2 ⟨fun h=>⟨FX,h⟩,fun h=>h.2⟩)) (gA [70,1,2,3,7,8,11,12,13,14] rfl Ya)
      ·refine af 4 rfl ?_
       exact dz 70 (.bool (decide ((((aF d ((ga (ga (ai d) k) 0).a) ((ga (ga (ai d) k) 0).b)).1:Int)=i)/\(((aF d ((ga (ga (ai d) k) 1).a) ((ga (ga (ai d) k) 1).b)).1:Int)=j)))) rfl (congrArg Value.bool (decide_eq_false (fun h=>FX h.1)).symm) (gA [70,1,2,3,7,8,11,12,13,14] rfl Ya)
     ·refine af 1 rfl ?_
      refine lG (k':=18) (d:=80) (decide (((((aF d ((ga (ga (ai d) k) 0).a) ((ga (ga (ai d) k) 0).b)).1:Int)=i)/\(((aF d ((ga (ga (ai d) k) 1).a) ((ga (ga (ai d) k) 1).b)).1:Int)=j))\/((((aF d ((ga (ga (ai d) k) 0).a) ((ga (ga (ai d) k) 0).b)).1:Int)=j)/\(((aF d ((ga (ga (ai d) k) 1).a) ((ga (ga (ai d) k) 1).b)).1:Int)=i)))) [(1,_),(2,_),(3,_),(7,_),(8,_),(11,_),(12,_),(13,_),(14,_)] ⟨rfl,rfl,rfl,rfl,rfl,rfl,rfl,rfl,rfl,trivial⟩ (fun X7=>?_) ?_
      ·refine eN (t:=71) rfl (fun FW=>?_) (fun FW=>?_)
       ·refine af 6 rfl (af 3 rfl ?_)
        exact dz 80 (.bool (decide (((((aF d ((ga (ga (ai d) k) 0).a) ((ga (ga (ai d) k) 0).b)).1:Int)=i)/\(((aF d ((ga (ga (ai d) k) 1).a) ((ga (ga (ai d) k) 1).b)).1:Int)=j))\/((((aF d ((ga (ga (ai d) k) 0).a) ((ga (ga (ai d) k) 0).b)).1:Int)=j)/\(((aF d ((ga (ga (ai d) k) 1).a) ((ga (ga (ai d) k) 1).b)).1:Int)=i))))) rfl (congrArg Value.bool (decide_eq_true (.inl FW)).symm) (gA [80,1,2,3,7,8,11,12,13,14] rfl X7)
       ·refine af 4 rfl ?_
        refine lG (k':=17) (d:=79) (decide ((((aF d ((ga (ga (ai d) k) 0).a) ((ga (ga (ai d) k) 0).b)).1:Int)=j)/\(((aF d ((ga (ga (ai d) k) 1).a) ((ga (ga (ai d) k) 1).b)).1:Int)=i))) [(1,_),(2,_),(3,_),(7,_),(8,_),(11,_),(12,_),(13,_),(14,_),(71,_)] ⟨rfl,rfl,rfl,rfl,rfl,rfl,rfl,rfl,rfl,rfl,trivial⟩ (fun X8=>?_) ?_
        ·refine eN (t:=75) rfl (fun OT=>?_) (fun OT=>?_)
         ·refine af 4 rfl ?_
          exact dz 79 (.bool (decide ((((aF d ((ga (ga (ai d) k) 0).a) ((ga (ga (ai d) k) 0).b)).1:Int)=j)/\(((aF d ((ga (ga (ai d) k) 1).a) ((ga (ga (ai d) k) 1).b)).1:Int)=i)))) rfl (congrArg Value.bool (decide_eq_decide.2 ⟨fun h=>⟨OT,h⟩,fun h=>h.2⟩)) (gA [79,1,2,3,7,8,11,12,13,14,71] rfl X8)
         ·refine af 4 rfl ?_
          exact dz 79 (.bool (decide ((((aF d ((ga (ga (ai d) k) 0).a) ((ga (ga (ai d) k) 0).b)).1:Int)=j)/\(((aF d ((ga (ga (ai d) k) 1).a) ((ga (ga (ai d) k) 1).b)).1:Int)=i)))) rfl (congrArg Value.bool (decide_eq_false (fun h=>OT h.1)).symm) (gA [79,1,2,3,7,8,11,12,13,14,71] rfl X8)
        ·refine af 1 rfl ?_
         exact dz 80 (.bool (decide (((((aF d ((ga (ga (ai d) k) 0).a) ((ga (ga (ai d) k) 0).b)).1:Int)=i)/\(((aF d ((ga (ga (ai d) k) 1).a) ((ga (ga (ai d) k) 1).b)).1:Int)=j))\/((((aF d ((ga (ga (ai d) k) 0).a) ((ga (ga (ai d) k) 0).b)).1:Int)=j)/\(((aF d ((ga (ga (ai d) k) 1).a) ((ga (ga (ai d) k) 1).b)).1:Int)=i))))) rfl (congrArg Value.bool (decide_eq_decide.2 ⟨.inr,fun h=>h.resolve_left FW⟩)) (gA [80,1,2,3,7,8,11,12,13,14] rfl X7)
      ·refine af 1 rfl ?_
       refine lG (k':=34) (d:=96) (decide ((((((aF d ((ga (ga (ai d) k) 0).a) ((ga (ga (ai d) k) 0).b)).1:Int)=i)/\(((aF d ((ga (ga (ai d) k) 1).a) ((ga (ga (ai d) k) 1).b)).1:Int)=j))\/((((aF d ((ga (ga (ai d) k) 0).a) ((ga (ga (ai d) k) 0).b)).1:Int)=j)/\(((aF d ((ga (ga (ai d) k) 1).a) ((ga (ga (ai d) k) 1).b)).1:Int)=i)))/\((((hgt d ((ga (ga (ai d) k) 0).a):Int)=2)/\((hgt d ((ga (ga (ai d) k) 1).a):Int)=0))\/(((hgt d ((ga (ga (ai d) k) 0).a):Int)=0)/\((hgt d ((ga (ga (ai d) k) 1).a):Int)=2))))) [(1,_),(2,_),(3,_),(7,_),(8,_),(13,_),(14,_)] ⟨rfl,rfl,rfl,rfl,rfl,rfl,rfl,trivial⟩ (fun JV=>?_) ?_
       ·refine eN (t:=81) rfl (fun xh=>?_) (fun xh=>?_)
        ·refine af 3 rfl ?_
         refine lG (k':=25) (d:=87) (decide (((hgt d ((ga (ga (ai d) k) 0).a):Int)=2)/\((hgt d ((ga (ga (ai d) k) 1).a):Int)=0))) [(1,_),(2,_),(3,_),(7,_),(8,_),(13,_),(14,_),(81,_)] ⟨rfl,rfl,rfl,rfl,rfl,rfl,rfl,rfl,trivial⟩ (fun X3=>?_) ?_
         ·refine eN (t:=84) rfl (fun OQ=>?_) (fun OQ=>?_)
          ·refine af 3 rfl ?_
           exact dz 87 (.bool (decide (((hgt d ((ga (ga (ai d) k) 0).a):Int)=2)/\((hgt d ((ga (ga (ai d) k) 1).a):Int)=0)))) rfl (congrArg Value.bool (decide_eq_decide.2 ⟨fun h=>⟨OQ,h⟩,fun h=>h.2⟩)) (gA [87,1,2,3,7,8,13,14,81] rfl X3)
          ·refine af 3 rfl ?_
           exact dz 87 (.bool (decide (((hgt d ((ga (ga (ai d) k) 0).a):Int)=2)/\((hgt d ((ga (ga (ai d) k) 1).a):Int)=0)))) rfl (congrArg Value.bool (decide_eq_false (fun h=>OQ h.1)).symm) (gA [87,1,2,3,7,8,13,14,81] rfl X3)
         ·refine af 1 rfl ?_
          refine lG (k':=33) (d:=95) (decide ((((hgt d ((ga (ga (ai d) k) 0).a):Int)=2)/\((hgt d ((ga (ga (ai d) k) 1).a):Int)=0))\/(((hgt d ((ga (ga (ai d) k) 0).a):Int)=0)/\((hgt d ((ga (ga (ai d) k) 1).a):Int)=2)))) [(1,_),(2,_),(3,_),(7,_),(8,_),(13,_),(14,_),(81,_)] ⟨rfl,rfl,rfl,rfl,rfl,rfl,rfl,rfl,trivial⟩ (fun XX=>?_) ?_
          ·refine eN (t:=88) rfl (fun OO=>?_) (fun OO=>?_)
           ·refine af 6 rfl (af 1 rfl ?_)
            exact dz 95 (.bool (decide ((((hgt d ((ga (ga (ai d) k) 0).a):Int)=2)/\((hgt d ((ga (ga (ai d) k) 1).a):Int)=0))\/(((hgt d ((ga (ga (ai d) k) 0).a):Int)=0)/\((hgt d ((ga (ga (ai d) k) 1).a):Int)=2))))) rfl (congrArg Value.bool (decide_eq_true (.inl OO)).symm) (gA [95,1,2,3,7,8,13,14,81] rfl XX)
           ·refine af 3 rfl ?_
            refine lG (k':=32) (d:=94) (decide (((hgt d ((ga (ga (ai d) k) 0).a):Int)=0)/\((hgt d ((ga (ga (ai d) k) 1).a):Int)=2))) [(1,_),(2,_),(3,_),(7,_),(8,_),(13,_),(14,_),(81,_),(88,_)] ⟨rfl,rfl,rfl,rfl,rfl,rfl,rfl,rfl,rfl,trivial⟩ (fun XY=>?_) ?_
            ·refine eN (t:=91) rfl (fun Dm=>?_) (fun Dm=>?_)
             ·refine af 3 rfl ?_
              exact dz 94 (.bool (decide (((hgt d ((ga (ga (ai d) k) 0).a):Int)=0)/\((hgt d ((ga (ga (ai d) k) 1).a):Int)=2)))) rfl (congrArg Value.bool (decide_eq_decide.2 ⟨fun h=>⟨Dm,h⟩,fun h=>h.2⟩)) (gA [94,1,2,3,7,8,13,14,81,88] rfl XY)
             ·refine af 3 rfl ?_
              exact dz 94 (.bool (decide (((hgt d ((ga (ga (ai d) k) 0).a):Int)=0)/\((hgt d ((ga (ga (ai d) k) 1).a):Int)=2)))) rfl (congrArg Value.bool (decide_eq_false (fun h=>Dm h.1)).symm) (gA [94,1,2,3,7,8,13,14,81,88] rfl XY)
            ·refine af 1 rfl ?_
             exact dz 95 (.bool (decide ((((hgt d ((ga (ga (ai d) k) 0).a):Int)=2)/\((hgt d ((ga (ga (ai d) k) 1).a):Int)=0))\/(((hgt d ((ga (ga (ai d) k) 0).a):Int)=0)/\((hgt d ((ga (ga (ai d) k) 1).a):Int)=2))))) rfl (congrArg Value.bool (decide_eq_decide.2 ⟨.inr,fun h=>h.resolve_left OO⟩)) (gA [95,1,2,3,7,8,13,14,81] rfl XX)
          ·refine af 1 rfl ?_
           exact dz 96 (.bool (decide ((((((aF d ((ga (ga (ai d) k) 0).a) ((ga (ga (ai d) k) 0).b)).1:Int)=i)/\(((aF d ((ga (ga (ai d) k) 1).a) ((ga (ga (ai d) k) 1).b)).1:Int)=j))\/((((aF d ((ga (ga (ai d) k) 0).a) ((ga (ga (ai d) k) 0).b)).1:Int)=j)/\(((aF d ((ga (ga (ai d) k) 1).a) ((ga (ga (ai d) k) 1).b)).1:Int)=i)))/\((((hgt d ((ga (ga (ai d) k) 0).a):Int)=2)/\((hgt d ((ga (ga (ai d) k) 1).a):Int)=0))\/(((hgt d ((ga (ga (ai d) k) 0).a):Int)=0)/\((hgt d ((ga (ga (ai d) k) 1).a):Int)=2)))))) rfl (congrArg Value.bool (decide_eq_decide.2 ⟨fun h=>⟨xh,h⟩,fun h=>h.2⟩)) (gA [96,1,2,3,7,8,13,14] rfl JV)
        ·refine af 6 rfl (af 6 rfl (af 3 rfl ?_))
         exact dz 96 (.bool (decide ((((((aF d ((ga (ga (ai d) k) 0).a) ((ga (ga (ai d) k) 0).b)).1:Int)=i)/\(((aF d ((ga (ga (ai d) k) 1).a) ((ga (ga (ai d) k) 1).b)).1:Int)=j))\/((((aF d ((ga (ga (ai d) k) 0).a) ((ga (ga (ai d) k) 0).b)).1:Int)=j)/\(((aF d ((ga (ga (ai d) k) 1).a) ((ga (ga (ai d) k) 1).b)).1:Int)=i)))/\((((hgt d ((ga (ga (ai d) k) 0).a):Int)=2)/\((hgt d ((ga (ga (ai d) k) 1).a):Int)=0))\/(((hgt d ((ga (ga (ai d) k) 0).a):Int)=0)/\((hgt d ((ga (ga (ai d) k) 1).a):Int)=2)))))) rfl (congrArg Value.bool (decide_eq_false (fun h=>xh h.1)).symm) (gA [96,1,2,3,7,8,13,14] rfl JV)
       ·refine ax [1,2,3,7,8,96] rfl ?_
        refine bp rfl (fun aju=>?_) (fun aju=>?_)
        ·refine ar (af 1 rfl (ax [6] rfl (bU hC rfl ?_)))
         refine⟨_,rfl,_,bh,(jb.pick [] [] (by decide) trivial),?_⟩
         have hT:kR d i j (ga (ai d) k)=true:=by unfold kR;rw[decide_eq_true_iff];omega
         show Value.bool _=Value.bool _
         rw[List.any_eq_true.2 ⟨_,np,hT⟩]
        ·refine aV (bE (aW [1,2,3,7,8] rfl (aH (af 1 rfl (ag rfl (bj rfl) (af 1 rfl (aB (br ?_))))))))
         have hF:kR d i j (ga (ai d) k)=false:=by unfold kR;rw[decide_eq_false_iff_not];omega
         intro au aq
         refine⟨_,?jq,⟨k+1,rfl,aq.su rfl,jb.pick [2] [_] (by decide) ⟨rfl,trivial⟩,?fI,?fY⟩⟩
         case fI=>omega
         case fY=>(intro q hq;by_cases e:q=k;(subst e;exact hF);exact hno q (by omega))
         case jq=>omega
  ·refine bX rfl (cP [] rfl (af 1 rfl (aB (bK (bU hC rfl ?_)))))
   refine⟨_,rfl,_,bh,(S3.pick [] [] (by decide) trivial),?_⟩
   show Value.bool _=Value.bool _
   rw[List.any_eq_false.2 (fun x hx=>by obtain⟨q,hq,rfl⟩:=List.mem_iff_getElem.1 hx;rw[<-cZ hq,hno q (by omega)];decide)]
noncomputable def Z56:=Tryz.f46.body.getD .skip
set_option maxHeartbeats 2000000 in
set_option maxRecDepth 10000 in
theorem abh{w:World}{M:Hp}{X:Fr}(d:Dg){bz:Option Addr}{bw:Nat}(m:Mv)(aC:aJ bu (M.un X.h) bz bw d.ae)(hn:d.ae.length<=16)(hab:aO d=true)(S:SH w M X []):Ct Tryz.prog 46 [.agg [.slice bz d.ae.length bw,.int .i64 d.loops].toArray,.int .i64 m.at_] w M X (Ee (uP (iR d m) (oX d m))):=by
 unfold Ct
 have iL:d.ae.length*40<=140737488355328:=aC.room
 refine cw (b:=Z56) Tryz.func46 rfl Tryz.ntmps46 rfl (fun C hC=>(cB [0,1] rfl (ar (aj rfl (dx (l:=[_,_]) rfl rfl rfl rfl rfl S ?_)))))
 intro aP w1 S1;clear S
 refine aj rfl (bW (l:=[_,_]) rfl rfl rfl jo rfl S1 ?_)
 intro bJ w2 S2;clear S1
 refine af 1 rfl (bL [1,2,4] rfl (ag rfl (aU [_,_] rfl aM aN (S2.bs 1 rfl rfl)) (aj rfl (eo rfl rfl rfl rfl rfl rfl rfl J0 S2 (HV d (aC.mono S2.bn) (hn) (hab) S2.aT) ?_))))
 intro xV w3 M1 bh S3 mV;clear S2
 replace aC:=aC.mono (Hp.aD bh S3.mx)
 obtain⟨A1,c1,vs1,rfl,hr1,hd1⟩:=mV
 have WM:=hd1.1
 refine af 1 rfl (bM [1,2,4,6] rfl (ar (af 3 rfl ?_)))
 refine eN (t:=22) rfl (fun aji=>?_) (fun aji=>?_)
 ·refine af 5 rfl (ax [1,2,4,6,27] rfl (kP (ar (ag rfl (run_build (l:=[_,_]) rfl rfl iC rfl rfl) (aj rfl (bH 0 [_,_] [_,_] [_,_] rfl S3 rfl rfl aN rfl rfl ?_))))))
  intro w4 S4;clear S3
  refine af 1 rfl (ax [4,5] rfl (dI hC [_,_] rfl rfl ⟨⟨_,rfl,dK (us:=[_,_]) aM rfl aN (S4.bs 0 rfl rfl)⟩,rfl,trivial⟩ ?_))
  refine⟨_,rfl,_,bh,(S4.pick [] [] (by decide) trivial),?_⟩
  rw[mY (c:=3) (by unfold iR;rw[if_neg (by omega)]) (by decide)]
  exact l7 3
 ·refine af 2 rfl (b8 rfl (cK rfl qo) (af 2 rfl (ax [1,2,4,6,27] rfl ?_)))
  refine bp rfl (fun F8=>?_) (fun F8=>?_)
  ·refine ar (ag rfl (run_build (l:=[_,_]) rfl rfl iC rfl rfl) (aj rfl (bH 0 [_,_] [_,_] [_,_] rfl S3 rfl rfl aN rfl rfl ?_)))
   intro w5 S5;clear S3
   refine af 1 rfl (ax [4,5] rfl (dI hC [_,_] rfl rfl ⟨⟨_,rfl,dK (us:=[_,_]) aM rfl aN (S5.bs 0 rfl rfl)⟩,rfl,trivial⟩ ?_))
   refine⟨_,rfl,_,bh,(S5.pick [] [] (by decide) trivial),?_⟩
   rw[mY (c:=3) (by unfold iR;rw[if_neg (by omega)]) (by decide)]
   exact l7 3
  ·refine aV (bC [1,2,4,6] rfl ?_)
   have nH:0<=m.at_/\m.at_<((ai d).length:Int):=by omega
   have np:(ga (ai d) m.at_.toNat)∈ai d:=cY (by omega)
   have hok:∀x∈(ga (ai d) m.at_.toNat),okD d x:=Ic hab np
   refine aH (af 2 rfl (dz 30 (.int .i64 ((m.at_.toNat:Nat):Int)) rfl (int_eq (by omega)) ?_))
   refine ag rfl (cN m.at_.toNat rfl qp hr1) ?_
   obtain⟨kG,hr2⟩:=hd1.2 m.at_.toNat (by first|omega|(simp only[ls];omega))
   have Aq:(ga (ai d) m.at_.toNat).length*16<=140737488355328:=hr2.room
   refine ag rfl (aw rfl nG (hr1.cell S3.m (i:=m.at_.toNat) (by first|omega|(simp only[ls];omega)) 0 rfl (congrArg (fun n=>some (Value.slice _ n _)) kG))) ?_
   refine af 1 rfl (bM [2,4,7] rfl (ar (af 1 rfl (ag rfl (cK rfl nG) (af 1 rfl (ax [2,4,7,35] rfl ?_))))))
   refine bp rfl (fun mQ=>?_) (fun mQ=>?_)
   ·refine ar (ag rfl (run_build (l:=[_,_]) rfl rfl iC rfl rfl) (aj rfl (bH 0 [_,_] [_,_] [_,_] rfl S3 rfl rfl aN rfl rfl ?_)))
    intro w6 S6;clear S3
    refine af 1 rfl (ax [4,5] rfl (dI hC [_,_] rfl rfl ⟨⟨_,rfl,dK (us:=[_,_]) aM rfl aN (S6.bs 0 rfl rfl)⟩,rfl,trivial⟩ ?_))
    refine⟨_,rfl,_,bh,(S6.pick [] [] (by decide) trivial),?_⟩
    rw[mY (c:=8) (by unfold iR;rw[if_pos nH,if_neg (by first|(unfold ky;rw[decide_eq_true_iff];omega)|(rw[zm hab np (by omega),decide_eq_true_iff];omega))]) (by decide)]
    exact l7 8
   ·refine aV (cP [2,4,7] rfl (aj rfl (bW (l:=[_,_,_]) rfl rfl rfl afV rfl S3 ?_)))
    intro dE w7 S7;clear S3
    refine aB (sw (af 1 rfl (aB (di (ar (af 1 rfl (aB (bK ?_))))))))
    refine bg ?_
    have S8:=S7.jI aQ;clear S7
    refine ck (fun aZ au aR=>∃(k:Nat) (mF:Nat->Int) (es:List Int) (PU:Value),aZ=3-k/\Env 161 [(2,.pointer (some ⟨aP,0,none⟩)),(4,.pointer (some ⟨bJ,0,none⟩)),(7,.slice ((ga vs1 m.at_.toNat).A) (ga (ai d) m.at_.toNat).length ((ga vs1 m.at_.toNat).c)),(8,.pointer (some ⟨dE,0,none⟩)),(9,PU),(10,.int .i64 (k:Int))] au/\SH aR M1 X [Rs.row aQ PU es,Rs.box dE 139 [.int .i64 (mF 0),.int .i64 (mF 1),.int .i64 (mF 2)],Rs.box bJ 24 [.slice none 0 0,.int .i64 0],Rs.box aP 24 [.slice bz d.ae.length bw,.int .i64 d.loops]]/\k<=3/\(∀q,q<3->mF q=(kf d (ga (ai d) m.at_.toNat) q k:Int))/\es=hdN d (ga (ai d) m.at_.toNat) k) rfl ?_ ?_
    ·intro au aq
     refine⟨_,⟨0,(fun _=>0),[],_,rfl,aq.su rfl,S8.pick [0,1,2,3] [_,_,_,_] (by decide) ⟨rfl,rfl,rfl,rfl,trivial⟩,?dh,?dC,?jm⟩⟩
     case dh=>omega
     case dC=>(intro q hq;rfl)
     case jm=>rfl
    ·rintro m1 a1 w8 ⟨k,mF,es,PU,rfl,bN,S9,hk,G3,hes⟩
     clear S8
     refine cy bN ?_
     clear bN a1
     have hel:es.length=k:=by rw[hes];exact UL _ _ _
     have hgl:=VB d (ga (ga (ai d) m.at_.toNat) k).a
     have hmb:=G3 (hgt d (ga (ga (ai d) m.at_.toNat) k).a) (by omega)
     have G1:=MO d (ga (ai d) m.at_.toNat) (hgt d (ga (ga (ai d) m.at_.toNat) k).a) k
     refine cJ (ar (af 2 rfl (ax [2,4,7,8,9,10,38] rfl ?_)))
     refine bp rfl (fun Bk=>?_) (fun Bk=>?_)
     ·have ho:okD d (ga (ga (ai d) m.at_.toNat) k):=hok _ (cY (by omega))
      have hpo:1<=(ga (ga (ai d) m.at_.toNat) k).a/\(ga (ga (ai d) m.at_.toNat) k).a<=2*(d.ae.length:Int):=ho
      refine aV (bC [2,4,7,8,9,10] rfl (bg (cJ (dH S9 12 ?_))))
      clear S9
      refine ay 0 rfl (fun ah Sz=>aU [_,_] rfl aM aN (Sz.suf.bs 3 rfl rfl)) (aK 9 [1,2] rfl (ay 3 rfl (fun ah Sz=>cN k rfl mM (hr2.mono ah)) (aS 4 rfl (az rfl eA rfl aY aX) (ay 5 rfl (fun ah Sz=>aw rfl aG ((hr2.mono ah).cell Sz.m (i:=k) (by first|omega|(simp only[ls];omega)) 0 rfl rfl)) ?_))))
      refine dQ 6 rfl (fun ah Sz=>dZ rfl rfl rfl rfl rfl Pm Sz (K6 d ((ga (ga (ai d) m.at_.toNat) k).a) ((aC.mono (Hp.aD ah Sz.mx)).mono Sz.bn) (hab) (by first|assumption|omega) Sz.aT)) ?_
      refine ay 7 rfl (fun ah Sz=>xI (e:=hgt d ((ga (ga (ai d) m.at_.toNat) k).a)) (k:=1) rfl rfl rfl Fg gp (by first|rfl|omega) (by first|omega|(simp only[ls];omega))) ?_
      refine ay 8 rfl (fun ah Sz=>aw rfl aG (Sz.suf.nJ (i:=1) rfl (adJ (fun k=>Value.int .i64 (mF k)) (by first|omega|(simp only[ls];omega))))) ?_
      refine aS 9 rfl (bj rfl) (ay 10 rfl (fun ah Sz=>xI (e:=hgt d ((ga (ga (ai d) m.at_.toNat) k).a)) (k:=1) rfl rfl rfl Fg gp (by first|rfl|omega) (by first|omega|(simp only[ls];omega))) ?_)
      refine cm 11 rfl (fun vO fx=>((gJ (i:=1) (us:=[_]) (l':=[.int .i64 (upd mF (hgt d ((ga (ga (ai d) m.at_.toNat) k).a)) ((mF (hgt d ((ga (ga (ai d) m.at_.toNat) k).a)))+1) 0),.int .i64 (upd mF (hgt d ((ga (ga (ai d) m.at_.toNat) k).a)) ((mF (hgt d ((ga (ga (ai d) m.at_.toNat) k).a)))+1) 1),.int .i64 (upd mF (hgt d ((ga (ga (ai d) m.at_.toNat) k).a)) ((mF (hgt d ((ga (ga (ai d) m.at_.toNat) k).a)))+1) 2)]) (H':=[_,_,_,_]) rfl rfl fx rfl rfl rfl rfl gp (aeh (fun k=>Value.int .i64 (mF k)) _ (by first|omega|(simp only[ls];omega))) rfl (aeG mF ((mF (hgt d ((ga (ga (ai d) m.at_.toNat) k).a)))+1) (by first|omega|(simp only[ls];omega))) rfl ?_)))
      intro xU jw;clear fx
      refine ij jw ?_;clear jw
      change WA _ _ _ _ _ _ _ _ _ _ _ _ [_,_,_,_]
      refine cD (fun DS gN=>(aW [2,4,7,8,9,10] rfl ?_))
      have gI:=gN.pick [0,1,2,3] [_,_,_,_] (by decide) ⟨rfl,rfl,rfl,rfl,trivial⟩;clear gN
      refine zP [_] [_,_,_] rfl (by kernel_rfl) gI 17 rfl ?_
      clear gI
      change WA _ _ _ _ _ _ _ _ _ _ _ _ [_,_,_,_]
      refine aK 16 [0] rfl (ay 1 rfl (fun ah Sz=>aU [_,_] rfl aM aN (Sz.suf.bs 2 rfl rfl)) (aK 13 [2,3] rfl (ay 4 rfl (fun ah Sz=>cN k rfl mM (hr2.mono ah)) (aS 5 rfl (az rfl eA rfl aY aX) (ay 6 rfl (fun ah Sz=>aw rfl aG ((hr2.mono ah).cell Sz.m (i:=k) (by first|omega|(simp only[ls];omega)) 0 rfl rfl)) ?_)))))
      refine aK 8 [7,8] rfl (ay 9 rfl (fun ah Sz=>cN k rfl mM (hr2.mono ah)) (aS 10 rfl (az rfl eA rfl lM lJ) (ay 11 rfl (fun ah Sz=>aw rfl gY ((hr2.mono ah).cell Sz.m (i:=k) (by first|omega|(simp only[ls];omega)) 1 rfl rfl)) ?_)))
      refine dQ 12 rfl (fun ah Sz=>dZ rfl rfl rfl rfl rfl sJ Sz (sN d ((ga (ga (ai d) m.at_.toNat) k).a) ((ga (ga (ai d) m.at_.toNat) k).b) ((aC.mono (Hp.aD ah Sz.mx)).mono Sz.bn) Sz.aT)) (aS 13 rfl (rH rfl rfl dR rfl aG rfl rfl) (cm 14 rfl (fun GJ oJ=>((eQ (C:=aQ) (l:=[_]) rfl rfl rfl rfl bt rfl rfl rfl rfl oJ ?_)))))
      intro lK DN iU;clear oJ
      refine dB [_,_] [_,_,_,_,_] rfl iU ?_;clear iU
      refine cm 15 rfl (fun DM kL=>((gw (C:=aQ) (i:=1) (q:=0) ((aF d ((ga (ga (ai d) m.at_.toNat) k).a) ((ga (ga (ai d) m.at_.toNat) k).b)).1:Int) rfl rfl rfl rfl rfl rfl rfl rfl bt kL rfl rfl rfl (by show(_+1)*8<=_;first|omega|(simp only[ls];omega)) ?_)))
      intro amL xQ jV;clear kL
      have ma:=jV.pick [1,2,3,4] [_,_,_,_] (by decide) ⟨rfl,rfl,rfl,rfl,trivial⟩;clear jV
      refine dB [_] [_,_,_,_] rfl ma ?_;clear ma
      refine aK 0 [16] rfl (cD (fun xP pg=>(bE (aW [2,4,7,8,9,10] rfl (aH (af 1 rfl (ag rfl (bj rfl) (af 1 rfl (aB ?_)))))))))
      refine br ?_
      intro au aq
      refine⟨_,?fK,⟨k+1,(upd mF (hgt d (ga (ga (ai d) m.at_.toNat) k).a) (mF (hgt d (ga (ga (ai d) m.at_.toNat) k).a)+1)),es++[((aF d ((ga (ga (ai d) m.at_.toNat) k).a) ((ga (ga (ai d) m.at_.toNat) k).b)).1:Int)],_,rfl,aq.su rfl,pg.pick [0,1,2,3] [_,_,_,_] (by decide) ⟨rfl,rfl,rfl,rfl,trivial⟩,?dv,?dL,?jl⟩⟩
      case dv=>omega
      case dL=>(intro q hq;have h9:=G3 q hq;unfold upd kf;by_cases e:(hgt d (ga (ga (ai d) m.at_.toNat) k).a)=q;(subst e;rw[if_pos rfl,if_pos rfl,h9];rfl);(rw[if_neg (fun h=>e h.symm),if_neg e,h9];rfl))
      case jl=>(rw[hes];rfl)
      case fK=>omega
     ·refine bX rfl (bC [2,4,7,8,9] rfl (cJ ?_))
      obtain rfl:k=3:=by omega
      have hel:es.length=3:=by rw[hes];exact UL _ _ _
      have hm0:=G3 0 (by omega)
      have Ky:=G3 1 (by omega)
      have hm2:=G3 2 (by omega)
      have hg0:ga es 0=(fw d (ga (ga (ai d) m.at_.toNat) 0):Int):=by rw[hes];rfl
      have hg1:ga es 1=(fw d (ga (ga (ai d) m.at_.toNat) 1):Int):=by rw[hes];rfl
      have hg2:ga es 2=(fw d (ga (ga (ai d) m.at_.toNat) 2):Int):=by rw[hes];rfl
      refine dH S9 40 ?_
      clear S9
      refine ay 0 rfl (fun ah Sz=>xI (e:=0) (k:=1) rfl rfl rfl Fg gp (by first|rfl|omega) (by first|omega|(simp only[ls];omega))) ?_
      refine ay 1 rfl (fun ah Sz=>aw rfl aG (Sz.suf.bc 1 rfl rfl)) (aK 36 [2,3] rfl ?_)
      refine xG (t:=71) rfl (fun FW=>?_) (fun FW=>?_)
      ·refine aK 30 [4,5,6,7,8,9] rfl (aK 24 [10,11,12,13,14,15] rfl (aK 18 [16,17,18,19,20,21] rfl (aK 12 [22,23,24,25,26,27] rfl (aK 6 [28,29,30,31,32,33] rfl (aK 0 [34,35,36,37,38,39] rfl (cD (fun PD ny=>(aW [2,4,7,107] rfl (kP ?_)))))))))
       refine ar (ag rfl (run_build (l:=[_,_]) rfl rfl iC rfl rfl) (aj rfl (bH 2 [_,_] [_,_] [_,_,_,_] rfl ny rfl rfl aN rfl rfl ?_)))
       intro w60 mE;clear ny
       refine af 1 rfl (ax [4,5] rfl (dI hC [_,_] rfl rfl ⟨⟨_,rfl,dK (us:=[_,_]) aM rfl aN (mE.bs 2 rfl rfl)⟩,rfl,trivial⟩ ?_))
       refine⟨_,rfl,_,bh,(mE.pick [] [] (by decide) trivial),?_⟩
       rw[mY (c:=8) (by unfold iR;rw[if_pos nH,if_neg (by first|(unfold ky;rw[decide_eq_true_iff];omega)|(rw[zm hab np (by omega),decide_eq_true_iff];omega))]) (by decide)]
       exact l7 8
      ·refine ay 4 rfl (fun ah Sz=>xI (e:=1) (k:=1) rfl rfl rfl Fg gp (by first|rfl|omega) (by first|omega|(simp only[ls];omega))) ?_
       refine ay 5 rfl (fun ah Sz=>aw rfl aG (Sz.suf.bc 1 rfl rfl)) (aK 31 [6,7,8] rfl ?_)
       refine xG (t:=76) rfl (fun ai8=>?_) (fun ai8=>?_)
       ·refine aK 25 [9,10,11,12,13,14] rfl (aK 19 [15,16,17,18,19,20] rfl (aK 13 [21,22,23,24,25,26] rfl (aK 7 [27,28,29,30,31,32] rfl (aK 1 [33,34,35,36,37,38] rfl (aK 0 [39] rfl (cD (fun w73 Cw=>(aW [2,4,7,107] rfl (kP ?_)))))))))
        refine ar (ag rfl (run_build (l:=[_,_]) rfl rfl iC rfl rfl) (aj rfl (bH 2 [_,_] [_,_] [_,_,_,_] rfl Cw rfl rfl aN rfl rfl ?_)))
        intro w74 vg;clear Cw
        refine af 1 rfl (ax [4,5] rfl (dI hC [_,_] rfl rfl ⟨⟨_,rfl,dK (us:=[_,_]) aM rfl aN (vg.bs 2 rfl rfl)⟩,rfl,trivial⟩ ?_))
        refine⟨_,rfl,_,bh,(vg.pick [] [] (by decide) trivial),?_⟩
        rw[mY (c:=8) (by unfold iR;rw[if_pos nH,if_neg (by first|(unfold ky;rw[decide_eq_true_iff];omega)|(rw[zm hab np (by omega),decide_eq_true_iff];omega))]) (by decide)]
        exact l7 8
       ·refine ay 9 rfl (fun ah Sz=>xI (e:=2) (k:=1) rfl rfl rfl Fg gp (by first|rfl|omega) (by first|omega|(simp only[ls];omega))) ?_
        refine ay 10 rfl (fun ah Sz=>aw rfl aG (Sz.suf.bc 1 rfl rfl)) (aK 26 [11,12,13] rfl ?_)
        refine xG (t:=81) rfl (fun xh=>?_) (fun xh=>?_)
        ·refine aK 20 [14,15,16,17,18,19] rfl (aK 14 [20,21,22,23,24,25] rfl (aK 8 [26,27,28,29,30,31] rfl (aK 2 [32,33,34,35,36,37] rfl (aK 0 [38,39] rfl (cD (fun ZW rV=>(aW [2,4,7,107] rfl (kP (ar ?_)))))))))
         refine ag rfl (run_build (l:=[_,_]) rfl rfl iC rfl rfl) (aj rfl (bH 2 [_,_] [_,_] [_,_,_,_] rfl rV rfl rfl aN rfl rfl ?_))
         intro ZV zM;clear rV
         refine af 1 rfl (ax [4,5] rfl (dI hC [_,_] rfl rfl ⟨⟨_,rfl,dK (us:=[_,_]) aM rfl aN (zM.bs 2 rfl rfl)⟩,rfl,trivial⟩ ?_))
         refine⟨_,rfl,_,bh,(zM.pick [] [] (by decide) trivial),?_⟩
         rw[mY (c:=8) (by unfold iR;rw[if_pos nH,if_neg (by first|(unfold ky;rw[decide_eq_true_iff];omega)|(rw[zm hab np (by omega),decide_eq_true_iff];omega))]) (by decide)]
         exact l7 8
        ·refine aK 25 [14] rfl (ay 15 rfl (fun ah Sz=>bS (i:=0) 0 rfl bt Sz.suf rfl) (ay 16 rfl (fun ah Sz=>aw rfl aG (Sz.suf.dS (i:=0) (e:=0) (j:=0) rfl (by first|omega|(simp only[ls];omega)) rfl rfl)) ?_))
         refine aK 22 [17] rfl (ay 18 rfl (fun ah Sz=>bS (i:=0) 1 rfl bt Sz.suf rfl) (ay 19 rfl (fun ah Sz=>aw rfl aG (Sz.suf.dS (i:=0) (e:=1) (j:=0) rfl (by first|omega|(simp only[ls];omega)) rfl rfl)) ?_))
         refine aK 17 [20,21,22] rfl ?_
         refine xG (t:=90) rfl (fun ai6=>?_) (fun ai6=>?_)
         ·refine aK 11 [23,24,25,26,27,28] rfl (aK 5 [29,30,31,32,33,34] rfl (aK 0 [35,36,37,38,39] rfl (cD (fun w99 zf=>(aW [2,4,7,107] rfl (kP (ar (ag rfl (run_build (l:=[_,_]) rfl rfl iC rfl rfl) (aj rfl (bH 2 [_,_] [_,_] [_,_,_,_] rfl zf rfl rfl aN rfl rfl ?_))))))))))
          intro ah5 xB;clear zf
          refine af 1 rfl (ax [4,5] rfl (dI hC [_,_] rfl rfl ⟨⟨_,rfl,dK (us:=[_,_]) aM rfl aN (xB.bs 2 rfl rfl)⟩,rfl,trivial⟩ ?_))
          refine⟨_,rfl,_,bh,(xB.pick [] [] (by decide) trivial),?_⟩
          rw[mY (c:=8) (by unfold iR;rw[if_pos nH,if_neg (by first|(unfold ky;rw[decide_eq_true_iff];omega)|(rw[zm hab np (by omega),decide_eq_true_iff];omega))]) (by decide)]
          exact l7 8
         ·refine aK 16 [23] rfl (ay 24 rfl (fun ah Sz=>bS (i:=0) 0 rfl bt Sz.suf rfl) (ay 25 rfl (fun ah Sz=>aw rfl aG (Sz.suf.dS (i:=0) (e:=0) (j:=0) rfl (by first|omega|(simp only[ls];omega)) rfl rfl)) ?_))
          refine aK 13 [26] rfl (ay 27 rfl (fun ah Sz=>bS (i:=0) 2 rfl bt Sz.suf rfl) (ay 28 rfl (fun ah Sz=>aw rfl aG (Sz.suf.dS (i:=0) (e:=2) (j:=0) rfl (by first|omega|(simp only[ls];omega)) rfl rfl)) ?_))
          refine aK 8 [29,30,31] rfl ?_
          refine xG (t:=99) rfl (fun xg=>?_) (fun xg=>?_)
          ·refine aK 2 [32,33,34,35,36,37] rfl (aK 0 [38,39] rfl (cD (fun ah4 Gy=>(aW [2,4,7,107] rfl (kP (ar (ag rfl (run_build (l:=[_,_]) rfl rfl iC rfl rfl) (aj rfl (bH 2 [_,_] [_,_] [_,_,_,_] rfl Gy rfl rfl aN rfl rfl ?_)))))))))
           intro ah3 Gx;clear Gy
           refine af 1 rfl (ax [4,5] rfl (dI hC [_,_] rfl rfl ⟨⟨_,rfl,dK (us:=[_,_]) aM rfl aN (Gx.bs 2 rfl rfl)⟩,rfl,trivial⟩ ?_))
           refine⟨_,rfl,_,bh,(Gx.pick [] [] (by decide) trivial),?_⟩
           rw[mY (c:=8) (by unfold iR;rw[if_pos nH,if_neg (by first|(unfold ky;rw[decide_eq_true_iff];omega)|(rw[zm hab np (by omega),decide_eq_true_iff];omega))]) (by decide)]
           exact l7 8
          ·refine aK 7 [32] rfl (ay 33 rfl (fun ah Sz=>bS (i:=0) 1 rfl bt Sz.suf rfl) (ay 34 rfl (fun ah Sz=>aw rfl aG (Sz.suf.dS (i:=0) (e:=1) (j:=0) rfl (by first|omega|(simp only[ls];omega)) rfl rfl)) ?_))
           refine aK 4 [35] rfl (ay 36 rfl (fun ah Sz=>bS (i:=0) 2 rfl bt Sz.suf rfl) (ay 37 rfl (fun ah Sz=>aw rfl aG (Sz.suf.dS (i:=0) (e:=2) (j:=0) rfl (by first|omega|(simp only[ls];omega)) rfl rfl)) ?_))
           refine aK 0 [38,39] rfl (cD (fun amh Bv=>(aW [2,4,7,107] rfl ?_)))
           refine bp rfl (fun AK=>?_) (fun AK=>?_)
           ·refine ar (ag rfl (run_build (l:=[_,_]) rfl rfl iC rfl rfl) (aj rfl (bH 2 [_,_] [_,_] [_,_,_,_] rfl Bv rfl rfl aN rfl rfl ?_)))
            intro amg Gw;clear Bv
            refine af 1 rfl (ax [4,5] rfl (dI hC [_,_] rfl rfl ⟨⟨_,rfl,dK (us:=[_,_]) aM rfl aN (Gw.bs 2 rfl rfl)⟩,rfl,trivial⟩ ?_))
            refine⟨_,rfl,_,bh,(Gw.pick [] [] (by decide) trivial),?_⟩
            rw[mY (c:=8) (by unfold iR;rw[if_pos nH,if_neg (by first|(unfold ky;rw[decide_eq_true_iff];omega)|(rw[zm hab np (by omega),decide_eq_true_iff];omega))]) (by decide)]
            exact l7 8
           ·refine aV (cP [2,4,7] rfl (ag rfl (aU [_,_] rfl aM aN (Bv.bs 3 rfl rfl)) (aj rfl (Ji rfl rfl rfl rfl rfl rfl rfl QD Bv (aer d (aC.mono Bv.bn) Bv.aT) ?_))))
            intro akS ah2 alh Dw afs;clear Bv
            obtain⟨C8,rfl,rfl⟩:=afs
            have ZM:SH _ _ _ [_,_,_,_,_]:=Dw;clear Dw
            refine aj rfl (bW (l:=[_,_]) rfl rfl rfl jo rfl ZM ?_)
            intro iI ah1 Pz;clear ZM
            refine aj rfl (gJ (i:=0) (us:=[_,_]) (l':=[_,_]) (H':=[_,_,_,_,_,_]) rfl rfl Pz rfl rfl rfl rfl aN rfl (iq (Pz.one (i:=1) rfl) (iq rfl rfl)) rfl rfl ?_)
            intro amf Gv;clear Pz
            refine bM [2,4,7,11] rfl (ar (af 1 rfl (aB (bK (bg ?_)))))
            refine ck (fun aZ au aR=>∃(k2:Nat) (xs:List Cr),aZ=3-k2/\Env 161 [(2,.pointer (some ⟨aP,0,none⟩)),(4,.pointer (some ⟨bJ,0,none⟩)),(7,.slice ((ga vs1 m.at_.toNat).A) (ga (ai d) m.at_.toNat).length ((ga vs1 m.at_.toNat).c)),(11,.pointer (some ⟨iI,0,none⟩)),(12,.int .i64 (k2:Int))] au/\SH aR M1 X [Rs.box iI 24 [C8,.int .i64 d.loops],Rs.row bu C8 xs,Rs.box bJ 24 [.slice none 0 0,.int .i64 0],Rs.box aP 24 [.slice bz d.ae.length bw,.int .i64 d.loops]]/\k2<=3/\xs=docN d (ga (ai d) m.at_.toNat) k2) rfl ?_ ?_
            ·intro au aq
             refine⟨_,⟨0,d.ae,rfl,aq.su rfl,Gv.pick [0,1,4,5] [_,_,_,_] (by decide) ⟨rfl,rfl,rfl,rfl,trivial⟩,?fg,?fR⟩⟩
             case fg=>omega
             case fR=>rfl
            ·rintro m2 a2 ame ⟨k2,xs,rfl,cU,uz,hk2,hxs⟩
             clear Gv
             refine cy cU ?_
             clear cU a2
             have hxl:xs.length=d.ae.length:=by rw[hxs];exact TT _ _ _
             refine cJ (ar (af 2 rfl (ax [2,4,7,11,12,112] rfl ?_)))
             refine bp rfl (fun wU=>?_) (fun wU=>?_)
             ·refine aV (bC [2,4,7,11,12] rfl (bg (cJ ?_)))
              have vX:okD d (ga (ga (ai d) m.at_.toNat) k2):=hok _ (cY (by omega))
              obtain⟨ht1,ht2,_⟩:=fO hab vX true
              obtain⟨KC,hf2,_⟩:=fO hab vX false
              refine aH (af 2 rfl (ag rfl (cN k2 rfl mM hr2) (ag rfl (az rfl eA rfl aY aX) (ag rfl (aw rfl aG (hr2.cell uz.m (i:=k2) (by first|omega|(simp only[ls];omega)) 0 rfl rfl)) ?_))))
              refine af 1 rfl (bM [2,4,7,11,12,13] rfl ?_)
              refine z6 (fun au aR=>∃(Hh:Nat) (Hg:Nat),Env 161 [(2,.pointer (some ⟨aP,0,none⟩)),(4,.pointer (some ⟨bJ,0,none⟩)),(7,.slice ((ga vs1 m.at_.toNat).A) (ga (ai d) m.at_.toNat).length ((ga vs1 m.at_.toNat).c)),(11,.pointer (some ⟨iI,0,none⟩)),(12,.int .i64 (k2:Int)),(13,.int .i64 ((ga (ga (ai d) m.at_.toNat) k2).a)),(14,.pointer (some ⟨Hh,0,none⟩)),(15,.pointer (some ⟨Hg,0,none⟩))] au/\SH aR M1 X [Rs.box Hh 80 [.int .i64 ((aF d (ga (ga (ai d) m.at_.toNat) k2).a true).1:Int),.int .i64 ((aF d (ga (ga (ai d) m.at_.toNat) k2).a true).2:Int)],Rs.box Hg 80 [.int .i64 ((aF d (ga (ga (ai d) m.at_.toNat) k2).a false).1:Int),.int .i64 ((aF d (ga (ga (ai d) m.at_.toNat) k2).a false).2:Int)],Rs.box iI 24 [C8,.int .i64 d.loops],Rs.row bu C8 xs,Rs.box bJ 24 [.slice none 0 0,.int .i64 0],Rs.box aP 24 [.slice bz d.ae.length bw,.int .i64 d.loops]]) ?_ ?_
              ·refine dH uz 10 ?_
               clear uz
               refine ay 0 rfl (fun ah Sz=>aU [_,_] rfl aM aN (Sz.suf.bs 3 rfl rfl)) (aK 8 [1] rfl (dQ 2 rfl (fun ah Sz=>dZ rfl rfl rfl rfl rfl sJ Sz (sN d ((ga (ga (ai d) m.at_.toNat) k2).a) true ((aC.mono (Hp.aD ah Sz.mx)).mono Sz.bn) Sz.aT)) (ay 3 rfl (fun ah Sz=>aU [_,_] rfl aM aN (Sz.suf.bs 3 rfl rfl)) (aK 5 [4] rfl (dQ 5 rfl (fun ah Sz=>dZ rfl rfl rfl rfl rfl sJ Sz (sN d ((ga (ga (ai d) m.at_.toNat) k2).a) false ((aC.mono (Hp.aD ah Sz.mx)).mono Sz.bn) Sz.aT)) ?_)))))
               refine z7 (i:=6) (j:=7) 3 rfl rfl (by kernel_rfl) rfl rfl rfl rfl (fun Xd ze=>?_) (fun Xd ze=>?_)
               ·refine(bW (l:=[_,_]) rfl rfl rfl pF rfl ze ?_)
                intro rS ahZ Dv;clear ze
                refine dB [_] [_,_,_,_,_] rfl Dv ?_;clear Dv
                refine cm 7 rfl (fun al5 Bu=>((bW (l:=[_,_]) rfl rfl rfl pF rfl Bu ?_)))
                intro uY al4 J9;clear Bu
                refine dB [_,_] [_,_,_,_,_,_] rfl J9 ?_;clear J9
                refine cm 8 rfl (fun al3 J8=>((bH 1 [_,_] [_,_] [_,_,_,_,_,_] rfl J8 rfl rfl iM rfl rfl ?_)))
                intro al2 ZH;clear J8
                refine dB [_,_] [_,_,_,_,_,_] rfl ZH ?_;clear ZH
                refine cm 9 rfl (fun al1 ZG=>((bH 0 [_,_] [_,_] [_,_,_,_,_,_] rfl ZG rfl rfl iM rfl rfl ?_)))
                intro al0 ZF;clear ZG
                refine dB [_,_] [_,_,_,_,_,_] rfl ZF ?_;clear ZF
                refine cD (fun alZ aky=>(br ?_))
                intro au aq
                refine⟨_,_,aq.su rfl,aky.pick [1,0,2,3,4,5] [_,_,_,_,_,_] (by decide) ⟨rfl,rfl,rfl,rfl,rfl,rfl,trivial⟩⟩
               ·refine(bW (l:=[_,_]) rfl rfl rfl pF rfl ze ?_)
                intro wm alY ZE;clear ze
                refine dB [_] [_,_,_,_,_] rfl ZE ?_;clear ZE
                refine cm 6 rfl (fun alX ZC=>((bW (l:=[_,_]) rfl rfl rfl pF rfl ZC ?_)))
                intro Hi alW ZB;clear ZC
                refine dB [_,_] [_,_,_,_,_,_] rfl ZB ?_;clear ZB
                refine cm 8 rfl (fun alV ZA=>((bH 0 [_,_] [_,_] [_,_,_,_,_,_] rfl ZA rfl rfl iM rfl rfl ?_)))
                intro alU Y8;clear ZA
                refine dB [_,_] [_,_,_,_,_,_] rfl Y8 ?_;clear Y8
                refine cm 9 rfl (fun alT Y7=>((bH 1 [_,_] [_,_] [_,_,_,_,_,_] rfl Y7 rfl rfl iM rfl rfl ?_)))
                intro alS Y6;clear Y7
                refine dB [_,_] [_,_,_,_,_,_] rfl Y6 ?_;clear Y6
                refine cD (fun alR akx=>(br ?_))
                intro au aq
                refine⟨_,_,aq.su rfl,akx.pick [0,1,2,3,4,5] [_,_,_,_,_,_] (by decide) ⟨rfl,rfl,rfl,rfl,rfl,rfl,trivial⟩⟩
              ·rintro a3 ah0 ⟨Hh,Hg,fB,Py⟩
               clear uz
               refine Au fB ?_
               clear fB a3
               refine di ?_
               refine z6 (fun au aR=>∃(Qy:Nat) (Qz:Nat),Env 161 [(2,.pointer (some ⟨aP,0,none⟩)),(4,.pointer (some ⟨bJ,0,none⟩)),(7,.slice ((ga vs1 m.at_.toNat).A) (ga (ai d) m.at_.toNat).length ((ga vs1 m.at_.toNat).c)),(11,.pointer (some ⟨iI,0,none⟩)),(12,.int .i64 (k2:Int)),(13,.int .i64 ((ga (ga (ai d) m.at_.toNat) k2).a)),(14,.pointer (some ⟨Hh,0,none⟩)),(15,.pointer (some ⟨Hg,0,none⟩)),(16,.pointer (some ⟨Qy,0,none⟩)),(17,.pointer (some ⟨Qz,0,none⟩))] au/\SH aR M1 X [Rs.box Qy 80 [.int .i64 ((aF d (ga (ga (ai d) m.at_.toNat) k2).a true).1:Int),.int .i64 ((((aF d (ga (ga (ai d) m.at_.toNat) k2).a true).2+2)%4:Nat):Int)],Rs.box Qz 80 [.int .i64 ((aF d (ga (ga (ai d) m.at_.toNat) k2).a false).1:Int),.int .i64 ((((aF d (ga (ga (ai d) m.at_.toNat) k2).a false).2+2)%4:Nat):Int)],Rs.box Hh 80 [.int .i64 ((aF d (ga (ga (ai d) m.at_.toNat) k2).a true).1:Int),.int .i64 ((aF d (ga (ga (ai d) m.at_.toNat) k2).a true).2:Int)],Rs.box Hg 80 [.int .i64 ((aF d (ga (ga (ai d) m.at_.toNat) k2).a false).1:Int),.int .i64 ((aF d (ga (ga (ai d) m.at_.toNat) k2).a false).2:Int)],Rs.box iI 24 [C8,.int .i64 d.loops],Rs.row bu C8 xs,Rs.box bJ 24 [.slice none 0 0,.int .i64 0],Rs.box aP 24 [.slice bz d.ae.length bw,.int .i64 d.loops]]) ?_ ?_
               ·refine dH Py 18 ?_
                clear Py
                refine aS 0 rfl (az rfl dR rfl aY aX) (ay 1 rfl (fun ah Sz=>aw rfl aG (Sz.suf.bc 0 rfl rfl)) (aS 2 rfl (az rfl dR rfl aY aX) (ay 3 rfl (fun ah Sz=>aw rfl aG (Sz.suf.bc 0 rfl rfl)) (aS 4 rfl (bj rfl) (aS 5 rfl (rF rfl rfl rfl (by first|omega|(simp only[ls];omega))) ?_)))))
                refine tN 131 (.int .i64 ((((aF d (ga (ga (ai d) m.at_.toNat) k2).a true).2+2)%4:Nat):Int)) rfl (int_eq (by omega)) ?_
                refine ay 6 rfl (fun ah Sz=>run_build (l:=[_,_]) rfl rfl rq rfl rfl) (aS 7 rfl (az rfl dR rfl aY aX) (ay 8 rfl (fun ah Sz=>aw rfl aG (Sz.suf.bc 1 rfl rfl)) (aS 9 rfl (az rfl dR rfl aY aX) (ay 10 rfl (fun ah Sz=>aw rfl aG (Sz.suf.bc 1 rfl rfl)) (aS 11 rfl (bj rfl) (aS 12 rfl (rF rfl rfl rfl (by first|omega|(simp only[ls];omega))) ?_))))))
                refine tN 138 (.int .i64 ((((aF d (ga (ga (ai d) m.at_.toNat) k2).a false).2+2)%4:Nat):Int)) rfl (int_eq (by omega)) ?_
                refine ay 13 rfl (fun ah Sz=>run_build (l:=[_,_]) rfl rfl rq rfl rfl) ?_
                refine z7 (i:=14) (j:=15) 3 rfl rfl (by kernel_rfl) rfl rfl rfl rfl (fun ahY Gq=>?_) (fun ahY Gq=>?_)
                ·refine(bW (l:=[_,_]) rfl rfl rfl pF rfl Gq ?_)
                 intro Ph alP Y4;clear Gq
                 refine dB [_] [_,_,_,_,_,_,_] rfl Y4 ?_;clear Y4
                 refine cm 15 rfl (fun alO Y3=>((bW (l:=[_,_]) rfl rfl rfl pF rfl Y3 ?_)))
                 intro vF alN Y2;clear Y3
                 refine dB [_,_] [_,_,_,_,_,_,_,_] rfl Y2 ?_;clear Y2
                 refine cm 16 rfl (fun alM Y1=>((bH 1 [_,_] [_,_] [_,_,_,_,_,_,_,_] rfl Y1 rfl rfl iM rfl rfl ?_)))
                 intro alL Y0;clear Y1
                 refine dB [_,_] [_,_,_,_,_,_,_,_] rfl Y0 ?_;clear Y0
                 refine cm 17 rfl (fun alK YZ=>((bH 0 [_,_] [_,_] [_,_,_,_,_,_,_,_] rfl YZ rfl rfl iM rfl rfl ?_)))
                 intro alJ YY;clear YZ
                 refine dB [_,_] [_,_,_,_,_,_,_,_] rfl YY ?_;clear YY
                 refine cD (fun alI akw=>(br ?_))
                 intro au aq
                 refine⟨_,_,aq.su rfl,akw.pick [1,0,2,3,4,5,6,7] [_,_,_,_,_,_,_,_] (by decide) ⟨rfl,rfl,rfl,rfl,rfl,rfl,rfl,rfl,trivial⟩⟩
                ·refine(bW (l:=[_,_]) rfl rfl rfl pF rfl Gq ?_)
                 intro Yf alH YX;clear Gq
                 refine dB [_] [_,_,_,_,_,_,_] rfl YX ?_;clear YX
                 refine cm 14 rfl (fun alG YW=>((bW (l:=[_,_]) rfl rfl rfl pF rfl YW ?_)))
                 intro ajR alF YV;clear YW
                 refine dB [_,_] [_,_,_,_,_,_,_,_] rfl YV ?_;clear YV
                 refine cm 16 rfl (fun alE YU=>((bH 0 [_,_] [_,_] [_,_,_,_,_,_,_,_] rfl YU rfl rfl iM rfl rfl ?_)))
                 intro alD YT;clear YU
                 refine dB [_,_] [_,_,_,_,_,_,_,_] rfl YT ?_;clear YT
                 refine cm 17 rfl (fun alC YS=>((bH 1 [_,_] [_,_] [_,_,_,_,_,_,_,_] rfl YS rfl rfl iM rfl rfl ?_)))
                 intro alB YR;clear YS
                 refine dB [_,_] [_,_,_,_,_,_,_,_] rfl YR ?_;clear YR
                 refine cD (fun alA akv=>(br ?_))
                 intro au aq
                 refine⟨_,_,aq.su rfl,akv.pick [0,1,2,3,4,5,6,7] [_,_,_,_,_,_,_,_] (by decide) ⟨rfl,rfl,rfl,rfl,rfl,rfl,rfl,rfl,trivial⟩⟩
               ·rintro a4 alQ ⟨Qy,Qz,iT,Y5⟩
                clear Py
                refine Au iT ?_
                clear iT a4
                refine di (dH Y5 6 ?_)
                clear Y5
                refine ay 0 rfl (fun ah Sz=>aU [_,_] rfl aM aN (Sz.suf.bs 4 rfl rfl)) (ay 1 rfl (fun ah Sz=>aU [_,_] rfl dR iM (Sz.suf.bs 3 rfl rfl)) (ay 2 rfl (fun ah Sz=>aU [_,_] rfl aM aN (Sz.suf.bs 7 rfl rfl)) (ay 3 rfl (fun ah Sz=>aU [_,_] rfl dR iM (Sz.suf.bs 0 rfl rfl)) (dQ 4 rfl (fun ah Sz=>dZ rfl rfl rfl rfl rfl ux Sz (uB d ((aF d (ga (ga (ai d) m.at_.toNat) k2).a true).1) (((aF d (ga (ga (ai d) m.at_.toNat) k2).a true).2+2)%4) ((aC.mono (Hp.aD ah Sz.mx)).mono Sz.bn) (by omega) (by omega) Sz.aT)) ?_))))
                refine cm 5 rfl (fun alz YQ=>?_)
                have YP:=YQ.pick [5,0,1,2,3,4,6,7] [_,_,_,_,_,_,_,_] (by decide) ⟨rfl,rfl,rfl,rfl,rfl,rfl,rfl,rfl,trivial⟩;clear YQ
                have J7:SH _ _ _ (Rs.cV [_]::[_,_,_,_,_,_,_]):=SH.qy (A:=[_]) (B:=[_,_,_,_,_,_,_]) YP;clear YP
                have aku:SH _ _ _ [_,_,_,_,_,_,_,_]:=J7.less (i:=0) rfl
                have pq:=I9 xs d.loops ((aF d (ga (ga (ai d) m.at_.toNat) k2).a false).1) ((aF d (ga (ga (ai d) m.at_.toNat) k2).a false).2) (aL d ((aF d (ga (ga (ai d) m.at_.toNat) k2).a true).1) (((aF d (ga (ga (ai d) m.at_.toNat) k2).a true).2+2)%4)) (by rw[hxl];exact KC) (by exact hf2) (J7.mH (i:=0) rfl);clear aku
                refine(r9 (i:=0) rfl rfl rfl rfl rfl rfl rfl JY J7 rfl pq ?_)
                intro akQ aly anQ ak0 akM Gp uW;clear J7
                obtain⟨MD,qx,Ck⟩:=uW
                rw[qx]at Gp
                clear qx
                subst MD
                subst Ck
                replace Gp:SH _ _ _ (Rs.cV [_]::[_,_,_,_,_,_,_]):=Gp
                have YO:SH _ _ _ [_,_,_,_,_,_,_,_]:=SH.rX (A:=[_]) (B:=[_,_,_,_,_,_,_]) Gp;clear Gp
                refine ij YO ?_;clear YO
                change WA _ _ _ _ _ _ _ _ _ _ _ _ [_,_,_,_,_,_,_,_]
                refine cD (fun alx J6=>(cP [2,4,7,11,12,13,14,16,17] rfl (ag rfl (aU [_,_] rfl aM aN (J6.bs 5 rfl rfl)) (ag rfl (aU [_,_] rfl dR iM (J6.bs 2 rfl rfl)) (af 1 rfl ?_)))))
                have YN:=J6.pick [0,1,2,3,4,5,6,7] [_,_,_,_,_,_,_,_] (by decide) ⟨rfl,rfl,rfl,rfl,rfl,rfl,rfl,rfl,trivial⟩;clear J6
                have J5:SH _ _ _ (Rs.cV [_]::[_,_,_,_,_,_,_]):=SH.qy (A:=[_]) (B:=[_,_,_,_,_,_,_]) YN;clear YN
                have akt:SH _ _ _ [_,_,_,_,_,_,_,_]:=J5.less (i:=0) rfl
                have tM:=I9 (eB xs ((aF d (ga (ga (ai d) m.at_.toNat) k2).a false).1) ((aF d (ga (ga (ai d) m.at_.toNat) k2).a false).2) (aL d ((aF d (ga (ga (ai d) m.at_.toNat) k2).a true).1) (((aF d (ga (ga (ai d) m.at_.toNat) k2).a true).2+2)%4))) d.loops ((aF d (ga (ga (ai d) m.at_.toNat) k2).a false).1) (((aF d (ga (ga (ai d) m.at_.toNat) k2).a false).2+2)%4) ((ga (ga (ai d) m.at_.toNat) k2).a) (by rw[pR,hxl];exact KC) (by omega) (J5.mH (i:=0) rfl);clear akt
                refine aj rfl (r9 (i:=0) rfl rfl rfl rfl rfl rfl rfl JY J5 rfl tM ?_)
                intro akP alv anP akZ akL Gn He;clear J5
                obtain⟨afc,JU,Hd⟩:=He
                rw[JU]at Gn
                clear JU
                subst afc
                subst Hd
                replace Gn:SH _ _ _ (Rs.cV [_]::[_,_,_,_,_,_,_]):=Gn
                have J4:SH _ _ _ [_,_,_,_,_,_,_,_]:=SH.rX (A:=[_]) (B:=[_,_,_,_,_,_,_]) Gn;clear Gn
                refine bL [2,4,7,11,12,13,14,16,17] rfl (ag rfl (aU [_,_] rfl aM aN (J4.bs 5 rfl rfl)) (ag rfl (aU [_,_] rfl dR iM (J4.bs 1 rfl rfl)) (af 1 rfl ?_)))
                have YM:=J4.pick [0,1,2,3,4,5,6,7] [_,_,_,_,_,_,_,_] (by decide) ⟨rfl,rfl,rfl,rfl,rfl,rfl,rfl,rfl,trivial⟩;clear J4
                have J3:SH _ _ _ (Rs.cV [_]::[_,_,_,_,_,_,_]):=SH.qy (A:=[_]) (B:=[_,_,_,_,_,_,_]) YM;clear YM
                have aks:SH _ _ _ [_,_,_,_,_,_,_,_]:=J3.less (i:=0) rfl
                have E4:=I9 (eB (eB xs ((aF d (ga (ga (ai d) m.at_.toNat) k2).a false).1) ((aF d (ga (ga (ai d) m.at_.toNat) k2).a false).2) (aL d ((aF d (ga (ga (ai d) m.at_.toNat) k2).a true).1) (((aF d (ga (ga (ai d) m.at_.toNat) k2).a true).2+2)%4))) ((aF d (ga (ga (ai d) m.at_.toNat) k2).a false).1) (((aF d (ga (ga (ai d) m.at_.toNat) k2).a false).2+2)%4) ((ga (ga (ai d) m.at_.toNat) k2).a)) d.loops ((aF d (ga (ga (ai d) m.at_.toNat) k2).a true).1) (((aF d (ga (ga (ai d) m.at_.toNat) k2).a true).2+2)%4) ((ga (ga (ai d) m.at_.toNat) k2).a) (by rw[pR,pR,hxl];exact ht1) (by omega) (J3.mH (i:=0) rfl);clear aks
                refine aj rfl (r9 (i:=0) rfl rfl rfl rfl rfl rfl rfl JY J3 rfl E4 ?_)
                intro akO alu anO akY akK Gm hR5;clear J3
                obtain⟨afb,JT,hR6⟩:=hR5
                rw[JT]at Gm
                clear JT
                subst afb
                subst hR6
                replace Gm:SH _ _ _ (Rs.cV [_]::[_,_,_,_,_,_,_]):=Gm
                have YL:SH _ _ _ [_,_,_,_,_,_,_,_]:=SH.rX (A:=[_]) (B:=[_,_,_,_,_,_,_]) Gm;clear Gm
                refine ax [2,4,7,11,12,14,17] rfl (dH YL 6 ?_)
                clear YL
                refine ay 0 rfl (fun ah Sz=>aU [_,_] rfl aM aN (Sz.suf.bs 5 rfl rfl)) (ay 1 rfl (fun ah Sz=>aU [_,_] rfl dR iM (Sz.suf.bs 3 rfl rfl)) (ay 2 rfl (fun ah Sz=>aU [_,_] rfl aM aN (Sz.suf.bs 7 rfl rfl)) (ay 3 rfl (fun ah Sz=>aU [_,_] rfl dR iM (Sz.suf.bs 2 rfl rfl)) (dQ 4 rfl (fun ah Sz=>dZ rfl rfl rfl rfl rfl ux Sz (uB d ((aF d (ga (ga (ai d) m.at_.toNat) k2).a false).1) (((aF d (ga (ga (ai d) m.at_.toNat) k2).a false).2+2)%4) ((aC.mono (Hp.aD ah Sz.mx)).mono Sz.bn) (by omega) (by omega) Sz.aT)) ?_))))
                refine cm 5 rfl (fun als YK=>?_)
                have YJ:=YK.pick [0,1,2,3,4,5,6,7] [_,_,_,_,_,_,_,_] (by decide) ⟨rfl,rfl,rfl,rfl,rfl,rfl,rfl,rfl,trivial⟩;clear YK
                have J2:SH _ _ _ (Rs.cV [_]::[_,_,_,_,_,_,_]):=SH.qy (A:=[_]) (B:=[_,_,_,_,_,_,_]) YJ;clear YJ
                have akr:SH _ _ _ [_,_,_,_,_,_,_,_]:=J2.less (i:=0) rfl
                have MN:=I9 (eB (eB (eB xs ((aF d (ga (ga (ai d) m.at_.toNat) k2).a false).1) ((aF d (ga (ga (ai d) m.at_.toNat) k2).a false).2) (aL d ((aF d (ga (ga (ai d) m.at_.toNat) k2).a true).1) (((aF d (ga (ga (ai d) m.at_.toNat) k2).a true).2+2)%4))) ((aF d (ga (ga (ai d) m.at_.toNat) k2).a false).1) (((aF d (ga (ga (ai d) m.at_.toNat) k2).a false).2+2)%4) ((ga (ga (ai d) m.at_.toNat) k2).a)) ((aF d (ga (ga (ai d) m.at_.toNat) k2).a true).1) (((aF d (ga (ga (ai d) m.at_.toNat) k2).a true).2+2)%4) ((ga (ga (ai d) m.at_.toNat) k2).a)) d.loops ((aF d (ga (ga (ai d) m.at_.toNat) k2).a true).1) ((aF d (ga (ga (ai d) m.at_.toNat) k2).a true).2) (aL d ((aF d (ga (ga (ai d) m.at_.toNat) k2).a false).1) (((aF d (ga (ga (ai d) m.at_.toNat) k2).a false).2+2)%4)) (by rw[pR,pR,pR,hxl];exact ht1) (by exact ht2) (J2.mH (i:=0) rfl);clear akr
                refine(r9 (i:=0) rfl rfl rfl rfl rfl rfl rfl JY J2 rfl MN ?_)
                intro akN alr anN akX akJ Gl hR7;clear J2
                obtain⟨afa,JS,hR8⟩:=hR7
                rw[JS]at Gl
                clear JS
                subst afa
                subst hR8
                replace Gl:SH _ _ _ (Rs.cV [_]::[_,_,_,_,_,_,_]):=Gl
                have YI:SH _ _ _ [_,_,_,_,_,_,_,_]:=SH.rX (A:=[_]) (B:=[_,_,_,_,_,_,_]) Gl;clear Gl
                refine ij YI ?_;clear YI
                change WA _ _ _ _ _ _ _ _ _ _ _ _ [_,_,_,_,_,_,_,_]
                refine cD (fun alq akq=>(bE (aW [2,4,7,11,12] rfl (aH (af 1 rfl (ag rfl (bj rfl) (af 1 rfl (aB (br ?_)))))))))
                intro au aq
                refine⟨_,?lZ,⟨k2+1,eB (eB (eB (eB xs ((aF d (ga (ga (ai d) m.at_.toNat) k2).a false).1) ((aF d (ga (ga (ai d) m.at_.toNat) k2).a false).2) (aL d ((aF d (ga (ga (ai d) m.at_.toNat) k2).a true).1) (((aF d (ga (ga (ai d) m.at_.toNat) k2).a true).2+2)%4))) ((aF d (ga (ga (ai d) m.at_.toNat) k2).a false).1) (((aF d (ga (ga (ai d) m.at_.toNat) k2).a false).2+2)%4) ((ga (ga (ai d) m.at_.toNat) k2).a)) ((aF d (ga (ga (ai d) m.at_.toNat) k2).a true).1) (((aF d (ga (ga (ai d) m.at_.toNat) k2).a true).2+2)%4) ((ga (ga (ai d) m.at_.toNat) k2).a)) ((aF d (ga (ga (ai d) m.at_.toNat) k2).a true).1) ((aF d (ga (ga (ai d) m.at_.toNat) k2).a true).2) (aL d ((aF d (ga (ga (ai d) m.at_.toNat) k2).a false).1) (((aF d (ga (ga (ai d) m.at_.toNat) k2).a false).2+2)%4)),rfl,aq.su rfl,akq.pick [5,0,6,7] [_,_,_,_] (by decide) ⟨rfl,rfl,rfl,rfl,trivial⟩,?jL,?jK⟩⟩
                case jL=>omega
                case jK=>(rw[hxs];rfl)
                case lZ=>omega
             ·refine bX rfl (bC [4,11] rfl ?_)
              obtain rfl:k2=3:=by omega
              have am2:xs.length=d.ae.length:=by rw[hxs];exact TT _ _ _
              refine aH (ag rfl (aU [_,_] rfl aM aN (uz.bs 0 rfl rfl)) (aj rfl (gJ (i:=2) (us:=[_,_]) (l':=[_,_]) (H':=[_,_,_,_]) rfl rfl uz rfl rfl rfl rfl aN rfl (iq (uz.one (i:=1) rfl) (iq rfl rfl)) rfl rfl ?_)))
              intro alp YH;clear uz
              refine af 1 rfl (ax [4,5] rfl ?_)
              obtain⟨anM,E2,Pw,⟨A2,c2,e1,hr3⟩⟩:=YH.gP (i:=1) (H':=[_,_,_,_]) rfl rfl (by show _*40<=_;first|omega|(simp only[ls];omega))
              clear YH;subst e1
              replace aC:=aC.mono (Hp.aD E2 Pw.mx)
              replace hr1:=hr1.mono E2
              replace hd1:=hd1.mono E2
              replace hr2:=hr2.mono E2
              refine dI hC [_,_] rfl rfl ⟨⟨_,rfl,dK (us:=[_,_]) aM rfl aN (Pw.bs 2 rfl rfl)⟩,rfl,trivial⟩ ?_
              refine⟨_,rfl,_,bh.trans E2,(Pw.pick [] [] (by decide) trivial),?_⟩
              have hsl:ky d (ga (ai d) m.at_.toNat)=true:=by rw[zm hab np (by omega),decide_eq_true_iff];omega
              rw[Vr (E:=⟨xs,d.loops⟩) (by unfold iR;rw[if_pos nH,if_pos hsl]) (by unfold oX;rw[hxs,ad4 hab hok 3 (by omega)])]
              exact⟨_,_,rfl,hr3⟩
end Go.Proofs.YtcohmplpgcddiaaGreatDoor
