/- Part 9 of the proof of the law MovesTake: the walks through its functions and the plain laws that they need. -/
import Derived.Test.YthppkofceancjaaGreatMtZ8
set_option linter.unusedSimpArgs false
set_option linter.unusedVariables false
noncomputable section
namespace Go.Proofs.YthppkofceancjaaGreat
open Go.ChangeShapes Go.WideShapes Go.ChangeAt Go.RowKit
def np(u v:Da)(x:List Da):Bool:=x.any (pn u)&&x.any (pn v)
def nG(m:Mv)(F:Nat->Int)(u:Nat):Cr:=if m.ov=true then l8 F (fw m.vb 0 2) u else l8 F u (fw m.vb 0 2)
def gQ(d:Dg)(m:Mv):Int:=if(1<=m.ua/\m.ua<=2*(d.ae.length:Int))/\(1<=m.va/\m.va<=2*(d.ae.length:Int))then(if m.ua≠m.va/\(U7 d).any (np (⟨m.ua,m.ub⟩:Da) (⟨m.va,m.vb⟩:Da))=true then(if(d.ae.length:Int)+2<=16 then 0 else 2)else 8)else 3
def vD(d:Dg)(m:Mv):Dg:=⟨bk (bk d.ae (Ud d m.ua false).1 (Ud d m.ua false).2 (2*(d.ae.length:Int)+2)) (Ud d m.va false).1 (Ud d m.va false).2 (2*(d.ae.length:Int)+4)++[nG m (fun k=>ga ([aR (⟨m.va,m.vb⟩:Da) (2*(d.ae.length:Int)+3) 1,aR (⟨m.ua,m.ub⟩:Da) (2*(d.ae.length:Int)+1) 1,aR (⟨m.va,m.vb⟩:Da) (2*(d.ae.length:Int)+3) 2,aR (⟨m.ua,m.ub⟩:Da) (2*(d.ae.length:Int)+1) 0]:List Int) k) (fw m.ub 3 1)]++[nG m (fun k=>ga ([aR (⟨m.va,m.vb⟩:Da) (2*(d.ae.length:Int)+3) 0,aR (⟨m.ua,m.ub⟩:Da) (2*(d.ae.length:Int)+1) 1,aR (⟨m.va,m.vb⟩:Da) (2*(d.ae.length:Int)+3) 1,aR (⟨m.ua,m.ub⟩:Da) (2*(d.ae.length:Int)+1) 2]:List Int) k) (fw m.ub 1 3)],d.loops⟩
noncomputable def Ss:=Tryz.f118.body.getD .skip
def Zzb:=cL Ss
def Sr:=cR Ss
def Zzd:=cL Sr
def Zze:=cR Sr
set_option maxRecDepth 10000 in
theorem ajQ{w:World}{M:Hp}{X:Fr}(s:List Da){sA:Option Addr}{sc:Nat}(m:Mv){gm:Nat}(hs:aG cu (M.un X.h) sA sc s)(pW:dG (M.un X.h) gm 28 [.int .i64 m.kd,.int .i64 m.at_,.int .i64 m.aJ,.int .i64 m.ua,.bool m.ub,.int .i64 m.va,.bool m.vb,.bool m.ov])(S:SH w M X []):Cq Tryz.prog 118 [.slice sA s.length sc,.pointer (some ⟨gm,0,none⟩)] w M X (fun u=>u=.bool (np (⟨m.ua,m.ub⟩:Da) (⟨m.va,m.vb⟩:Da) s)):=by
 unfold Cq
 have uJ:s.length*16<=140737488355328:=hs.room
 refine Up (b:=Ss) Tryz.func118 rfl Tryz.ntmps118 rfl (fun C hC=>(bq [(0,_),(1,_)] ⟨rfl,rfl,trivial⟩ (U2 Zzb Sr rfl rfl rfl (U0 rfl (ag 0 1 rfl rfl (U5 rfl (ah [0,1] rfl (U3 (U2 Zzd Zze rfl rfl rfl ?_)))))))))
 refine U0 rfl (ag 0 1 rfl rfl (af 1 rfl (U1 rfl rfl aT rfl (gD) (gA)) (af 2 rfl (U8 (us:=[_,_]) rfl rfl aZ rfl cC (pW.cells S.um ⟨rfl,rfl,trivial⟩)) (ak 3 4 rfl rfl rfl (cS rfl rfl rfl rfl rfl rfl rfl adF S (aah s (⟨m.ua,m.ub⟩:Da) (hs.mono S.Uy) S.aD) ?_)))))
 rintro _ w1 S1 rfl;clear S
 refine ag 4 1 rfl rfl ?_
 refine mR (t:=8) rfl (fun Bc=>?_) (fun Bc=>?_)
 ·refine ag 5 1 rfl rfl (aH 6 7 rfl rfl rfl rfl rfl rfl rfl rfl (Ub rfl rfl (U1 rfl rfl aT rfl (gD) (gA)) (aH 7 8 rfl rfl rfl rfl rfl rfl rfl rfl (Ub rfl rfl (U8 (us:=[_,_]) rfl rfl aZ rfl cC (pW.cells S1.um ⟨rfl,rfl,trivial⟩)) (aH 8 9 rfl rfl rfl rfl rfl rfl rfl rfl (cS rfl rfl rfl rfl rfl rfl rfl adF S1 (aah s (⟨m.va,m.vb⟩:Da) (hs.mono S1.Uy) S1.aD) ?_))))))
  rintro _ w2 S2 rfl;clear S1
  refine ag 9 2 rfl rfl (U5 rfl (ah [3] rfl (U3 (Uk hC [_] rfl rfl ⟨rfl,trivial⟩ ?_))))
  exact⟨_,rfl,(S2.pick [] [] (by decide) trivial),(by show Value.bool _=_;unfold np;rw[Bc];rfl)⟩
 ·refine ag 5 6 rfl rfl (U5 rfl (ah [3] rfl (U3 (Uk hC [_] rfl rfl ⟨rfl,trivial⟩ ?_))))
  exact⟨_,rfl,(S1.pick [] [] (by decide) trivial),(by show Value.bool _=_;unfold np;rw[Bc];rfl)⟩
noncomputable def Sq:=Tryz.f121.body.getD .skip
def Zzg:=cL Sq
def Sn:=cR Sq
def Zzi:=cL Sn
def Sm:=cR Sn
def Zzk:=cL Sm
def Sk:=cR Sm
def Zzm:=cL Sk
def Zzn:=cR Sk
set_option maxHeartbeats 1000000 in
set_option maxRecDepth 10000 in
theorem abT{w:World}{M:Hp}{X:Fr}(F:Nat->Int)(u:Nat)(m:Mv){gm:Nat}{bC ggs gx:Nat}{bD fV lV iV oV:Value}(xs:List Cr)(pW:dG (M.un X.h) gm 28 [.int .i64 m.kd,.int .i64 m.at_,.int .i64 m.aJ,.int .i64 m.ua,.bool m.ub,.int .i64 m.va,.bool m.vb,.bool m.ov])(jH:dG (M.un X.h) gx 55 [.pointer (some ⟨bC,0,none⟩)])(hu:u<4)(hl:xs.length<=20)(S:SH w M X [Rs.aX [Rs.box bC 67 [.pointer (some ⟨ggs,0,none⟩),fV],Rs.box ggs 70 [bD,lV,iV,oV],Rs.row aF bD xs]]):C1 Tryz.prog 121 [.agg [.int .i64 (F 0),.int .i64 (F 1),.int .i64 (F 2),.int .i64 (F 3)].toArray,.int .i64 (u:Int),.pointer (some ⟨gm,0,none⟩),.pointer (some ⟨gx,0,none⟩)] w M X (fun _ M' r'=>M'=M/\∃v',r'=Rs.aX [Rs.box bC 67 [.pointer (some ⟨ggs,0,none⟩),fV],Rs.box ggs 70 [v',lV,iV,oV],Rs.row aF v' (xs++[nG m F u])]):=by
 unfold C1
 replace S:=S.kM
 refine Up (b:=Sq) Tryz.func121 rfl Tryz.ntmps121 rfl (fun C hC=>(bq [(0,_),(1,_),(2,_),(3,_)] ⟨rfl,rfl,rfl,rfl,trivial⟩ (U2 Zzg Sn rfl rfl rfl (U0 rfl (ak 0 1 rfl rfl rfl (bE (l:=[_,_,_,_]) rfl rfl rfl rfl rfl S ?_))))))
 intro aI w1 S1;clear S
 refine U5 rfl (ah [1,2,3,4] rfl (U3 (U2 Zzi Sm rfl rfl rfl (U0 rfl (af 0 rfl (U1 rfl rfl aT rfl (gD) (gA)) (af 1 rfl (U1 rfl rfl aZ rfl (gI) (gH)) (af 2 rfl (U4 rfl rfl dL rfl (pW.cell S1.um rfl)) (ak 3 4 rfl rfl rfl (cS rfl rfl rfl rfl rfl rfl rfl IE S1 (Gu m.vb 0 2 S1.aD) ?_)))))))))
 rintro _ w2 S2 rfl;clear S1
 refine ag 4 1 rfl rfl (U5 rfl (ah [1,2,3,4,6] rfl (U3 (U2 Zzk Sk rfl rfl rfl (U0 rfl (af 0 rfl (U1 rfl rfl aT rfl (gI) (gH)) (af 1 rfl (U4 rfl rfl dL rfl (pW.cell S2.um rfl)) (U5 rfl ?_))))))))
 refine ah [1,3,4,6,12] rfl (U3 ?_)
 refine dN Zzm Zzn rfl rfl rfl rfl (fun Jw=>?_) (fun Jw=>?_)
 ·have S3:=S2.pick [3,0,1,2] [_,_,_,_] (by decide) ⟨rfl,rfl,rfl,rfl,trivial⟩;clear S2
  refine jM [_] [_,_,_] rfl (by kernel_rfl) S3 22 rfl ?_
  clear S3
  change WA _ _ _ _ _ _ _ _ _ _ _ _ [_,_,_,_]
  refine aj 0 21 rfl (by kernel_rfl) (fun _ _ _ hz Sz=>.inl (U4 rfl rfl iZ rfl ((jH.mono (Hp.Ua hz Sz.mx)).cell Sz.um rfl))) ?_
  refine ai 1 20 rfl (by kernel_rfl) (fun _=>U9 rfl rfl) ?_
  refine ai 2 19 rfl (by kernel_rfl) (fun _=>U1 rfl rfl cV rfl (dK) (dJ)) ?_
  refine aj 3 18 rfl (by kernel_rfl) (fun _ _ _ hz Sz=>.inl (U4 rfl rfl dt rfl (Sz.suf.ar (i:=1) rfl rfl))) ?_
  refine aj 4 17 rfl (by kernel_rfl) (fun _ _ _ hz Sz=>.inl (U4 rfl rfl iZ rfl ((jH.mono (Hp.Ua hz Sz.mx)).cell Sz.um rfl))) ?_
  refine ai 5 16 rfl (by kernel_rfl) (fun _=>U9 rfl rfl) ?_
  refine ai 6 15 rfl (by kernel_rfl) (fun _=>U1 rfl rfl cV rfl (dK) (dJ)) ?_
  refine aj 7 14 rfl (by kernel_rfl) (fun _ _ _ hz Sz=>.inl (U4 rfl rfl dt rfl (Sz.suf.ar (i:=1) rfl rfl))) ?_
  refine ai 8 13 rfl (by kernel_rfl) (fun _=>U9 rfl rfl) ?_
  refine ai 9 12 rfl (by kernel_rfl) (fun _=>U1 rfl rfl dR rfl (fE) (fD)) ?_
  refine ai 10 11 rfl (by kernel_rfl) (fun _=>U1 rfl rfl ay rfl (bK) (bJ)) ?_
  refine aj 11 10 rfl (by kernel_rfl) (fun _ _ _ hz Sz=>.inl (U4 rfl rfl bt rfl (Sz.suf.ar (i:=2) rfl rfl))) ?_
  refine aj 12 9 rfl (by kernel_rfl) (fun _ _ _ hz Sz=>.inl (U8 (us:=[_,_,_,_]) rfl rfl uo rfl adf (Sz.suf.aw (i:=0) rfl ⟨rfl,rfl,rfl,rfl,trivial⟩))) ?_
  refine ai 13 8 rfl (by kernel_rfl) (fun _=>run_move rfl rfl) ?_
  refine ai 14 7 rfl (by kernel_rfl) (fun _=>run_move rfl rfl) ?_
  refine aj 15 6 rfl (by kernel_rfl) (fun _ _ _ hz Sz=>Ur rfl rfl rfl rfl rfl adC Sz (aaB F (fw m.vb 0 2) u (by first|assumption|omega|(unfold fw;split<;>omega)) Sz.aD)) ?_
  refine Un (i:=16) 5 rfl (by kernel_rfl) rfl rfl (fun q9 cM=>?_)
  refine(ij (C:=aF) (l:=[_,_,_,_,_]) rfl rfl rfl rfl cD rfl rfl rfl rfl cM ?_)
  intro aQ tv dz;clear cM
  refine aP.grow [_,_] (Hp.le_refl _) dz ?_;clear dz
  change WA _ _ _ _ _ _ _ _ _ _ _ _ [_,_,_,_,_]
  refine Un (i:=17) 4 rfl (by kernel_rfl) rfl rfl (fun q8 cI=>?_)
  refine(ji (C:=aF) (i:=1) (q:=0) (⟨(l8 F (fw m.vb 0 2) u).a,(l8 F (fw m.vb 0 2) u).b,(l8 F (fw m.vb 0 2) u).c,(l8 F (fw m.vb 0 2) u).d,(l8 F (fw m.vb 0 2) u).plus⟩:Cr) rfl rfl rfl rfl rfl rfl rfl rfl cD cI rfl rfl rfl (by show(_+1)*40<=_;first|omega|(simp only[ls];omega)) ?_)
  intro an4 AH cH;clear cI
  have fY:=cH.pick [1,2,3,4] [_,_,_,_] (by decide) ⟨rfl,rfl,rfl,rfl,trivial⟩;clear cH
  refine aP.grow [_] (Hp.le_refl _) fY ?_;clear fY
  change WA _ _ _ _ _ _ _ _ _ _ _ _ [_,_,_,_]
  refine ai 18 3 rfl (by kernel_rfl) (fun _=>U9 rfl rfl) ?_
  refine ai 19 2 rfl (by kernel_rfl) (fun _=>U1 rfl rfl dR rfl (fE) (fD)) ?_
  refine ai 20 1 rfl (by kernel_rfl) (fun _=>U1 rfl rfl ay rfl (bK) (bJ)) ?_
  refine Un (i:=21) 0 rfl (by kernel_rfl) rfl rfl (fun q7 fX=>?_)
  refine(U6 (i:=3) (us:=[_]) (l':=[_,_,_,_]) (H':=[_,_,_,_]) rfl rfl fX rfl rfl rfl (fX.ke (i:=0) rfl) mv rfl (dD (fX.one (i:=0) rfl) rfl) rfl rfl ?_)
  intro vt mj;clear fX
  refine aP.turn (by kernel_rfl) mj ?_;clear mj
  change WA _ _ _ _ _ _ _ _ _ _ _ _ [_,_,_,_]
  refine Uu (by kernel_rfl) (fun vq gL=>?_)
  refine iC hC [] rfl trivial ?_
  refine⟨_,rfl,_,_,Hp.le_refl _,(gL.pick [2,3,0] [_,_,_] (by decide) ⟨rfl,rfl,rfl,trivial⟩).aX,?_⟩
  have e8:nG m F u=l8 F (fw m.vb 0 2) u:=by unfold nG;rw[if_pos Jw]
  rw[e8]
  exact⟨rfl,_,rfl⟩
 ·have dX:=S2.pick [3,0,1,2] [_,_,_,_] (by decide) ⟨rfl,rfl,rfl,rfl,trivial⟩;clear S2
  refine jM [_] [_,_,_] rfl (by kernel_rfl) dX 22 rfl ?_
  clear dX
  change WA _ _ _ _ _ _ _ _ _ _ _ _ [_,_,_,_]
  refine aj 0 21 rfl (by kernel_rfl) (fun _ _ _ hz Sz=>.inl (U4 rfl rfl iZ rfl ((jH.mono (Hp.Ua hz Sz.mx)).cell Sz.um rfl))) ?_
  refine ai 1 20 rfl (by kernel_rfl) (fun _=>U9 rfl rfl) ?_
  refine ai 2 19 rfl (by kernel_rfl) (fun _=>U1 rfl rfl cV rfl (dK) (dJ)) ?_
  refine aj 3 18 rfl (by kernel_rfl) (fun _ _ _ hz Sz=>.inl (U4 rfl rfl dt rfl (Sz.suf.ar (i:=1) rfl rfl))) ?_
  refine aj 4 17 rfl (by kernel_rfl) (fun _ _ _ hz Sz=>.inl (U4 rfl rfl iZ rfl ((jH.mono (Hp.Ua hz Sz.mx)).cell Sz.um rfl))) ?_
  refine ai 5 16 rfl (by kernel_rfl) (fun _=>U9 rfl rfl) ?_
  refine ai 6 15 rfl (by kernel_rfl) (fun _=>U1 rfl rfl cV rfl (dK) (dJ)) ?_
  refine aj 7 14 rfl (by kernel_rfl) (fun _ _ _ hz Sz=>.inl (U4 rfl rfl dt rfl (Sz.suf.ar (i:=1) rfl rfl))) ?_
  refine ai 8 13 rfl (by kernel_rfl) (fun _=>U9 rfl rfl) ?_
  refine ai 9 12 rfl (by kernel_rfl) (fun _=>U1 rfl rfl dR rfl (fE) (fD)) ?_
  refine ai 10 11 rfl (by kernel_rfl) (fun _=>U1 rfl rfl ay rfl (bK) (bJ)) ?_
  refine aj 11 10 rfl (by kernel_rfl) (fun _ _ _ hz Sz=>.inl (U4 rfl rfl bt rfl (Sz.suf.ar (i:=2) rfl rfl))) ?_
  refine aj 12 9 rfl (by kernel_rfl) (fun _ _ _ hz Sz=>.inl (U8 (us:=[_,_,_,_]) rfl rfl uo rfl adf (Sz.suf.aw (i:=0) rfl ⟨rfl,rfl,rfl,rfl,trivial⟩))) ?_
  refine ai 13 8 rfl (by kernel_rfl) (fun _=>run_move rfl rfl) ?_
  refine ai 14 7 rfl (by kernel_rfl) (fun _=>run_move rfl rfl) ?_
  refine aj 15 6 rfl (by kernel_rfl) (fun _ _ _ hz Sz=>Ur rfl rfl rfl rfl rfl adC Sz (aaB F u (fw m.vb 0 2) (by first|assumption|omega|(unfold fw;split<;>omega)) Sz.aD)) ?_
  refine Un (i:=16) 5 rfl (by kernel_rfl) rfl rfl (fun Rg qi=>?_)
  refine(ij (C:=aF) (l:=[_,_,_,_,_]) rfl rfl rfl rfl cD rfl rfl rfl rfl qi ?_)
  intro bz E4 kG;clear qi
  refine aP.grow [_,_] (Hp.le_refl _) kG ?_;clear kG
  change WA _ _ _ _ _ _ _ _ _ _ _ _ [_,_,_,_,_]
  refine Un (i:=17) 4 rfl (by kernel_rfl) rfl rfl (fun Rf pI=>?_)
  refine(ji (C:=aF) (i:=1) (q:=0) (⟨(l8 F u (fw m.vb 0 2)).a,(l8 F u (fw m.vb 0 2)).b,(l8 F u (fw m.vb 0 2)).c,(l8 F u (fw m.vb 0 2)).d,(l8 F u (fw m.vb 0 2)).plus⟩:Cr) rfl rfl rfl rfl rfl rfl rfl rfl cD pI rfl rfl rfl (by show(_+1)*40<=_;first|omega|(simp only[ls];omega)) ?_)
  intro an3 w53 pH;clear pI
  have nD:=pH.pick [1,2,3,4] [_,_,_,_] (by decide) ⟨rfl,rfl,rfl,rfl,trivial⟩;clear pH
  refine aP.grow [_] (Hp.le_refl _) nD ?_;clear nD
  change WA _ _ _ _ _ _ _ _ _ _ _ _ [_,_,_,_]
  refine ai 18 3 rfl (by kernel_rfl) (fun _=>U9 rfl rfl) ?_
  refine ai 19 2 rfl (by kernel_rfl) (fun _=>U1 rfl rfl dR rfl (fE) (fD)) ?_
  refine ai 20 1 rfl (by kernel_rfl) (fun _=>U1 rfl rfl ay rfl (bK) (bJ)) ?_
  refine Un (i:=21) 0 rfl (by kernel_rfl) rfl rfl (fun E3 mf=>?_)
  refine(U6 (i:=3) (us:=[_]) (l':=[_,_,_,_]) (H':=[_,_,_,_]) rfl rfl mf rfl rfl rfl (mf.ke (i:=0) rfl) mv rfl (dD (mf.one (i:=0) rfl) rfl) rfl rfl ?_)
  intro Rb kF;clear mf
  refine aP.turn (by kernel_rfl) kF ?_;clear kF
  change WA _ _ _ _ _ _ _ _ _ _ _ _ [_,_,_,_]
  refine Uu (by kernel_rfl) (fun Ra S64=>?_)
  refine iC hC [] rfl trivial ?_
  refine⟨_,rfl,_,_,Hp.le_refl _,(S64.pick [2,3,0] [_,_,_] (by decide) ⟨rfl,rfl,rfl,trivial⟩).aX,?_⟩
  have e8:nG m F u=l8 F u (fw m.vb 0 2):=by unfold nG;rw[if_neg (by simp[Jw])]
  rw[e8]
  exact⟨rfl,_,rfl⟩
noncomputable def Sj:=Tryz.f69.body.getD .skip
def Zzp:=cL Sj
def Si:=cR Sj
def Zzr:=cL Si
def Sg:=cR Si
def Zzt:=cL Sg
def Sd:=cR Sg
def Zzv:=cL Sd
def Sc:=cR Sd
def Zzx:=cL Sc
def Sb:=cR Sc
def Zzz:=cL Sb
def QV:=cR Sb
def awh:=cL QV
def QU:=cR QV
def awg:=cL QU
def QT:=cR QU
def awf:=cL QT
def QS:=cR QT
def awe:=cL QS
def QR:=cR QS
def awd:=cL QR
def awc:=cR QR
set_option maxHeartbeats 2000000 in
set_option maxRecDepth 10000 in
theorem alI{w:World}{M:Hp}{X:Fr}(d:Dg){bC ggs:Nat}{bD:Value}{iA oA fA:Option Addr}{ic oc fc:Nat}{fv:List fO}(m:Mv)(hsi:aG br M iA ic (ax d false (4*d.ae.length)))(aK:aG br M oA oc (ax d true (4*d.ae.length)))(cZ:aG (di 141) M fA fc fv)(cY:fy cu M fv (U7 d))(hn:d.ae.length<=16)(hab:aN d=true)(hlo:0<=d.loops/\d.loops<=16)(S:SH w M X [Rs.aX [Rs.box bC 67 [.pointer (some ⟨ggs,0,none⟩),.slice fA fv.length fc],Rs.box ggs 70 [bD,.int .i64 d.loops,.slice iA (ax d false (4*d.ae.length)).length ic,.slice oA (ax d true (4*d.ae.length)).length oc],Rs.row aF bD d.ae]]):Cm 69 [.pointer (some ⟨bC,0,none⟩),.agg [.int .i64 m.kd,.int .i64 m.at_,.int .i64 m.aJ,.int .i64 m.ua,.bool m.ub,.int .i64 m.va,.bool m.vb,.bool m.ov].toArray] w M X (gQ d m) (wq bC ggs (.slice fA fv.length fc) (.slice iA (ax d false (4*d.ae.length)).length ic) (.slice oA (ax d true (4*d.ae.length)).length oc) (vD d m)):=by
 unfold Cm
 replace S:=S.kM
 obtain⟨cA,cc,dM,_⟩:=S.sl (i:=2) rfl
 refine Up (b:=Sj) Tryz.func69 rfl Tryz.ntmps69 rfl (fun C hC=>(bq [(0,_),(1,_)] ⟨rfl,rfl,trivial⟩ (U2 Zzp Si rfl rfl rfl (U0 rfl (ak 0 1 rfl rfl rfl (bE (l:=[_]) rfl rfl rfl rfl rfl S ?_))))))
 intro aI w1 S1;clear S
 refine ak 1 2 rfl rfl rfl (bE (l:=[_,_,_,_,_,_,_,_]) rfl rfl rfl rfl rfl S1 ?_)
 intro aQ w2 S2;clear S1
 refine U5 rfl (ah [2,3] rfl (U3 (U2 Zzr Sg rfl rfl rfl (bM rfl (by kernel_rfl) S2 19 rfl ?_))))
 clear S2
 refine aj 0 18 rfl (by kernel_rfl) (fun _ _ _ hz Sz=>.inl (U4 rfl rfl iZ rfl (Sz.suf.ar (i:=1) rfl rfl))) ?_
 refine ai 1 17 rfl (by kernel_rfl) (fun _=>U9 rfl rfl) ?_
 refine ai 2 16 rfl (by kernel_rfl) (fun _=>U1 rfl rfl cV rfl (dK) (dJ)) ?_
 refine aj 3 15 rfl (by kernel_rfl) (fun _ _ _ hz Sz=>.inl (U4 rfl rfl dt rfl (Sz.suf.ar (i:=2) rfl rfl))) ?_
 refine ai 4 14 rfl (by kernel_rfl) (fun _=>U1 rfl rfl aT rfl (gD) (gA)) ?_
 refine ai 5 13 rfl (by kernel_rfl) (fun _=>U1 rfl rfl aZ rfl (aC) (aB)) ?_
 refine aj 6 12 rfl (by kernel_rfl) (fun _ _ _ hz Sz=>.inl (U4 rfl rfl av rfl (Sz.suf.ar (i:=0) rfl rfl))) ?_
 refine aj 7 11 rfl (by kernel_rfl) (fun _ _ _ hz Sz=>Ur rfl rfl rfl rfl rfl Di Sz (Cn d m.ua (SH.fF (i:=3) Sz rfl (by rw[dM])) (SH.jD (i:=4) Sz rfl dM (by show _*40<=_;omega)) ((hsi.mono hz).mono (Hp.bY _ _)) ((aK.mono hz).mono (Hp.bY _ _)) (by omega) Sz.aD)) ?_
 refine ai 8 10 rfl (by kernel_rfl) (fun _=>run_move rfl rfl) ?_
 refine lj (t:=17) rfl (fun xq=>?_) (fun xq=>?_)
 ·refine aj 9 9 rfl (by kernel_rfl) (fun _ _ _ hz Sz=>.inl (U4 rfl rfl iZ rfl (Sz.suf.ar (i:=1) rfl rfl))) ?_
  refine ai 10 8 rfl (by kernel_rfl) (fun _=>U9 rfl rfl) ?_
  refine ai 11 7 rfl (by kernel_rfl) (fun _=>U1 rfl rfl cV rfl (dK) (dJ)) ?_
  refine aj 12 6 rfl (by kernel_rfl) (fun _ _ _ hz Sz=>.inl (U4 rfl rfl dt rfl (Sz.suf.ar (i:=2) rfl rfl))) ?_
  refine ai 13 5 rfl (by kernel_rfl) (fun _=>U1 rfl rfl aT rfl (gD) (gA)) ?_
  refine ai 14 4 rfl (by kernel_rfl) (fun _=>U1 rfl rfl aZ rfl (aC) (aB)) ?_
  refine aj 15 3 rfl (by kernel_rfl) (fun _ _ _ hz Sz=>.inl (U4 rfl rfl av rfl (Sz.suf.ar (i:=0) rfl rfl))) ?_
  refine aj 16 2 rfl (by kernel_rfl) (fun _ _ _ hz Sz=>Ur rfl rfl rfl rfl rfl Di Sz (Cn d m.va (SH.fF (i:=3) Sz rfl (by rw[dM])) (SH.jD (i:=4) Sz rfl dM (by show _*40<=_;omega)) ((hsi.mono hz).mono (Hp.bY _ _)) ((aK.mono hz).mono (Hp.bY _ _)) (by omega) Sz.aD)) ?_
  refine ai 17 1 rfl (by kernel_rfl) (fun _=>gK rfl rfl rfl) ?_
  refine lj (t:=26) rfl (fun aoA=>?_) (fun aoA=>?_)
  ·refine aj 18 0 rfl (by kernel_rfl) (fun _ _ _ hz Sz=>Ur rfl rfl rfl rfl rfl eD Sz (mQ 3 Sz.aD)) ?_
   refine Uu (by kernel_rfl) (fun q8 dE=>?_)
   refine ah [2,3] rfl (U3 (U2 Zzt Sd rfl rfl rfl (U0 rfl (af 0 rfl (U4 rfl rfl iZ rfl (dE.ar (i:=1) rfl rfl)) (af 1 rfl (U9 rfl rfl) (af 2 rfl (U1 rfl rfl cV rfl (DR) (Du)) (af 3 rfl (U4 rfl rfl mr rfl (dE.ar (i:=2) rfl rfl)) (af 4 rfl (vZ (vs:=[_]) rfl rfl rfl rfl) ?_))))))))
   refine ak 5 6 rfl rfl rfl (cS rfl rfl rfl rfl rfl rfl rfl adG dE (aac (U7 d) 118 _ (np (⟨m.ua,m.ub⟩:Da) (⟨m.va,m.vb⟩:Da)) (cZ.mono (Hp.bY _ _)) (cY.mono (Hp.bY _ _)) anw (fun w9 Y9 rB S9 A9 c9 x9 hm9 AW=>ajQ x9 m AW ((SH.fF (N:=[]) (i:=0) dE rfl rfl).mono rB) S9) dE.aD) ?_)
   rintro _ AH cI rfl;clear dE
   refine ag 6 1 rfl rfl (U5 rfl (ah [2,3,4] rfl (U3 (U2 Zzv Sc rfl rfl rfl (U0 rfl (af 0 rfl (U1 rfl rfl aT rfl (gD) (gA)) (af 1 rfl (U1 rfl rfl aZ rfl (aC) (aB)) (af 2 rfl (U4 rfl rfl av rfl (cI.ar (i:=0) rfl rfl)) ?_))))))))
   refine af 3 rfl (U1 rfl rfl aT rfl (gD) (gA)) (af 4 rfl (U1 rfl rfl aZ rfl (aC) (aB)) (af 5 rfl (U4 rfl rfl av rfl (cI.ar (i:=0) rfl rfl)) (af 6 rfl (jL rfl rfl rfl) (ag 7 1 rfl rfl ?_))))
   refine Uw (t:=41) rfl (fun DC=>?_) (fun DC=>?_)
   ·refine ag 8 2 rfl rfl ?_
    refine mR (t:=43) rfl (fun Dw=>?_) (fun Dw=>?_)
    ·refine ak 10 11 rfl rfl rfl (cS rfl rfl rfl rfl rfl rfl rfl eD cI (mQ 8 cI.aD) ?_)
     rintro _ vz cH rfl;clear cI
     refine U5 rfl (ah [2,3] rfl (U3 (U2 Zzx Sb rfl rfl rfl (U0 rfl (af 0 rfl (U4 rfl rfl iZ rfl (cH.ar (i:=1) rfl rfl)) (af 1 rfl (U9 rfl rfl) (af 2 rfl (U1 rfl rfl cV rfl (dK) (dJ)) (af 3 rfl (U4 rfl rfl dt rfl (cH.ar (i:=2) rfl rfl)) ?_))))))))
     refine af 4 rfl (U9 rfl rfl) (af 5 rfl (U1 rfl rfl dR rfl (fE) (fD)) (af 6 rfl (U1 rfl rfl ay rfl (bK) (bJ)) (af 7 rfl (U4 rfl rfl bt rfl (cH.ar (i:=3) rfl rfl)) (af 8 rfl (qa (C:=aF) (i:=4) rfl rfl rfl rfl rfl rfl cD cH rfl) (af 9 rfl (Ug rfl rfl rfl (by first|omega|(simp only[ls];omega))) ?_)))))
     refine af 10 rfl (od rfl rfl rfl) ?_
     refine Uw (t:=55) rfl (fun I0=>?_) (fun I0=>?_)
     ·refine ak 11 12 rfl rfl rfl (cS rfl rfl rfl rfl rfl rfl rfl eD cH (mQ 2 cH.aD) ?_)
      rintro _ vw fY rfl;clear cH
      refine U5 rfl (ah [2,3] rfl (U3 (U2 Zzz QV rfl rfl rfl (U0 rfl (af 0 rfl (U4 rfl rfl iZ rfl (fY.ar (i:=1) rfl rfl)) (af 1 rfl (U9 rfl rfl) (af 2 rfl (U1 rfl rfl cV rfl (dK) (dJ)) (af 3 rfl (U4 rfl rfl dt rfl (fY.ar (i:=2) rfl rfl)) ?_))))))))
      refine ak 4 5 rfl rfl rfl (cS rfl rfl rfl rfl rfl rfl rfl sG fY (r8 d (SH.fF (N:=[]) (i:=3) fY rfl (by rw[dM])) (SH.jD (N:=[]) (i:=4) fY rfl dM (by show _*40<=_;omega)) (hsi.mono (Hp.bY _ _)) (aK.mono (Hp.bY _ _)) (by omega) fY.aD) ?_)
      rintro _ AG eG rfl;clear fY
      refine ag 5 1 rfl rfl (U5 rfl (ah [2,3,5] rfl (U3 (U2 awh QU rfl rfl rfl ?_))))
      refine nE (fun au aM=>∃(R3:Nat) (RZ:Nat),Env 135 [(2,.pointer (some ⟨aI,0,none⟩)),(3,.pointer (some ⟨aQ,0,none⟩)),(5,.int .i64 (2*(d.ae.length:Int))),(6,.pointer (some ⟨R3,0,none⟩)),(7,.pointer (some ⟨RZ,0,none⟩))] au/\SH aM M X [Rs.box R3 150 [.int .i64 (aR (⟨m.ua,m.ub⟩:Da) (2*(d.ae.length:Int)+1) 0),.int .i64 (aR (⟨m.ua,m.ub⟩:Da) (2*(d.ae.length:Int)+1) 1),.int .i64 (aR (⟨m.ua,m.ub⟩:Da) (2*(d.ae.length:Int)+1) 2)],Rs.box RZ 150 [.int .i64 (aR (⟨m.va,m.vb⟩:Da) (2*(d.ae.length:Int)+3) 0),.int .i64 (aR (⟨m.va,m.vb⟩:Da) (2*(d.ae.length:Int)+3) 1),.int .i64 (aR (⟨m.va,m.vb⟩:Da) (2*(d.ae.length:Int)+3) 2)],Rs.box aQ 28 [.int .i64 m.kd,.int .i64 m.at_,.int .i64 m.aJ,.int .i64 m.ua,.bool m.ub,.int .i64 m.va,.bool m.vb,.bool m.ov],Rs.box aI 55 [.pointer (some ⟨bC,0,none⟩)],Rs.box bC 67 [.pointer (some ⟨ggs,0,none⟩),.slice fA fv.length fc],Rs.box ggs 70 [bD,.int .i64 d.loops,.slice iA (ax d false (4*d.ae.length)).length ic,.slice oA (ax d true (4*d.ae.length)).length oc],Rs.row aF bD d.ae]) ?_ ?_
      ·refine bM rfl (by kernel_rfl) eG 14 rfl ?_
       clear eG
       refine ai 0 13 rfl (by kernel_rfl) (fun _=>U1 rfl rfl aT rfl (gD) (gA)) ?_
       refine aj 1 12 rfl (by kernel_rfl) (fun _ _ _ hz Sz=>.inl (U8 (us:=[_,_]) rfl rfl aZ rfl cC (Sz.suf.aw (i:=0) rfl ⟨rfl,rfl,trivial⟩))) ?_
       refine ai 2 11 rfl (by kernel_rfl) (fun _=>run_move rfl rfl) ?_
       refine ai 3 10 rfl (by kernel_rfl) (fun _=>Ug rfl rfl rfl (by first|omega|(simp only[ls];omega))) ?_
       refine aj 4 9 rfl (by kernel_rfl) (fun _ _ _ hz Sz=>Ur rfl rfl rfl rfl rfl adE Sz (adx (⟨m.ua,m.ub⟩:Da) ((2*(d.ae.length:Int))+1) (by omega) Sz.aD)) ?_
       refine ai 5 8 rfl (by kernel_rfl) (fun _=>U1 rfl rfl aT rfl (gD) (gA)) ?_
       refine aj 6 7 rfl (by kernel_rfl) (fun _ _ _ hz Sz=>.inl (U8 (us:=[_,_]) rfl rfl aZ rfl cC (Sz.suf.aw (i:=0) rfl ⟨rfl,rfl,trivial⟩))) ?_
       refine ai 7 6 rfl (by kernel_rfl) (fun _=>run_move rfl rfl) ?_
       refine ai 8 5 rfl (by kernel_rfl) (fun _=>Ug rfl rfl rfl (by first|omega|(simp only[ls];omega))) ?_
       refine aj 9 4 rfl (by kernel_rfl) (fun _ _ _ hz Sz=>Ur rfl rfl rfl rfl rfl adE Sz (adx (⟨m.va,m.vb⟩:Da) ((2*(d.ae.length:Int))+3) (by omega) Sz.aD)) ?_
       refine wK (i:=10) (j:=11) 3 rfl rfl (by kernel_rfl) rfl rfl rfl rfl (fun xQ il=>?_) (fun xQ il=>?_)
       ·refine(Uh (l:=[_,_,_]) rfl rfl rfl r9 rfl il ?_)
        intro bz xP jA;clear il
        refine aP.grow [_] (Hp.le_refl _) jA ?_;clear jA
        change WA _ _ _ _ _ _ _ _ _ _ _ _ [_,_,_,_,_,_]
        refine Un (i:=11) 2 rfl (by kernel_rfl) rfl rfl (fun E5 ik=>?_)
        refine(Uh (l:=[_,_,_]) rfl rfl rfl r9 rfl ik ?_)
        intro gZ xO fW;clear ik
        refine aP.grow [_,_] (Hp.le_refl _) fW ?_;clear fW
        change WA _ _ _ _ _ _ _ _ _ _ _ _ [_,_,_,_,_,_,_]
        refine Un (i:=12) 1 rfl (by kernel_rfl) rfl rfl (fun Ri kI=>?_)
        refine(U6 (i:=1) (us:=[_,_,_]) (l':=[_,_,_]) (H':=[_,_,_,_,_,_,_]) rfl rfl kI rfl rfl rfl rfl oD rfl rfl rfl rfl ?_)
        intro Rh jl;clear kI
        refine aP.grow [_,_] (Hp.le_refl _) jl ?_;clear jl
        change WA _ _ _ _ _ _ _ _ _ _ _ _ [_,_,_,_,_,_,_]
        refine Un (i:=13) 0 rfl (by kernel_rfl) rfl rfl (fun E4 kH=>?_)
        refine(U6 (i:=0) (us:=[_,_,_]) (l':=[_,_,_]) (H':=[_,_,_,_,_,_,_]) rfl rfl kH rfl rfl rfl rfl oD rfl rfl rfl rfl ?_)
        intro w51 jO;clear kH
        refine aP.grow [_,_] (Hp.le_refl _) jO ?_;clear jO
        change WA _ _ _ _ _ _ _ _ _ _ _ _ [_,_,_,_,_,_,_]
        refine Uu (by kernel_rfl) (fun Rf qi=>?_)
        refine aO ?_
        intro au aq
        refine⟨_,_,aq.sub ⟨rfl,rfl,rfl,rfl,rfl,trivial⟩,qi.pick [1,0,2,3,4,5,6] [_,_,_,_,_,_,_] (by decide) ⟨rfl,rfl,rfl,rfl,rfl,rfl,rfl,trivial⟩⟩
       ·refine(Uh (l:=[_,_,_]) rfl rfl rfl r9 rfl il ?_)
        intro iy w53 kG;clear il
        refine aP.grow [_] (Hp.le_refl _) kG ?_;clear kG
        change WA _ _ _ _ _ _ _ _ _ _ _ _ [_,_,_,_,_,_]
        refine Un (i:=10) 2 rfl (by kernel_rfl) rfl rfl (fun w55 pI=>?_)
        refine(Uh (l:=[_,_,_]) rfl rfl rfl r9 rfl pI ?_)
        intro pZ w56 pH;clear pI
        refine aP.grow [_,_] (Hp.le_refl _) pH ?_;clear pH
        change WA _ _ _ _ _ _ _ _ _ _ _ _ [_,_,_,_,_,_,_]
        refine Un (i:=12) 1 rfl (by kernel_rfl) rfl rfl (fun E3 ou=>?_)
        refine(U6 (i:=0) (us:=[_,_,_]) (l':=[_,_,_]) (H':=[_,_,_,_,_,_,_]) rfl rfl ou rfl rfl rfl rfl oD rfl rfl rfl rfl ?_)
        intro Rb qh;clear ou
        refine aP.grow [_,_] (Hp.le_refl _) qh ?_;clear qh
        change WA _ _ _ _ _ _ _ _ _ _ _ _ [_,_,_,_,_,_,_]
        refine Un (i:=13) 0 rfl (by kernel_rfl) rfl rfl (fun Q9 ot=>?_)
        refine(U6 (i:=1) (us:=[_,_,_]) (l':=[_,_,_]) (H':=[_,_,_,_,_,_,_]) rfl rfl ot rfl rfl rfl rfl oD rfl rfl rfl rfl ?_)
        intro Q8 mf;clear ot
        refine aP.grow [_,_] (Hp.le_refl _) mf ?_;clear mf
        change WA _ _ _ _ _ _ _ _ _ _ _ _ [_,_,_,_,_,_,_]
        refine Uu (by kernel_rfl) (fun Q7 kF=>?_)
        refine aO ?_
        intro au aq
        refine⟨_,_,aq.sub ⟨rfl,rfl,rfl,rfl,rfl,trivial⟩,kF.pick [0,1,2,3,4,5,6] [_,_,_,_,_,_,_] (by decide) ⟨rfl,rfl,rfl,rfl,rfl,rfl,rfl,trivial⟩⟩
      ·rintro a1 ng ⟨R3,RZ,aY,dB⟩
       clear eG
       refine nM aY ?_
       clear aY a1
       refine U3 (U2 awg QT rfl rfl rfl ?_)
       have hti:=gJ d false (4*d.ae.length)
       obtain⟨hu1,hu2,RI,_⟩:=eF hab (a:=m.ua) (by omega) false
       obtain⟨hv1,hv2,RH,_⟩:=eF hab (a:=m.va) (by omega) false
       refine bM rfl (by kernel_rfl) dB 16 rfl ?_
       clear dB
       refine aj 0 15 rfl (by kernel_rfl) (fun _ _ _ hz Sz=>.inl (U4 rfl rfl iZ rfl (Sz.suf.ar (i:=3) rfl rfl))) ?_
       refine aj 1 14 rfl (by kernel_rfl) (fun _ _ _ hz Sz=>.inl (U4 rfl rfl iZ rfl (Sz.suf.ar (i:=3) rfl rfl))) ?_
       refine ai 2 13 rfl (by kernel_rfl) (fun _=>U9 rfl rfl) ?_
       refine ai 3 12 rfl (by kernel_rfl) (fun _=>U1 rfl rfl cV rfl (dK) (dJ)) ?_
       refine aj 4 11 rfl (by kernel_rfl) (fun _ _ _ hz Sz=>.inl (U4 rfl rfl dt rfl (Sz.suf.ar (i:=4) rfl rfl))) ?_
       refine ai 5 10 rfl (by kernel_rfl) (fun _=>U9 rfl rfl) ?_
       refine ai 6 9 rfl (by kernel_rfl) (fun _=>U1 rfl rfl dR rfl (oW) (oL)) ?_
       refine aj 7 8 rfl (by kernel_rfl) (fun _ _ _ hz Sz=>.inl (U4 rfl rfl mX rfl (Sz.suf.ar (i:=5) rfl rfl))) ?_
       refine ai 8 7 rfl (by kernel_rfl) (fun _=>U1 rfl rfl aT rfl (gD) (gA)) ?_
       refine ai 9 6 rfl (by kernel_rfl) (fun _=>U1 rfl rfl aZ rfl (aC) (aB)) ?_
       refine aj 10 5 rfl (by kernel_rfl) (fun _ _ _ hz Sz=>.inl (U4 rfl rfl av rfl (Sz.suf.ar (i:=2) rfl rfl))) ?_
       refine kg 82 (.int .i64 ((m.ua.toNat:Nat):Int)) rfl (int_eq (by omega)) ?_
       refine aj 11 4 rfl (by kernel_rfl) (fun _ _ _ hz Sz=>.inl (Ul (C:=br) m.ua.toNat rfl rfl rfl oK (by first|rfl|omega) (hsi.mono hz) (by first|omega|(simp only[ls];omega)))) ?_
       refine aj 12 3 rfl (by kernel_rfl) (fun _ _ _ hz Sz=>.inl (U8 (us:=[_,_]) rfl rfl cO rfl eA ((hsi.mono hz).fU Sz.m (e:=m.ua.toNat) (by first|omega|(simp only[ls];omega)) (j:=0) ⟨rfl,rfl,trivial⟩))) ?_
       refine ai 13 2 rfl (by kernel_rfl) (fun _=>run_move rfl rfl) ?_
       refine ai 14 1 rfl (by kernel_rfl) (fun _=>Ug rfl rfl rfl (by first|omega|(simp only[ls];omega))) ?_
       refine Un (i:=15) 0 rfl (by kernel_rfl) rfl rfl (fun w80 S80=>?_)
       have S81:=S80.pick [4,5,6,0,1,2,3] [_,_,_,_,_,_,_] (by decide) ⟨rfl,rfl,rfl,rfl,rfl,rfl,rfl,trivial⟩;clear S80
       have kE:SH _ _ _ (Rs.aX [_,_,_]::[_,_,_,_]):=SH.jd (A:=[_,_,_]) (B:=[_,_,_,_]) S81;clear S81
       have qd:SH _ _ _ [_,_,_,_,_]:=kE.less (i:=0) rfl
       have iE:=Dl d.ae ((ga (ax d false (4*d.ae.length)) m.ua.toNat).1) ((ga (ax d false (4*d.ae.length)) m.ua.toNat).2) ((2*(d.ae.length:Int))+2) (by rw[RI];exact hu1) (by rw[RI];exact hu2) (kE.iG (i:=0) rfl);clear qd
       refine(jP (i:=0) rfl rfl rfl rfl rfl rfl rfl Dh kE rfl iE ?_)
       intro ax4 w81 M56 ayj aw3 j0 jJ;clear kE
       obtain⟨lu,iK,l6⟩:=jJ
       rw[iK]at j0
       clear iK
       subst lu
       subst l6
       replace j0:SH _ _ _ (Rs.aX [_,_,_]::[_,_,_,_]):=j0
       have rL:SH _ _ _ [_,_,_,_,_,_,_]:=SH.jK (A:=[_,_,_]) (B:=[_,_,_,_]) j0;clear j0
       refine aP.turn (by kernel_rfl) rL ?_;clear rL
       change WA _ _ _ _ _ _ _ _ _ _ _ _ [_,_,_,_,_,_,_]
       refine Uu (by kernel_rfl) (fun w82 ll=>?_)
       refine ah [2,3,5,6,7] rfl (U3 (U2 awf QS rfl rfl rfl ?_))
       have sN:bk d.ae ((ga (ax d false (4*d.ae.length)) m.ua.toNat).1) ((ga (ax d false (4*d.ae.length)) m.ua.toNat).2) ((2*(d.ae.length:Int))+2)=bk d.ae (Ud d m.ua false).1 (Ud d m.ua false).2 (2*(d.ae.length:Int)+2):=by rw[RI]
       rw[sN]at ll;clear sN
       have vJ:(bk d.ae (Ud d m.ua false).1 (Ud d m.ua false).2 (2*(d.ae.length:Int)+2)).length=d.ae.length:=iU _ _ _ _
       refine bM rfl (by kernel_rfl) ll 16 rfl ?_
       clear ll
       refine aj 0 15 rfl (by kernel_rfl) (fun _ _ _ hz Sz=>.inl (U4 rfl rfl iZ rfl (Sz.suf.ar (i:=6) rfl rfl))) ?_
       refine aj 1 14 rfl (by kernel_rfl) (fun _ _ _ hz Sz=>.inl (U4 rfl rfl iZ rfl (Sz.suf.ar (i:=6) rfl rfl))) ?_
       refine ai 2 13 rfl (by kernel_rfl) (fun _=>U9 rfl rfl) ?_
       refine ai 3 12 rfl (by kernel_rfl) (fun _=>U1 rfl rfl cV rfl (dK) (dJ)) ?_
       refine aj 4 11 rfl (by kernel_rfl) (fun _ _ _ hz Sz=>.inl (U4 rfl rfl dt rfl (Sz.suf.ar (i:=0) rfl rfl))) ?_
       refine ai 5 10 rfl (by kernel_rfl) (fun _=>U9 rfl rfl) ?_
       refine ai 6 9 rfl (by kernel_rfl) (fun _=>U1 rfl rfl dR rfl (oW) (oL)) ?_
       refine aj 7 8 rfl (by kernel_rfl) (fun _ _ _ hz Sz=>.inl (U4 rfl rfl mX rfl (Sz.suf.ar (i:=1) rfl rfl))) ?_
       refine ai 8 7 rfl (by kernel_rfl) (fun _=>U1 rfl rfl aT rfl (gD) (gA)) ?_
       refine ai 9 6 rfl (by kernel_rfl) (fun _=>U1 rfl rfl aZ rfl (aC) (aB)) ?_
       refine aj 10 5 rfl (by kernel_rfl) (fun _ _ _ hz Sz=>.inl (U4 rfl rfl av rfl (Sz.suf.ar (i:=5) rfl rfl))) ?_
       refine kg 98 (.int .i64 ((m.va.toNat:Nat):Int)) rfl (int_eq (by omega)) ?_
       refine aj 11 4 rfl (by kernel_rfl) (fun _ _ _ hz Sz=>.inl (Ul (C:=br) m.va.toNat rfl rfl rfl oK (by first|rfl|omega) (hsi.mono hz) (by first|omega|(simp only[ls];omega)))) ?_
       refine aj 12 3 rfl (by kernel_rfl) (fun _ _ _ hz Sz=>.inl (U8 (us:=[_,_]) rfl rfl cO rfl eA ((hsi.mono hz).fU Sz.m (e:=m.va.toNat) (by first|omega|(simp only[ls];omega)) (j:=0) ⟨rfl,rfl,trivial⟩))) ?_
       refine ai 13 2 rfl (by kernel_rfl) (fun _=>run_move rfl rfl) ?_
       refine ai 14 1 rfl (by kernel_rfl) (fun _=>Ug rfl rfl rfl (by first|omega|(simp only[ls];omega))) ?_
       refine Un (i:=15) 0 rfl (by kernel_rfl) rfl rfl (fun w99 vk=>?_)
       have Az:=vk.pick [0,1,2,3,4,5,6] [_,_,_,_,_,_,_] (by decide) ⟨rfl,rfl,rfl,rfl,rfl,rfl,rfl,trivial⟩;clear vk
       have nV:SH _ _ _ (Rs.aX [_,_,_]::[_,_,_,_]):=SH.jd (A:=[_,_,_]) (B:=[_,_,_,_]) Az;clear Az
       have awt:SH _ _ _ [_,_,_,_,_]:=nV.less (i:=0) rfl
       have lv:=Dl (bk d.ae (Ud d m.ua false).1 (Ud d m.ua false).2 (2*(d.ae.length:Int)+2)) ((ga (ax d false (4*d.ae.length)) m.va.toNat).1) ((ga (ax d false (4*d.ae.length)) m.va.toNat).2) ((2*(d.ae.length:Int))+4) (by rw[RH,vJ];exact hv1) (by rw[RH];exact hv2) (nV.iG (i:=0) rfl);clear awt
       refine(jP (i:=0) rfl rfl rfl rfl rfl rfl rfl Dh nV rfl lv ?_)
       intro awP adV M73 awY aw2 Ay vO;clear nV
       obtain⟨uf,oU,vN⟩:=vO
       rw[oU]at Ay
       clear oU
       subst uf
       subst vN
       replace Ay:SH _ _ _ (Rs.aX [_,_,_]::[_,_,_,_]):=Ay
       have agZ:SH _ _ _ [_,_,_,_,_,_,_]:=SH.jK (A:=[_,_,_]) (B:=[_,_,_,_]) Ay;clear Ay
       refine aP.turn (by kernel_rfl) agZ ?_;clear agZ
       change WA _ _ _ _ _ _ _ _ _ _ _ _ [_,_,_,_,_,_,_]
       refine Uu (by kernel_rfl) (fun ax3 xN=>?_)
       refine ah [2,3,6,7] rfl (U3 (U2 awe QR rfl rfl rfl ?_))
       have zG:bk (bk d.ae (Ud d m.ua false).1 (Ud d m.ua false).2 (2*(d.ae.length:Int)+2)) ((ga (ax d false (4*d.ae.length)) m.va.toNat).1) ((ga (ax d false (4*d.ae.length)) m.va.toNat).2) ((2*(d.ae.length:Int))+4)=bk (bk d.ae (Ud d m.ua false).1 (Ud d m.ua false).2 (2*(d.ae.length:Int)+2)) (Ud d m.va false).1 (Ud d m.va false).2 (2*(d.ae.length:Int)+4):=by rw[RH]
       rw[zG]at xN;clear zG
       have hl2:(bk (bk d.ae (Ud d m.ua false).1 (Ud d m.ua false).2 (2*(d.ae.length:Int)+2)) (Ud d m.va false).1 (Ud d m.va false).2 (2*(d.ae.length:Int)+4)).length=d.ae.length:=(iU _ _ _ _).trans vJ
       refine U0 rfl (af 0 rfl (vZ (vs:=[_,_]) rfl rfl rfl rfl) (ag 1 1 rfl rfl (U5 rfl (ah [3,6,7,8] rfl (U3 (U2 awd awc rfl rfl rfl ?_))))))
       have Aw:=xN.pick [0,1,2,3,4,5,6] [_,_,_,_,_,_,_] (by decide) ⟨rfl,rfl,rfl,rfl,rfl,rfl,rfl,trivial⟩;clear xN
       refine jM [_,_,_] [_,_,_,_] rfl (by kernel_rfl) Aw 15 rfl ?_
       clear Aw
       change WA _ _ _ _ _ _ _ _ _ _ _ _ [_,_,_,_,_,_,_]
       refine ai 0 14 rfl (by kernel_rfl) (fun _=>run_move rfl rfl) ?_
       refine aj 1 13 rfl (by kernel_rfl) (fun _ _ _ hz Sz=>.inl (iD (e:=1) (k:=1) rfl rfl rfl jB bg (by first|rfl|omega) (by first|omega|(simp only[ls];omega)))) ?_
       refine aj 2 12 rfl (by kernel_rfl) (fun _ _ _ hz Sz=>.inl (U4 rfl rfl av rfl (Sz.suf.ar (i:=1) rfl rfl))) ?_
       refine aj 3 11 rfl (by kernel_rfl) (fun _ _ _ hz Sz=>.inl (iD (e:=1) (k:=1) rfl rfl rfl jB bg (by first|rfl|omega) (by first|omega|(simp only[ls];omega)))) ?_
       refine aj 4 10 rfl (by kernel_rfl) (fun _ _ _ hz Sz=>.inl (U4 rfl rfl av rfl (Sz.suf.ar (i:=0) rfl rfl))) ?_
       refine aj 5 9 rfl (by kernel_rfl) (fun _ _ _ hz Sz=>.inl (iD (e:=2) (k:=1) rfl rfl rfl jB bg (by first|rfl|omega) (by first|omega|(simp only[ls];omega)))) ?_
       refine aj 6 8 rfl (by kernel_rfl) (fun _ _ _ hz Sz=>.inl (U4 rfl rfl av rfl (Sz.suf.ar (i:=1) rfl rfl))) ?_
       refine aj 7 7 rfl (by kernel_rfl) (fun _ _ _ hz Sz=>.inl (iD (e:=0) (k:=1) rfl rfl rfl jB bg (by first|rfl|omega) (by first|omega|(simp only[ls];omega)))) ?_
       refine aj 8 6 rfl (by kernel_rfl) (fun _ _ _ hz Sz=>.inl (U4 rfl rfl av rfl (Sz.suf.ar (i:=0) rfl rfl))) ?_
       refine aj 9 5 rfl (by kernel_rfl) (fun _ _ _ hz Sz=>.inl (jN (l:=[_,_,_,_]) (pl:=[(0,1),(1,1),(2,1),(3,1)]) rfl rfl uo HR bg rfl rfl rfl)) ?_
       refine ai 10 4 rfl (by kernel_rfl) (fun _=>U1 rfl rfl aT rfl (gD) (gA)) ?_
       refine ai 11 3 rfl (by kernel_rfl) (fun _=>U1 rfl rfl aZ rfl (gI) (gH)) ?_
       refine aj 12 2 rfl (by kernel_rfl) (fun _ _ _ hz Sz=>.inl (U4 rfl rfl dL rfl (Sz.suf.ar (i:=2) rfl rfl))) ?_
       refine aj 13 1 rfl (by kernel_rfl) (fun _ _ _ hz Sz=>Ur rfl rfl rfl rfl rfl IE Sz (Gu m.ub 3 1 Sz.aD)) ?_
       refine Un (i:=14) 0 rfl (by kernel_rfl) rfl rfl (fun axZ qU=>?_)
       have Au:=qU.pick [0,1,2,3,4,5,6] [_,_,_,_,_,_,_] (by decide) ⟨rfl,rfl,rfl,rfl,rfl,rfl,rfl,trivial⟩;clear qU
       have td:SH _ _ _ (Rs.aX [_,_,_]::[_,_,_,_]):=SH.jd (A:=[_,_,_]) (B:=[_,_,_,_]) Au;clear Au
       have qT:SH _ _ _ [_,_,_,_,_]:=td.less (i:=0) rfl
       have Hz:=abT (fun k=>ga ([aR (⟨m.va,m.vb⟩:Da) (2*(d.ae.length:Int)+3) 1,aR (⟨m.ua,m.ub⟩:Da) (2*(d.ae.length:Int)+1) 1,aR (⟨m.va,m.vb⟩:Da) (2*(d.ae.length:Int)+3) 2,aR (⟨m.ua,m.ub⟩:Da) (2*(d.ae.length:Int)+1) 0]:List Int) k) (fw m.ub 3 1) m (bk (bk d.ae (Ud d m.ua false).1 (Ud d m.ua false).2 (2*(d.ae.length:Int)+2)) (Ud d m.va false).1 (Ud d m.va false).2 (2*(d.ae.length:Int)+4)) (SH.fF (N:=[]) (i:=3) qT rfl rfl) (SH.fF (N:=[]) (i:=4) qT rfl rfl) (by unfold fw;split<;>omega) (by first|omega|(simp only[List.length_append,List.length_singleton];omega)) (td.iG (i:=0) rfl);clear qT
       refine(acw (i:=0) rfl rfl rfl rfl rfl rfl rfl adD td rfl Hz ?_)
       intro awO axY M89 awX aw1 je Bk;clear td
       obtain⟨DL,Bk⟩:=Bk
       rw[DL]at je
       obtain⟨awy,rfl⟩:=Bk
       replace je:SH _ _ _ (Rs.aX [_,_,_]::[_,_,_,_]):=je
       have qR:SH _ _ _ [_,_,_,_,_,_,_]:=SH.jK (A:=[_,_,_]) (B:=[_,_,_,_]) je;clear je
       refine aP.grow [_,_,_] (Hp.le_refl _) qR ?_;clear qR
       change WA _ _ _ _ _ _ _ _ _ _ _ _ [_,_,_,_,_,_,_]
       refine Uu (by kernel_rfl) (fun axX s8=>?_)
       refine ah [3,6,7,8] rfl (U3 ?_)
       have s7:=s8.pick [0,1,2,3,4,5,6] [_,_,_,_,_,_,_] (by decide) ⟨rfl,rfl,rfl,rfl,rfl,rfl,rfl,trivial⟩;clear s8
       refine jM [_,_,_] [_,_,_,_] rfl (by kernel_rfl) s7 15 rfl ?_
       clear s7
       change WA _ _ _ _ _ _ _ _ _ _ _ _ [_,_,_,_,_,_,_]
       refine ai 0 14 rfl (by kernel_rfl) (fun _=>run_move rfl rfl) ?_
       refine aj 1 13 rfl (by kernel_rfl) (fun _ _ _ hz Sz=>.inl (iD (e:=0) (k:=1) rfl rfl rfl jB bg (by first|rfl|omega) (by first|omega|(simp only[ls];omega)))) ?_
       refine aj 2 12 rfl (by kernel_rfl) (fun _ _ _ hz Sz=>.inl (U4 rfl rfl av rfl (Sz.suf.ar (i:=1) rfl rfl))) ?_
       refine aj 3 11 rfl (by kernel_rfl) (fun _ _ _ hz Sz=>.inl (iD (e:=1) (k:=1) rfl rfl rfl jB bg (by first|rfl|omega) (by first|omega|(simp only[ls];omega)))) ?_
       refine aj 4 10 rfl (by kernel_rfl) (fun _ _ _ hz Sz=>.inl (U4 rfl rfl av rfl (Sz.suf.ar (i:=0) rfl rfl))) ?_
       refine aj 5 9 rfl (by kernel_rfl) (fun _ _ _ hz Sz=>.inl (iD (e:=1) (k:=1) rfl rfl rfl jB bg (by first|rfl|omega) (by first|omega|(simp only[ls];omega)))) ?_
       refine aj 6 8 rfl (by kernel_rfl) (fun _ _ _ hz Sz=>.inl (U4 rfl rfl av rfl (Sz.suf.ar (i:=1) rfl rfl))) ?_
       refine aj 7 7 rfl (by kernel_rfl) (fun _ _ _ hz Sz=>.inl (iD (e:=2) (k:=1) rfl rfl rfl jB bg (by first|rfl|omega) (by first|omega|(simp only[ls];omega)))) ?_
       refine aj 8 6 rfl (by kernel_rfl) (fun _ _ _ hz Sz=>.inl (U4 rfl rfl av rfl (Sz.suf.ar (i:=0) rfl rfl))) ?_
       refine aj 9 5 rfl (by kernel_rfl) (fun _ _ _ hz Sz=>.inl (jN (l:=[_,_,_,_]) (pl:=[(0,1),(1,1),(2,1),(3,1)]) rfl rfl uo HR bg rfl rfl rfl)) ?_
       refine ai 10 4 rfl (by kernel_rfl) (fun _=>U1 rfl rfl aT rfl (gD) (gA)) ?_
       refine ai 11 3 rfl (by kernel_rfl) (fun _=>U1 rfl rfl aZ rfl (gI) (gH)) ?_
       refine aj 12 2 rfl (by kernel_rfl) (fun _ _ _ hz Sz=>.inl (U4 rfl rfl dL rfl (Sz.suf.ar (i:=2) rfl rfl))) ?_
       refine aj 13 1 rfl (by kernel_rfl) (fun _ _ _ hz Sz=>Ur rfl rfl rfl rfl rfl IE Sz (Gu m.ub 1 3 Sz.aD)) ?_
       refine Un (i:=14) 0 rfl (by kernel_rfl) rfl rfl (fun anQ sZ=>?_)
       have sY:=sZ.pick [0,1,2,3,4,5,6] [_,_,_,_,_,_,_] (by decide) ⟨rfl,rfl,rfl,rfl,rfl,rfl,rfl,trivial⟩;clear sZ
       have oY:SH _ _ _ (Rs.aX [_,_,_]::[_,_,_,_]):=SH.jd (A:=[_,_,_]) (B:=[_,_,_,_]) sY;clear sY
       have sX:SH _ _ _ [_,_,_,_,_]:=oY.less (i:=0) rfl
       have Hy:=abT (fun k=>ga ([aR (⟨m.va,m.vb⟩:Da) (2*(d.ae.length:Int)+3) 0,aR (⟨m.ua,m.ub⟩:Da) (2*(d.ae.length:Int)+1) 1,aR (⟨m.va,m.vb⟩:Da) (2*(d.ae.length:Int)+3) 1,aR (⟨m.ua,m.ub⟩:Da) (2*(d.ae.length:Int)+1) 2]:List Int) k) (fw m.ub 1 3) m ((bk (bk d.ae (Ud d m.ua false).1 (Ud d m.ua false).2 (2*(d.ae.length:Int)+2)) (Ud d m.va false).1 (Ud d m.va false).2 (2*(d.ae.length:Int)+4))++[nG m (fun k=>ga ([aR (⟨m.va,m.vb⟩:Da) (2*(d.ae.length:Int)+3) 1,aR (⟨m.ua,m.ub⟩:Da) (2*(d.ae.length:Int)+1) 1,aR (⟨m.va,m.vb⟩:Da) (2*(d.ae.length:Int)+3) 2,aR (⟨m.ua,m.ub⟩:Da) (2*(d.ae.length:Int)+1) 0]:List Int) k) (fw m.ub 3 1)]) (SH.fF (N:=[]) (i:=3) sX rfl rfl) (SH.fF (N:=[]) (i:=4) sX rfl rfl) (by unfold fw;split<;>omega) (by first|omega|(simp only[List.length_append,List.length_singleton];omega)) (oY.iG (i:=0) rfl);clear sX
       refine(acw (i:=0) rfl rfl rfl rfl rfl rfl rfl adD oY rfl Hy ?_)
       intro awM IK ayT awW awF oX Bj;clear oY
       obtain⟨DK,Bj⟩:=Bj
       rw[DK]at oX
       obtain⟨awx,rfl⟩:=Bj
       replace oX:SH _ _ _ (Rs.aX [_,_,_]::[_,_,_,_]):=oX
       have sW:SH _ _ _ [_,_,_,_,_,_,_]:=SH.jK (A:=[_,_,_]) (B:=[_,_,_,_]) oX;clear oX
       refine aP.grow [_,_,_] (Hp.le_refl _) sW ?_;clear sW
       change WA _ _ _ _ _ _ _ _ _ _ _ _ [_,_,_,_,_,_,_]
       refine Uu (by kernel_rfl) (fun adR mH=>?_)
       refine iC hC [] rfl trivial ?_
       obtain⟨ayS,zh,EP,⟨A1,c1,e1,hr1⟩⟩:=mH.fZ (i:=2) (H':=[_,_,_,_,_,_,_]) rfl rfl (by show _*40<=_;first|omega|(simp only[ls];omega))
       clear mH;subst e1
       replace hsi:=hsi.mono zh
       replace aK:=aK.mono zh
       replace cZ:=cZ.mono zh
       replace cY:=cY.mono zh
       have gN:(1<=m.ua/\m.ua<=2*(d.ae.length:Int))/\(1<=m.va/\m.va<=2*(d.ae.length:Int)):=by omega
       have bn:gQ d m=0:=by unfold gQ;rw[if_pos gN,if_pos ⟨DC,Dw⟩,if_pos I0]
       refine .inl ⟨bn,_,rfl,_,_,zh,(EP.pick [0,1] [_,_] (by decide) ⟨rfl,rfl,trivial⟩).aX,?_⟩
       exact⟨rfl,_,_,rfl,hr1⟩
     ·have gN:(1<=m.ua/\m.ua<=2*(d.ae.length:Int))/\(1<=m.va/\m.va<=2*(d.ae.length:Int)):=by omega
      have bn:gQ d m=2:=by unfold gQ;rw[if_pos gN,if_pos ⟨DC,Dw⟩,if_neg I0]
      refine l9 (k:=11) rfl rfl rfl rfl rfl rfl rfl eD cH (iN 2 cH.aD) ?_
      intro w9 M9 ct S9
      subst hC
      exact .inr ⟨by rw[bn];first|decide|assumption,by rw[bn],M9,(Hp.le_refl _).trans ct,S9.pick [] [] (by decide) trivial⟩
    ·have gN:(1<=m.ua/\m.ua<=2*(d.ae.length:Int))/\(1<=m.va/\m.va<=2*(d.ae.length:Int)):=by omega
     have bn:gQ d m=8:=by unfold gQ;rw[if_pos gN,if_neg (fun h=>by rw[Dw]at h;exact absurd h.2 (by decide))]
     refine l9 (k:=10) rfl rfl rfl rfl rfl rfl rfl eD cI (iN 8 cI.aD) ?_
     intro w9 M9 ct S9
     subst hC
     exact .inr ⟨by rw[bn];first|decide|assumption,by rw[bn],M9,(Hp.le_refl _).trans ct,S9.pick [] [] (by decide) trivial⟩
   ·refine ag 8 2 rfl rfl ?_
    have gN:(1<=m.ua/\m.ua<=2*(d.ae.length:Int))/\(1<=m.va/\m.va<=2*(d.ae.length:Int)):=by omega
    have bn:gQ d m=8:=by unfold gQ;rw[if_pos gN,if_neg (fun h=>DC h.1)]
    refine l9 (k:=10) rfl rfl rfl rfl rfl rfl rfl eD cI (iN 8 cI.aD) ?_
    intro w9 M9 ct S9
    subst hC
    exact .inr ⟨by rw[bn];first|decide|assumption,by rw[bn],M9,(Hp.le_refl _).trans ct,S9.pick [] [] (by decide) trivial⟩
  ·have bn:gQ d m=3:=by unfold gQ;rw[if_neg (by omega)]
   refine qb (i:=18) 0 rfl (by kernel_rfl) rfl rfl rfl rfl rfl rfl rfl eD (fun w9 S9=>iN 3 S9.aD) ?_
   intro w9 M9 ct S9
   subst hC
   exact .inr ⟨by rw[bn];first|decide|assumption,by rw[bn],M9,(Hp.le_refl _).trans ct,S9.pick [] [] (by decide) trivial⟩
 ·refine Us (i:=9) (d:=18) 9 rfl (by kernel_rfl) (by kernel_rfl) (by kernel_rfl) ⟨_,_,_,rfl,rfl,rfl,rfl⟩ rfl rfl ?_
  refine Us (i:=10) (d:=19) 8 rfl (by kernel_rfl) (by kernel_rfl) (by kernel_rfl) ⟨_,_,_,rfl,rfl,rfl,rfl⟩ rfl rfl ?_
  refine Us (i:=11) (d:=20) 7 rfl (by kernel_rfl) (by kernel_rfl) (by kernel_rfl) ⟨_,_,_,rfl,rfl,rfl,rfl⟩ rfl rfl ?_
  refine Us (i:=12) (d:=21) 6 rfl (by kernel_rfl) (by kernel_rfl) (by kernel_rfl) ⟨_,_,_,rfl,rfl,rfl,rfl⟩ rfl rfl ?_
  refine Us (i:=13) (d:=22) 5 rfl (by kernel_rfl) (by kernel_rfl) (by kernel_rfl) ⟨_,_,_,rfl,rfl,rfl,rfl⟩ rfl rfl ?_
  refine Us (i:=14) (d:=23) 4 rfl (by kernel_rfl) (by kernel_rfl) (by kernel_rfl) ⟨_,_,_,rfl,rfl,rfl,rfl⟩ rfl rfl ?_
  refine Us (i:=15) (d:=24) 3 rfl (by kernel_rfl) (by kernel_rfl) (by kernel_rfl) ⟨_,_,_,rfl,rfl,rfl,rfl⟩ rfl rfl ?_
  refine Us (i:=16) (d:=25) 2 rfl (by kernel_rfl) (by kernel_rfl) (by kernel_rfl) ⟨_,_,_,rfl,rfl,rfl,rfl⟩ rfl rfl ?_
  refine ai 17 1 rfl (by kernel_rfl) (fun _=>jy rfl rfl rfl) ?_
  have bn:gQ d m=3:=by unfold gQ;rw[if_neg (by omega)]
  refine qb (i:=18) 0 rfl (by kernel_rfl) rfl rfl rfl rfl rfl rfl rfl eD (fun w9 S9=>iN 3 S9.aD) ?_
  intro w9 M9 ct S9
  subst hC
  exact .inr ⟨by rw[bn];first|decide|assumption,by rw[bn],M9,(Hp.le_refl _).trans ct,S9.pick [] [] (by decide) trivial⟩
end Go.Proofs.YthppkofceancjaaGreat
namespace Go.Proofs.YthppkofceancjaaGreat
open Go.ChangeShapes Go.WideShapes Go.ChangeAt Go.RowKit
theorem ah6{nx:Nat->Nat}{Q:Nat->Prop}(hx:∀c,Q c->Q (nx c))(seen:List Bool)(x:Nat)(acc:List Int)(h:Q x)(ha:∀y∈acc,∃c:Nat,y=(c:Int)/\Q c):∀y∈(eY nx seen x acc).2,∃c:Nat,y=(c:Int)/\Q c:=by
 induction hk:free seen using Nat.strongRecOn generalizing seen x acc with
 |_ k ih=>
  by_cases hc:x<seen.length/\ga seen x=false
  ·rw[rG hc.1 hc.2]
   have:=nC hc.1 hc.2
   refine ih (free (seen.set x true)) (by omega) (seen.set x true) (nx x) (acc++[(x:Int)]) (hx _ h) ?_ rfl
   intro y hy
   rcases List.mem_append.1 hy with hy|hy
   ·exact ha y hy
   ·rw[List.mem_singleton]at hy;exact⟨x,hy,h⟩
  ·rw[eY]
   simp only[hc,if_false,dite_false]
   exact ha
theorem ahI{d:Dg}(h:aN d=true)(k:Nat)(hk:k<=4*d.ae.length):∀r∈(ey d k).2,∀y∈r,∃c:Nat,y=(c:Int)/\(2<=c/\c<4*d.ae.length+2):=by
 induction k with
 |zero=>intro r hr;simp[ey]at hr
 |succ k ih=>
  by_cases hg:ga (ey d k).1 (k+2)=true
  ·rw[rK rfl hg];exact ih (by omega)
  ·rw[rJ rfl (by simpa using hg) rfl]
   intro r hr
   rcases List.mem_append.1 hr with hr|hr
   ·exact ih (by omega) r hr
   ·rw[List.mem_singleton]at hr
    subst hr
    exact ah6 (Q:=fun c=>2<=c/\c<4*d.ae.length+2) (fun c hc=>wD h hc) _ _ _ ⟨by omega,by omega⟩ (fun y hy=>by cases hy)
theorem Ch{d:Dg}(h:aN d=true){x:List Da}(hx:x∈U7 d):∀y∈x,okD d y:=by
 unfold U7 wQ at hx
 obtain⟨r,hr,rfl⟩:=List.mem_map.1 hx
 intro y hy
 unfold iL at hy
 obtain⟨c,hc,rfl⟩:=List.mem_map.1 hy
 obtain⟨e,rfl,he⟩:=ahI h _ (Nat.le_refl _) r hr c hc
 rw[Int.toNat_natCast]
 exact kN he
def cw(d:Dg)(x:Da):Nat:=(Ud d x.a (!x.b)).1
def gw(d:Dg)(i j:Int)(x:List Da):Bool:=decide (x.length=2/\((cw d (ga x 0):Int)=i/\(cw d (ga x 1):Int)=j\/(cw d (ga x 0):Int)=j/\(cw d (ga x 1):Int)=i)/\(hgt d (ga x 0).a=2/\hgt d (ga x 1).a=0\/hgt d (ga x 0).a=0/\hgt d (ga x 1).a=2))
def gG(d:Dg)(m:Mv):Int:=if(0<=m.at_/\m.at_<(d.ae.length:Int))/\(0<=m.aJ/\m.aJ<(d.ae.length:Int))/\m.at_≠m.aJ then(if(U7 d).any (gw d m.at_ m.aJ)=true then lI d [m.at_.toNat,m.aJ.toNat]else 8)else 3
def xV(d:Dg)(m:Mv):Dg:=bB d (bh [m.at_.toNat,m.aJ.toNat])
noncomputable def QQ:=Tryz.f124.body.getD .skip
def awb:=cL QQ
def QP:=cR QQ
def QO:=cL QP
def QN:=cR QP
def awa:=cL QO
def QM:=cR QO
def QL:=cL QM
def av9:=cR QM
def av8:=cL QL
def av7:=cR QL
def av6:=cL QN
def QK:=cR QN
def QJ:=cL QK
def QI:=cR QK
def av5:=cL QJ
def QH:=cR QJ
def QG:=cL QH
def av4:=cR QH
def av3:=cL QG
def av2:=cR QG
def av1:=cL QI
def QF:=cR QI
def av0:=cL QF
def QE:=cR QF
def avZ:=cL QE
def avY:=cR QE
set_option maxHeartbeats 1000000 in
set_option maxRecDepth 10000 in
theorem ajR{w:World}{M:Hp}{X:Fr}(s:List Da){sA:Option Addr}{sc:Nat}(d:Dg){bL:Nat}{cA iA oA:Option Addr}{cc ic oc:Nat}{bC:Nat}{fV:Value}{gx:Nat}(m:Mv){gm:Nat}(hs:aG cu (M.un X.h) sA sc s)(hbb:dG (M.un X.h) bC 67 [.pointer (some ⟨bL,0,none⟩),fV])(bu:dG (M.un X.h) bL 70 [.slice cA d.ae.length cc,.int .i64 d.loops,.slice iA (ax d false (4*d.ae.length)).length ic,.slice oA (ax d true (4*d.ae.length)).length oc])(hsc:aG aF (M.un X.h) cA cc d.ae)(hsi:aG br (M.un X.h) iA ic (ax d false (4*d.ae.length)))(aK:aG br (M.un X.h) oA oc (ax d true (4*d.ae.length)))(jH:dG (M.un X.h) gx 55 [.pointer (some ⟨bC,0,none⟩)])(pW:dG (M.un X.h) gm 28 [.int .i64 m.kd,.int .i64 m.at_,.int .i64 m.aJ,.int .i64 m.ua,.bool m.ub,.int .i64 m.va,.bool m.vb,.bool m.ov])(hn:d.ae.length<=16)(hab:aN d=true)(hok:∀x∈s,okD d x)(S:SH w M X []):Cq Tryz.prog 124 [.slice sA s.length sc,.pointer (some ⟨gx,0,none⟩),.pointer (some ⟨gm,0,none⟩)] w M X (fun u=>u=.bool (gw d m.at_ m.aJ s)):=by
 unfold Cq
 have uJ:s.length*16<=140737488355328:=hs.room
 refine Up (b:=QQ) Tryz.func124 rfl Tryz.ntmps124 rfl (fun C hC=>(bq [(0,_),(1,_),(2,_)] ⟨rfl,rfl,rfl,trivial⟩ (U2 awb QP rfl rfl rfl (U0 rfl (ag 0 1 rfl rfl (U5 rfl (ah [0,1,2] rfl (U3 (U2 QO QN rfl rfl rfl ?_)))))))))
 refine U2 awa QM rfl rfl rfl (U0 rfl (ag 0 1 rfl rfl (af 1 rfl (cU rfl rfl rfl rfl rfl rfl iO) (af 2 rfl (jL rfl rfl rfl) (U5 rfl (ah [0,1,2,13] rfl (U3 ?_)))))))
 refine Uf QL av9 rfl rfl rfl rfl (fun Jv=>?_) (fun Jv=>?_)
 ·refine U2 av8 av7 rfl rfl rfl (U0 rfl (ag 0 1 rfl rfl (U5 rfl (ah [4] rfl (U3 (Uk hC [_] rfl rfl ⟨rfl,trivial⟩ ?_))))))
  exact⟨_,rfl,(S.pick [] [] (by decide) trivial),(by show Value.bool _=Value.bool _;refine congrArg Value.bool ?_;unfold gw cw;rw[Bool.eq_iff_iff];simp only[decide_eq_true_eq,Bool.false_eq_true,false_iff,true_iff];omega)⟩
 ·have ho0:okD d (ga s 0):=hok _ (iB (by omega))
  have x4:okD d (ga s 1):=hok _ (iB (by omega))
  have hp0:1<=(ga s 0).a/\(ga s 0).a<=2*(d.ae.length:Int):=ho0
  have hp1:1<=(ga s 1).a/\(ga s 1).a<=2*(d.ae.length:Int):=x4
  refine Ue rfl (ah [0,1,2] rfl (U3 (U2 av6 QK rfl rfl rfl (bM rfl (by kernel_rfl) S 20 rfl ?_))))
  clear S
  refine aj 0 19 rfl (by kernel_rfl) (fun _ _ _ hz Sz=>.inl (U4 rfl rfl iZ rfl ((jH.mono (Hp.Ua hz Sz.mx)).cell Sz.um rfl))) ?_
  refine ai 1 18 rfl (by kernel_rfl) (fun _=>U9 rfl rfl) ?_
  refine ai 2 17 rfl (by kernel_rfl) (fun _=>U1 rfl rfl cV rfl (dK) (dJ)) ?_
  refine aj 3 16 rfl (by kernel_rfl) (fun _ _ _ hz Sz=>.inl (U4 rfl rfl dt rfl ((hbb.mono (Hp.Ua hz Sz.mx)).cell Sz.um rfl))) ?_
  refine ai 4 15 rfl (by kernel_rfl) (fun _=>run_move rfl rfl) ?_
  refine aj 5 14 rfl (by kernel_rfl) (fun _ _ _ hz Sz=>.inl (Ul (C:=cu) 0 rfl rfl rfl iF (by first|rfl|omega) (hs.mono (Hp.Ua hz Sz.mx)) (by first|omega|(simp only[ls];omega)))) ?_
  refine aj 6 13 rfl (by kernel_rfl) (fun _ _ _ hz Sz=>.inl (U8 (us:=[_,_]) rfl rfl aZ rfl cC ((hs.mono (Hp.Ua hz Sz.mx)).fU Sz.um (e:=0) (by first|omega|(simp only[ls];omega)) (j:=0) ⟨rfl,rfl,trivial⟩))) ?_
  refine aj 7 12 rfl (by kernel_rfl) (fun _ _ _ hz Sz=>Ur rfl rfl rfl rfl rfl IC Sz (HM d (ga s 0) ((bu.mono (Hp.Ua hz Sz.mx)).mono Sz.Uy) ((hsc.mono (Hp.Ua hz Sz.mx)).mono Sz.Uy) ((hsi.mono (Hp.Ua hz Sz.mx)).mono Sz.Uy) ((aK.mono (Hp.Ua hz Sz.mx)).mono Sz.Uy) (by first|assumption|omega) hab (by first|assumption|omega) Sz.aD)) ?_
  refine ai 8 11 rfl (by kernel_rfl) (fun _=>ma rfl rfl cO rfl av rfl rfl) ?_
  refine aj 9 10 rfl (by kernel_rfl) (fun _ _ _ hz Sz=>.inl (U4 rfl rfl iZ rfl ((jH.mono (Hp.Ua hz Sz.mx)).cell Sz.um rfl))) ?_
  refine ai 10 9 rfl (by kernel_rfl) (fun _=>U9 rfl rfl) ?_
  refine ai 11 8 rfl (by kernel_rfl) (fun _=>U1 rfl rfl cV rfl (dK) (dJ)) ?_
  refine aj 12 7 rfl (by kernel_rfl) (fun _ _ _ hz Sz=>.inl (U4 rfl rfl dt rfl ((hbb.mono (Hp.Ua hz Sz.mx)).cell Sz.um rfl))) ?_
  refine ai 13 6 rfl (by kernel_rfl) (fun _=>run_move rfl rfl) ?_
  refine aj 14 5 rfl (by kernel_rfl) (fun _ _ _ hz Sz=>.inl (Ul (C:=cu) 1 rfl rfl rfl iF (by first|rfl|omega) (hs.mono (Hp.Ua hz Sz.mx)) (by first|omega|(simp only[ls];omega)))) ?_
  refine aj 15 4 rfl (by kernel_rfl) (fun _ _ _ hz Sz=>.inl (U8 (us:=[_,_]) rfl rfl aZ rfl cC ((hs.mono (Hp.Ua hz Sz.mx)).fU Sz.um (e:=1) (by first|omega|(simp only[ls];omega)) (j:=0) ⟨rfl,rfl,trivial⟩))) ?_
  refine aj 16 3 rfl (by kernel_rfl) (fun _ _ _ hz Sz=>Ur rfl rfl rfl rfl rfl IC Sz (HM d (ga s 1) ((bu.mono (Hp.Ua hz Sz.mx)).mono Sz.Uy) ((hsc.mono (Hp.Ua hz Sz.mx)).mono Sz.Uy) ((hsi.mono (Hp.Ua hz Sz.mx)).mono Sz.Uy) ((aK.mono (Hp.Ua hz Sz.mx)).mono Sz.Uy) (by first|assumption|omega) hab (by first|assumption|omega) Sz.aD)) ?_
  refine ai 17 2 rfl (by kernel_rfl) (fun _=>ma rfl rfl cO rfl av rfl rfl) ?_
  refine ai 18 1 rfl (by kernel_rfl) (fun _=>run_assign rfl rfl) ?_
  refine ai 19 0 rfl (by kernel_rfl) (fun _=>run_assign rfl rfl) ?_
  refine Uu (by kernel_rfl) (fun tv cM=>?_)
  refine ah [0,1,2,5,6] rfl (U3 (U2 QJ QI rfl rfl rfl (U2 av5 QH rfl rfl rfl (U0 rfl (ag 0 1 rfl rfl (af 1 rfl (U1 rfl rfl aT rfl (aC) (aB)) (af 2 rfl (U4 rfl rfl av rfl (pW.cell cM.um rfl)) (af 3 rfl (bR rfl rfl rfl) ?_))))))))
  refine ag 4 1 rfl rfl ?_
  refine jZ (k':=10) (d:=41) (decide ((((Ud d (ga s 0).a (!(ga s 0).b)).1:Int)=m.at_)/\(((Ud d (ga s 1).a (!(ga s 1).b)).1:Int)=m.aJ))) [(0,_),(1,_),(2,_),(5,_),(6,_)] ⟨rfl,rfl,rfl,rfl,rfl,trivial⟩ (fun aeE=>?_) ?_
  ·refine Uw (t:=36) rfl (fun zN=>?_) (fun zN=>?_)
   ·refine ag 5 1 rfl rfl (aH 6 7 rfl rfl rfl rfl rfl rfl rfl rfl (Ub rfl rfl (U1 rfl rfl aT rfl (aC) (aB)) (aH 7 8 rfl rfl rfl rfl rfl rfl rfl rfl (Ub rfl rfl (U4 rfl rfl av rfl (pW.cell cM.um rfl)) (aH 8 9 rfl rfl rfl rfl rfl rfl rfl rfl (Ub rfl rfl (bR rfl rfl rfl) (ag 9 1 rfl rfl ?_)))))))
    exact cy 41 (.bool (decide ((((Ud d (ga s 0).a (!(ga s 0).b)).1:Int)=m.at_)/\(((Ud d (ga s 1).a (!(ga s 1).b)).1:Int)=m.aJ)))) rfl (congrArg Value.bool (decide_eq_decide.2 ⟨fun h=>⟨zN,h⟩,fun h=>h.2⟩)) (fx [(41,_),(0,_),(1,_),(2,_),(5,_),(6,_)] ⟨rfl,rfl,rfl,rfl,rfl,rfl,trivial⟩ aeE)
   ·refine ag 5 5 rfl rfl ?_
    exact cy 41 (.bool (decide ((((Ud d (ga s 0).a (!(ga s 0).b)).1:Int)=m.at_)/\(((Ud d (ga s 1).a (!(ga s 1).b)).1:Int)=m.aJ)))) rfl (congrArg Value.bool (decide_eq_false (fun h=>zN h.1)).symm) (fx [(41,_),(0,_),(1,_),(2,_),(5,_),(6,_)] ⟨rfl,rfl,rfl,rfl,rfl,rfl,trivial⟩ aeE)
  ·refine ag 10 1 rfl rfl ?_
   refine jZ (k':=22) (d:=53) (decide (((((Ud d (ga s 0).a (!(ga s 0).b)).1:Int)=m.at_)/\(((Ud d (ga s 1).a (!(ga s 1).b)).1:Int)=m.aJ))\/((((Ud d (ga s 0).a (!(ga s 0).b)).1:Int)=m.aJ)/\(((Ud d (ga s 1).a (!(ga s 1).b)).1:Int)=m.at_)))) [(0,_),(1,_),(2,_),(5,_),(6,_)] ⟨rfl,rfl,rfl,rfl,rfl,trivial⟩ (fun aeB=>?_) ?_
   ·refine Uw (t:=42) rfl (fun oO=>?_) (fun oO=>?_)
    ·refine ag 11 6 rfl rfl (ag 17 5 rfl rfl ?_)
     exact cy 53 (.bool (decide (((((Ud d (ga s 0).a (!(ga s 0).b)).1:Int)=m.at_)/\(((Ud d (ga s 1).a (!(ga s 1).b)).1:Int)=m.aJ))\/((((Ud d (ga s 0).a (!(ga s 0).b)).1:Int)=m.aJ)/\(((Ud d (ga s 1).a (!(ga s 1).b)).1:Int)=m.at_))))) rfl (congrArg Value.bool (decide_eq_true (.inl oO)).symm) (fx [(53,_),(0,_),(1,_),(2,_),(5,_),(6,_)] ⟨rfl,rfl,rfl,rfl,rfl,rfl,trivial⟩ aeB)
    ·refine ag 11 1 rfl rfl (aH 12 13 rfl rfl rfl rfl rfl rfl rfl rfl (Ub rfl rfl (U1 rfl rfl aT rfl (aC) (aB)) (aH 13 14 rfl rfl rfl rfl rfl rfl rfl rfl (Ub rfl rfl (U4 rfl rfl av rfl (pW.cell cM.um rfl)) (aH 14 15 rfl rfl rfl rfl rfl rfl rfl rfl (Ub rfl rfl (bR rfl rfl rfl) (ag 15 1 rfl rfl ?_)))))))
     refine jZ (k':=21) (d:=52) (decide ((((Ud d (ga s 0).a (!(ga s 0).b)).1:Int)=m.aJ)/\(((Ud d (ga s 1).a (!(ga s 1).b)).1:Int)=m.at_))) [(0,_),(1,_),(2,_),(5,_),(6,_),(42,_)] ⟨rfl,rfl,rfl,rfl,rfl,rfl,trivial⟩ (fun aeC=>?_) ?_
     ·refine Uw (t:=47) rfl (fun pP=>?_) (fun pP=>?_)
      ·refine ag 16 1 rfl rfl (aH 17 18 rfl rfl rfl rfl rfl rfl rfl rfl (Ub rfl rfl (U1 rfl rfl aT rfl (aC) (aB)) (aH 18 19 rfl rfl rfl rfl rfl rfl rfl rfl (Ub rfl rfl (U4 rfl rfl av rfl (pW.cell cM.um rfl)) (aH 19 20 rfl rfl rfl rfl rfl rfl rfl rfl (Ub rfl rfl (bR rfl rfl rfl) (ag 20 1 rfl rfl ?_)))))))
       exact cy 52 (.bool (decide ((((Ud d (ga s 0).a (!(ga s 0).b)).1:Int)=m.aJ)/\(((Ud d (ga s 1).a (!(ga s 1).b)).1:Int)=m.at_)))) rfl (congrArg Value.bool (decide_eq_decide.2 ⟨fun h=>⟨pP,h⟩,fun h=>h.2⟩)) (fx [(52,_),(0,_),(1,_),(2,_),(5,_),(6,_),(42,_)] ⟨rfl,rfl,rfl,rfl,rfl,rfl,rfl,trivial⟩ aeC)
      ·refine ag 16 5 rfl rfl ?_
       exact cy 52 (.bool (decide ((((Ud d (ga s 0).a (!(ga s 0).b)).1:Int)=m.aJ)/\(((Ud d (ga s 1).a (!(ga s 1).b)).1:Int)=m.at_)))) rfl (congrArg Value.bool (decide_eq_false (fun h=>pP h.1)).symm) (fx [(52,_),(0,_),(1,_),(2,_),(5,_),(6,_),(42,_)] ⟨rfl,rfl,rfl,rfl,rfl,rfl,rfl,trivial⟩ aeC)
     ·refine ag 21 1 rfl rfl ?_
      exact cy 53 (.bool (decide (((((Ud d (ga s 0).a (!(ga s 0).b)).1:Int)=m.at_)/\(((Ud d (ga s 1).a (!(ga s 1).b)).1:Int)=m.aJ))\/((((Ud d (ga s 0).a (!(ga s 0).b)).1:Int)=m.aJ)/\(((Ud d (ga s 1).a (!(ga s 1).b)).1:Int)=m.at_))))) rfl (congrArg Value.bool (decide_eq_decide.2 ⟨.inr,fun h=>h.resolve_left oO⟩)) (fx [(53,_),(0,_),(1,_),(2,_),(5,_),(6,_)] ⟨rfl,rfl,rfl,rfl,rfl,rfl,trivial⟩ aeB)
   ·refine af 22 rfl (dS rfl rfl) (U5 rfl (ah [0,1,54] rfl (U3 ?_)))
    refine dN QG av4 rfl rfl rfl rfl (fun uS=>?_) (fun uS=>?_)
    ·simp only[Bool.and_eq_true,Bool.or_eq_true,Bool.and_eq_false_iff,Bool.or_eq_false_iff,decide_eq_true_eq,decide_eq_false_iff_not,Bool.not_eq_true',Bool.not_eq_false']at uS
     refine U2 av3 av2 rfl rfl rfl (U0 rfl (ag 0 1 rfl rfl (U5 rfl (ah [4] rfl (U3 (Uk hC [_] rfl rfl ⟨rfl,trivial⟩ ?_))))))
     exact⟨_,rfl,(cM.pick [] [] (by decide) trivial),(by show Value.bool _=Value.bool _;refine congrArg Value.bool ?_;unfold gw cw;rw[Bool.eq_iff_iff];simp only[decide_eq_true_eq,Bool.false_eq_true,false_iff,true_iff];omega)⟩
    ·simp only[Bool.and_eq_true,Bool.or_eq_true,Bool.and_eq_false_iff,Bool.or_eq_false_iff,decide_eq_true_eq,decide_eq_false_iff_not,Bool.not_eq_true',Bool.not_eq_false']at uS
     refine Ue rfl (ah [0,1] rfl (U3 (U2 av1 QF rfl rfl rfl (bM rfl (by kernel_rfl) cM 11 rfl ?_))))
     clear cM
     refine aj 0 10 rfl (by kernel_rfl) (fun _ _ _ hz Sz=>.inl (U4 rfl rfl iZ rfl ((jH.mono (Hp.Ua hz Sz.mx)).cell Sz.um rfl))) ?_
     refine ai 1 9 rfl (by kernel_rfl) (fun _=>run_move rfl rfl) ?_
     refine aj 2 8 rfl (by kernel_rfl) (fun _ _ _ hz Sz=>.inl (Ul (C:=cu) 0 rfl rfl rfl iF (by first|rfl|omega) (hs.mono (Hp.Ua hz Sz.mx)) (by first|omega|(simp only[ls];omega)))) ?_
     refine ai 3 7 rfl (by kernel_rfl) (fun _=>U1 rfl rfl aZ rfl (aC) (aB)) ?_
     refine aj 4 6 rfl (by kernel_rfl) (fun _ _ _ hz Sz=>.inl (U4 rfl rfl av rfl ((hs.mono (Hp.Ua hz Sz.mx)).cell Sz.um (i:=0) (by first|omega|(simp only[ls];omega)) 0 rfl rfl))) ?_
     refine aj 5 5 rfl (by kernel_rfl) (fun _ _ _ hz Sz=>Ur rfl rfl rfl rfl rfl IB Sz (G1 d ((ga s 0).a) ((hbb.mono (Hp.Ua hz Sz.mx)).mono Sz.Uy) ((bu.mono (Hp.Ua hz Sz.mx)).mono Sz.Uy) ((hsc.mono (Hp.Ua hz Sz.mx)).mono Sz.Uy) ((hsi.mono (Hp.Ua hz Sz.mx)).mono Sz.Uy) ((aK.mono (Hp.Ua hz Sz.mx)).mono Sz.Uy) hn hab (by first|assumption|omega) Sz.aD)) ?_
     refine ai 6 4 rfl (by kernel_rfl) (fun _=>run_move rfl rfl) ?_
     refine ai 7 3 rfl (by kernel_rfl) (fun _=>Ui rfl rfl rfl) ?_
     refine ai 8 2 rfl (by kernel_rfl) (fun _=>Ui rfl rfl rfl) ?_
     refine ai 9 1 rfl (by kernel_rfl) (fun _=>run_assign rfl rfl) ?_
     refine ai 10 0 rfl (by kernel_rfl) (fun _=>run_assign rfl rfl) ?_
     refine Uu (by kernel_rfl) (fun vp gL=>?_)
     refine ah [0,1,7,8] rfl (U3 (U2 av0 QE rfl rfl rfl (bM rfl (by kernel_rfl) gL 11 rfl ?_)))
     clear gL
     refine aj 0 10 rfl (by kernel_rfl) (fun _ _ _ hz Sz=>.inl (U4 rfl rfl iZ rfl ((jH.mono (Hp.Ua hz Sz.mx)).cell Sz.um rfl))) ?_
     refine ai 1 9 rfl (by kernel_rfl) (fun _=>run_move rfl rfl) ?_
     refine aj 2 8 rfl (by kernel_rfl) (fun _ _ _ hz Sz=>.inl (Ul (C:=cu) 1 rfl rfl rfl iF (by first|rfl|omega) (hs.mono (Hp.Ua hz Sz.mx)) (by first|omega|(simp only[ls];omega)))) ?_
     refine ai 3 7 rfl (by kernel_rfl) (fun _=>U1 rfl rfl aZ rfl (aC) (aB)) ?_
     refine aj 4 6 rfl (by kernel_rfl) (fun _ _ _ hz Sz=>.inl (U4 rfl rfl av rfl ((hs.mono (Hp.Ua hz Sz.mx)).cell Sz.um (i:=1) (by first|omega|(simp only[ls];omega)) 0 rfl rfl))) ?_
     refine aj 5 5 rfl (by kernel_rfl) (fun _ _ _ hz Sz=>Ur rfl rfl rfl rfl rfl IB Sz (G1 d ((ga s 1).a) ((hbb.mono (Hp.Ua hz Sz.mx)).mono Sz.Uy) ((bu.mono (Hp.Ua hz Sz.mx)).mono Sz.Uy) ((hsc.mono (Hp.Ua hz Sz.mx)).mono Sz.Uy) ((hsi.mono (Hp.Ua hz Sz.mx)).mono Sz.Uy) ((aK.mono (Hp.Ua hz Sz.mx)).mono Sz.Uy) hn hab (by first|assumption|omega) Sz.aD)) ?_
     refine ai 6 4 rfl (by kernel_rfl) (fun _=>run_move rfl rfl) ?_
     refine ai 7 3 rfl (by kernel_rfl) (fun _=>Ui rfl rfl rfl) ?_
     refine ai 8 2 rfl (by kernel_rfl) (fun _=>Ui rfl rfl rfl) ?_
     refine ai 9 1 rfl (by kernel_rfl) (fun _=>run_assign rfl rfl) ?_
     refine ai 10 0 rfl (by kernel_rfl) (fun _=>run_assign rfl rfl) ?_
     refine Uu (by kernel_rfl) (fun xO fW=>?_)
     refine ah [7,8,9,10] rfl (U3 (U2 avZ avY rfl rfl rfl (U0 rfl (ag 0 2 rfl rfl ?_))))
     refine jZ (k':=4) (d:=76) (decide ((hgt d ((ga s 0).a)=2)/\(hgt d ((ga s 1).a)=0))) [(8,_),(9,_),(10,_)] ⟨rfl,rfl,rfl,trivial⟩ (fun aez=>?_) ?_
     ·refine Uw (t:=74) rfl (fun Jd=>?_) (fun Jd=>?_)
      ·refine ag 2 2 rfl rfl ?_
       exact cy 76 (.bool (decide ((hgt d ((ga s 0).a)=2)/\(hgt d ((ga s 1).a)=0)))) rfl (congrArg Value.bool (decide_eq_decide.2 ⟨fun h=>⟨Jd,h⟩,fun h=>h.2⟩)) (fx [(76,_),(8,_),(9,_),(10,_)] ⟨rfl,rfl,rfl,rfl,trivial⟩ aez)
      ·refine ag 2 2 rfl rfl ?_
       exact cy 76 (.bool (decide ((hgt d ((ga s 0).a)=2)/\(hgt d ((ga s 1).a)=0)))) rfl (congrArg Value.bool (decide_eq_false (fun h=>Jd h.1)).symm) (fx [(76,_),(8,_),(9,_),(10,_)] ⟨rfl,rfl,rfl,rfl,trivial⟩ aez)
     ·refine ag 4 1 rfl rfl ?_
      refine jZ (k':=10) (d:=82) (decide (((hgt d ((ga s 0).a)=2)/\(hgt d ((ga s 1).a)=0))\/((hgt d ((ga s 0).a)=0)/\(hgt d ((ga s 1).a)=2)))) [(8,_),(9,_)] ⟨rfl,rfl,trivial⟩ (fun aev=>?_) ?_
      ·refine Uw (t:=77) rfl (fun zK=>?_) (fun zK=>?_)
       ·refine ag 5 5 rfl rfl ?_
        exact cy 82 (.bool (decide (((hgt d ((ga s 0).a)=2)/\(hgt d ((ga s 1).a)=0))\/((hgt d ((ga s 0).a)=0)/\(hgt d ((ga s 1).a)=2))))) rfl (congrArg Value.bool (decide_eq_true (.inl zK)).symm) (fx [(82,_),(8,_),(9,_)] ⟨rfl,rfl,rfl,trivial⟩ aev)
       ·refine ag 5 2 rfl rfl ?_
        refine jZ (k':=9) (d:=81) (decide ((hgt d ((ga s 0).a)=0)/\(hgt d ((ga s 1).a)=2))) [(8,_),(9,_),(77,_)] ⟨rfl,rfl,rfl,trivial⟩ (fun aew=>?_) ?_
        ·refine Uw (t:=79) rfl (fun Jb=>?_) (fun Jb=>?_)
         ·refine ag 7 2 rfl rfl ?_
          exact cy 81 (.bool (decide ((hgt d ((ga s 0).a)=0)/\(hgt d ((ga s 1).a)=2)))) rfl (congrArg Value.bool (decide_eq_decide.2 ⟨fun h=>⟨Jb,h⟩,fun h=>h.2⟩)) (fx [(81,_),(8,_),(9,_),(77,_)] ⟨rfl,rfl,rfl,rfl,trivial⟩ aew)
         ·refine ag 7 2 rfl rfl ?_
          exact cy 81 (.bool (decide ((hgt d ((ga s 0).a)=0)/\(hgt d ((ga s 1).a)=2)))) rfl (congrArg Value.bool (decide_eq_false (fun h=>Jb h.1)).symm) (fx [(81,_),(8,_),(9,_),(77,_)] ⟨rfl,rfl,rfl,rfl,trivial⟩ aew)
        ·refine ag 9 1 rfl rfl ?_
         exact cy 82 (.bool (decide (((hgt d ((ga s 0).a)=2)/\(hgt d ((ga s 1).a)=0))\/((hgt d ((ga s 0).a)=0)/\(hgt d ((ga s 1).a)=2))))) rfl (congrArg Value.bool (decide_eq_decide.2 ⟨.inr,fun h=>h.resolve_left zK⟩)) (fx [(82,_),(8,_),(9,_)] ⟨rfl,rfl,rfl,trivial⟩ aev)
      ·refine ag 10 1 rfl rfl (U5 rfl (ah [4] rfl (U3 (Uk hC [_] rfl rfl ⟨rfl,trivial⟩ ?_))))
       exact⟨_,rfl,(fW.pick [] [] (by decide) trivial),(by show Value.bool _=Value.bool _;refine congrArg Value.bool ?_;unfold gw cw;rw[Bool.eq_iff_iff];simp only[decide_eq_true_eq,Bool.false_eq_true,false_iff,true_iff];omega)⟩
noncomputable def QD:=Tryz.f70.body.getD .skip
def avX:=cL QD
def QC:=cR QD
def avW:=cL QC
def QB:=cR QC
def avV:=cL QB
def QA:=cR QB
def avU:=cL QA
def avT:=cR QA
set_option maxHeartbeats 1000000 in
set_option maxRecDepth 10000 in
theorem alJ{w:World}{M:Hp}{X:Fr}(d:Dg){bC ggs:Nat}{bD:Value}{iA oA fA:Option Addr}{ic oc fc:Nat}{fv:List fO}(m:Mv)(hsi:aG br M iA ic (ax d false (4*d.ae.length)))(aK:aG br M oA oc (ax d true (4*d.ae.length)))(cZ:aG (di 141) M fA fc fv)(cY:fy cu M fv (U7 d))(hn:d.ae.length<=16)(hab:aN d=true)(hlo:0<=d.loops/\d.loops<=16)(S:SH w M X [Rs.aX [Rs.box bC 67 [.pointer (some ⟨ggs,0,none⟩),.slice fA fv.length fc],Rs.box ggs 70 [bD,.int .i64 d.loops,.slice iA (ax d false (4*d.ae.length)).length ic,.slice oA (ax d true (4*d.ae.length)).length oc],Rs.row aF bD d.ae]]):Cm 70 [.pointer (some ⟨bC,0,none⟩),.agg [.int .i64 m.kd,.int .i64 m.at_,.int .i64 m.aJ,.int .i64 m.ua,.bool m.ub,.int .i64 m.va,.bool m.vb,.bool m.ov].toArray] w M X (gG d m) (wq bC ggs (.slice fA fv.length fc) (.slice iA (ax d false (4*d.ae.length)).length ic) (.slice oA (ax d true (4*d.ae.length)).length oc) (xV d m)):=by
 unfold Cm
 replace S:=S.kM
 obtain⟨cA,cc,dM,_⟩:=S.sl (i:=2) rfl
 refine Up (b:=QD) Tryz.func70 rfl Tryz.ntmps70 rfl (fun C hC=>(bq [(0,_),(1,_)] ⟨rfl,rfl,trivial⟩ (U2 avX QC rfl rfl rfl (U0 rfl (ak 0 1 rfl rfl rfl (bE (l:=[_]) rfl rfl rfl rfl rfl S ?_))))))
 intro aI w1 S1;clear S
 refine ak 1 2 rfl rfl rfl (bE (l:=[_,_,_,_,_,_,_,_]) rfl rfl rfl rfl rfl S1 ?_)
 intro aQ w2 S2;clear S1
 refine U5 rfl (ah [2,3] rfl (U3 (U2 avW QB rfl rfl rfl (U0 rfl (af 0 rfl (U4 rfl rfl iZ rfl (S2.ar (i:=1) rfl rfl)) (af 1 rfl (U1 rfl rfl aT rfl (aC) (aB)) (af 2 rfl (U4 rfl rfl av rfl (S2.ar (i:=0) rfl rfl)) (ak 3 4 rfl rfl rfl (cS rfl rfl rfl rfl rfl rfl rfl IG S2 (Gf d m.at_ (SH.fF (N:=[]) (i:=2) S2 rfl rfl) (SH.fF (N:=[]) (i:=3) S2 rfl (by rw[dM])) (SH.jD (N:=[]) (i:=4) S2 rfl dM (by show _*40<=_;omega)) (hsi.mono (Hp.bY _ _)) (aK.mono (Hp.bY _ _)) (by omega) S2.aD) ?_)))))))))
 rintro _ w3 S3 rfl;clear S2
 refine ag 4 1 rfl rfl ?_
 refine Uw (t:=9) rfl (fun hg9=>?_) (fun hg9=>?_)
 ·refine aH 5 6 rfl rfl rfl rfl rfl rfl rfl rfl (Ub rfl rfl (U4 rfl rfl iZ rfl (S3.ar (i:=1) rfl rfl)) (aH 6 7 rfl rfl rfl rfl rfl rfl rfl rfl (Ub rfl rfl (U1 rfl rfl aT rfl (aC) (aB)) (aH 7 8 rfl rfl rfl rfl rfl rfl rfl rfl (Ub rfl rfl (U4 rfl rfl av rfl (S3.ar (i:=0) rfl rfl)) (aH 8 9 rfl rfl rfl rfl rfl rfl rfl rfl (cS rfl rfl rfl rfl rfl rfl rfl IG S3 (Gf d m.aJ (SH.fF (N:=[]) (i:=2) S3 rfl rfl) (SH.fF (N:=[]) (i:=3) S3 rfl (by rw[dM])) (SH.jD (N:=[]) (i:=4) S3 rfl dM (by show _*40<=_;omega)) (hsi.mono (Hp.bY _ _)) (aK.mono (Hp.bY _ _)) (by omega) S3.aD) ?_)))))))
  rintro _ w4 S4 rfl;clear S3
  refine ag 9 2 rfl rfl ?_
  refine Uw (t:=15) rfl (fun aoP=>?_) (fun aoP=>?_)
  ·refine aH 11 12 rfl rfl rfl rfl rfl rfl rfl rfl (Ub rfl rfl (U1 rfl rfl aT rfl (aC) (aB)) (aH 12 13 rfl rfl rfl rfl rfl rfl rfl rfl (Ub rfl rfl (U4 rfl rfl av rfl (S4.ar (i:=0) rfl rfl)) (aH 13 14 rfl rfl rfl rfl rfl rfl rfl rfl (Ub rfl rfl (U1 rfl rfl aT rfl (aC) (aB)) (aH 14 15 rfl rfl rfl rfl rfl rfl rfl rfl (Ub rfl rfl (U4 rfl rfl av rfl (S4.ar (i:=0) rfl rfl)) (aH 15 16 rfl rfl rfl rfl rfl rfl rfl rfl (Ub rfl rfl (jL rfl rfl rfl) (ag 16 1 rfl rfl ?_))))))))))
   refine Uw (t:=21) rfl (fun aoB=>?_) (fun aoB=>?_)
   ·refine ak 17 18 rfl rfl rfl (cS rfl rfl rfl rfl rfl rfl rfl eD S4 (mQ 3 S4.aD) ?_)
    rintro _ w5 S5 rfl;clear S4
    refine U5 rfl (ah [2,3] rfl (U3 (U2 avV QA rfl rfl rfl (U0 rfl (af 0 rfl (U4 rfl rfl iZ rfl (S5.ar (i:=1) rfl rfl)) (af 1 rfl (U9 rfl rfl) (af 2 rfl (U1 rfl rfl cV rfl (DR) (Du)) (af 3 rfl (U4 rfl rfl mr rfl (S5.ar (i:=2) rfl rfl)) ?_))))))))
    refine af 4 rfl (vZ (vs:=[_,_]) rfl rfl rfl rfl) (ak 5 6 rfl rfl rfl (cS rfl rfl rfl rfl rfl rfl rfl adG S5 (aac (U7 d) 124 _ (gw d m.at_ m.aJ) (cZ.mono (Hp.bY _ _)) (cY.mono (Hp.bY _ _)) anv (fun w9 Y9 rB S9 A9 c9 x9 hm9 AW=>ajR x9 d m AW ((SH.fF (N:=[]) (i:=2) S5 rfl rfl).mono rB) ((SH.fF (N:=[]) (i:=3) S5 rfl (by rw[dM])).mono rB) ((SH.jD (N:=[]) (i:=4) S5 rfl dM (by show _*40<=_;omega)).mono rB) ((hsi.mono (Hp.bY _ _)).mono rB) ((aK.mono (Hp.bY _ _)).mono rB) ((SH.fF (N:=[]) (i:=1) S5 rfl rfl).mono rB) ((SH.fF (N:=[]) (i:=0) S5 rfl rfl).mono rB) hn hab (Ch hab hm9) S9) S5.aD) ?_))
    rintro _ w6 S6 rfl;clear S5
    refine ag 6 1 rfl rfl (U5 rfl (ah [2,3,4] rfl (U3 (U2 avU avT rfl rfl rfl (U0 rfl (ag 0 1 rfl rfl ?_))))))
    refine mR (t:=29) rfl (fun Dx=>?_) (fun Dx=>?_)
    ·refine ak 1 2 rfl rfl rfl (cS rfl rfl rfl rfl rfl rfl rfl eD S6 (mQ 8 S6.aD) ?_)
     rintro _ w7 S7 rfl;clear S6
     refine U5 rfl (ah [2,3] rfl (U3 ?_))
     have gN:(0<=m.at_/\m.at_<(d.ae.length:Int))/\(0<=m.aJ/\m.aJ<(d.ae.length:Int))/\m.at_≠m.aJ:=by omega
     refine U0 rfl (af 0 rfl (U4 rfl rfl iZ rfl (S7.ar (i:=1) rfl rfl)) (af 1 rfl (U1 rfl rfl aT rfl (aC) (aB)) (af 2 rfl (U4 rfl rfl av rfl (S7.ar (i:=0) rfl rfl)) (af 3 rfl (U1 rfl rfl aT rfl (aC) (aB)) (af 4 rfl (U4 rfl rfl av rfl (S7.ar (i:=0) rfl rfl)) (cy 33 (.int .i64 ((m.at_.toNat:Nat):Int)) rfl (int_eq (by omega)) ?_))))))
     refine cy 35 (.int .i64 ((m.aJ.toNat:Nat):Int)) rfl (int_eq (by omega)) ?_
     refine ak 5 6 rfl rfl rfl (wh (C:=Uv) (l:=[_,_]) (pl:=[(0,1),(1,1)]) rfl rfl rfl rfl bA rfl rfl rfl rfl rfl S7 ?_)
     intro bz w9 S9;clear S7
     by_cases GK:lI d [m.at_.toNat,m.aJ.toNat]=0
     ·have bw:=S9.pick [3,4,5,0,1,2] [_,_,_,_,_,_] (by decide) ⟨rfl,rfl,rfl,rfl,rfl,rfl,trivial⟩;clear S9
      have bW:SH _ _ _ (Rs.aX [_,_,_]::[_,_,_]):=SH.jd (A:=[_,_,_]) (B:=[_,_,_]) bw;clear bw
      have bV:SH _ _ _ [_,_,_,_]:=bW.less (i:=0) rfl
      have hr1:=bV.Cf (C:=Uv) (zs:=[((m.at_.toNat:Nat):Int),((m.aJ.toNat:Nat):Int)]) (i:=1) rfl rfl (by show 2*_<=_;decide)
      have iE:=CT d ([((m.at_.toNat:Nat):Int),((m.aJ.toNat:Nat):Int)]) hsi aK cZ cY hr1 (gs:=[m.at_.toNat,m.aJ.toNat]) rfl hn hab hlo (bW.iG (i:=0) rfl)
      clear bV
      refine ak 6 7 rfl rfl rfl (jP (i:=0) rfl rfl rfl rfl rfl rfl rfl De bW rfl (iE.ok GK) ?_)
      intro an0 jT M1 ayq aL bZ jJ;clear bW
      obtain⟨rfl,A1,c1,rfl,hr2⟩:=jJ
      replace hsi:=hsi.mono aL
      replace aK:=aK.mono aL
      replace cZ:=cZ.mono aL
      replace cY:=cY.mono aL
      replace bZ:SH _ _ _ (Rs.aX [_,_]::[_,_,_]):=bZ
      have bI:SH _ _ _ [_,_,_,_,_]:=SH.jK (A:=[_,_]) (B:=[_,_,_]) bZ;clear bZ
      refine U5 rfl (iC hC [] rfl trivial ?_)
      have bn:gG d m=0:=by unfold gG;rw[if_pos gN,if_pos Dx];exact GK
      refine .inl ⟨bn,_,rfl,_,_,aL,(bI.pick [0,1] [_,_] (by decide) ⟨rfl,rfl,trivial⟩).aX,?_⟩
      exact⟨rfl,_,_,rfl,hr2⟩
     ·have bn:gG d m=lI d [m.at_.toNat,m.aJ.toNat]:=by unfold gG;rw[if_pos gN,if_pos Dx]
      have bO:=S9.pick [3,4,5,0,1,2] [_,_,_,_,_,_] (by decide) ⟨rfl,rfl,rfl,rfl,rfl,rfl,trivial⟩;clear S9
      have cm:SH _ _ _ (Rs.aX [_,_,_]::[_,_,_]):=SH.jd (A:=[_,_,_]) (B:=[_,_,_]) bO;clear bO
      have bF:SH _ _ _ [_,_,_,_]:=cm.less (i:=0) rfl
      have hr3:=bF.Cf (C:=Uv) (zs:=[((m.at_.toNat:Nat):Int),((m.aJ.toNat:Nat):Int)]) (i:=1) rfl rfl (by show 2*_<=_;decide)
      have lv:=CT d ([((m.at_.toNat:Nat):Int),((m.aJ.toNat:Nat):Int)]) hsi aK cZ cY hr3 (gs:=[m.at_.toNat,m.aJ.toNat]) rfl hn hab hlo (cm.iG (i:=0) rfl)
      refine l9 (k:=6) rfl rfl rfl rfl rfl rfl rfl De bF (lv.no GK) ?_
      intro w9 M9 ct S9
      subst hC
      exact .inr ⟨by rw[bn];first|decide|assumption,by rw[bn],M9,(Hp.le_refl _).trans ct,S9.pick [] [] (by decide) trivial⟩
    ·have gN:(0<=m.at_/\m.at_<(d.ae.length:Int))/\(0<=m.aJ/\m.aJ<(d.ae.length:Int))/\m.at_≠m.aJ:=by omega
     have bn:gG d m=8:=by unfold gG;rw[if_pos gN,if_neg (by rw[Dx];exact Bool.false_ne_true)]
     refine l9 (k:=1) rfl rfl rfl rfl rfl rfl rfl eD S6 (iN 8 S6.aD) ?_
     intro w9 M9 ct S9
     subst hC
     exact .inr ⟨by rw[bn];first|decide|assumption,by rw[bn],M9,(Hp.le_refl _).trans ct,S9.pick [] [] (by decide) trivial⟩
   ·have bn:gG d m=3:=by unfold gG;rw[if_neg (by omega)]
    refine l9 (k:=17) rfl rfl rfl rfl rfl rfl rfl eD S4 (iN 3 S4.aD) ?_
    intro w9 M9 ct S9
    subst hC
    exact .inr ⟨by rw[bn];first|decide|assumption,by rw[bn],M9,(Hp.le_refl _).trans ct,S9.pick [] [] (by decide) trivial⟩
  ·refine ag 11 6 rfl rfl ?_
   have bn:gG d m=3:=by unfold gG;rw[if_neg (by omega)]
   refine l9 (k:=17) rfl rfl rfl rfl rfl rfl rfl eD S4 (iN 3 S4.aD) ?_
   intro w9 M9 ct S9
   subst hC
   exact .inr ⟨by rw[bn];first|decide|assumption,by rw[bn],M9,(Hp.le_refl _).trans ct,S9.pick [] [] (by decide) trivial⟩
 ·refine ag 5 6 rfl rfl (ag 11 6 rfl rfl ?_)
  have bn:gG d m=3:=by unfold gG;rw[if_neg (by omega)]
  refine l9 (k:=17) rfl rfl rfl rfl rfl rfl rfl eD S3 (iN 3 S3.aD) ?_
  intro w9 M9 ct S9
  subst hC
  exact .inr ⟨by rw[bn];first|decide|assumption,by rw[bn],M9,(Hp.le_refl _).trans ct,S9.pick [] [] (by decide) trivial⟩
end Go.Proofs.YthppkofceancjaaGreat
namespace Go.Proofs.YthppkofceancjaaGreat
open Go.ChangeShapes Go.WideShapes Go.ChangeAt Go.RowKit
theorem C3:qX Tryz.prog 190 (fun x:Nat×Nat=>Value.agg (br.f x).toArray):=ab3 al7 (fun x y=>⟨(x.1:Int)=(y.1:Int)/\(x.2:Int)=(y.2:Int),⟨_,_,_,_,rfl,rfl,⟨_,_,_,rfl,rfl,rfl⟩,rfl⟩,⟨fun h=>by obtain⟨a,b⟩:=x;obtain⟨c,e⟩:=y;simp only at h;obtain⟨h1,h2⟩:=h;simp;omega,fun h=>by rw[h];exact⟨rfl,rfl⟩⟩⟩) (fun k=>by simp[Instr.sameBits,br,o9])
def esN(d:Dg)(f:List Da):Nat->List (Int×Bool)
 |0=>[]
 |i+1=>mp ((cw d (ga f i):Nat):Int) true (esN d f i)
def iR(d:Dg)(f:List Da)(h:Nat):Nat->Nat
 |0=>0
 |i+1=>iR d f h i+(if hgt d (ga f i).a=h then 1 else 0)
def kZ(d:Dg)(f:List Da):Bool:=decide (f.length=3/\(esN d f 3).length=3/\iR d f 2 3=1/\iR d f 0 3=1)
theorem HA(d:Dg)(f:List Da)(h i:Nat):iR d f h i<=i:=by
 induction i with
 |zero=>exact Nat.le_refl _
 |succ i ih=>unfold iR;split<;>omega
theorem rT{d:Dg}{f:List Da}{h i:Nat}(e:hgt d (ga f i).a=h):iR d f h (i+1)=iR d f h i+1:=by rw[iR,if_pos e]
theorem rY{d:Dg}{f:List Da}{h i:Nat}(e:¬hgt d (ga f i).a=h):iR d f h (i+1)=iR d f h i:=by rw[iR,if_neg e,Nat.add_zero]
def bH(p:Nat×Nat):Nat×Nat:=(p.1,(p.2+2)%4)
def nP(d:Dg)(f:List Da):Nat->List ((Nat×Nat)×Int)
 |0=>[]
 |i+1=>mp (Ud d (ga f i).a true) (Uq d (bH (Ud d (ga f i).a false)).1 (bH (Ud d (ga f i).a false)).2) (mp (bH (Ud d (ga f i).a true)) (ga f i).a (mp (bH (Ud d (ga f i).a false)) (ga f i).a (mp (Ud d (ga f i).a false) (Uq d (bH (Ud d (ga f i).a true)).1 (bH (Ud d (ga f i).a true)).2) (nP d f i))))
def gT(xs:List Cr)(es:List ((Nat×Nat)×Int)):List Cr:=es.foldl (fun c q=>bk c q.1.1 q.1.2 q.2) xs
theorem aaK(es:List ((Nat×Nat)×Int)):∀xs:List Cr,(gT xs es).length=xs.length:=by
 induction es with
 |nil=>intro xs;rfl
 |cons q es ih=>intro xs;exact(ih _).trans (iU _ _ _ _)
theorem ahv(xs:List Cr)(es:List ((Nat×Nat)×Int))(q:(Nat×Nat)×Int):gT xs (es++[q])=bk (gT xs es) q.1.1 q.1.2 q.2:=by unfold gT;rw[List.foldl_append];rfl
def qP(d:Dg)(p:Nat×Nat):Prop:=p.1<d.ae.length/\p.2<4
theorem pq{d:Dg}{p:Nat×Nat}(h:qP d p):qP d (bH p):=⟨h.1,Nat.mod_lt _ (by decide)⟩
theorem abq{κ ε:Type}[DecidableEq κ](k:κ)(v:ε)(es:List (κ×ε)):(mp k v es).map Prod.fst=if k∈es.map Prod.fst then es.map Prod.fst else es.map Prod.fst++[k]:=by
 induction es with
 |nil=>simp[mp]
 |cons p r ih=>
  unfold mp
  by_cases h:k=p.1
  ·rw[if_pos h];simp[h]
  ·rw[if_neg h,List.map_cons,ih]
   by_cases h2:k∈r.map Prod.fst
   ·rw[if_pos h2,if_pos (by rw[List.map_cons];exact List.mem_cons_of_mem _ h2),List.map_cons]
   ·rw[if_neg h2,if_neg (by rw[List.map_cons];intro h3;exact(List.mem_cons.1 h3).elim h h2),List.map_cons,List.cons_append]
def pK(d:Dg)(es:List ((Nat×Nat)×Int)):Prop:=(es.map Prod.fst).Nodup/\∀k∈es.map Prod.fst,qP d k
theorem pK.put{d:Dg}{es:List ((Nat×Nat)×Int)}(h:pK d es){k:Nat×Nat}(hk:qP d k)(v:Int):pK d (mp k v es):=by
 refine⟨?_,fun q hq=>?_⟩
 ·rw[abq]
  split
  ·exact h.1
  ·rename_i hn
   exact List.nodup_append.2 ⟨h.1,by simp,fun a ha b hb=>by simp at hb;subst hb;exact fun e=>hn (e▸ha)⟩
 ·rw[abq]at hq
  split at hq
  ·exact h.2 q hq
  ·rcases List.mem_append.1 hq with hq|hq
   ·exact h.2 q hq
   ·rw[List.mem_singleton]at hq;subst hq;exact hk
theorem Cj{d:Dg}(hab:aN d=true){x:Da}(hx:okD d x)(b:Bool):qP d (Ud d x.a b):=by
 obtain⟨h1,h2,_⟩:=eF hab hx b
 exact⟨h1,h2⟩
theorem ab0{d:Dg}(hab:aN d=true){f:List Da}(hf:∀x∈f,okD d x):∀i,i<=f.length->pK d (nP d f i):=by
 intro i
 induction i with
 |zero=>intro _;exact⟨List.nodup_nil,fun k hk=>by cases hk⟩
 |succ i ih=>
  intro hi
  have hx:=hf _ (iB (show i<f.length by omega))
  have h1:=Cj hab hx true
  have h2:=Cj hab hx false
  exact((((ih (by omega)).put h2 _).put (pq h2) _).put (pq h1) _).put h1 _
theorem ah9{x:Cr}{j k:Nat}{a b:Int}(hj:j<4)(hk:k<4)(h:j≠k):qy (qy x j a) k b=qy (qy x k b) j a:=by
 obtain rfl|rfl|rfl|rfl:j=0\/j=1\/j=2\/j=3:=by omega
 all_goals obtain rfl|rfl|rfl|rfl:k=0\/k=1\/k=2\/k=3:=by omega
 all_goals first|rfl|exact absurd rfl h
theorem aaq{n:Nat}{xs:List Cr}{p q:Nat×Nat}{a b:Int}(hn:xs.length=n)(hp:p.1<n/\p.2<4)(hq:q.1<n/\q.2<4)(h:p≠q):bk (bk xs p.1 p.2 a) q.1 q.2 b=bk (bk xs q.1 q.2 b) p.1 p.2 a:=by
 unfold bk
 by_cases e:p.1=q.1
 ·have h2:p.2≠q.2:=fun e2=>h (Prod.ext e e2)
  rw[<-e,eU _ _ _ _ (by omega),eU _ _ _ _ (by omega),if_pos rfl,if_pos rfl,List.set_set,List.set_set,ah9 hp.2 hq.2 h2]
 ·rw[eU _ _ _ _ (by omega),eU _ _ _ _ (by omega),if_neg e,if_neg (fun e'=>e e'.symm),List.set_comm _ _ e]
theorem ahw{d:Dg}{es es':List ((Nat×Nat)×Int)}(hp:es.Perm es')(h:pK d es'):gT d.ae es=gT d.ae es':=by
 have h0:pK d es:=⟨(hp.map Prod.fst).nodup_iff.2 h.1,fun k hk=>h.2 k ((hp.map Prod.fst).mem_iff.1 hk)⟩
 have key:∀{l₁ l₂:List ((Nat×Nat)×Int)},l₁.Perm l₂->pK d l₁->∀xs:List Cr,xs.length=d.ae.length->gT xs l₁=gT xs l₂:=by
  intro l₁ l₂ hp
  induction hp with
  |nil=>intro _ xs _;rfl
  |cons x _ ih=>
   intro hl xs hx
   obtain⟨h1,h2⟩:=hl
   rw[List.map_cons,List.nodup_cons]at h1
   exact ih ⟨h1.2,fun k hk=>h2 k (by rw[List.map_cons];exact List.mem_cons_of_mem _ hk)⟩ _ ((iU _ _ _ _).trans hx)
  |swap x y l=>
   intro hl xs hx
   obtain⟨h1,h2⟩:=hl
   rw[List.map_cons,List.map_cons,List.nodup_cons]at h1
   have hx1:=h2 x.1 (by simp)
   have hy1:=h2 y.1 (by simp)
   have hne:y.1≠x.1:=fun e=>h1.1 (by rw[e];simp)
   show gT (bk (bk xs y.1.1 y.1.2 y.2) x.1.1 x.1.2 x.2) l=gT (bk (bk xs x.1.1 x.1.2 x.2) y.1.1 y.1.2 y.2) l
   rw[aaq hx hy1 hx1 hne]
  |trans h1 _ ih1 ih2=>
   intro hl xs hx
   exact(ih1 hl xs hx).trans (ih2 ⟨(h1.map Prod.fst).nodup_iff.1 hl.1,fun k hk=>hl.2 k ((h1.map Prod.fst).mem_iff.2 hk)⟩ xs hx)
 exact key hp h0 _ rfl
def iu(d:Dg)(m:Mv):Int:=if 0<=m.at_/\m.at_<((U7 d).length:Int)then(if kZ d (ga (U7 d) m.at_.toNat)=true then 0 else 8)else 3
def rh(d:Dg)(m:Mv):Dg:=⟨gT d.ae (nP d (ga (U7 d) m.at_.toNat) 3),d.loops⟩
noncomputable def Qz:=Tryz.f127.body.getD .skip
def avS:=cL Qz
def Qy:=cR Qz
def Qx:=cL Qy
def Qw:=cR Qy
def avR:=cL Qx
def Qv:=cR Qx
def Qu:=cL Qv
def avQ:=cR Qv
def avP:=cL Qu
def avO:=cR Qu
def avN:=cL Qw
def Qt:=cR Qw
def avM:=cL Qt
def Qs:=cR Qt
def Qr:=cL Qs
def Qq:=cR Qs
def avL:=cL Qr
def agu:=cR Qr
def agt:=cL agu
def Qp:=cL agt
def avK:=cL Qp
def Qo:=cR Qp
def Qn:=cL Qo
def Qm:=cR Qo
def avJ:=cL Qn
def avI:=cR Qn
def ags:=cL Qm
def avH:=cR Qm
def Ql:=cL ags
def avG:=cL Ql
def Qk:=cR Ql
def avF:=cL Qk
def Qj:=cR Qk
def avE:=cL Qj
def Qi:=cR Qj
def Qh:=cL Qi
def Qg:=cR Qi
def avD:=cL Qh
def Qf:=cR Qh
def avC:=cL Qf
def avB:=cR Qf
def agr:=cL Qg
def EG:=cR Qg
def agq:=cL EG
def agp:=cR EG
def avA:=cL Qq
def avz:=cR Qq
set_option maxHeartbeats 1000000 in
set_option maxRecDepth 10000 in
theorem aiN{w:World}{M:Hp}{X:Fr}(d:Dg){bL:Nat}{cA iA oA:Option Addr}{cc ic oc:Nat}{bC:Nat}{fV:Value}(f:List Da){fA:Option Addr}{fc:Nat}(hbb:dG (M.un X.h) bC 67 [.pointer (some ⟨bL,0,none⟩),fV])(bu:dG (M.un X.h) bL 70 [.slice cA d.ae.length cc,.int .i64 d.loops,.slice iA (ax d false (4*d.ae.length)).length ic,.slice oA (ax d true (4*d.ae.length)).length oc])(hsc:aG aF (M.un X.h) cA cc d.ae)(hsi:aG br (M.un X.h) iA ic (ax d false (4*d.ae.length)))(aK:aG br (M.un X.h) oA oc (ax d true (4*d.ae.length)))(hf:aG cu (M.un X.h) fA fc f)(hn:d.ae.length<=16)(hab:aN d=true)(hok:∀x∈f,okD d x)(S:SH w M X []):Cq Tryz.prog 127 [.pointer (some ⟨bC,0,none⟩),.slice fA f.length fc] w M X (fun u=>u=.bool (kZ d f)):=by
 unfold Cq
 have ays:f.length*16<=140737488355328:=hf.room
 refine Up (b:=Qz) Tryz.func127 rfl Tryz.ntmps127 rfl (fun C hC=>(bq [(0,_),(1,_)] ⟨rfl,rfl,trivial⟩ (U2 avS Qy rfl rfl rfl (U0 rfl (ag 0 1 rfl rfl (U5 rfl (ah [0,1] rfl (U3 (U2 Qx Qw rfl rfl rfl ?_)))))))))
 refine U2 avR Qv rfl rfl rfl (U0 rfl (ag 0 1 rfl rfl (af 1 rfl (cU rfl rfl rfl rfl rfl rfl iO) (af 2 rfl (jL rfl rfl rfl) (U5 rfl (ah [0,1,14] rfl (U3 ?_)))))))
 refine Uf Qu avQ rfl rfl rfl rfl (fun iq=>?_) (fun iq=>?_)
 ·refine U2 avP avO rfl rfl rfl (U0 rfl (ag 0 1 rfl rfl (U5 rfl (ah [4] rfl (U3 (Uk hC [_] rfl rfl ⟨rfl,trivial⟩ ?_))))))
  exact⟨_,rfl,(S.pick [] [] (by decide) trivial),(by show Value.bool _=Value.bool _;refine congrArg Value.bool ?_;unfold kZ;first|(refine decide_eq_decide.2 ?_;omega)|(symm;rw[decide_eq_false_iff_not];omega))⟩
 ·refine Ue rfl (ah [0,1] rfl (U3 (U2 avN Qt rfl rfl rfl (U0 rfl (ak 0 1 rfl rfl rfl (yq Int Bool (Value.int .i64) Value.bool rfl rfl rfl S ?_))))))
  intro jg w1 S1;clear S
  refine ag 1 1 rfl rfl (U5 rfl (ah [0,1,5] rfl (U3 (U2 avM Qs rfl rfl rfl (U0 rfl (ag 0 2 rfl rfl (U5 rfl (U3 ?_))))))))
  refine U2 Qr Qq rfl rfl rfl (U2 avL agu rfl rfl rfl (U0 rfl (ag 0 1 rfl rfl (af 1 rfl (cU rfl rfl rfl rfl rfl rfl iO) (ag 2 1 rfl rfl (U5 rfl (ah [0,5,6,7,16,17,18] rfl (U3 ?_))))))))
  refine Uc agt 0 rfl rfl rfl ?_
  refine Ux (fun aS au aM=>∃(i:Nat) (ab:Nat) (be:Nat) (es:List (Int×Bool)),aS=f.length-i/\Env 55 [(0,.pointer (some ⟨bC,0,none⟩)),(5,.map (some jg)),(6,.int .i64 (ab:Int)),(7,.int .i64 (be:Int)),(16,.slice fA f.length fc),(17,.int .i64 (f.length:Int)),(18,.int .i64 (i:Int))] au/\SH aM M X [Rs.mp (Value.int .i64) Value.bool jg es]/\i<=f.length/\es=esN d f i/\ab=iR d f 2 i/\be=iR d f 0 i) rfl ?_ ?_
  ·intro au aq
   refine⟨_,⟨0,0,0,[],rfl,aq.sub ⟨rfl,rfl,rfl,rfl,rfl,rfl,rfl,trivial⟩,S1.pick [0] [_] (by decide) ⟨rfl,trivial⟩,?cd,?dm,?mW,?uC⟩⟩
   case cd=>omega
   case dm=>rfl
   case mW=>rfl
   case uC=>rfl
  ·rintro m2 a1 w2 ⟨i,ab,be,es,rfl,aY,S2,hi,hes,qL,rD⟩
   clear S1
   refine bX aY (c:=Qp) rfl ?_
   clear aY a1
   have ayE:ab<=i:=by rw[qL];exact HA _ _ _ _
   have ayD:be<=i:=by rw[rD];exact HA _ _ _ _
   refine U2 avK Qo rfl rfl rfl (U0 rfl (af 0 rfl (bS rfl rfl rfl) (U5 rfl (U3 (U2 Qn Qm rfl rfl rfl ?_)))))
   refine Uf avJ avI rfl rfl rfl rfl (fun qK=>?_) (fun qK=>?_)
   ·refine Ue rfl (ah [0,5,6,7,16,17,18] rfl (U3 (U2 ags avH rfl rfl rfl (Uc Ql 1 rfl rfl rfl (U2 avG Qk rfl rfl rfl (U0 rfl (af 0 rfl (Ul (C:=cu) i rfl rfl rfl iF (by first|rfl|omega) hf (by first|omega|(simp only[ls];omega))) ?_)))))))
    refine af 1 rfl (U8 (us:=[_,_]) rfl rfl aZ rfl cC (hf.fU S2.um (e:=i) (by first|omega|(simp only[ls];omega)) (j:=0) ⟨rfl,rfl,trivial⟩)) ?_
    refine ak 2 3 rfl rfl rfl (Uh (l:=[_,_]) rfl rfl rfl nN rfl S2 ?_)
    intro aI w3 S3;clear S2
    refine ak 3 4 rfl rfl rfl (U6 (i:=0) (us:=[_,_]) (l':=[_,_]) (H':=[_,_]) rfl rfl S3 rfl rfl rfl rfl cC rfl rfl rfl rfl ?_)
    intro w4 S4;clear S3
    refine U5 rfl (ah [0,5,6,7,16,17,18,9] rfl (U3 (U2 avF Qj rfl rfl rfl ?_)))
    have ho:okD d (ga f i):=hok _ (iB (by omega))
    have hpo:1<=(ga f i).a/\(ga f i).a<=2*(d.ae.length:Int):=ho
    have S5:=S4.pick [1,0] [_,_] (by decide) ⟨rfl,rfl,trivial⟩;clear S4
    refine jM [_] [_] rfl (by kernel_rfl) S5 9 rfl ?_
    clear S5
    change WA _ _ _ _ _ _ _ _ _ _ _ _ [_,_]
    refine ai 0 8 rfl (by kernel_rfl) (fun _=>run_move rfl rfl) ?_
    refine ai 1 7 rfl (by kernel_rfl) (fun _=>run_move rfl rfl) ?_
    refine ai 2 6 rfl (by kernel_rfl) (fun _=>U9 rfl rfl) ?_
    refine ai 3 5 rfl (by kernel_rfl) (fun _=>U1 rfl rfl cV rfl (dK) (dJ)) ?_
    refine aj 4 4 rfl (by kernel_rfl) (fun _ _ _ hz Sz=>.inl (U4 rfl rfl dt rfl ((hbb.mono (Hp.Ua hz Sz.mx)).cell Sz.um rfl))) ?_
    refine aj 5 3 rfl (by kernel_rfl) (fun _ _ _ hz Sz=>.inl (U8 (us:=[_,_]) rfl rfl aZ rfl cC (Sz.suf.aw (i:=0) rfl ⟨rfl,rfl,trivial⟩))) ?_
    refine aj 6 2 rfl (by kernel_rfl) (fun _ _ _ hz Sz=>Ur rfl rfl rfl rfl rfl IC Sz (HM d (ga f i) ((bu.mono (Hp.Ua hz Sz.mx)).mono Sz.Uy) ((hsc.mono (Hp.Ua hz Sz.mx)).mono Sz.Uy) ((hsi.mono (Hp.Ua hz Sz.mx)).mono Sz.Uy) ((aK.mono (Hp.Ua hz Sz.mx)).mono Sz.Uy) (by first|assumption|omega) hab (by first|assumption|omega) Sz.aD)) ?_
    refine ai 7 1 rfl (by kernel_rfl) (fun _=>ma rfl rfl cO rfl av rfl rfl) ?_
    refine Un (i:=8) 0 rfl (by kernel_rfl) rfl rfl (fun jG bO=>?_)
    refine(om (kc:=Value.int .i64) (vc:=Value.bool) (es:=es) (k:=((Ud d (ga f i).a (!(ga f i).b)).1:Int)) (e:=true) (i:=0) (H':=[_,_]) (.inl rfl) rfl bO rfl rfl rfl rfl CW nX rfl ?_)
    intro nW cm;clear bO
    refine aP.grow [_] (Hp.le_refl _) cm ?_;clear cm
    change WA _ _ _ _ _ _ _ _ _ _ _ _ [_,_]
    refine Uu (by kernel_rfl) (fun ni bF=>?_)
    refine ah [0,5,6,7,16,17,18,9] rfl (U3 (U2 avE Qi rfl rfl rfl (U0 rfl (ag 0 1 rfl rfl (af 1 rfl (U1 rfl rfl aZ rfl (aC) (aB)) (af 2 rfl (U4 rfl rfl av rfl (bF.ar (i:=1) rfl rfl)) (ak 3 4 rfl rfl rfl (cS rfl rfl rfl rfl rfl rfl rfl IB bF (G1 d ((ga f i).a) (hbb.mono bF.Uy) (bu.mono bF.Uy) (hsc.mono bF.Uy) (hsi.mono bF.Uy) (aK.mono bF.Uy) hn hab (by first|assumption|omega) bF.aD) ?_))))))))
    rintro _ kU bU rfl;clear bF
    refine ag 4 1 rfl rfl (af 5 rfl (Ui rfl rfl rfl) (af 6 rfl (Ui rfl rfl rfl) (ag 7 2 rfl rfl (U5 rfl (ah [0,5,6,7,16,17,18,10,11] rfl (U3 (U2 Qh Qg rfl rfl rfl (U2 avD Qf rfl rfl rfl ?_))))))))
    refine U0 rfl (ag 0 1 rfl rfl (U5 rfl (ah [0,5,6,7,16,17,18,11,37] rfl (U3 ?_))))
    refine Uf avC avB rfl rfl rfl rfl (fun oQ=>?_) (fun oQ=>?_)
    ·refine U0 rfl (ag 0 1 rfl rfl (af 1 rfl (Ug rfl rfl rfl (by first|omega|(simp only[ls];omega))) ?_))
     refine ag 2 1 rfl rfl (U5 rfl (ah [0,5,6,7,16,17,18,11] rfl (U3 (U2 agr EG rfl rfl rfl (U0 rfl (ag 0 1 rfl rfl (U5 rfl (ah [0,5,6,7,16,17,18,40] rfl ?_))))))))
     refine U3 ?_
     refine Uf agq agp rfl rfl rfl rfl (fun jF=>?_) (fun jF=>?_)
     ·refine U0 rfl (ag 0 1 rfl rfl (af 1 rfl (Ug rfl rfl rfl (by first|omega|(simp only[ls];omega))) ?_))
      refine ag 2 1 rfl rfl (U5 rfl (bj (ah [0,5,6,7,16,17,18] rfl (U3 (U0 rfl (af 0 rfl (Ug rfl rfl rfl (by first|omega|(simp only[ls];omega))) ?_))))))
      refine ag 1 1 rfl rfl (U5 rfl (aO ?_))
      intro au aq
      refine⟨_,?dQ,⟨i+1,ab+1,be+1,mp ((Ud d (ga f i).a (!(ga f i).b)).1:Int) true es,rfl,aq.sub ⟨rfl,rfl,rfl,rfl,rfl,rfl,rfl,trivial⟩,bU.pick [0] [_] (by decide) ⟨rfl,trivial⟩,?cx,?dC,?lC,?uB⟩⟩
      case cx=>omega
      case dC=>(rw[hes];rfl)
      case lC=>first|(rw[rT oQ,<-qL])|(rw[rY oQ,<-qL])
      case uB=>first|(rw[rT jF,<-rD])|(rw[rY jF,<-rD])
      case dQ=>omega
     ·refine Ue rfl (bj (ah [0,5,6,7,16,17,18] rfl (U3 (U0 rfl (af 0 rfl (Ug rfl rfl rfl (by first|omega|(simp only[ls];omega))) ?_)))))
      refine ag 1 1 rfl rfl (U5 rfl (aO ?_))
      intro au aq
      refine⟨_,?lM,⟨i+1,ab+1,be,mp ((Ud d (ga f i).a (!(ga f i).b)).1:Int) true es,rfl,aq.sub ⟨rfl,rfl,rfl,rfl,rfl,rfl,rfl,trivial⟩,bU.pick [0] [_] (by decide) ⟨rfl,trivial⟩,?eB,?gu,?qs,?zr⟩⟩
      case eB=>omega
      case gu=>(rw[hes];rfl)
      case qs=>first|(rw[rT oQ,<-qL])|(rw[rY oQ,<-qL])
      case zr=>first|(rw[rT jF,<-rD])|(rw[rY jF,<-rD])
      case lM=>omega
    ·refine Ue rfl (ah [0,5,6,7,16,17,18,11] rfl (U3 (U2 agr EG rfl rfl rfl (U0 rfl (ag 0 1 rfl rfl (U5 rfl (ah [0,5,6,7,16,17,18,40] rfl (U3 ?_))))))))
     refine Uf agq agp rfl rfl rfl rfl (fun jF=>?_) (fun jF=>?_)
     ·refine U0 rfl (ag 0 1 rfl rfl (af 1 rfl (Ug rfl rfl rfl (by first|omega|(simp only[ls];omega))) ?_))
      refine ag 2 1 rfl rfl (U5 rfl (bj (ah [0,5,6,7,16,17,18] rfl (U3 (U0 rfl (af 0 rfl (Ug rfl rfl rfl (by first|omega|(simp only[ls];omega))) ?_))))))
      refine ag 1 1 rfl rfl (U5 rfl (aO ?_))
      intro au aq
      refine⟨_,?kx,⟨i+1,ab,be+1,mp ((Ud d (ga f i).a (!(ga f i).b)).1:Int) true es,rfl,aq.sub ⟨rfl,rfl,rfl,rfl,rfl,rfl,rfl,trivial⟩,bU.pick [0] [_] (by decide) ⟨rfl,trivial⟩,?eW,?gq,?oG,?zq⟩⟩
      case eW=>omega
      case gq=>(rw[hes];rfl)
      case oG=>first|(rw[rT oQ,<-qL])|(rw[rY oQ,<-qL])
      case zq=>first|(rw[rT jF,<-rD])|(rw[rY jF,<-rD])
      case kx=>omega
     ·refine Ue rfl (bj (ah [0,5,6,7,16,17,18] rfl (U3 (U0 rfl (af 0 rfl (Ug rfl rfl rfl (by first|omega|(simp only[ls];omega))) ?_)))))
      refine ag 1 1 rfl rfl (U5 rfl (aO ?_))
      intro au aq
      refine⟨_,?kv,⟨i+1,ab,be,mp ((Ud d (ga f i).a (!(ga f i).b)).1:Int) true es,rfl,aq.sub ⟨rfl,rfl,rfl,rfl,rfl,rfl,rfl,trivial⟩,bU.pick [0] [_] (by decide) ⟨rfl,trivial⟩,?fC,?gp,?mV,?Ig⟩⟩
      case fC=>omega
      case gp=>(rw[hes];rfl)
      case mV=>first|(rw[rT oQ,<-qL])|(rw[rY oQ,<-qL])
      case Ig=>first|(rw[rT jF,<-rD])|(rw[rY jF,<-rD])
      case kv=>omega
   ·refine bP rfl rfl (ah [5,6,7] rfl (U3 (U2 avA avz rfl rfl rfl ?_)))
    obtain rfl:i=3:=by omega
    have hel:es.length=(esN d f 3).length:=by rw[hes]
    refine U0 rfl (ag 0 1 rfl rfl (af 1 rfl (ahy (i:=0) rfl rfl rfl rfl rfl rfl CW S2 rfl) (af 2 rfl (bR rfl rfl rfl) (ag 3 1 rfl rfl ?_))))
    refine Uw (t:=47) rfl (fun pP=>?_) (fun pP=>?_)
    ·refine ag 4 1 rfl rfl (aH 5 6 rfl rfl rfl rfl rfl rfl rfl rfl (Ub rfl rfl (bR rfl rfl rfl) (ag 6 2 rfl rfl ?_)))
     refine Uw (t:=51) rfl (fun xn=>?_) (fun xn=>?_)
     ·refine ag 8 1 rfl rfl (aH 9 10 rfl rfl rfl rfl rfl rfl rfl rfl (Ub rfl rfl (bR rfl rfl rfl) (ag 10 2 rfl rfl (U5 rfl (ah [4] rfl (U3 (Uk hC [_] rfl rfl ⟨rfl,trivial⟩ ?_)))))))
      exact⟨_,rfl,(S2.pick [] [] (by decide) trivial),(by show Value.bool _=Value.bool _;refine congrArg Value.bool ?_;unfold kZ;first|(refine decide_eq_decide.2 ?_;omega)|(symm;rw[decide_eq_false_iff_not];omega))⟩
     ·refine ag 8 4 rfl rfl (U5 rfl (ah [4] rfl (U3 (Uk hC [_] rfl rfl ⟨rfl,trivial⟩ ?_))))
      exact⟨_,rfl,(S2.pick [] [] (by decide) trivial),(by show Value.bool _=Value.bool _;refine congrArg Value.bool ?_;unfold kZ;first|(refine decide_eq_decide.2 ?_;omega)|(symm;rw[decide_eq_false_iff_not];omega))⟩
    ·refine ag 4 6 rfl rfl (ag 10 2 rfl rfl (U5 rfl (ah [4] rfl (U3 (Uk hC [_] rfl rfl ⟨rfl,trivial⟩ ?_)))))
     exact⟨_,rfl,(S2.pick [] [] (by decide) trivial),(by show Value.bool _=Value.bool _;refine congrArg Value.bool ?_;unfold kZ;first|(refine decide_eq_decide.2 ?_;omega)|(symm;rw[decide_eq_false_iff_not];omega))⟩
noncomputable def Qe:=Tryz.f128.body.getD .skip
def avy:=cL Qe
def Qd:=cR Qe
def avx:=cL Qd
def avw:=cR Qd
set_option maxRecDepth 10000 in
theorem BV{w:World}{M:Hp}{X:Fr}(x:Nat×Nat)(hx:x.2<4)(S:SH w M X []):Cq Tryz.prog 128 [.agg [.int .i64 (x.1:Int),.int .i64 (x.2:Int)].toArray] w M X (fun u=>u=.agg [.int .i64 ((bH x).1:Int),.int .i64 ((bH x).2:Int)].toArray):=by
 unfold Cq
 refine Up (b:=Qe) Tryz.func128 rfl Tryz.ntmps128 rfl (fun C hC=>(bq [(0,_)] ⟨rfl,trivial⟩ (U2 avy Qd rfl rfl rfl (U0 rfl (ak 0 1 rfl rfl rfl (bE (l:=[_,_]) rfl rfl rfl rfl rfl S ?_))))))
 intro aI w1 S1;clear S
 refine ak 1 2 rfl rfl rfl (Uh (l:=[_,_]) rfl rfl rfl oC rfl S1 ?_)
 intro aQ w2 S2;clear S1
 refine U5 rfl (ah [1,2] rfl (U3 (U2 avx avw rfl rfl rfl (U0 rfl (af 0 rfl (U1 rfl rfl cO rfl (aC) (aB)) (af 1 rfl (U4 rfl rfl av rfl (S2.ar (i:=1) rfl rfl)) (af 2 rfl (U1 rfl rfl cO rfl (aC) (aB)) (af 3 rfl (U4 rfl rfl av rfl (S2.ar (i:=1) rfl rfl)) ?_))))))))
 refine af 4 rfl (Ug rfl rfl rfl (by first|omega|(simp only[ls];omega))) ?_
 refine af 5 rfl (jY rfl rfl rfl (by first|omega|(simp only[ls];omega))) ?_
 refine cy 8 (.int .i64 (((x.2+2)%4:Nat):Int)) rfl (int_eq (by omega)) ?_
 refine af 6 rfl (run_build (l:=[_,_]) rfl rfl H6 rfl rfl) (ak 7 8 rfl rfl rfl (U6 (i:=0) (us:=[_,_]) (l':=[_,_]) (H':=[_,_]) rfl rfl S2 rfl rfl rfl rfl eA rfl rfl rfl rfl ?_))
 intro w3 S3;clear S2
 refine U5 rfl (ah [2] rfl (U3 (Uk hC [_] rfl rfl ⟨⟨_,rfl,Um (us:=[_,_]) cO rfl eA (S3.aw (i:=0) rfl ⟨rfl,rfl,trivial⟩)⟩,trivial⟩ ?_)))
 exact⟨_,rfl,(S3.pick [] [] (by decide) trivial),(by rfl)⟩
end Go.Proofs.YthppkofceancjaaGreat
namespace Go.Proofs.YthppkofceancjaaGreat
open Go.ChangeShapes Go.WideShapes Go.ChangeAt Go.RowKit
section
variable {κ ε : Type} [DecidableEq κ]
theorem IA(k:κ)(v:ε):∀(es:List (κ×ε)) (i:Nat),fk k (mp k v es) i=some (((fk k es i).map (·.1)).getD (i+es.length),v)
 |[],i=>by simp[mp,fk]
 |p::r,i=>by
  unfold mp
  by_cases h:k=p.1
  ·rw[if_pos h];simp[fk,h]
  ·rw[if_neg h]
   simp only[fk,if_neg h,IA k v r (i+1),List.length_cons]
   rw[show i+1+r.length=i+(r.length+1) by omega]
theorem am8{k:κ}:∀{es:List (κ×ε)}{j:Nat}{v:ε},fk k es 0=some (j,v)->es[j]? =some (k,v):=by
 have key:∀(es:List (κ×ε)) (i j:Nat) (v:ε),fk k es i=some (j,v)->∃m,j=i+m/\es[m]? =some (k,v):=by
  intro es
  induction es with
  |nil=>intro i j v h;cases h
  |cons p r ih=>
   intro i j v h
   unfold fk at h
   split at h
   ·rename_i he
    injection h with h
    injection h with h1 h2
    exact⟨0,by omega,by subst he;subst h2;rfl⟩
   ·obtain⟨m,h1,h2⟩:=ih _ _ _ h
    exact⟨m+1,by omega,by simpa using h2⟩
 intro es j v h
 obtain⟨m,h1,h2⟩:=key es 0 j v h
 obtain rfl:j=m:=by omega
 exact h2
theorem adk(k:κ)(v v':ε):∀es:List (κ×ε),mp k v (mp k v' es)=mp k v es
 |[]=>by simp[mp]
 |p::r=>by
  by_cases h:k=p.1
  ·simp[mp,h]
  ·simp[mp,h,adk k v v' r]
theorem abC{st:Nat}:∀{l:List MapEntry}{j:Nat},(l.map (·.born)).Nodup->(l[j]?).map (·.born)=some st->l.findIdx? (fun e=>((e.born:Nat):Int)==(st:Int))=some j
 |[],_,_,h=>by simp at h
 |e::l,0,_,h=>by
  have h1:e.born=st:=by simpa using h
  rw[List.findIdx?_cons,if_pos (by simp[h1])]
 |e::l,j+1,hn,h=>by
  obtain⟨h1,h2⟩:=List.nodup_cons.1 (by simpa using hn:(e.born::l.map (·.born)).Nodup)
  have h3:(l[j]?).map (·.born)=some st:=by simpa using h
  have hne:e.born≠st:=fun e1=>h1 (by
   cases hl:l[j]? with
   |none=>rw[hl]at h3;cases h3
   |some y=>
    rw[hl]at h3
    injection h3 with h3
    exact List.mem_map.2 ⟨y,List.mem_of_getElem? hl,(show y.born=e.born from by rw[e1];exact h3)⟩)
  rw[List.findIdx?_cons,if_neg (by simpa using fun e1=>hne (by omega)),abC h2 h3]
  rfl
theorem aiR{α:Type}{l:List α}{j:Nat}{a:α}(h:l[j]? =some a):l.set j a=l:=by
 apply List.ext_getElem?
 intro q
 rw[List.getElem?_set]
 split
 ·rename_i e
  subst e
  rw[h,if_pos (List.getElem?_eq_some_iff.1 h).1]
 ·rfl
def MpS(kc:κ->Value)(vc:ε->Value)(g:Nat)(es:List (κ×ε))(k:κ)(st:Nat)(h:Hp):Prop:=
 ∃arr clock,h g=some (.map arr clock)/\arr.toList.map (fun e=>(e.key,e.val))=es.map (fun p=>(kc p.1,vc p.2))/\yx arr clock/\∃j v,fk k es 0=some (j,v)/\(arr[j]?).map (·.born)=some st
def Rs.AR(kc:κ->Value)(vc:ε->Value)(g:Nat)(es:List (κ×ε))(k:κ)(st:Nat):Rs:=
 ⟨[g],MpS kc vc g es k st,fun h h' hb hk=>by
  obtain⟨arr,clock,h1,h2⟩:=hk
  exact⟨arr,clock,by rw[hb g (by simp)];exact h1,h2⟩⟩
end
section
variable {P : Program} {o : Oper} {L : List (Nat × Value)} {w w' : World} {x y z : Operand} {t T K E : TypeId} {v u : Value} {n d g i : Nat} {Kt : List (Nat × Value) → World → Prop} {M M' : Hp} {X : Fr} {H H' : List Rs}
variable {κ ε : Type} [DecidableEq κ] {kc : κ → Value} {vc : ε → Value} {es : List (κ × ε)}
theorem ahi{k:κ}{zv:ε}(hop:o.op=.mapEntry T x y)(hd:o.dst=some d)(hn:Nat.blt d n=true)(S:SH w M X H)(hi:nth H i=some (Rs.mp kc vc g es))(hx:oev L x=some (.map (some g)))(hy:oev L y=some (kc k))(hu:P.underlying T=some (.map K E))(hK:qX P K kc)(hz:(P.info? E).map (·.zero)=some (some (vc zv)))
  (h:∀(st:Nat) w',SH w' M X (H.set i (Rs.AR kc vc g (Go.Proofs.YthppkofceancjaaGreat.mp k ((mg k es).getD zv) es) k st))->Kt ((d,.tuple #[vc ((mg k es).getD zv),.int .i64 (st:Int)])::L) w'):WO P n o L w Kt:=by
 obtain⟨arr,clock,hg,ha,kQ⟩:=(S.get hi:na kc vc g es (hp w))
 have hf:=hK.find k _ arr.toList w (Gd ha)
 rw[CP]at hf
 have hg':w.heap[g]? =some (.map arr clock):=hg
 have hgo:=MapKept.run_getObj_map (P:=P) hg'
 have hc:=fun b=>hK.check k w b
 have hlen:arr.toList.length=es.length:=by have:=congrArg List.length ha;simpa using this
 have key:∃mG clock' st,(Instr.mapEntry T (.map (some g)) (kc k)).run P w=.ok (.tuple #[vc ((mg k es).getD zv),.int .i64 ((st:Nat):Int)]) {w with heap:=w.heap.setIfInBounds g (.map mG clock')}/\mG.toList.map (fun e=>(e.key,e.val))=(Go.Proofs.YthppkofceancjaaGreat.mp k ((mg k es).getD zv) es).map (fun p=>(kc p.1,vc p.2))/\yx mG clock'/\∃j v,fk k (Go.Proofs.YthppkofceancjaaGreat.mp k ((mg k es).getD zv) es) 0=some (j,v)/\(mG[j]?).map (·.born)=some st:=by
  cases jv:fk k es 0 with
  |none=>
   rw[jv]at hf
   have hm:=(yU jv).1
   rw[hm,Option.getD_none]
   refine⟨arr.push {key:=kc k,val:=vc zv,born:=clock},clock+1,clock,?_,?_,?_,?_⟩
   ·simp only[Instr.mapEntry,Sem.run_bind,run_underlying hu,hgo,hc,hf,Result.andThen_ok,Option.map_none,yJ hz,MapKept.run_setObj_map _ hg',Sem.run_pure]
    rfl
   ·rw[(yU jv).2 zv,Array.toList_push,List.map_append,List.map_append,ha];rfl
   ·refine⟨?_,fun x hx=>?_⟩
    ·rw[Array.toList_push,List.map_append]
     refine List.nodup_append.2 ⟨kQ.1,by simp,fun a ha' b hb'=>?_⟩
     obtain⟨x,hx,rfl⟩:=List.mem_map.1 ha'
     simp at hb'
     have:=kQ.2 x hx
     omega
    ·rw[Array.toList_push]at hx
     rcases List.mem_append.1 hx with h1|h1
     ·have:=kQ.2 x h1;omega
     ·simp at h1;subst h1;exact Nat.lt_succ_self _
   ·refine⟨_,_,IA k zv es 0,?_⟩
    rw[jv]
    show((arr.push _)[0+es.length]?).map _=_
    rw[Nat.zero_add,<-hlen,Array.length_toList,Array.getElem?_push_size]
    rfl
  |some q=>
   obtain⟨j,v⟩:=q
   rw[jv]at hf
   obtain⟨hm,m,hj,p,hp1,hp2,mA⟩:=yT jv
   obtain rfl:j=m:=by omega
   have hjl:j<es.length:=(List.getElem?_eq_some_iff.1 hp1).1
   have hja:j<arr.size:=by rw[<-Array.length_toList,hlen];exact hjl
   have Fl:(arr[j]?).map (fun e=>(e.key,e.val))=some (kc p.1,vc p.2):=by
    have h1:=congrArg (fun l=>l[j]?) ha
    simp only[List.getElem?_map,hp1,Option.map_some]at h1
    rw[Array.getElem?_toList]at h1
    exact h1
   rw[Array.getElem?_eq_getElem hja,Option.map_some,Option.some.injEq,Prod.mk.injEq]at Fl
   rw[hp2]at Fl
   have RB:=am8 jv
   have hv:p.2=v:=by rw[hp1]at RB;simp at RB;rw[RB]
   have amF:(arr.modify j fun e'=>{e' with key:=kc k})=arr:=by
    apply Array.ext'
    apply List.ext_getElem?
    intro q
    rw[Array.getElem?_toList,Array.getElem?_modify,Array.getElem?_toList]
    by_cases hq:j=q
    ·subst hq
     rw[if_pos rfl,Array.getElem?_eq_getElem hja,Option.map_some,<-Fl.1]
    ·rw[if_neg hq]
   rw[hm,Option.getD_some]
   refine⟨arr,clock,arr[j].born,?_,?_,kQ,j,v,?_,by rw[Array.getElem?_eq_getElem hja];rfl⟩
   ·have hst:(Instr.keyThatStays (kc k) (kc k)).run P w=.ok (kc k) w:=by
     unfold Instr.keyThatStays
     rw[if_pos (hK.bits k)];rfl
    have hkey:(arr[j]?).map (·.key)=some (kc k):=by rw[Array.getElem?_eq_getElem hja,Option.map_some,Fl.1]
    simp only[Instr.mapEntry,Sem.run_bind,run_underlying hu,hgo,hc,hf,Result.andThen_ok,Option.map_some,hkey,Option.getD_some,hst,MapKept.run_setObj_map _ hg',amF,Sem.run_pure]
    rw[Array.getElem?_eq_getElem hja]
    rfl
   ·rw[mA v,ha]
    have h4:es.set j (k,v)=es:=by
     rw[<-hp2,<-hv]
     exact aiR hp1
    rw[h4]
   ·have h5:=IA k v es 0
    rw[jv]at h5
    exact h5
 obtain⟨mG,clock',st,hrun,Hw,Ib,aom⟩:=key
 have hlt:=iz hg
 refine Ub (v:=.tuple #[vc ((mg k es).getD zv),.int .i64 ((st:Nat):Int)]) (w':={w with heap:=w.heap.setIfInBounds g (.map mG clock')}) hd hn ?_ (h st _ ?_)
 ·intro n c he
  unfold execOp
  simp only[hop,he.eval hx,he.eval hy,hrun,Sem.run_bind,Result.andThen_ok,Sem.run_pure]
 ·refine S.step hi rfl (Ge w g _) (fun b _ hb=>?_) ⟨mG,clock',?_,Hw,Ib,aom⟩ (fun b hb=>⟨.inl hb,?_⟩)
  ·have hne:b≠g:=by simpa[Rs.mp]using hb
   show(w.heap.setIfInBounds g _)[b]? =w.heap[b]?
   rw[Array.getElem?_setIfInBounds_ne (Ne.symm hne)]
  ·show(w.heap.setIfInBounds g _)[g]? =_
   simp[hlt]
  ·simp[Rs.AR]at hb
   subst hb
   show _<(w.heap.setIfInBounds _ _).size
   simpa using hlt
theorem ag7{k:κ}{e:ε}{st:Nat}(hop:o.op=.entryStore T x y z)(hd:o.dst=none)(S:SH w M X H)(hi:nth H i=some (Rs.AR kc vc g es k st))(hx:oev L x=some (.map (some g)))(hy:oev L y=some (.int .i64 (st:Int)))(hz:oev L z=some (vc e))
  (hH:H.set i (Rs.mp kc vc g (Go.Proofs.YthppkofceancjaaGreat.mp k e es))=H')(h:∀w',SH w' M X H'->Kt L w'):WO P n o L w Kt:=by
 obtain⟨arr,clock,hg,ha,kQ,j,v,jv,hb⟩:=(S.get hi:MpS kc vc g es k st (hp w))
 have hg':w.heap[g]? =some (.map arr clock):=hg
 have hgo:=MapKept.run_getObj_map (P:=P) hg'
 have hlen:arr.toList.length=es.length:=by have:=congrArg List.length ha;simpa using this
 obtain⟨hm,m,hj,p,hp1,hp2,mA⟩:=yT jv
 obtain rfl:j=m:=by omega
 have hjl:j<es.length:=(List.getElem?_eq_some_iff.1 hp1).1
 have hja:j<arr.size:=by rw[<-Array.length_toList,hlen];exact hjl
 have hkey:arr[j].key=kc k:=by
  have h1:=congrArg (fun l=>l[j]?) ha
  simp only[List.getElem?_map,hp1,Option.map_some]at h1
  rw[Array.getElem?_toList,Array.getElem?_eq_getElem hja]at h1
  simp only[Option.map_some,Option.some.injEq,Prod.mk.injEq]at h1
  rw[h1.1,hp2]
 rw[Array.getElem?_eq_getElem hja,Option.map_some,Option.some.injEq]at hb
 have aoH:arr.findIdx? (fun e=>((e.born:Nat):Int)==(st:Int))=some j:=by
  obtain⟨la⟩:=arr
  rw[show(Array.mk la).findIdx? (fun e=>((e.born:Nat):Int)==(st:Int))=la.findIdx? (fun e=>((e.born:Nat):Int)==(st:Int))from by simp]
  exact abC kQ.1 (by rw[Array.getElem?_toList,Array.getElem?_eq_getElem hja,Option.map_some,hb])
 have hrun:(Instr.entryStore T (.map (some g)) (.int .i64 (st:Int)) (vc e)).run P w=.ok () {w with heap:=w.heap.setIfInBounds g (.map (arr.modify j fun e'=>{e' with val:=vc e}) clock)}:=by
  simp[Instr.entryStore,hgo,asInt,asIntOf,aoH,MapKept.run_setObj_map _ hg',Result.andThen]
 have hlt:=iz hg
 refine Cs hd (w':={w with heap:=w.heap.setIfInBounds g (.map (arr.modify j fun e'=>{e' with val:=vc e}) clock)}) ?_ (h _ ?_)
 ·intro n c he
  unfold execOp
  simp only[hop,he.eval hx,he.eval hy,he.eval hz,hrun,Sem.run_bind,Result.andThen_ok,Sem.run_pure]
 ·refine S.step hi hH (Ge w g _) (fun b _ hb=>?_) ⟨arr.modify j fun e'=>{e' with val:=vc e},clock,?_,?_,?_⟩ (fun b hb=>⟨.inl hb,?_⟩)
  ·have hne:b≠g:=by simpa[Rs.AR]using hb
   show(w.heap.setIfInBounds g _)[b]? =w.heap[b]?
   rw[Array.getElem?_setIfInBounds_ne (Ne.symm hne)]
  ·show(w.heap.setIfInBounds g _)[g]? =_
   simp[hlt]
  ·rw[mA e]
   apply List.ext_getElem?
   intro q
   have h1:=congrArg (fun l=>l[q]?) ha
   simp only[List.getElem?_map]at h1 ⊢
   rw[Array.getElem?_toList,Array.getElem?_modify,List.getElem?_set]
   rw[Array.getElem?_toList]at h1
   by_cases hq:j=q
   ·subst hq
    rw[if_pos rfl,if_pos rfl,if_pos hjl,Array.getElem?_eq_getElem hja]
    simp only[Option.map_some,hkey]
   ·rw[if_neg hq,if_neg hq]
    exact h1
  ·have Fv:(arr.modify j fun e'=>{e' with val:=vc e}).toList.map (·.born)=arr.toList.map (·.born):=by
    apply List.ext_getElem?
    intro q
    simp only[List.getElem?_map]
    rw[Array.getElem?_toList,Array.getElem?_modify,Array.getElem?_toList]
    by_cases hq:j=q
    ·subst hq;rw[if_pos rfl,Array.getElem?_eq_getElem hja];rfl
    ·rw[if_neg hq]
   refine⟨by rw[Fv];exact kQ.1,fun x hx=>?_⟩
   have h2:x.born∈arr.toList.map (·.born):=by rw[<-Fv];exact List.mem_map.2 ⟨x,hx,rfl⟩
   obtain⟨y,hy,e2⟩:=List.mem_map.1 h2
   rw[<-e2];exact kQ.2 y hy
  ·simp[Rs.mp]at hb
   subst hb
   show _<(w.heap.setIfInBounds _ _).size
   simpa using hlt
end
section
variable {P : Program} {ops : Array Oper} {Q : Exit → Act → World → Prop} {md : Region.Mode} {X : Fr}
end
section
variable {P : Program} {n : Nat} {C : Ctx} {c : Code} {s : List K} {L : List (Nat × Value)} {w : World} {Mb M : Hp} {X : Fr} {Hb H : List Rs} {l : Array Bool} {f : Nat}
end
section
variable {P : Program} {n : Nat} {C : Ctx} {c : Code} {s : List K} {L : List (Nat × Value)} {w : World} {M : Hp} {X : Fr} {H : List Rs}
end
end Go.Proofs.YthppkofceancjaaGreat
