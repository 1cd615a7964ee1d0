/- Part 9 of the proof of the law MovesRows: the walks through its functions and the plain laws that they need. -/
import Derived.Test.YthppkofceancjaaGreatMxZ8
set_option linter.unusedSimpArgs false
set_option linter.unusedVariables false
noncomputable section
namespace Go.Proofs.YthppkofceancjaaGreat
open Go.ChangeShapes Go.WideShapes Go.ChangeAt Go.RowKit
def mj(u v:Da)(x:List Da):Bool:=x.any (nR u)&&x.any (nR v)
def mB(m:Mv)(F:Nat->Int)(u:Nat):Cr:=if m.ov=true then kR F (ek m.vb 0 2) u else kR F u (ek m.vb 0 2)
def fT(d:Dg)(m:Mv):Int:=if(1<=m.ua/\m.ua<=2*(d.ae.length:Int))/\(1<=m.va/\m.va<=2*(d.ae.length:Int))then(if m.ua≠m.va/\(U6 d).any (mj (⟨m.ua,m.ub⟩:Da) (⟨m.va,m.vb⟩:Da))=true then(if(d.ae.length:Int)+2<=16 then 0 else 2)else 8)else 3
def tU(d:Dg)(m:Mv):Dg:=⟨bg (bg d.ae (Ud d m.ua false).1 (Ud d m.ua false).2 (2*(d.ae.length:Int)+2)) (Ud d m.va false).1 (Ud d m.va false).2 (2*(d.ae.length:Int)+4)++[mB m (fun k=>ga ([aO (⟨m.va,m.vb⟩:Da) (2*(d.ae.length:Int)+3) 1,aO (⟨m.ua,m.ub⟩:Da) (2*(d.ae.length:Int)+1) 1,aO (⟨m.va,m.vb⟩:Da) (2*(d.ae.length:Int)+3) 2,aO (⟨m.ua,m.ub⟩:Da) (2*(d.ae.length:Int)+1) 0]:List Int) k) (ek m.ub 3 1)]++[mB m (fun k=>ga ([aO (⟨m.va,m.vb⟩:Da) (2*(d.ae.length:Int)+3) 0,aO (⟨m.ua,m.ub⟩:Da) (2*(d.ae.length:Int)+1) 1,aO (⟨m.va,m.vb⟩:Da) (2*(d.ae.length:Int)+3) 1,aO (⟨m.ua,m.ub⟩:Da) (2*(d.ae.length:Int)+1) 2]:List Int) k) (ek m.ub 1 3)],d.loops⟩
noncomputable def Pp:=Tryz.f118.body.getD .skip
def Zzb:=cL Pp
def Po:=cR Pp
def Zzd:=cL Po
def Zze:=cR Po
set_option maxRecDepth 10000 in
theorem aie{w:World}{M:Hp}{X:Fr}(s:List Da){sA:Option Addr}{sc:Nat}(m:Mv){gm:Nat}(hs:aF bW (M.un X.h) sA sc s)(oC:cM (M.un X.h) gm 28 [.int .i64 m.kd,.int .i64 m.at_,.int .i64 m.aJ,.int .i64 m.ua,.bool m.ub,.int .i64 m.va,.bool m.vb,.bool m.ov])(S:SH w M X []):Cq Tryz.prog 118 [.slice sA s.length sc,.pointer (some ⟨gm,0,none⟩)] w M X (fun u=>u=.bool (mj (⟨m.ua,m.ub⟩:Da) (⟨m.va,m.vb⟩:Da) s)):=by
 unfold Cq
 have sU:s.length*16<=140737488355328:=hs.room
 refine Up (b:=Pp) Tryz.func118 rfl Tryz.ntmps118 rfl (fun C hC=>(bq [(0,_),(1,_)] ⟨rfl,rfl,trivial⟩ (U2 Zzb Po rfl rfl rfl (U0 rfl (ag 0 1 rfl rfl (U5 rfl (ah [0,1] rfl (U3 (U2 Zzd Zze rfl rfl rfl ?_)))))))))
 refine U0 rfl (ag 0 1 rfl rfl (af 1 rfl (U1 rfl rfl aR rfl (fF) (fC)) (af 2 rfl (U8 (us:=[_,_]) rfl rfl aZ rfl cg (oC.cells S.um ⟨rfl,rfl,trivial⟩)) (ak 3 4 rfl rfl rfl (cC rfl rfl rfl rfl rfl rfl rfl acT S (aah s (⟨m.ua,m.ub⟩:Da) (hs.mono S.Uw) S.aD) ?_)))))
 rintro _ w1 S1 rfl;clear S
 refine ag 4 1 rfl rfl ?_
 refine mX (t:=8) rfl (fun zm=>?_) (fun zm=>?_)
 ·refine ag 5 1 rfl rfl (aH 6 7 rfl rfl rfl rfl rfl rfl rfl rfl (Ub rfl rfl (U1 rfl rfl aR rfl (fF) (fC)) (aH 7 8 rfl rfl rfl rfl rfl rfl rfl rfl (Ub rfl rfl (U8 (us:=[_,_]) rfl rfl aZ rfl cg (oC.cells S1.um ⟨rfl,rfl,trivial⟩)) (aH 8 9 rfl rfl rfl rfl rfl rfl rfl rfl (cC rfl rfl rfl rfl rfl rfl rfl acT S1 (aah s (⟨m.va,m.vb⟩:Da) (hs.mono S1.Uw) S1.aD) ?_))))))
  rintro _ w2 S2 rfl;clear S1
  refine ag 9 2 rfl rfl (U5 rfl (ah [3] rfl (U3 (Uj hC [_] rfl rfl ⟨rfl,trivial⟩ ?_))))
  exact⟨_,rfl,(S2.pick [] [] (by decide) trivial),(by show Value.bool _=_;unfold mj;rw[zm];rfl)⟩
 ·refine ag 5 6 rfl rfl (U5 rfl (ah [3] rfl (U3 (Uj hC [_] rfl rfl ⟨rfl,trivial⟩ ?_))))
  exact⟨_,rfl,(S1.pick [] [] (by decide) trivial),(by show Value.bool _=_;unfold mj;rw[zm];rfl)⟩
noncomputable def Pn:=Tryz.f121.body.getD .skip
def Zzg:=cL Pn
def Pm:=cR Pn
def Zzi:=cL Pm
def Pk:=cR Pm
def Zzk:=cL Pk
def Pj:=cR Pk
def Zzm:=cL Pj
def Zzn:=cR Pj
set_option maxHeartbeats 1000000 in
set_option maxRecDepth 10000 in
theorem abD{w:World}{M:Hp}{X:Fr}(F:Nat->Int)(u:Nat)(m:Mv){gm:Nat}{bu ggs gx:Nat}{bz fV lV iV oV:Value}(xs:List Cr)(oC:cM (M.un X.h) gm 28 [.int .i64 m.kd,.int .i64 m.at_,.int .i64 m.aJ,.int .i64 m.ua,.bool m.ub,.int .i64 m.va,.bool m.vb,.bool m.ov])(ja:cM (M.un X.h) gx 55 [.pointer (some ⟨bu,0,none⟩)])(hu:u<4)(hl:xs.length<=20)(S:SH w M X [Rs.aW [Rs.box bu 67 [.pointer (some ⟨ggs,0,none⟩),fV],Rs.box ggs 70 [bz,lV,iV,oV],Rs.row aG bz xs]]):C1 Tryz.prog 121 [.agg [.int .i64 (F 0),.int .i64 (F 1),.int .i64 (F 2),.int .i64 (F 3)].toArray,.int .i64 (u:Int),.pointer (some ⟨gm,0,none⟩),.pointer (some ⟨gx,0,none⟩)] w M X (fun _ M' r'=>M'=M/\∃v',r'=Rs.aW [Rs.box bu 67 [.pointer (some ⟨ggs,0,none⟩),fV],Rs.box ggs 70 [v',lV,iV,oV],Rs.row aG v' (xs++[mB m F u])]):=by
 unfold C1
 replace S:=S.jT
 refine Up (b:=Pn) Tryz.func121 rfl Tryz.ntmps121 rfl (fun C hC=>(bq [(0,_),(1,_),(2,_),(3,_)] ⟨rfl,rfl,rfl,rfl,trivial⟩ (U2 Zzg Pm rfl rfl rfl (U0 rfl (ak 0 1 rfl rfl rfl (bA (l:=[_,_,_,_]) rfl rfl rfl rfl rfl S ?_))))))
 intro aI w1 S1;clear S
 refine U5 rfl (ah [1,2,3,4] rfl (U3 (U2 Zzi Pk rfl rfl rfl (U0 rfl (af 0 rfl (U1 rfl rfl aR rfl (fF) (fC)) (af 1 rfl (U1 rfl rfl aZ rfl (fI) (fH)) (af 2 rfl (U4 rfl rfl dh rfl (oC.cell S1.um rfl)) (ak 3 4 rfl rfl rfl (cC rfl rfl rfl rfl rfl rfl rfl F9 S1 (Ew m.vb 0 2 S1.aD) ?_)))))))))
 rintro _ w2 S2 rfl;clear S1
 refine ag 4 1 rfl rfl (U5 rfl (ah [1,2,3,4,6] rfl (U3 (U2 Zzk Pj rfl rfl rfl (U0 rfl (af 0 rfl (U1 rfl rfl aR rfl (fI) (fH)) (af 1 rfl (U4 rfl rfl dh rfl (oC.cell S2.um rfl)) (U5 rfl ?_))))))))
 refine ah [1,3,4,6,12] rfl (U3 ?_)
 refine cS Zzm Zzn rfl rfl rfl rfl (fun G7=>?_) (fun G7=>?_)
 ·have S3:=S2.pick [3,0,1,2] [_,_,_,_] (by decide) ⟨rfl,rfl,rfl,rfl,trivial⟩;clear S2
  refine ki [_] [_,_,_] rfl (by kernel_rfl) S3 22 rfl ?_
  clear S3
  change WA _ _ _ _ _ _ _ _ _ _ _ _ [_,_,_,_]
  refine aj 0 21 rfl (by kernel_rfl) (fun _ _ _ hz Sz=>.inl (U4 rfl rfl iB rfl ((ja.mono (Hp.Ua hz Sz.mx)).cell Sz.um rfl))) ?_
  refine ai 1 20 rfl (by kernel_rfl) (fun _=>U9 rfl rfl) ?_
  refine ai 2 19 rfl (by kernel_rfl) (fun _=>U1 rfl rfl cz rfl (cP) (cO)) ?_
  refine aj 3 18 rfl (by kernel_rfl) (fun _ _ _ hz Sz=>.inl (U4 rfl rfl cE rfl (Sz.suf.ar (i:=1) rfl rfl))) ?_
  refine aj 4 17 rfl (by kernel_rfl) (fun _ _ _ hz Sz=>.inl (U4 rfl rfl iB rfl ((ja.mono (Hp.Ua hz Sz.mx)).cell Sz.um rfl))) ?_
  refine ai 5 16 rfl (by kernel_rfl) (fun _=>U9 rfl rfl) ?_
  refine ai 6 15 rfl (by kernel_rfl) (fun _=>U1 rfl rfl cz rfl (cP) (cO)) ?_
  refine aj 7 14 rfl (by kernel_rfl) (fun _ _ _ hz Sz=>.inl (U4 rfl rfl cE rfl (Sz.suf.ar (i:=1) rfl rfl))) ?_
  refine ai 8 13 rfl (by kernel_rfl) (fun _=>U9 rfl rfl) ?_
  refine ai 9 12 rfl (by kernel_rfl) (fun _=>U1 rfl rfl cU rfl (eF) (eB)) ?_
  refine ai 10 11 rfl (by kernel_rfl) (fun _=>U1 rfl rfl ay rfl (bK) (bJ)) ?_
  refine aj 11 10 rfl (by kernel_rfl) (fun _ _ _ hz Sz=>.inl (U4 rfl rfl bG rfl (Sz.suf.ar (i:=2) rfl rfl))) ?_
  refine aj 12 9 rfl (by kernel_rfl) (fun _ _ _ hz Sz=>.inl (U8 (us:=[_,_,_,_]) rfl rfl sx rfl acz (Sz.suf.ax (i:=0) rfl ⟨rfl,rfl,rfl,rfl,trivial⟩))) ?_
  refine ai 13 8 rfl (by kernel_rfl) (fun _=>run_move rfl rfl) ?_
  refine ai 14 7 rfl (by kernel_rfl) (fun _=>run_move rfl rfl) ?_
  refine aj 15 6 rfl (by kernel_rfl) (fun _ _ _ hz Sz=>Uq rfl rfl rfl rfl rfl acQ Sz (aaz F (ek m.vb 0 2) u (by first|assumption|omega|(unfold ek;split<;>omega)) Sz.aD)) ?_
  refine Un (i:=16) 5 rfl (by kernel_rfl) rfl rfl (fun tS dt=>?_)
  refine(iy (C:=aG) (l:=[_,_,_,_,_]) rfl rfl rfl rfl b8 rfl rfl rfl rfl dt ?_)
  intro aQ tQ dz;clear dt
  refine aN.grow [_,_] (Hp.le_refl _) dz ?_;clear dz
  change WA _ _ _ _ _ _ _ _ _ _ _ _ [_,_,_,_,_]
  refine Un (i:=17) 4 rfl (by kernel_rfl) rfl rfl (fun rB cK=>?_)
  refine(jg (C:=aG) (i:=1) (q:=0) (⟨(kR F (ek m.vb 0 2) u).a,(kR F (ek m.vb 0 2) u).b,(kR F (ek m.vb 0 2) u).c,(kR F (ek m.vb 0 2) u).d,(kR F (ek m.vb 0 2) u).plus⟩:Cr) rfl rfl rfl rfl rfl rfl rfl rfl b8 cK rfl rfl rfl (by show(_+1)*40<=_;first|omega|(simp only[ls];omega)) ?_)
  intro al8 De cv;clear cK
  have fw:=cv.pick [1,2,3,4] [_,_,_,_] (by decide) ⟨rfl,rfl,rfl,rfl,trivial⟩;clear cv
  refine aN.grow [_] (Hp.le_refl _) fw ?_;clear fw
  change WA _ _ _ _ _ _ _ _ _ _ _ _ [_,_,_,_]
  refine ai 18 3 rfl (by kernel_rfl) (fun _=>U9 rfl rfl) ?_
  refine ai 19 2 rfl (by kernel_rfl) (fun _=>U1 rfl rfl cU rfl (eF) (eB)) ?_
  refine ai 20 1 rfl (by kernel_rfl) (fun _=>U1 rfl rfl ay rfl (bK) (bJ)) ?_
  refine Un (i:=21) 0 rfl (by kernel_rfl) rfl rfl (fun pX fu=>?_)
  refine(U7 (i:=3) (us:=[_]) (l':=[_,_,_,_]) (H':=[_,_,_,_]) rfl rfl fu rfl rfl rfl (fu.jx (i:=0) rfl) kZ rfl (Uy (fu.one (i:=0) rfl) rfl) rfl rfl ?_)
  intro tP nj;clear fu
  refine aN.turn (by kernel_rfl) nj ?_;clear nj
  change WA _ _ _ _ _ _ _ _ _ _ _ _ [_,_,_,_]
  refine Uu (by kernel_rfl) (fun vL gB=>?_)
  refine gI hC [] rfl trivial ?_
  refine⟨_,rfl,_,_,Hp.le_refl _,(gB.pick [2,3,0] [_,_,_] (by decide) ⟨rfl,rfl,rfl,trivial⟩).aW,?_⟩
  have e8:mB m F u=kR F (ek m.vb 0 2) u:=by unfold mB;rw[if_pos G7]
  rw[e8]
  exact⟨rfl,_,rfl⟩
 ·have dm:=S2.pick [3,0,1,2] [_,_,_,_] (by decide) ⟨rfl,rfl,rfl,rfl,trivial⟩;clear S2
  refine ki [_] [_,_,_] rfl (by kernel_rfl) dm 22 rfl ?_
  clear dm
  change WA _ _ _ _ _ _ _ _ _ _ _ _ [_,_,_,_]
  refine aj 0 21 rfl (by kernel_rfl) (fun _ _ _ hz Sz=>.inl (U4 rfl rfl iB rfl ((ja.mono (Hp.Ua hz Sz.mx)).cell Sz.um rfl))) ?_
  refine ai 1 20 rfl (by kernel_rfl) (fun _=>U9 rfl rfl) ?_
  refine ai 2 19 rfl (by kernel_rfl) (fun _=>U1 rfl rfl cz rfl (cP) (cO)) ?_
  refine aj 3 18 rfl (by kernel_rfl) (fun _ _ _ hz Sz=>.inl (U4 rfl rfl cE rfl (Sz.suf.ar (i:=1) rfl rfl))) ?_
  refine aj 4 17 rfl (by kernel_rfl) (fun _ _ _ hz Sz=>.inl (U4 rfl rfl iB rfl ((ja.mono (Hp.Ua hz Sz.mx)).cell Sz.um rfl))) ?_
  refine ai 5 16 rfl (by kernel_rfl) (fun _=>U9 rfl rfl) ?_
  refine ai 6 15 rfl (by kernel_rfl) (fun _=>U1 rfl rfl cz rfl (cP) (cO)) ?_
  refine aj 7 14 rfl (by kernel_rfl) (fun _ _ _ hz Sz=>.inl (U4 rfl rfl cE rfl (Sz.suf.ar (i:=1) rfl rfl))) ?_
  refine ai 8 13 rfl (by kernel_rfl) (fun _=>U9 rfl rfl) ?_
  refine ai 9 12 rfl (by kernel_rfl) (fun _=>U1 rfl rfl cU rfl (eF) (eB)) ?_
  refine ai 10 11 rfl (by kernel_rfl) (fun _=>U1 rfl rfl ay rfl (bK) (bJ)) ?_
  refine aj 11 10 rfl (by kernel_rfl) (fun _ _ _ hz Sz=>.inl (U4 rfl rfl bG rfl (Sz.suf.ar (i:=2) rfl rfl))) ?_
  refine aj 12 9 rfl (by kernel_rfl) (fun _ _ _ hz Sz=>.inl (U8 (us:=[_,_,_,_]) rfl rfl sx rfl acz (Sz.suf.ax (i:=0) rfl ⟨rfl,rfl,rfl,rfl,trivial⟩))) ?_
  refine ai 13 8 rfl (by kernel_rfl) (fun _=>run_move rfl rfl) ?_
  refine ai 14 7 rfl (by kernel_rfl) (fun _=>run_move rfl rfl) ?_
  refine aj 15 6 rfl (by kernel_rfl) (fun _ _ _ hz Sz=>Uq rfl rfl rfl rfl rfl acQ Sz (aaz F u (ek m.vb 0 2) (by first|assumption|omega|(unfold ek;split<;>omega)) Sz.aD)) ?_
  refine Un (i:=16) 5 rfl (by kernel_rfl) rfl rfl (fun Og oQ=>?_)
  refine(iy (C:=aG) (l:=[_,_,_,_,_]) rfl rfl rfl rfl b8 rfl rfl rfl rfl oQ ?_)
  intro bE Dd jO;clear oQ
  refine aN.grow [_,_] (Hp.le_refl _) jO ?_;clear jO
  change WA _ _ _ _ _ _ _ _ _ _ _ _ [_,_,_,_,_]
  refine Un (i:=17) 4 rfl (by kernel_rfl) rfl rfl (fun Oe nX=>?_)
  refine(jg (C:=aG) (i:=1) (q:=0) (⟨(kR F u (ek m.vb 0 2)).a,(kR F u (ek m.vb 0 2)).b,(kR F u (ek m.vb 0 2)).c,(kR F u (ek m.vb 0 2)).d,(kR F u (ek m.vb 0 2)).plus⟩:Cr) rfl rfl rfl rfl rfl rfl rfl rfl b8 nX rfl rfl rfl (by show(_+1)*40<=_;first|omega|(simp only[ls];omega)) ?_)
  intro al7 w53 nW;clear nX
  have mv:=nW.pick [1,2,3,4] [_,_,_,_] (by decide) ⟨rfl,rfl,rfl,rfl,trivial⟩;clear nW
  refine aN.grow [_] (Hp.le_refl _) mv ?_;clear mv
  change WA _ _ _ _ _ _ _ _ _ _ _ _ [_,_,_,_]
  refine ai 18 3 rfl (by kernel_rfl) (fun _=>U9 rfl rfl) ?_
  refine ai 19 2 rfl (by kernel_rfl) (fun _=>U1 rfl rfl cU rfl (eF) (eB)) ?_
  refine ai 20 1 rfl (by kernel_rfl) (fun _=>U1 rfl rfl ay rfl (bK) (bJ)) ?_
  refine Un (i:=21) 0 rfl (by kernel_rfl) rfl rfl (fun Dc kU=>?_)
  refine(U7 (i:=3) (us:=[_]) (l':=[_,_,_,_]) (H':=[_,_,_,_]) rfl rfl kU rfl rfl rfl (kU.jx (i:=0) rfl) kZ rfl (Uy (kU.one (i:=0) rfl) rfl) rfl rfl ?_)
  intro Oc jN;clear kU
  refine aN.turn (by kernel_rfl) jN ?_;clear jN
  change WA _ _ _ _ _ _ _ _ _ _ _ _ [_,_,_,_]
  refine Uu (by kernel_rfl) (fun Ob S64=>?_)
  refine gI hC [] rfl trivial ?_
  refine⟨_,rfl,_,_,Hp.le_refl _,(S64.pick [2,3,0] [_,_,_] (by decide) ⟨rfl,rfl,rfl,trivial⟩).aW,?_⟩
  have e8:mB m F u=kR F u (ek m.vb 0 2):=by unfold mB;rw[if_neg (by simp[G7])]
  rw[e8]
  exact⟨rfl,_,rfl⟩
noncomputable def Ph:=Tryz.f69.body.getD .skip
def Zzp:=cL Ph
def Pg:=cR Ph
def Zzr:=cL Pg
def Pf:=cR Pg
def Zzt:=cL Pf
def Pc:=cR Pf
def Zzv:=cL Pc
def Pb:=cR Pc
def Zzx:=cL Pb
def O9:=cR Pb
def Zzz:=cL O9
def NV:=cR O9
def atx:=cL NV
def NU:=cR NV
def atw:=cL NU
def NT:=cR NU
def atv:=cL NT
def NS:=cR NT
def atu:=cL NS
def NR:=cR NS
def att:=cL NR
def atr:=cR NR
set_option maxHeartbeats 2000000 in
set_option maxRecDepth 10000 in
theorem ajO{w:World}{M:Hp}{X:Fr}(d:Dg){bu ggs:Nat}{bz:Value}{iA oA fA:Option Addr}{ic oc fc:Nat}{fv:List eT}(m:Mv)(hsi:aF bp M iA ic (aw d false (4*d.ae.length)))(aK:aF bp M oA oc (aw d true (4*d.ae.length)))(cG:aF (cB 141) M fA fc fv)(cF:ez bW M fv (U6 d))(hn:d.ae.length<=16)(hab:aX d=true)(hlo:0<=d.loops/\d.loops<=16)(S:SH w M X [Rs.aW [Rs.box bu 67 [.pointer (some ⟨ggs,0,none⟩),.slice fA fv.length fc],Rs.box ggs 70 [bz,.int .i64 d.loops,.slice iA (aw d false (4*d.ae.length)).length ic,.slice oA (aw d true (4*d.ae.length)).length oc],Rs.row aG bz d.ae]]):Cm 69 [.pointer (some ⟨bu,0,none⟩),.agg [.int .i64 m.kd,.int .i64 m.at_,.int .i64 m.aJ,.int .i64 m.ua,.bool m.ub,.int .i64 m.va,.bool m.vb,.bool m.ov].toArray] w M X (fT d m) (uz bu ggs (.slice fA fv.length fc) (.slice iA (aw d false (4*d.ae.length)).length ic) (.slice oA (aw d true (4*d.ae.length)).length oc) (tU d m)):=by
 unfold Cm
 replace S:=S.jT
 obtain⟨cA,cc,cQ,_⟩:=S.sl (i:=2) rfl
 refine Up (b:=Ph) Tryz.func69 rfl Tryz.ntmps69 rfl (fun C hC=>(bq [(0,_),(1,_)] ⟨rfl,rfl,trivial⟩ (U2 Zzp Pg rfl rfl rfl (U0 rfl (ak 0 1 rfl rfl rfl (bA (l:=[_]) rfl rfl rfl rfl rfl S ?_))))))
 intro aI w1 S1;clear S
 refine ak 1 2 rfl rfl rfl (bA (l:=[_,_,_,_,_,_,_,_]) rfl rfl rfl rfl rfl S1 ?_)
 intro aQ w2 S2;clear S1
 refine U5 rfl (ah [2,3] rfl (U3 (U2 Zzr Pf rfl rfl rfl (Ux rfl (by kernel_rfl) S2 19 rfl ?_))))
 clear S2
 refine aj 0 18 rfl (by kernel_rfl) (fun _ _ _ hz Sz=>.inl (U4 rfl rfl iB rfl (Sz.suf.ar (i:=1) rfl rfl))) ?_
 refine ai 1 17 rfl (by kernel_rfl) (fun _=>U9 rfl rfl) ?_
 refine ai 2 16 rfl (by kernel_rfl) (fun _=>U1 rfl rfl cz rfl (cP) (cO)) ?_
 refine aj 3 15 rfl (by kernel_rfl) (fun _ _ _ hz Sz=>.inl (U4 rfl rfl cE rfl (Sz.suf.ar (i:=2) rfl rfl))) ?_
 refine ai 4 14 rfl (by kernel_rfl) (fun _=>U1 rfl rfl aR rfl (fF) (fC)) ?_
 refine ai 5 13 rfl (by kernel_rfl) (fun _=>U1 rfl rfl aZ rfl (aB) (aA)) ?_
 refine aj 6 12 rfl (by kernel_rfl) (fun _ _ _ hz Sz=>.inl (U4 rfl rfl av rfl (Sz.suf.ar (i:=0) rfl rfl))) ?_
 refine aj 7 11 rfl (by kernel_rfl) (fun _ _ _ hz Sz=>Uq rfl rfl rfl rfl rfl Bh Sz (Ai d m.ua (SH.eG (i:=3) Sz rfl (by rw[cQ])) (SH.iY (i:=4) Sz rfl cQ (by show _*40<=_;omega)) ((hsi.mono hz).mono (Hp.bR _ _)) ((aK.mono hz).mono (Hp.bR _ _)) (by omega) Sz.aD)) ?_
 refine ai 8 10 rfl (by kernel_rfl) (fun _=>run_move rfl rfl) ?_
 refine kj (t:=17) rfl (fun amT=>?_) (fun amT=>?_)
 ·refine aj 9 9 rfl (by kernel_rfl) (fun _ _ _ hz Sz=>.inl (U4 rfl rfl iB rfl (Sz.suf.ar (i:=1) rfl rfl))) ?_
  refine ai 10 8 rfl (by kernel_rfl) (fun _=>U9 rfl rfl) ?_
  refine ai 11 7 rfl (by kernel_rfl) (fun _=>U1 rfl rfl cz rfl (cP) (cO)) ?_
  refine aj 12 6 rfl (by kernel_rfl) (fun _ _ _ hz Sz=>.inl (U4 rfl rfl cE rfl (Sz.suf.ar (i:=2) rfl rfl))) ?_
  refine ai 13 5 rfl (by kernel_rfl) (fun _=>U1 rfl rfl aR rfl (fF) (fC)) ?_
  refine ai 14 4 rfl (by kernel_rfl) (fun _=>U1 rfl rfl aZ rfl (aB) (aA)) ?_
  refine aj 15 3 rfl (by kernel_rfl) (fun _ _ _ hz Sz=>.inl (U4 rfl rfl av rfl (Sz.suf.ar (i:=0) rfl rfl))) ?_
  refine aj 16 2 rfl (by kernel_rfl) (fun _ _ _ hz Sz=>Uq rfl rfl rfl rfl rfl Bh Sz (Ai d m.va (SH.eG (i:=3) Sz rfl (by rw[cQ])) (SH.iY (i:=4) Sz rfl cQ (by show _*40<=_;omega)) ((hsi.mono hz).mono (Hp.bR _ _)) ((aK.mono hz).mono (Hp.bR _ _)) (by omega) Sz.aD)) ?_
  refine ai 17 1 rfl (by kernel_rfl) (fun _=>fL rfl rfl rfl) ?_
  refine kj (t:=26) rfl (fun amG=>?_) (fun amG=>?_)
  ·refine aj 18 0 rfl (by kernel_rfl) (fun _ _ _ hz Sz=>Uq rfl rfl rfl rfl rfl dI Sz (lI 3 Sz.aD)) ?_
   refine Uu (by kernel_rfl) (fun rB cW=>?_)
   refine ah [2,3] rfl (U3 (U2 Zzt Pc rfl rfl rfl (U0 rfl (af 0 rfl (U4 rfl rfl iB rfl (cW.ar (i:=1) rfl rfl)) (af 1 rfl (U9 rfl rfl) (af 2 rfl (U1 rfl rfl cz rfl (BL) (Br)) (af 3 rfl (U4 rfl rfl kY rfl (cW.ar (i:=2) rfl rfl)) (af 4 rfl (uu (vs:=[_]) rfl rfl rfl rfl) ?_))))))))
   refine ak 5 6 rfl rfl rfl (cC rfl rfl rfl rfl rfl rfl rfl acU cW (aac (U6 d) 118 _ (mj (⟨m.ua,m.ub⟩:Da) (⟨m.va,m.vb⟩:Da)) (cG.mono (Hp.bR _ _)) (cF.mono (Hp.bR _ _)) alA (fun w9 Y9 qc S9 A9 c9 x9 hm9 ze=>aie x9 m ze ((SH.eG (N:=[]) (i:=0) cW rfl rfl).mono qc) S9) cW.aD) ?_)
   rintro _ De cK rfl;clear cW
   refine ag 6 1 rfl rfl (U5 rfl (ah [2,3,4] rfl (U3 (U2 Zzv Pb rfl rfl rfl (U0 rfl (af 0 rfl (U1 rfl rfl aR rfl (fF) (fC)) (af 1 rfl (U1 rfl rfl aZ rfl (aB) (aA)) (af 2 rfl (U4 rfl rfl av rfl (cK.ar (i:=0) rfl rfl)) ?_))))))))
   refine af 3 rfl (U1 rfl rfl aR rfl (fF) (fC)) (af 4 rfl (U1 rfl rfl aZ rfl (aB) (aA)) (af 5 rfl (U4 rfl rfl av rfl (cK.ar (i:=0) rfl rfl)) (af 6 rfl (iT rfl rfl rfl) (ag 7 1 rfl rfl ?_))))
   refine Ut (t:=41) rfl (fun BB=>?_) (fun BB=>?_)
   ·refine ag 8 2 rfl rfl ?_
    refine mX (t:=43) rfl (fun Bu=>?_) (fun Bu=>?_)
    ·refine ak 10 11 rfl rfl rfl (cC rfl rfl rfl rfl rfl rfl rfl dI cK (lI 8 cK.aD) ?_)
     rintro _ vN cv rfl;clear cK
     refine U5 rfl (ah [2,3] rfl (U3 (U2 Zzx O9 rfl rfl rfl (U0 rfl (af 0 rfl (U4 rfl rfl iB rfl (cv.ar (i:=1) rfl rfl)) (af 1 rfl (U9 rfl rfl) (af 2 rfl (U1 rfl rfl cz rfl (cP) (cO)) (af 3 rfl (U4 rfl rfl cE rfl (cv.ar (i:=2) rfl rfl)) ?_))))))))
     refine af 4 rfl (U9 rfl rfl) (af 5 rfl (U1 rfl rfl cU rfl (eF) (eB)) (af 6 rfl (U1 rfl rfl ay rfl (bK) (bJ)) (af 7 rfl (U4 rfl rfl bG rfl (cv.ar (i:=3) rfl rfl)) (af 8 rfl (oJ (C:=aG) (i:=4) rfl rfl rfl rfl rfl rfl b8 cv rfl) (af 9 rfl (Ug rfl rfl rfl (by first|omega|(simp only[ls];omega))) ?_)))))
     refine af 10 rfl (oI rfl rfl rfl) ?_
     refine Ut (t:=55) rfl (fun Gs=>?_) (fun Gs=>?_)
     ·refine ak 11 12 rfl rfl rfl (cC rfl rfl rfl rfl rfl rfl rfl dI cv (lI 2 cv.aD) ?_)
      rintro _ vM fw rfl;clear cv
      refine U5 rfl (ah [2,3] rfl (U3 (U2 Zzz NV rfl rfl rfl (U0 rfl (af 0 rfl (U4 rfl rfl iB rfl (fw.ar (i:=1) rfl rfl)) (af 1 rfl (U9 rfl rfl) (af 2 rfl (U1 rfl rfl cz rfl (cP) (cO)) (af 3 rfl (U4 rfl rfl cE rfl (fw.ar (i:=2) rfl rfl)) ?_))))))))
      refine ak 4 5 rfl rfl rfl (cC rfl rfl rfl rfl rfl rfl rfl qO fw (qD d (SH.eG (N:=[]) (i:=3) fw rfl (by rw[cQ])) (SH.iY (N:=[]) (i:=4) fw rfl cQ (by show _*40<=_;omega)) (hsi.mono (Hp.bR _ _)) (aK.mono (Hp.bR _ _)) (by omega) fw.aD) ?_)
      rintro _ yU ey rfl;clear fw
      refine ag 5 1 rfl rfl (U5 rfl (ah [2,3,5] rfl (U3 (U2 atx NU rfl rfl rfl ?_))))
      refine mA (fun au aM=>∃(O3:Nat) (O2:Nat),Env 135 [(2,.pointer (some ⟨aI,0,none⟩)),(3,.pointer (some ⟨aQ,0,none⟩)),(5,.int .i64 (2*(d.ae.length:Int))),(6,.pointer (some ⟨O3,0,none⟩)),(7,.pointer (some ⟨O2,0,none⟩))] au/\SH aM M X [Rs.box O3 150 [.int .i64 (aO (⟨m.ua,m.ub⟩:Da) (2*(d.ae.length:Int)+1) 0),.int .i64 (aO (⟨m.ua,m.ub⟩:Da) (2*(d.ae.length:Int)+1) 1),.int .i64 (aO (⟨m.ua,m.ub⟩:Da) (2*(d.ae.length:Int)+1) 2)],Rs.box O2 150 [.int .i64 (aO (⟨m.va,m.vb⟩:Da) (2*(d.ae.length:Int)+3) 0),.int .i64 (aO (⟨m.va,m.vb⟩:Da) (2*(d.ae.length:Int)+3) 1),.int .i64 (aO (⟨m.va,m.vb⟩:Da) (2*(d.ae.length:Int)+3) 2)],Rs.box aQ 28 [.int .i64 m.kd,.int .i64 m.at_,.int .i64 m.aJ,.int .i64 m.ua,.bool m.ub,.int .i64 m.va,.bool m.vb,.bool m.ov],Rs.box aI 55 [.pointer (some ⟨bu,0,none⟩)],Rs.box bu 67 [.pointer (some ⟨ggs,0,none⟩),.slice fA fv.length fc],Rs.box ggs 70 [bz,.int .i64 d.loops,.slice iA (aw d false (4*d.ae.length)).length ic,.slice oA (aw d true (4*d.ae.length)).length oc],Rs.row aG bz d.ae]) ?_ ?_
      ·refine Ux rfl (by kernel_rfl) ey 14 rfl ?_
       clear ey
       refine ai 0 13 rfl (by kernel_rfl) (fun _=>U1 rfl rfl aR rfl (fF) (fC)) ?_
       refine aj 1 12 rfl (by kernel_rfl) (fun _ _ _ hz Sz=>.inl (U8 (us:=[_,_]) rfl rfl aZ rfl cg (Sz.suf.ax (i:=0) rfl ⟨rfl,rfl,trivial⟩))) ?_
       refine ai 2 11 rfl (by kernel_rfl) (fun _=>run_move rfl rfl) ?_
       refine ai 3 10 rfl (by kernel_rfl) (fun _=>Ug rfl rfl rfl (by first|omega|(simp only[ls];omega))) ?_
       refine aj 4 9 rfl (by kernel_rfl) (fun _ _ _ hz Sz=>Uq rfl rfl rfl rfl rfl acS Sz (acN (⟨m.ua,m.ub⟩:Da) ((2*(d.ae.length:Int))+1) (by omega) Sz.aD)) ?_
       refine ai 5 8 rfl (by kernel_rfl) (fun _=>U1 rfl rfl aR rfl (fF) (fC)) ?_
       refine aj 6 7 rfl (by kernel_rfl) (fun _ _ _ hz Sz=>.inl (U8 (us:=[_,_]) rfl rfl aZ rfl cg (Sz.suf.ax (i:=0) rfl ⟨rfl,rfl,trivial⟩))) ?_
       refine ai 7 6 rfl (by kernel_rfl) (fun _=>run_move rfl rfl) ?_
       refine ai 8 5 rfl (by kernel_rfl) (fun _=>Ug rfl rfl rfl (by first|omega|(simp only[ls];omega))) ?_
       refine aj 9 4 rfl (by kernel_rfl) (fun _ _ _ hz Sz=>Uq rfl rfl rfl rfl rfl acS Sz (acN (⟨m.va,m.vb⟩:Da) ((2*(d.ae.length:Int))+3) (by omega) Sz.aD)) ?_
       refine rZ (i:=10) (j:=11) 3 rfl rfl (by kernel_rfl) rfl rfl rfl rfl (fun vI gA=>?_) (fun vI gA=>?_)
       ·refine(Uh (l:=[_,_,_]) rfl rfl rfl qE rfl gA ?_)
        intro bE tL fO;clear gA
        refine aN.grow [_] (Hp.le_refl _) fO ?_;clear fO
        change WA _ _ _ _ _ _ _ _ _ _ _ _ [_,_,_,_,_,_]
        refine Un (i:=11) 2 rfl (by kernel_rfl) rfl rfl (fun yT fN=>?_)
        refine(Uh (l:=[_,_,_]) rfl rfl rfl qE rfl fN ?_)
        intro gY tK eN;clear fN
        refine aN.grow [_,_] (Hp.le_refl _) eN ?_;clear eN
        change WA _ _ _ _ _ _ _ _ _ _ _ _ [_,_,_,_,_,_,_]
        refine Un (i:=12) 1 rfl (by kernel_rfl) rfl rfl (fun Oi jQ=>?_)
        refine(U7 (i:=1) (us:=[_,_,_]) (l':=[_,_,_]) (H':=[_,_,_,_,_,_,_]) rfl rfl jQ rfl rfl rfl rfl nt rfl rfl rfl rfl ?_)
        intro Oh iJ;clear jQ
        refine aN.grow [_,_] (Hp.le_refl _) iJ ?_;clear iJ
        change WA _ _ _ _ _ _ _ _ _ _ _ _ [_,_,_,_,_,_,_]
        refine Un (i:=13) 0 rfl (by kernel_rfl) rfl rfl (fun Dd jP=>?_)
        refine(U7 (i:=0) (us:=[_,_,_]) (l':=[_,_,_]) (H':=[_,_,_,_,_,_,_]) rfl rfl jP rfl rfl rfl rfl nt rfl rfl rfl rfl ?_)
        intro w51 jh;clear jP
        refine aN.grow [_,_] (Hp.le_refl _) jh ?_;clear jh
        change WA _ _ _ _ _ _ _ _ _ _ _ _ [_,_,_,_,_,_,_]
        refine Uu (by kernel_rfl) (fun Oe oQ=>?_)
        refine aP ?_
        intro au aq
        refine⟨_,_,aq.sub ⟨rfl,rfl,rfl,rfl,rfl,trivial⟩,oQ.pick [1,0,2,3,4,5,6] [_,_,_,_,_,_,_] (by decide) ⟨rfl,rfl,rfl,rfl,rfl,rfl,rfl,trivial⟩⟩
       ·refine(Uh (l:=[_,_,_]) rfl rfl rfl qE rfl gA ?_)
        intro iq w53 jO;clear gA
        refine aN.grow [_] (Hp.le_refl _) jO ?_;clear jO
        change WA _ _ _ _ _ _ _ _ _ _ _ _ [_,_,_,_,_,_]
        refine Un (i:=10) 2 rfl (by kernel_rfl) rfl rfl (fun w55 nX=>?_)
        refine(Uh (l:=[_,_,_]) rfl rfl rfl qE rfl nX ?_)
        intro rJ w56 nW;clear nX
        refine aN.grow [_,_] (Hp.le_refl _) nW ?_;clear nW
        change WA _ _ _ _ _ _ _ _ _ _ _ _ [_,_,_,_,_,_,_]
        refine Un (i:=12) 1 rfl (by kernel_rfl) rfl rfl (fun Dc ni=>?_)
        refine(U7 (i:=0) (us:=[_,_,_]) (l':=[_,_,_]) (H':=[_,_,_,_,_,_,_]) rfl rfl ni rfl rfl rfl rfl nt rfl rfl rfl rfl ?_)
        intro Oc oP;clear ni
        refine aN.grow [_,_] (Hp.le_refl _) oP ?_;clear oP
        change WA _ _ _ _ _ _ _ _ _ _ _ _ [_,_,_,_,_,_,_]
        refine Un (i:=13) 0 rfl (by kernel_rfl) rfl rfl (fun Oa ng=>?_)
        refine(U7 (i:=1) (us:=[_,_,_]) (l':=[_,_,_]) (H':=[_,_,_,_,_,_,_]) rfl rfl ng rfl rfl rfl rfl nt rfl rfl rfl rfl ?_)
        intro N9 kU;clear ng
        refine aN.grow [_,_] (Hp.le_refl _) kU ?_;clear kU
        change WA _ _ _ _ _ _ _ _ _ _ _ _ [_,_,_,_,_,_,_]
        refine Uu (by kernel_rfl) (fun N8 jN=>?_)
        refine aP ?_
        intro au aq
        refine⟨_,_,aq.sub ⟨rfl,rfl,rfl,rfl,rfl,trivial⟩,jN.pick [0,1,2,3,4,5,6] [_,_,_,_,_,_,_] (by decide) ⟨rfl,rfl,rfl,rfl,rfl,rfl,rfl,trivial⟩⟩
      ·rintro a1 l9 ⟨O3,O2,bh,cy⟩
       clear ey
       refine mG bh ?_
       clear bh a1
       refine U3 (U2 atw NT rfl rfl rfl ?_)
       have hti:=fK d false (4*d.ae.length)
       obtain⟨hu1,hu2,OM,_⟩:=fe hab (a:=m.ua) (by omega) false
       obtain⟨hv1,hv2,OL,_⟩:=fe hab (a:=m.va) (by omega) false
       refine Ux rfl (by kernel_rfl) cy 16 rfl ?_
       clear cy
       refine aj 0 15 rfl (by kernel_rfl) (fun _ _ _ hz Sz=>.inl (U4 rfl rfl iB rfl (Sz.suf.ar (i:=3) rfl rfl))) ?_
       refine aj 1 14 rfl (by kernel_rfl) (fun _ _ _ hz Sz=>.inl (U4 rfl rfl iB rfl (Sz.suf.ar (i:=3) rfl rfl))) ?_
       refine ai 2 13 rfl (by kernel_rfl) (fun _=>U9 rfl rfl) ?_
       refine ai 3 12 rfl (by kernel_rfl) (fun _=>U1 rfl rfl cz rfl (cP) (cO)) ?_
       refine aj 4 11 rfl (by kernel_rfl) (fun _ _ _ hz Sz=>.inl (U4 rfl rfl cE rfl (Sz.suf.ar (i:=4) rfl rfl))) ?_
       refine ai 5 10 rfl (by kernel_rfl) (fun _=>U9 rfl rfl) ?_
       refine ai 6 9 rfl (by kernel_rfl) (fun _=>U1 rfl rfl cU rfl (nK) (nD)) ?_
       refine aj 7 8 rfl (by kernel_rfl) (fun _ _ _ hz Sz=>.inl (U4 rfl rfl lT rfl (Sz.suf.ar (i:=5) rfl rfl))) ?_
       refine ai 8 7 rfl (by kernel_rfl) (fun _=>U1 rfl rfl aR rfl (fF) (fC)) ?_
       refine ai 9 6 rfl (by kernel_rfl) (fun _=>U1 rfl rfl aZ rfl (aB) (aA)) ?_
       refine aj 10 5 rfl (by kernel_rfl) (fun _ _ _ hz Sz=>.inl (U4 rfl rfl av rfl (Sz.suf.ar (i:=2) rfl rfl))) ?_
       refine jz 82 (.int .i64 ((m.ua.toNat:Nat):Int)) rfl (int_eq (by omega)) ?_
       refine aj 11 4 rfl (by kernel_rfl) (fun _ _ _ hz Sz=>.inl (Uk (C:=bp) m.ua.toNat rfl rfl rfl nC (by first|rfl|omega) (hsi.mono hz) (by first|omega|(simp only[ls];omega)))) ?_
       refine aj 12 3 rfl (by kernel_rfl) (fun _ _ _ hz Sz=>.inl (U8 (us:=[_,_]) rfl rfl ct rfl dH ((hsi.mono hz).fq Sz.m (e:=m.ua.toNat) (by first|omega|(simp only[ls];omega)) (j:=0) ⟨rfl,rfl,trivial⟩))) ?_
       refine ai 13 2 rfl (by kernel_rfl) (fun _=>run_move rfl rfl) ?_
       refine ai 14 1 rfl (by kernel_rfl) (fun _=>Ug rfl rfl rfl (by first|omega|(simp only[ls];omega))) ?_
       refine Un (i:=15) 0 rfl (by kernel_rfl) rfl rfl (fun w80 S80=>?_)
       have S81:=S80.pick [4,5,6,0,1,2,3] [_,_,_,_,_,_,_] (by decide) ⟨rfl,rfl,rfl,rfl,rfl,rfl,rfl,trivial⟩;clear S80
       have jM:SH _ _ _ (Rs.aW [_,_,_]::[_,_,_,_]):=SH.iD (A:=[_,_,_]) (B:=[_,_,_,_]) S81;clear S81
       have oM:SH _ _ _ [_,_,_,_,_]:=jM.less (i:=0) rfl
       have gL:=Bk d.ae ((ga (aw d false (4*d.ae.length)) m.ua.toNat).1) ((ga (aw d false (4*d.ae.length)) m.ua.toNat).2) ((2*(d.ae.length:Int))+2) (by rw[OM];exact hu1) (by rw[OM];exact hu2) (jM.gN (i:=0) rfl);clear oM
       refine(jk (i:=0) rfl rfl rfl rfl rfl rfl rfl Bg jM rfl gL ?_)
       intro avo w81 M56 avG aum ju jc;clear jM
       obtain⟨kq,gX,kP⟩:=jc
       rw[gX]at ju
       clear gX
       subst kq
       subst kP
       replace ju:SH _ _ _ (Rs.aW [_,_,_]::[_,_,_,_]):=ju
       have qm:SH _ _ _ [_,_,_,_,_,_,_]:=SH.je (A:=[_,_,_]) (B:=[_,_,_,_]) ju;clear ju
       refine aN.turn (by kernel_rfl) qm ?_;clear qm
       change WA _ _ _ _ _ _ _ _ _ _ _ _ [_,_,_,_,_,_,_]
       refine Uu (by kernel_rfl) (fun w82 ko=>?_)
       refine ah [2,3,5,6,7] rfl (U3 (U2 atv NS rfl rfl rfl ?_))
       have qV:bg d.ae ((ga (aw d false (4*d.ae.length)) m.ua.toNat).1) ((ga (aw d false (4*d.ae.length)) m.ua.toNat).2) ((2*(d.ae.length:Int))+2)=bg d.ae (Ud d m.ua false).1 (Ud d m.ua false).2 (2*(d.ae.length:Int)+2):=by rw[OM]
       rw[qV]at ko;clear qV
       have tZ:(bg d.ae (Ud d m.ua false).1 (Ud d m.ua false).2 (2*(d.ae.length:Int)+2)).length=d.ae.length:=iw _ _ _ _
       refine Ux rfl (by kernel_rfl) ko 16 rfl ?_
       clear ko
       refine aj 0 15 rfl (by kernel_rfl) (fun _ _ _ hz Sz=>.inl (U4 rfl rfl iB rfl (Sz.suf.ar (i:=6) rfl rfl))) ?_
       refine aj 1 14 rfl (by kernel_rfl) (fun _ _ _ hz Sz=>.inl (U4 rfl rfl iB rfl (Sz.suf.ar (i:=6) rfl rfl))) ?_
       refine ai 2 13 rfl (by kernel_rfl) (fun _=>U9 rfl rfl) ?_
       refine ai 3 12 rfl (by kernel_rfl) (fun _=>U1 rfl rfl cz rfl (cP) (cO)) ?_
       refine aj 4 11 rfl (by kernel_rfl) (fun _ _ _ hz Sz=>.inl (U4 rfl rfl cE rfl (Sz.suf.ar (i:=0) rfl rfl))) ?_
       refine ai 5 10 rfl (by kernel_rfl) (fun _=>U9 rfl rfl) ?_
       refine ai 6 9 rfl (by kernel_rfl) (fun _=>U1 rfl rfl cU rfl (nK) (nD)) ?_
       refine aj 7 8 rfl (by kernel_rfl) (fun _ _ _ hz Sz=>.inl (U4 rfl rfl lT rfl (Sz.suf.ar (i:=1) rfl rfl))) ?_
       refine ai 8 7 rfl (by kernel_rfl) (fun _=>U1 rfl rfl aR rfl (fF) (fC)) ?_
       refine ai 9 6 rfl (by kernel_rfl) (fun _=>U1 rfl rfl aZ rfl (aB) (aA)) ?_
       refine aj 10 5 rfl (by kernel_rfl) (fun _ _ _ hz Sz=>.inl (U4 rfl rfl av rfl (Sz.suf.ar (i:=5) rfl rfl))) ?_
       refine jz 98 (.int .i64 ((m.va.toNat:Nat):Int)) rfl (int_eq (by omega)) ?_
       refine aj 11 4 rfl (by kernel_rfl) (fun _ _ _ hz Sz=>.inl (Uk (C:=bp) m.va.toNat rfl rfl rfl nC (by first|rfl|omega) (hsi.mono hz) (by first|omega|(simp only[ls];omega)))) ?_
       refine aj 12 3 rfl (by kernel_rfl) (fun _ _ _ hz Sz=>.inl (U8 (us:=[_,_]) rfl rfl ct rfl dH ((hsi.mono hz).fq Sz.m (e:=m.va.toNat) (by first|omega|(simp only[ls];omega)) (j:=0) ⟨rfl,rfl,trivial⟩))) ?_
       refine ai 13 2 rfl (by kernel_rfl) (fun _=>run_move rfl rfl) ?_
       refine ai 14 1 rfl (by kernel_rfl) (fun _=>Ug rfl rfl rfl (by first|omega|(simp only[ls];omega))) ?_
       refine Un (i:=15) 0 rfl (by kernel_rfl) rfl rfl (fun w99 tJ=>?_)
       have yQ:=tJ.pick [0,1,2,3,4,5,6] [_,_,_,_,_,_,_] (by decide) ⟨rfl,rfl,rfl,rfl,rfl,rfl,rfl,trivial⟩;clear tJ
       have mP:SH _ _ _ (Rs.aW [_,_,_]::[_,_,_,_]):=SH.iD (A:=[_,_,_]) (B:=[_,_,_,_]) yQ;clear yQ
       have atI:SH _ _ _ [_,_,_,_,_]:=mP.less (i:=0) rfl
       have lN:=Bk (bg d.ae (Ud d m.ua false).1 (Ud d m.ua false).2 (2*(d.ae.length:Int)+2)) ((ga (aw d false (4*d.ae.length)) m.va.toNat).1) ((ga (aw d false (4*d.ae.length)) m.va.toNat).2) ((2*(d.ae.length:Int))+4) (by rw[OL,tZ];exact hv1) (by rw[OL];exact hv2) (mP.gN (i:=0) rfl);clear atI
       refine(jk (i:=0) rfl rfl rfl rfl rfl rfl rfl Bg mP rfl lN ?_)
       intro at7 ac8 M73 auh aul yP ug;clear mP
       obtain⟨se,nJ,uf⟩:=ug
       rw[nJ]at yP
       clear nJ
       subst se
       subst uf
       replace yP:SH _ _ _ (Rs.aW [_,_,_]::[_,_,_,_]):=yP
       have afQ:SH _ _ _ [_,_,_,_,_,_,_]:=SH.je (A:=[_,_,_]) (B:=[_,_,_,_]) yP;clear yP
       refine aN.turn (by kernel_rfl) afQ ?_;clear afQ
       change WA _ _ _ _ _ _ _ _ _ _ _ _ [_,_,_,_,_,_,_]
       refine Uu (by kernel_rfl) (fun avn vG=>?_)
       refine ah [2,3,6,7] rfl (U3 (U2 atu NR rfl rfl rfl ?_))
       have xU:bg (bg d.ae (Ud d m.ua false).1 (Ud d m.ua false).2 (2*(d.ae.length:Int)+2)) ((ga (aw d false (4*d.ae.length)) m.va.toNat).1) ((ga (aw d false (4*d.ae.length)) m.va.toNat).2) ((2*(d.ae.length:Int))+4)=bg (bg d.ae (Ud d m.ua false).1 (Ud d m.ua false).2 (2*(d.ae.length:Int)+2)) (Ud d m.va false).1 (Ud d m.va false).2 (2*(d.ae.length:Int)+4):=by rw[OL]
       rw[xU]at vG;clear xU
       have hl2:(bg (bg d.ae (Ud d m.ua false).1 (Ud d m.ua false).2 (2*(d.ae.length:Int)+2)) (Ud d m.va false).1 (Ud d m.va false).2 (2*(d.ae.length:Int)+4)).length=d.ae.length:=(iw _ _ _ _).trans tZ
       refine U0 rfl (af 0 rfl (uu (vs:=[_,_]) rfl rfl rfl rfl) (ag 1 1 rfl rfl (U5 rfl (ah [3,6,7,8] rfl (U3 (U2 att atr rfl rfl rfl ?_))))))
       have yO:=vG.pick [0,1,2,3,4,5,6] [_,_,_,_,_,_,_] (by decide) ⟨rfl,rfl,rfl,rfl,rfl,rfl,rfl,trivial⟩;clear vG
       refine ki [_,_,_] [_,_,_,_] rfl (by kernel_rfl) yO 15 rfl ?_
       clear yO
       change WA _ _ _ _ _ _ _ _ _ _ _ _ [_,_,_,_,_,_,_]
       refine ai 0 14 rfl (by kernel_rfl) (fun _=>run_move rfl rfl) ?_
       refine aj 1 13 rfl (by kernel_rfl) (fun _ _ _ hz Sz=>.inl (gJ (e:=1) (k:=1) rfl rfl rfl iW aY (by first|rfl|omega) (by first|omega|(simp only[ls];omega)))) ?_
       refine aj 2 12 rfl (by kernel_rfl) (fun _ _ _ hz Sz=>.inl (U4 rfl rfl av rfl (Sz.suf.ar (i:=1) rfl rfl))) ?_
       refine aj 3 11 rfl (by kernel_rfl) (fun _ _ _ hz Sz=>.inl (gJ (e:=1) (k:=1) rfl rfl rfl iW aY (by first|rfl|omega) (by first|omega|(simp only[ls];omega)))) ?_
       refine aj 4 10 rfl (by kernel_rfl) (fun _ _ _ hz Sz=>.inl (U4 rfl rfl av rfl (Sz.suf.ar (i:=0) rfl rfl))) ?_
       refine aj 5 9 rfl (by kernel_rfl) (fun _ _ _ hz Sz=>.inl (gJ (e:=2) (k:=1) rfl rfl rfl iW aY (by first|rfl|omega) (by first|omega|(simp only[ls];omega)))) ?_
       refine aj 6 8 rfl (by kernel_rfl) (fun _ _ _ hz Sz=>.inl (U4 rfl rfl av rfl (Sz.suf.ar (i:=1) rfl rfl))) ?_
       refine aj 7 7 rfl (by kernel_rfl) (fun _ _ _ hz Sz=>.inl (gJ (e:=0) (k:=1) rfl rfl rfl iW aY (by first|rfl|omega) (by first|omega|(simp only[ls];omega)))) ?_
       refine aj 8 6 rfl (by kernel_rfl) (fun _ _ _ hz Sz=>.inl (U4 rfl rfl av rfl (Sz.suf.ar (i:=0) rfl rfl))) ?_
       refine aj 9 5 rfl (by kernel_rfl) (fun _ _ _ hz Sz=>.inl (jf (l:=[_,_,_,_]) (pl:=[(0,1),(1,1),(2,1),(3,1)]) rfl rfl sx Fy aY rfl rfl rfl)) ?_
       refine ai 10 4 rfl (by kernel_rfl) (fun _=>U1 rfl rfl aR rfl (fF) (fC)) ?_
       refine ai 11 3 rfl (by kernel_rfl) (fun _=>U1 rfl rfl aZ rfl (fI) (fH)) ?_
       refine aj 12 2 rfl (by kernel_rfl) (fun _ _ _ hz Sz=>.inl (U4 rfl rfl dh rfl (Sz.suf.ar (i:=2) rfl rfl))) ?_
       refine aj 13 1 rfl (by kernel_rfl) (fun _ _ _ hz Sz=>Uq rfl rfl rfl rfl rfl F9 Sz (Ew m.ub 3 1 Sz.aD)) ?_
       refine Un (i:=14) 0 rfl (by kernel_rfl) rfl rfl (fun avj pR=>?_)
       have yM:=pR.pick [0,1,2,3,4,5,6] [_,_,_,_,_,_,_] (by decide) ⟨rfl,rfl,rfl,rfl,rfl,rfl,rfl,trivial⟩;clear pR
       have rz:SH _ _ _ (Rs.aW [_,_,_]::[_,_,_,_]):=SH.iD (A:=[_,_,_]) (B:=[_,_,_,_]) yM;clear yM
       have pQ:SH _ _ _ [_,_,_,_,_]:=rz.less (i:=0) rfl
       have Fp:=abD (fun k=>ga ([aO (⟨m.va,m.vb⟩:Da) (2*(d.ae.length:Int)+3) 1,aO (⟨m.ua,m.ub⟩:Da) (2*(d.ae.length:Int)+1) 1,aO (⟨m.va,m.vb⟩:Da) (2*(d.ae.length:Int)+3) 2,aO (⟨m.ua,m.ub⟩:Da) (2*(d.ae.length:Int)+1) 0]:List Int) k) (ek m.ub 3 1) m (bg (bg d.ae (Ud d m.ua false).1 (Ud d m.ua false).2 (2*(d.ae.length:Int)+2)) (Ud d m.va false).1 (Ud d m.va false).2 (2*(d.ae.length:Int)+4)) (SH.eG (N:=[]) (i:=3) pQ rfl rfl) (SH.eG (N:=[]) (i:=4) pQ rfl rfl) (by unfold ek;split<;>omega) (by first|omega|(simp only[List.length_append,List.length_singleton];omega)) (rz.gN (i:=0) rfl);clear pQ
       refine(ab5 (i:=0) rfl rfl rfl rfl rfl rfl rfl acR rz rfl Fp ?_)
       intro at6 avi M89 aug auk iE zx;clear rz
       obtain⟨BJ,zx⟩:=zx
       rw[BJ]at iE
       obtain⟨atO,rfl⟩:=zx
       replace iE:SH _ _ _ (Rs.aW [_,_,_]::[_,_,_,_]):=iE
       have pP:SH _ _ _ [_,_,_,_,_,_,_]:=SH.je (A:=[_,_,_]) (B:=[_,_,_,_]) iE;clear iE
       refine aN.grow [_,_,_] (Hp.le_refl _) pP ?_;clear pP
       change WA _ _ _ _ _ _ _ _ _ _ _ _ [_,_,_,_,_,_,_]
       refine Uu (by kernel_rfl) (fun avh ry=>?_)
       refine ah [3,6,7,8] rfl (U3 ?_)
       have rq:=ry.pick [0,1,2,3,4,5,6] [_,_,_,_,_,_,_] (by decide) ⟨rfl,rfl,rfl,rfl,rfl,rfl,rfl,trivial⟩;clear ry
       refine ki [_,_,_] [_,_,_,_] rfl (by kernel_rfl) rq 15 rfl ?_
       clear rq
       change WA _ _ _ _ _ _ _ _ _ _ _ _ [_,_,_,_,_,_,_]
       refine ai 0 14 rfl (by kernel_rfl) (fun _=>run_move rfl rfl) ?_
       refine aj 1 13 rfl (by kernel_rfl) (fun _ _ _ hz Sz=>.inl (gJ (e:=0) (k:=1) rfl rfl rfl iW aY (by first|rfl|omega) (by first|omega|(simp only[ls];omega)))) ?_
       refine aj 2 12 rfl (by kernel_rfl) (fun _ _ _ hz Sz=>.inl (U4 rfl rfl av rfl (Sz.suf.ar (i:=1) rfl rfl))) ?_
       refine aj 3 11 rfl (by kernel_rfl) (fun _ _ _ hz Sz=>.inl (gJ (e:=1) (k:=1) rfl rfl rfl iW aY (by first|rfl|omega) (by first|omega|(simp only[ls];omega)))) ?_
       refine aj 4 10 rfl (by kernel_rfl) (fun _ _ _ hz Sz=>.inl (U4 rfl rfl av rfl (Sz.suf.ar (i:=0) rfl rfl))) ?_
       refine aj 5 9 rfl (by kernel_rfl) (fun _ _ _ hz Sz=>.inl (gJ (e:=1) (k:=1) rfl rfl rfl iW aY (by first|rfl|omega) (by first|omega|(simp only[ls];omega)))) ?_
       refine aj 6 8 rfl (by kernel_rfl) (fun _ _ _ hz Sz=>.inl (U4 rfl rfl av rfl (Sz.suf.ar (i:=1) rfl rfl))) ?_
       refine aj 7 7 rfl (by kernel_rfl) (fun _ _ _ hz Sz=>.inl (gJ (e:=2) (k:=1) rfl rfl rfl iW aY (by first|rfl|omega) (by first|omega|(simp only[ls];omega)))) ?_
       refine aj 8 6 rfl (by kernel_rfl) (fun _ _ _ hz Sz=>.inl (U4 rfl rfl av rfl (Sz.suf.ar (i:=0) rfl rfl))) ?_
       refine aj 9 5 rfl (by kernel_rfl) (fun _ _ _ hz Sz=>.inl (jf (l:=[_,_,_,_]) (pl:=[(0,1),(1,1),(2,1),(3,1)]) rfl rfl sx Fy aY rfl rfl rfl)) ?_
       refine ai 10 4 rfl (by kernel_rfl) (fun _=>U1 rfl rfl aR rfl (fF) (fC)) ?_
       refine ai 11 3 rfl (by kernel_rfl) (fun _=>U1 rfl rfl aZ rfl (fI) (fH)) ?_
       refine aj 12 2 rfl (by kernel_rfl) (fun _ _ _ hz Sz=>.inl (U4 rfl rfl dh rfl (Sz.suf.ar (i:=2) rfl rfl))) ?_
       refine aj 13 1 rfl (by kernel_rfl) (fun _ _ _ hz Sz=>Uq rfl rfl rfl rfl rfl F9 Sz (Ew m.ub 1 3 Sz.aD)) ?_
       refine Un (i:=14) 0 rfl (by kernel_rfl) rfl rfl (fun alU rf=>?_)
       have ra:=rf.pick [0,1,2,3,4,5,6] [_,_,_,_,_,_,_] (by decide) ⟨rfl,rfl,rfl,rfl,rfl,rfl,rfl,trivial⟩;clear rf
       have nM:SH _ _ _ (Rs.aW [_,_,_]::[_,_,_,_]):=SH.iD (A:=[_,_,_]) (B:=[_,_,_,_]) ra;clear ra
       have q9:SH _ _ _ [_,_,_,_,_]:=nM.less (i:=0) rfl
       have Fm:=abD (fun k=>ga ([aO (⟨m.va,m.vb⟩:Da) (2*(d.ae.length:Int)+3) 0,aO (⟨m.ua,m.ub⟩:Da) (2*(d.ae.length:Int)+1) 1,aO (⟨m.va,m.vb⟩:Da) (2*(d.ae.length:Int)+3) 1,aO (⟨m.ua,m.ub⟩:Da) (2*(d.ae.length:Int)+1) 2]:List Int) k) (ek m.ub 1 3) m ((bg (bg d.ae (Ud d m.ua false).1 (Ud d m.ua false).2 (2*(d.ae.length:Int)+2)) (Ud d m.va false).1 (Ud d m.va false).2 (2*(d.ae.length:Int)+4))++[mB m (fun k=>ga ([aO (⟨m.va,m.vb⟩:Da) (2*(d.ae.length:Int)+3) 1,aO (⟨m.ua,m.ub⟩:Da) (2*(d.ae.length:Int)+1) 1,aO (⟨m.va,m.vb⟩:Da) (2*(d.ae.length:Int)+3) 2,aO (⟨m.ua,m.ub⟩:Da) (2*(d.ae.length:Int)+1) 0]:List Int) k) (ek m.ub 3 1)]) (SH.eG (N:=[]) (i:=3) q9 rfl rfl) (SH.eG (N:=[]) (i:=4) q9 rfl rfl) (by unfold ek;split<;>omega) (by first|omega|(simp only[List.length_append,List.length_singleton];omega)) (nM.gN (i:=0) rfl);clear q9
       refine(ab5 (i:=0) rfl rfl rfl rfl rfl rfl rfl acR nM rfl Fm ?_)
       intro at4 Ge awd auf atX nL zw;clear nM
       obtain⟨BH,zw⟩:=zw
       rw[BH]at nL
       obtain⟨atN,rfl⟩:=zw
       replace nL:SH _ _ _ (Rs.aW [_,_,_]::[_,_,_,_]):=nL
       have q8:SH _ _ _ [_,_,_,_,_,_,_]:=SH.je (A:=[_,_,_]) (B:=[_,_,_,_]) nL;clear nL
       refine aN.grow [_,_,_] (Hp.le_refl _) q8 ?_;clear q8
       change WA _ _ _ _ _ _ _ _ _ _ _ _ [_,_,_,_,_,_,_]
       refine Uu (by kernel_rfl) (fun ac4 lq=>?_)
       refine gI hC [] rfl trivial ?_
       obtain⟨awc,xq,CZ,⟨A1,c1,e1,hr1⟩⟩:=lq.fZ (i:=2) (H':=[_,_,_,_,_,_,_]) rfl rfl (by show _*40<=_;first|omega|(simp only[ls];omega))
       clear lq;subst e1
       replace hsi:=hsi.mono xq
       replace aK:=aK.mono xq
       replace cG:=cG.mono xq
       replace cF:=cF.mono xq
       have fR:(1<=m.ua/\m.ua<=2*(d.ae.length:Int))/\(1<=m.va/\m.va<=2*(d.ae.length:Int)):=by omega
       have bj:fT d m=0:=by unfold fT;rw[if_pos fR,if_pos ⟨BB,Bu⟩,if_pos Gs]
       refine .inl ⟨bj,_,rfl,_,_,xq,(CZ.pick [0,1] [_,_] (by decide) ⟨rfl,rfl,trivial⟩).aW,?_⟩
       exact⟨rfl,_,_,rfl,hr1⟩
     ·have fR:(1<=m.ua/\m.ua<=2*(d.ae.length:Int))/\(1<=m.va/\m.va<=2*(d.ae.length:Int)):=by omega
      have bj:fT d m=2:=by unfold fT;rw[if_pos fR,if_pos ⟨BB,Bu⟩,if_neg Gs]
      refine kS (k:=11) rfl rfl rfl rfl rfl rfl rfl dI cv (ia 2 cv.aD) ?_
      intro w9 M9 ck S9
      subst hC
      exact .inr ⟨by rw[bj];first|decide|assumption,by rw[bj],M9,(Hp.le_refl _).trans ck,S9.pick [] [] (by decide) trivial⟩
    ·have fR:(1<=m.ua/\m.ua<=2*(d.ae.length:Int))/\(1<=m.va/\m.va<=2*(d.ae.length:Int)):=by omega
     have bj:fT d m=8:=by unfold fT;rw[if_pos fR,if_neg (fun h=>by rw[Bu]at h;exact absurd h.2 (by decide))]
     refine kS (k:=10) rfl rfl rfl rfl rfl rfl rfl dI cK (ia 8 cK.aD) ?_
     intro w9 M9 ck S9
     subst hC
     exact .inr ⟨by rw[bj];first|decide|assumption,by rw[bj],M9,(Hp.le_refl _).trans ck,S9.pick [] [] (by decide) trivial⟩
   ·refine ag 8 2 rfl rfl ?_
    have fR:(1<=m.ua/\m.ua<=2*(d.ae.length:Int))/\(1<=m.va/\m.va<=2*(d.ae.length:Int)):=by omega
    have bj:fT d m=8:=by unfold fT;rw[if_pos fR,if_neg (fun h=>BB h.1)]
    refine kS (k:=10) rfl rfl rfl rfl rfl rfl rfl dI cK (ia 8 cK.aD) ?_
    intro w9 M9 ck S9
    subst hC
    exact .inr ⟨by rw[bj];first|decide|assumption,by rw[bj],M9,(Hp.le_refl _).trans ck,S9.pick [] [] (by decide) trivial⟩
  ·have bj:fT d m=3:=by unfold fT;rw[if_neg (by omega)]
   refine oK (i:=18) 0 rfl (by kernel_rfl) rfl rfl rfl rfl rfl rfl rfl dI (fun w9 S9=>ia 3 S9.aD) ?_
   intro w9 M9 ck S9
   subst hC
   exact .inr ⟨by rw[bj];first|decide|assumption,by rw[bj],M9,(Hp.le_refl _).trans ck,S9.pick [] [] (by decide) trivial⟩
 ·refine Ur (i:=9) (d:=18) 9 rfl (by kernel_rfl) (by kernel_rfl) (by kernel_rfl) ⟨_,_,_,rfl,rfl,rfl,rfl⟩ rfl rfl ?_
  refine Ur (i:=10) (d:=19) 8 rfl (by kernel_rfl) (by kernel_rfl) (by kernel_rfl) ⟨_,_,_,rfl,rfl,rfl,rfl⟩ rfl rfl ?_
  refine Ur (i:=11) (d:=20) 7 rfl (by kernel_rfl) (by kernel_rfl) (by kernel_rfl) ⟨_,_,_,rfl,rfl,rfl,rfl⟩ rfl rfl ?_
  refine Ur (i:=12) (d:=21) 6 rfl (by kernel_rfl) (by kernel_rfl) (by kernel_rfl) ⟨_,_,_,rfl,rfl,rfl,rfl⟩ rfl rfl ?_
  refine Ur (i:=13) (d:=22) 5 rfl (by kernel_rfl) (by kernel_rfl) (by kernel_rfl) ⟨_,_,_,rfl,rfl,rfl,rfl⟩ rfl rfl ?_
  refine Ur (i:=14) (d:=23) 4 rfl (by kernel_rfl) (by kernel_rfl) (by kernel_rfl) ⟨_,_,_,rfl,rfl,rfl,rfl⟩ rfl rfl ?_
  refine Ur (i:=15) (d:=24) 3 rfl (by kernel_rfl) (by kernel_rfl) (by kernel_rfl) ⟨_,_,_,rfl,rfl,rfl,rfl⟩ rfl rfl ?_
  refine Ur (i:=16) (d:=25) 2 rfl (by kernel_rfl) (by kernel_rfl) (by kernel_rfl) ⟨_,_,_,rfl,rfl,rfl,rfl⟩ rfl rfl ?_
  refine ai 17 1 rfl (by kernel_rfl) (fun _=>iU rfl rfl rfl) ?_
  have bj:fT d m=3:=by unfold fT;rw[if_neg (by omega)]
  refine oK (i:=18) 0 rfl (by kernel_rfl) rfl rfl rfl rfl rfl rfl rfl dI (fun w9 S9=>ia 3 S9.aD) ?_
  intro w9 M9 ck S9
  subst hC
  exact .inr ⟨by rw[bj];first|decide|assumption,by rw[bj],M9,(Hp.le_refl _).trans ck,S9.pick [] [] (by decide) trivial⟩
end Go.Proofs.YthppkofceancjaaGreat
namespace Go.Proofs.YthppkofceancjaaGreat
open Go.ChangeShapes Go.WideShapes Go.ChangeAt Go.RowKit
theorem agS{nx:Nat->Nat}{Q:Nat->Prop}(hx:∀c,Q c->Q (nx c))(seen:List Bool)(x:Nat)(acc:List Int)(h:Q x)(ha:∀y∈acc,∃c:Nat,y=(c:Int)/\Q c):∀y∈(eY nx seen x acc).2,∃c:Nat,y=(c:Int)/\Q c:=by
 induction hk:free seen using Nat.strongRecOn generalizing seen x acc with
 |_ k ih=>
  by_cases hc:x<seen.length/\ga seen x=false
  ·rw[rP hc.1 hc.2]
   have:=mW hc.1 hc.2
   refine ih (free (seen.set x true)) (by omega) (seen.set x true) (nx x) (acc++[(x:Int)]) (hx _ h) ?_ rfl
   intro y hy
   rcases List.mem_append.1 hy with hy|hy
   ·exact ha y hy
   ·rw[List.mem_singleton]at hy;exact⟨x,hy,h⟩
  ·rw[eY]
   simp only[hc,if_false,dite_false]
   exact ha
theorem agA{d:Dg}(h:aX d=true)(k:Nat)(hk:k<=4*d.ae.length):∀r∈(dQ d k).2,∀y∈r,∃c:Nat,y=(c:Int)/\(2<=c/\c<4*d.ae.length+2):=by
 induction k with
 |zero=>intro r hr;simp[dQ]at hr
 |succ k ih=>
  by_cases hg:ga (dQ d k).1 (k+2)=true
  ·rw[rT rfl hg];exact ih (by omega)
  ·rw[rS rfl (by simpa using hg) rfl]
   intro r hr
   rcases List.mem_append.1 hr with hr|hr
   ·exact ih (by omega) r hr
   ·rw[List.mem_singleton]at hr
    subst hr
    exact agS (Q:=fun c=>2<=c/\c<4*d.ae.length+2) (fun c hc=>Ap h hc) _ _ _ ⟨by omega,by omega⟩ (fun y hy=>by cases hy)
theorem Ae{d:Dg}(h:aX d=true){x:List Da}(hx:x∈U6 d):∀y∈x,okD d y:=by
 unfold U6 uM at hx
 obtain⟨r,hr,rfl⟩:=List.mem_map.1 hx
 intro y hy
 unfold ik at hy
 obtain⟨c,hc,rfl⟩:=List.mem_map.1 hy
 obtain⟨e,rfl,he⟩:=agA h _ (Nat.le_refl _) r hr c hc
 rw[Int.toNat_natCast]
 exact od he
def dx(d:Dg)(x:Da):Nat:=(Ud d x.a (!x.b)).1
def iN(d:Dg)(i j:Int)(x:List Da):Bool:=decide (x.length=2/\((dx d (ga x 0):Int)=i/\(dx d (ga x 1):Int)=j\/(dx d (ga x 0):Int)=j/\(dx d (ga x 1):Int)=i)/\(hgt d (ga x 0).a=2/\hgt d (ga x 1).a=0\/hgt d (ga x 0).a=0/\hgt d (ga x 1).a=2))
def gp(d:Dg)(m:Mv):Int:=if(0<=m.at_/\m.at_<(d.ae.length:Int))/\(0<=m.aJ/\m.aJ<(d.ae.length:Int))/\m.at_≠m.aJ then(if(U6 d).any (iN d m.at_ m.aJ)=true then lU d [m.at_.toNat,m.aJ.toNat]else 8)else 3
def y8(d:Dg)(m:Mv):Dg:=jo d (bD [m.at_.toNat,m.aJ.toNat])
noncomputable def NQ:=Tryz.f124.body.getD .skip
def atq:=cL NQ
def NP:=cR NQ
def NN:=cL NP
def NL:=cR NP
def atp:=cL NN
def NK:=cR NN
def NJ:=cL NK
def ato:=cR NK
def atn:=cL NJ
def atm:=cR NJ
def atl:=cL NL
def NI:=cR NL
def NH:=cL NI
def NG:=cR NI
def atk:=cL NH
def NF:=cR NH
def ND:=cL NF
def atj:=cR NF
def ati:=cL ND
def ath:=cR ND
def atg:=cL NG
def NC:=cR NG
def atf:=cL NC
def NB:=cR NC
def ate:=cL NB
def atd:=cR NB
set_option maxHeartbeats 1000000 in
set_option maxRecDepth 10000 in
theorem aif{w:World}{M:Hp}{X:Fr}(s:List Da){sA:Option Addr}{sc:Nat}(d:Dg){bH:Nat}{cA iA oA:Option Addr}{cc ic oc:Nat}{bu:Nat}{fV:Value}{gx:Nat}(m:Mv){gm:Nat}(hs:aF bW (M.un X.h) sA sc s)(hbb:cM (M.un X.h) bu 67 [.pointer (some ⟨bH,0,none⟩),fV])(br:cM (M.un X.h) bH 70 [.slice cA d.ae.length cc,.int .i64 d.loops,.slice iA (aw d false (4*d.ae.length)).length ic,.slice oA (aw d true (4*d.ae.length)).length oc])(hsc:aF aG (M.un X.h) cA cc d.ae)(hsi:aF bp (M.un X.h) iA ic (aw d false (4*d.ae.length)))(aK:aF bp (M.un X.h) oA oc (aw d true (4*d.ae.length)))(ja:cM (M.un X.h) gx 55 [.pointer (some ⟨bu,0,none⟩)])(oC:cM (M.un X.h) gm 28 [.int .i64 m.kd,.int .i64 m.at_,.int .i64 m.aJ,.int .i64 m.ua,.bool m.ub,.int .i64 m.va,.bool m.vb,.bool m.ov])(hn:d.ae.length<=16)(hab:aX d=true)(hok:∀x∈s,okD d x)(S:SH w M X []):Cq Tryz.prog 124 [.slice sA s.length sc,.pointer (some ⟨gx,0,none⟩),.pointer (some ⟨gm,0,none⟩)] w M X (fun u=>u=.bool (iN d m.at_ m.aJ s)):=by
 unfold Cq
 have sU:s.length*16<=140737488355328:=hs.room
 refine Up (b:=NQ) Tryz.func124 rfl Tryz.ntmps124 rfl (fun C hC=>(bq [(0,_),(1,_),(2,_)] ⟨rfl,rfl,rfl,trivial⟩ (U2 atq NP rfl rfl rfl (U0 rfl (ag 0 1 rfl rfl (U5 rfl (ah [0,1,2] rfl (U3 (U2 NN NL rfl rfl rfl ?_)))))))))
 refine U2 atp NK rfl rfl rfl (U0 rfl (ag 0 1 rfl rfl (af 1 rfl (cI rfl rfl rfl rfl rfl rfl ig) (af 2 rfl (iT rfl rfl rfl) (U5 rfl (ah [0,1,2,13] rfl (U3 ?_)))))))
 refine Ue NJ ato rfl rfl rfl rfl (fun G6=>?_) (fun G6=>?_)
 ·refine U2 atn atm rfl rfl rfl (U0 rfl (ag 0 1 rfl rfl (U5 rfl (ah [4] rfl (U3 (Uj hC [_] rfl rfl ⟨rfl,trivial⟩ ?_))))))
  exact⟨_,rfl,(S.pick [] [] (by decide) trivial),(by show Value.bool _=Value.bool _;refine congrArg Value.bool ?_;unfold iN dx;rw[Bool.eq_iff_iff];simp only[decide_eq_true_eq,Bool.false_eq_true,false_iff,true_iff];omega)⟩
 ·have ho0:okD d (ga s 0):=hok _ (gZ (by omega))
  have zg:okD d (ga s 1):=hok _ (gZ (by omega))
  have hp0:1<=(ga s 0).a/\(ga s 0).a<=2*(d.ae.length:Int):=ho0
  have hp1:1<=(ga s 1).a/\(ga s 1).a<=2*(d.ae.length:Int):=zg
  refine Uf rfl (ah [0,1,2] rfl (U3 (U2 atl NI rfl rfl rfl (Ux rfl (by kernel_rfl) S 20 rfl ?_))))
  clear S
  refine aj 0 19 rfl (by kernel_rfl) (fun _ _ _ hz Sz=>.inl (U4 rfl rfl iB rfl ((ja.mono (Hp.Ua hz Sz.mx)).cell Sz.um rfl))) ?_
  refine ai 1 18 rfl (by kernel_rfl) (fun _=>U9 rfl rfl) ?_
  refine ai 2 17 rfl (by kernel_rfl) (fun _=>U1 rfl rfl cz rfl (cP) (cO)) ?_
  refine aj 3 16 rfl (by kernel_rfl) (fun _ _ _ hz Sz=>.inl (U4 rfl rfl cE rfl ((hbb.mono (Hp.Ua hz Sz.mx)).cell Sz.um rfl))) ?_
  refine ai 4 15 rfl (by kernel_rfl) (fun _=>run_move rfl rfl) ?_
  refine aj 5 14 rfl (by kernel_rfl) (fun _ _ _ hz Sz=>.inl (Uk (C:=bW) 0 rfl rfl rfl gM (by first|rfl|omega) (hs.mono (Hp.Ua hz Sz.mx)) (by first|omega|(simp only[ls];omega)))) ?_
  refine aj 6 13 rfl (by kernel_rfl) (fun _ _ _ hz Sz=>.inl (U8 (us:=[_,_]) rfl rfl aZ rfl cg ((hs.mono (Hp.Ua hz Sz.mx)).fq Sz.um (e:=0) (by first|omega|(simp only[ls];omega)) (j:=0) ⟨rfl,rfl,trivial⟩))) ?_
  refine aj 7 12 rfl (by kernel_rfl) (fun _ _ _ hz Sz=>Uq rfl rfl rfl rfl rfl F8 Sz (Fv d (ga s 0) ((br.mono (Hp.Ua hz Sz.mx)).mono Sz.Uw) ((hsc.mono (Hp.Ua hz Sz.mx)).mono Sz.Uw) ((hsi.mono (Hp.Ua hz Sz.mx)).mono Sz.Uw) ((aK.mono (Hp.Ua hz Sz.mx)).mono Sz.Uw) (by first|assumption|omega) hab (by first|assumption|omega) Sz.aD)) ?_
  refine ai 8 11 rfl (by kernel_rfl) (fun _=>mr rfl rfl ct rfl av rfl rfl) ?_
  refine aj 9 10 rfl (by kernel_rfl) (fun _ _ _ hz Sz=>.inl (U4 rfl rfl iB rfl ((ja.mono (Hp.Ua hz Sz.mx)).cell Sz.um rfl))) ?_
  refine ai 10 9 rfl (by kernel_rfl) (fun _=>U9 rfl rfl) ?_
  refine ai 11 8 rfl (by kernel_rfl) (fun _=>U1 rfl rfl cz rfl (cP) (cO)) ?_
  refine aj 12 7 rfl (by kernel_rfl) (fun _ _ _ hz Sz=>.inl (U4 rfl rfl cE rfl ((hbb.mono (Hp.Ua hz Sz.mx)).cell Sz.um rfl))) ?_
  refine ai 13 6 rfl (by kernel_rfl) (fun _=>run_move rfl rfl) ?_
  refine aj 14 5 rfl (by kernel_rfl) (fun _ _ _ hz Sz=>.inl (Uk (C:=bW) 1 rfl rfl rfl gM (by first|rfl|omega) (hs.mono (Hp.Ua hz Sz.mx)) (by first|omega|(simp only[ls];omega)))) ?_
  refine aj 15 4 rfl (by kernel_rfl) (fun _ _ _ hz Sz=>.inl (U8 (us:=[_,_]) rfl rfl aZ rfl cg ((hs.mono (Hp.Ua hz Sz.mx)).fq Sz.um (e:=1) (by first|omega|(simp only[ls];omega)) (j:=0) ⟨rfl,rfl,trivial⟩))) ?_
  refine aj 16 3 rfl (by kernel_rfl) (fun _ _ _ hz Sz=>Uq rfl rfl rfl rfl rfl F8 Sz (Fv d (ga s 1) ((br.mono (Hp.Ua hz Sz.mx)).mono Sz.Uw) ((hsc.mono (Hp.Ua hz Sz.mx)).mono Sz.Uw) ((hsi.mono (Hp.Ua hz Sz.mx)).mono Sz.Uw) ((aK.mono (Hp.Ua hz Sz.mx)).mono Sz.Uw) (by first|assumption|omega) hab (by first|assumption|omega) Sz.aD)) ?_
  refine ai 17 2 rfl (by kernel_rfl) (fun _=>mr rfl rfl ct rfl av rfl rfl) ?_
  refine ai 18 1 rfl (by kernel_rfl) (fun _=>run_assign rfl rfl) ?_
  refine ai 19 0 rfl (by kernel_rfl) (fun _=>run_assign rfl rfl) ?_
  refine Uu (by kernel_rfl) (fun tQ dt=>?_)
  refine ah [0,1,2,5,6] rfl (U3 (U2 NH NG rfl rfl rfl (U2 atk NF rfl rfl rfl (U0 rfl (ag 0 1 rfl rfl (af 1 rfl (U1 rfl rfl aR rfl (aB) (aA)) (af 2 rfl (U4 rfl rfl av rfl (oC.cell dt.um rfl)) (af 3 rfl (bP rfl rfl rfl) ?_))))))))
  refine ag 4 1 rfl rfl ?_
  refine jt (k':=10) (d:=41) (decide ((((Ud d (ga s 0).a (!(ga s 0).b)).1:Int)=m.at_)/\(((Ud d (ga s 1).a (!(ga s 1).b)).1:Int)=m.aJ))) [(0,_),(1,_),(2,_),(5,_),(6,_)] ⟨rfl,rfl,rfl,rfl,rfl,trivial⟩ (fun adQ=>?_) ?_
  ·refine Ut (t:=36) rfl (fun x7=>?_) (fun x7=>?_)
   ·refine ag 5 1 rfl rfl (aH 6 7 rfl rfl rfl rfl rfl rfl rfl rfl (Ub rfl rfl (U1 rfl rfl aR rfl (aB) (aA)) (aH 7 8 rfl rfl rfl rfl rfl rfl rfl rfl (Ub rfl rfl (U4 rfl rfl av rfl (oC.cell dt.um rfl)) (aH 8 9 rfl rfl rfl rfl rfl rfl rfl rfl (Ub rfl rfl (bP rfl rfl rfl) (ag 9 1 rfl rfl ?_)))))))
    exact b6 41 (.bool (decide ((((Ud d (ga s 0).a (!(ga s 0).b)).1:Int)=m.at_)/\(((Ud d (ga s 1).a (!(ga s 1).b)).1:Int)=m.aJ)))) rfl (congrArg Value.bool (decide_eq_decide.2 ⟨fun h=>⟨x7,h⟩,fun h=>h.2⟩)) (eo [(41,_),(0,_),(1,_),(2,_),(5,_),(6,_)] ⟨rfl,rfl,rfl,rfl,rfl,rfl,trivial⟩ adQ)
   ·refine ag 5 5 rfl rfl ?_
    exact b6 41 (.bool (decide ((((Ud d (ga s 0).a (!(ga s 0).b)).1:Int)=m.at_)/\(((Ud d (ga s 1).a (!(ga s 1).b)).1:Int)=m.aJ)))) rfl (congrArg Value.bool (decide_eq_false (fun h=>x7 h.1)).symm) (eo [(41,_),(0,_),(1,_),(2,_),(5,_),(6,_)] ⟨rfl,rfl,rfl,rfl,rfl,rfl,trivial⟩ adQ)
  ·refine ag 10 1 rfl rfl ?_
   refine jt (k':=22) (d:=53) (decide (((((Ud d (ga s 0).a (!(ga s 0).b)).1:Int)=m.at_)/\(((Ud d (ga s 1).a (!(ga s 1).b)).1:Int)=m.aJ))\/((((Ud d (ga s 0).a (!(ga s 0).b)).1:Int)=m.aJ)/\(((Ud d (ga s 1).a (!(ga s 1).b)).1:Int)=m.at_)))) [(0,_),(1,_),(2,_),(5,_),(6,_)] ⟨rfl,rfl,rfl,rfl,rfl,trivial⟩ (fun adM=>?_) ?_
   ·refine Ut (t:=42) rfl (fun nG=>?_) (fun nG=>?_)
    ·refine ag 11 6 rfl rfl (ag 17 5 rfl rfl ?_)
     exact b6 53 (.bool (decide (((((Ud d (ga s 0).a (!(ga s 0).b)).1:Int)=m.at_)/\(((Ud d (ga s 1).a (!(ga s 1).b)).1:Int)=m.aJ))\/((((Ud d (ga s 0).a (!(ga s 0).b)).1:Int)=m.aJ)/\(((Ud d (ga s 1).a (!(ga s 1).b)).1:Int)=m.at_))))) rfl (congrArg Value.bool (decide_eq_true (.inl nG)).symm) (eo [(53,_),(0,_),(1,_),(2,_),(5,_),(6,_)] ⟨rfl,rfl,rfl,rfl,rfl,rfl,trivial⟩ adM)
    ·refine ag 11 1 rfl rfl (aH 12 13 rfl rfl rfl rfl rfl rfl rfl rfl (Ub rfl rfl (U1 rfl rfl aR rfl (aB) (aA)) (aH 13 14 rfl rfl rfl rfl rfl rfl rfl rfl (Ub rfl rfl (U4 rfl rfl av rfl (oC.cell dt.um rfl)) (aH 14 15 rfl rfl rfl rfl rfl rfl rfl rfl (Ub rfl rfl (bP rfl rfl rfl) (ag 15 1 rfl rfl ?_)))))))
     refine jt (k':=21) (d:=52) (decide ((((Ud d (ga s 0).a (!(ga s 0).b)).1:Int)=m.aJ)/\(((Ud d (ga s 1).a (!(ga s 1).b)).1:Int)=m.at_))) [(0,_),(1,_),(2,_),(5,_),(6,_),(42,_)] ⟨rfl,rfl,rfl,rfl,rfl,rfl,trivial⟩ (fun adN=>?_) ?_
     ·refine Ut (t:=47) rfl (fun x5=>?_) (fun x5=>?_)
      ·refine ag 16 1 rfl rfl (aH 17 18 rfl rfl rfl rfl rfl rfl rfl rfl (Ub rfl rfl (U1 rfl rfl aR rfl (aB) (aA)) (aH 18 19 rfl rfl rfl rfl rfl rfl rfl rfl (Ub rfl rfl (U4 rfl rfl av rfl (oC.cell dt.um rfl)) (aH 19 20 rfl rfl rfl rfl rfl rfl rfl rfl (Ub rfl rfl (bP rfl rfl rfl) (ag 20 1 rfl rfl ?_)))))))
       exact b6 52 (.bool (decide ((((Ud d (ga s 0).a (!(ga s 0).b)).1:Int)=m.aJ)/\(((Ud d (ga s 1).a (!(ga s 1).b)).1:Int)=m.at_)))) rfl (congrArg Value.bool (decide_eq_decide.2 ⟨fun h=>⟨x5,h⟩,fun h=>h.2⟩)) (eo [(52,_),(0,_),(1,_),(2,_),(5,_),(6,_),(42,_)] ⟨rfl,rfl,rfl,rfl,rfl,rfl,rfl,trivial⟩ adN)
      ·refine ag 16 5 rfl rfl ?_
       exact b6 52 (.bool (decide ((((Ud d (ga s 0).a (!(ga s 0).b)).1:Int)=m.aJ)/\(((Ud d (ga s 1).a (!(ga s 1).b)).1:Int)=m.at_)))) rfl (congrArg Value.bool (decide_eq_false (fun h=>x5 h.1)).symm) (eo [(52,_),(0,_),(1,_),(2,_),(5,_),(6,_),(42,_)] ⟨rfl,rfl,rfl,rfl,rfl,rfl,rfl,trivial⟩ adN)
     ·refine ag 21 1 rfl rfl ?_
      exact b6 53 (.bool (decide (((((Ud d (ga s 0).a (!(ga s 0).b)).1:Int)=m.at_)/\(((Ud d (ga s 1).a (!(ga s 1).b)).1:Int)=m.aJ))\/((((Ud d (ga s 0).a (!(ga s 0).b)).1:Int)=m.aJ)/\(((Ud d (ga s 1).a (!(ga s 1).b)).1:Int)=m.at_))))) rfl (congrArg Value.bool (decide_eq_decide.2 ⟨.inr,fun h=>h.resolve_left nG⟩)) (eo [(53,_),(0,_),(1,_),(2,_),(5,_),(6,_)] ⟨rfl,rfl,rfl,rfl,rfl,rfl,trivial⟩ adM)
   ·refine af 22 rfl (dE rfl rfl) (U5 rfl (ah [0,1,54] rfl (U3 ?_)))
    refine cS ND atj rfl rfl rfl rfl (fun s7=>?_) (fun s7=>?_)
    ·simp only[Bool.and_eq_true,Bool.or_eq_true,Bool.and_eq_false_iff,Bool.or_eq_false_iff,decide_eq_true_eq,decide_eq_false_iff_not,Bool.not_eq_true',Bool.not_eq_false']at s7
     refine U2 ati ath rfl rfl rfl (U0 rfl (ag 0 1 rfl rfl (U5 rfl (ah [4] rfl (U3 (Uj hC [_] rfl rfl ⟨rfl,trivial⟩ ?_))))))
     exact⟨_,rfl,(dt.pick [] [] (by decide) trivial),(by show Value.bool _=Value.bool _;refine congrArg Value.bool ?_;unfold iN dx;rw[Bool.eq_iff_iff];simp only[decide_eq_true_eq,Bool.false_eq_true,false_iff,true_iff];omega)⟩
    ·simp only[Bool.and_eq_true,Bool.or_eq_true,Bool.and_eq_false_iff,Bool.or_eq_false_iff,decide_eq_true_eq,decide_eq_false_iff_not,Bool.not_eq_true',Bool.not_eq_false']at s7
     refine Uf rfl (ah [0,1] rfl (U3 (U2 atg NC rfl rfl rfl (Ux rfl (by kernel_rfl) dt 11 rfl ?_))))
     clear dt
     refine aj 0 10 rfl (by kernel_rfl) (fun _ _ _ hz Sz=>.inl (U4 rfl rfl iB rfl ((ja.mono (Hp.Ua hz Sz.mx)).cell Sz.um rfl))) ?_
     refine ai 1 9 rfl (by kernel_rfl) (fun _=>run_move rfl rfl) ?_
     refine aj 2 8 rfl (by kernel_rfl) (fun _ _ _ hz Sz=>.inl (Uk (C:=bW) 0 rfl rfl rfl gM (by first|rfl|omega) (hs.mono (Hp.Ua hz Sz.mx)) (by first|omega|(simp only[ls];omega)))) ?_
     refine ai 3 7 rfl (by kernel_rfl) (fun _=>U1 rfl rfl aZ rfl (aB) (aA)) ?_
     refine aj 4 6 rfl (by kernel_rfl) (fun _ _ _ hz Sz=>.inl (U4 rfl rfl av rfl ((hs.mono (Hp.Ua hz Sz.mx)).cell Sz.um (i:=0) (by first|omega|(simp only[ls];omega)) 0 rfl rfl))) ?_
     refine aj 5 5 rfl (by kernel_rfl) (fun _ _ _ hz Sz=>Uq rfl rfl rfl rfl rfl F7 Sz (EP d ((ga s 0).a) ((hbb.mono (Hp.Ua hz Sz.mx)).mono Sz.Uw) ((br.mono (Hp.Ua hz Sz.mx)).mono Sz.Uw) ((hsc.mono (Hp.Ua hz Sz.mx)).mono Sz.Uw) ((hsi.mono (Hp.Ua hz Sz.mx)).mono Sz.Uw) ((aK.mono (Hp.Ua hz Sz.mx)).mono Sz.Uw) hn hab (by first|assumption|omega) Sz.aD)) ?_
     refine ai 6 4 rfl (by kernel_rfl) (fun _=>run_move rfl rfl) ?_
     refine ai 7 3 rfl (by kernel_rfl) (fun _=>Ul rfl rfl rfl) ?_
     refine ai 8 2 rfl (by kernel_rfl) (fun _=>Ul rfl rfl rfl) ?_
     refine ai 9 1 rfl (by kernel_rfl) (fun _=>run_assign rfl rfl) ?_
     refine ai 10 0 rfl (by kernel_rfl) (fun _=>run_assign rfl rfl) ?_
     refine Uu (by kernel_rfl) (fun tO gB=>?_)
     refine ah [0,1,7,8] rfl (U3 (U2 atf NB rfl rfl rfl (Ux rfl (by kernel_rfl) gB 11 rfl ?_)))
     clear gB
     refine aj 0 10 rfl (by kernel_rfl) (fun _ _ _ hz Sz=>.inl (U4 rfl rfl iB rfl ((ja.mono (Hp.Ua hz Sz.mx)).cell Sz.um rfl))) ?_
     refine ai 1 9 rfl (by kernel_rfl) (fun _=>run_move rfl rfl) ?_
     refine aj 2 8 rfl (by kernel_rfl) (fun _ _ _ hz Sz=>.inl (Uk (C:=bW) 1 rfl rfl rfl gM (by first|rfl|omega) (hs.mono (Hp.Ua hz Sz.mx)) (by first|omega|(simp only[ls];omega)))) ?_
     refine ai 3 7 rfl (by kernel_rfl) (fun _=>U1 rfl rfl aZ rfl (aB) (aA)) ?_
     refine aj 4 6 rfl (by kernel_rfl) (fun _ _ _ hz Sz=>.inl (U4 rfl rfl av rfl ((hs.mono (Hp.Ua hz Sz.mx)).cell Sz.um (i:=1) (by first|omega|(simp only[ls];omega)) 0 rfl rfl))) ?_
     refine aj 5 5 rfl (by kernel_rfl) (fun _ _ _ hz Sz=>Uq rfl rfl rfl rfl rfl F7 Sz (EP d ((ga s 1).a) ((hbb.mono (Hp.Ua hz Sz.mx)).mono Sz.Uw) ((br.mono (Hp.Ua hz Sz.mx)).mono Sz.Uw) ((hsc.mono (Hp.Ua hz Sz.mx)).mono Sz.Uw) ((hsi.mono (Hp.Ua hz Sz.mx)).mono Sz.Uw) ((aK.mono (Hp.Ua hz Sz.mx)).mono Sz.Uw) hn hab (by first|assumption|omega) Sz.aD)) ?_
     refine ai 6 4 rfl (by kernel_rfl) (fun _=>run_move rfl rfl) ?_
     refine ai 7 3 rfl (by kernel_rfl) (fun _=>Ul rfl rfl rfl) ?_
     refine ai 8 2 rfl (by kernel_rfl) (fun _=>Ul rfl rfl rfl) ?_
     refine ai 9 1 rfl (by kernel_rfl) (fun _=>run_assign rfl rfl) ?_
     refine ai 10 0 rfl (by kernel_rfl) (fun _=>run_assign rfl rfl) ?_
     refine Uu (by kernel_rfl) (fun tK eN=>?_)
     refine ah [7,8,9,10] rfl (U3 (U2 ate atd rfl rfl rfl (U0 rfl (ag 0 2 rfl rfl ?_))))
     refine jt (k':=4) (d:=76) (decide ((hgt d ((ga s 0).a)=2)/\(hgt d ((ga s 1).a)=0))) [(8,_),(9,_),(10,_)] ⟨rfl,rfl,rfl,trivial⟩ (fun adK=>?_) ?_
     ·refine Ut (t:=74) rfl (fun GJ=>?_) (fun GJ=>?_)
      ·refine ag 2 2 rfl rfl ?_
       exact b6 76 (.bool (decide ((hgt d ((ga s 0).a)=2)/\(hgt d ((ga s 1).a)=0)))) rfl (congrArg Value.bool (decide_eq_decide.2 ⟨fun h=>⟨GJ,h⟩,fun h=>h.2⟩)) (eo [(76,_),(8,_),(9,_),(10,_)] ⟨rfl,rfl,rfl,rfl,trivial⟩ adK)
      ·refine ag 2 2 rfl rfl ?_
       exact b6 76 (.bool (decide ((hgt d ((ga s 0).a)=2)/\(hgt d ((ga s 1).a)=0)))) rfl (congrArg Value.bool (decide_eq_false (fun h=>GJ h.1)).symm) (eo [(76,_),(8,_),(9,_),(10,_)] ⟨rfl,rfl,rfl,rfl,trivial⟩ adK)
     ·refine ag 4 1 rfl rfl ?_
      refine jt (k':=10) (d:=82) (decide (((hgt d ((ga s 0).a)=2)/\(hgt d ((ga s 1).a)=0))\/((hgt d ((ga s 0).a)=0)/\(hgt d ((ga s 1).a)=2)))) [(8,_),(9,_)] ⟨rfl,rfl,trivial⟩ (fun adG=>?_) ?_
      ·refine Ut (t:=77) rfl (fun xY=>?_) (fun xY=>?_)
       ·refine ag 5 5 rfl rfl ?_
        exact b6 82 (.bool (decide (((hgt d ((ga s 0).a)=2)/\(hgt d ((ga s 1).a)=0))\/((hgt d ((ga s 0).a)=0)/\(hgt d ((ga s 1).a)=2))))) rfl (congrArg Value.bool (decide_eq_true (.inl xY)).symm) (eo [(82,_),(8,_),(9,_)] ⟨rfl,rfl,rfl,trivial⟩ adG)
       ·refine ag 5 2 rfl rfl ?_
        refine jt (k':=9) (d:=81) (decide ((hgt d ((ga s 0).a)=0)/\(hgt d ((ga s 1).a)=2))) [(8,_),(9,_),(77,_)] ⟨rfl,rfl,rfl,trivial⟩ (fun adH=>?_) ?_
        ·refine Ut (t:=79) rfl (fun GH=>?_) (fun GH=>?_)
         ·refine ag 7 2 rfl rfl ?_
          exact b6 81 (.bool (decide ((hgt d ((ga s 0).a)=0)/\(hgt d ((ga s 1).a)=2)))) rfl (congrArg Value.bool (decide_eq_decide.2 ⟨fun h=>⟨GH,h⟩,fun h=>h.2⟩)) (eo [(81,_),(8,_),(9,_),(77,_)] ⟨rfl,rfl,rfl,rfl,trivial⟩ adH)
         ·refine ag 7 2 rfl rfl ?_
          exact b6 81 (.bool (decide ((hgt d ((ga s 0).a)=0)/\(hgt d ((ga s 1).a)=2)))) rfl (congrArg Value.bool (decide_eq_false (fun h=>GH h.1)).symm) (eo [(81,_),(8,_),(9,_),(77,_)] ⟨rfl,rfl,rfl,rfl,trivial⟩ adH)
        ·refine ag 9 1 rfl rfl ?_
         exact b6 82 (.bool (decide (((hgt d ((ga s 0).a)=2)/\(hgt d ((ga s 1).a)=0))\/((hgt d ((ga s 0).a)=0)/\(hgt d ((ga s 1).a)=2))))) rfl (congrArg Value.bool (decide_eq_decide.2 ⟨.inr,fun h=>h.resolve_left xY⟩)) (eo [(82,_),(8,_),(9,_)] ⟨rfl,rfl,rfl,trivial⟩ adG)
      ·refine ag 10 1 rfl rfl (U5 rfl (ah [4] rfl (U3 (Uj hC [_] rfl rfl ⟨rfl,trivial⟩ ?_))))
       exact⟨_,rfl,(eN.pick [] [] (by decide) trivial),(by show Value.bool _=Value.bool _;refine congrArg Value.bool ?_;unfold iN dx;rw[Bool.eq_iff_iff];simp only[decide_eq_true_eq,Bool.false_eq_true,false_iff,true_iff];omega)⟩
noncomputable def NA:=Tryz.f70.body.getD .skip
def atc:=cL NA
def Nz:=cR NA
def atb:=cL Nz
def Ny:=cR Nz
def ata:=cL Ny
def Nx:=cR Ny
def as9:=cL Nx
def as8:=cR Nx
set_option maxHeartbeats 1000000 in
set_option maxRecDepth 10000 in
theorem ajP{w:World}{M:Hp}{X:Fr}(d:Dg){bu ggs:Nat}{bz:Value}{iA oA fA:Option Addr}{ic oc fc:Nat}{fv:List eT}(m:Mv)(hsi:aF bp M iA ic (aw d false (4*d.ae.length)))(aK:aF bp M oA oc (aw d true (4*d.ae.length)))(cG:aF (cB 141) M fA fc fv)(cF:ez bW M fv (U6 d))(hn:d.ae.length<=16)(hab:aX d=true)(hlo:0<=d.loops/\d.loops<=16)(S:SH w M X [Rs.aW [Rs.box bu 67 [.pointer (some ⟨ggs,0,none⟩),.slice fA fv.length fc],Rs.box ggs 70 [bz,.int .i64 d.loops,.slice iA (aw d false (4*d.ae.length)).length ic,.slice oA (aw d true (4*d.ae.length)).length oc],Rs.row aG bz d.ae]]):Cm 70 [.pointer (some ⟨bu,0,none⟩),.agg [.int .i64 m.kd,.int .i64 m.at_,.int .i64 m.aJ,.int .i64 m.ua,.bool m.ub,.int .i64 m.va,.bool m.vb,.bool m.ov].toArray] w M X (gp d m) (uz bu ggs (.slice fA fv.length fc) (.slice iA (aw d false (4*d.ae.length)).length ic) (.slice oA (aw d true (4*d.ae.length)).length oc) (y8 d m)):=by
 unfold Cm
 replace S:=S.jT
 obtain⟨cA,cc,cQ,_⟩:=S.sl (i:=2) rfl
 refine Up (b:=NA) Tryz.func70 rfl Tryz.ntmps70 rfl (fun C hC=>(bq [(0,_),(1,_)] ⟨rfl,rfl,trivial⟩ (U2 atc Nz rfl rfl rfl (U0 rfl (ak 0 1 rfl rfl rfl (bA (l:=[_]) rfl rfl rfl rfl rfl S ?_))))))
 intro aI w1 S1;clear S
 refine ak 1 2 rfl rfl rfl (bA (l:=[_,_,_,_,_,_,_,_]) rfl rfl rfl rfl rfl S1 ?_)
 intro aQ w2 S2;clear S1
 refine U5 rfl (ah [2,3] rfl (U3 (U2 atb Ny rfl rfl rfl (U0 rfl (af 0 rfl (U4 rfl rfl iB rfl (S2.ar (i:=1) rfl rfl)) (af 1 rfl (U1 rfl rfl aR rfl (aB) (aA)) (af 2 rfl (U4 rfl rfl av rfl (S2.ar (i:=0) rfl rfl)) (ak 3 4 rfl rfl rfl (cC rfl rfl rfl rfl rfl rfl rfl Ga S2 (Ef d m.at_ (SH.eG (N:=[]) (i:=2) S2 rfl rfl) (SH.eG (N:=[]) (i:=3) S2 rfl (by rw[cQ])) (SH.iY (N:=[]) (i:=4) S2 rfl cQ (by show _*40<=_;omega)) (hsi.mono (Hp.bR _ _)) (aK.mono (Hp.bR _ _)) (by omega) S2.aD) ?_)))))))))
 rintro _ w3 S3 rfl;clear S2
 refine ag 4 1 rfl rfl ?_
 refine Ut (t:=9) rfl (fun hg9=>?_) (fun hg9=>?_)
 ·refine aH 5 6 rfl rfl rfl rfl rfl rfl rfl rfl (Ub rfl rfl (U4 rfl rfl iB rfl (S3.ar (i:=1) rfl rfl)) (aH 6 7 rfl rfl rfl rfl rfl rfl rfl rfl (Ub rfl rfl (U1 rfl rfl aR rfl (aB) (aA)) (aH 7 8 rfl rfl rfl rfl rfl rfl rfl rfl (Ub rfl rfl (U4 rfl rfl av rfl (S3.ar (i:=0) rfl rfl)) (aH 8 9 rfl rfl rfl rfl rfl rfl rfl rfl (cC rfl rfl rfl rfl rfl rfl rfl Ga S3 (Ef d m.aJ (SH.eG (N:=[]) (i:=2) S3 rfl rfl) (SH.eG (N:=[]) (i:=3) S3 rfl (by rw[cQ])) (SH.iY (N:=[]) (i:=4) S3 rfl cQ (by show _*40<=_;omega)) (hsi.mono (Hp.bR _ _)) (aK.mono (Hp.bR _ _)) (by omega) S3.aD) ?_)))))))
  rintro _ w4 S4 rfl;clear S3
  refine ag 9 2 rfl rfl ?_
  refine Ut (t:=15) rfl (fun amU=>?_) (fun amU=>?_)
  ·refine aH 11 12 rfl rfl rfl rfl rfl rfl rfl rfl (Ub rfl rfl (U1 rfl rfl aR rfl (aB) (aA)) (aH 12 13 rfl rfl rfl rfl rfl rfl rfl rfl (Ub rfl rfl (U4 rfl rfl av rfl (S4.ar (i:=0) rfl rfl)) (aH 13 14 rfl rfl rfl rfl rfl rfl rfl rfl (Ub rfl rfl (U1 rfl rfl aR rfl (aB) (aA)) (aH 14 15 rfl rfl rfl rfl rfl rfl rfl rfl (Ub rfl rfl (U4 rfl rfl av rfl (S4.ar (i:=0) rfl rfl)) (aH 15 16 rfl rfl rfl rfl rfl rfl rfl rfl (Ub rfl rfl (iT rfl rfl rfl) (ag 16 1 rfl rfl ?_))))))))))
   refine Ut (t:=21) rfl (fun amH=>?_) (fun amH=>?_)
   ·refine ak 17 18 rfl rfl rfl (cC rfl rfl rfl rfl rfl rfl rfl dI S4 (lI 3 S4.aD) ?_)
    rintro _ w5 S5 rfl;clear S4
    refine U5 rfl (ah [2,3] rfl (U3 (U2 ata Nx rfl rfl rfl (U0 rfl (af 0 rfl (U4 rfl rfl iB rfl (S5.ar (i:=1) rfl rfl)) (af 1 rfl (U9 rfl rfl) (af 2 rfl (U1 rfl rfl cz rfl (BL) (Br)) (af 3 rfl (U4 rfl rfl kY rfl (S5.ar (i:=2) rfl rfl)) ?_))))))))
    refine af 4 rfl (uu (vs:=[_,_]) rfl rfl rfl rfl) (ak 5 6 rfl rfl rfl (cC rfl rfl rfl rfl rfl rfl rfl acU S5 (aac (U6 d) 124 _ (iN d m.at_ m.aJ) (cG.mono (Hp.bR _ _)) (cF.mono (Hp.bR _ _)) alz (fun w9 Y9 qc S9 A9 c9 x9 hm9 ze=>aif x9 d m ze ((SH.eG (N:=[]) (i:=2) S5 rfl rfl).mono qc) ((SH.eG (N:=[]) (i:=3) S5 rfl (by rw[cQ])).mono qc) ((SH.iY (N:=[]) (i:=4) S5 rfl cQ (by show _*40<=_;omega)).mono qc) ((hsi.mono (Hp.bR _ _)).mono qc) ((aK.mono (Hp.bR _ _)).mono qc) ((SH.eG (N:=[]) (i:=1) S5 rfl rfl).mono qc) ((SH.eG (N:=[]) (i:=0) S5 rfl rfl).mono qc) hn hab (Ae hab hm9) S9) S5.aD) ?_))
    rintro _ w6 S6 rfl;clear S5
    refine ag 6 1 rfl rfl (U5 rfl (ah [2,3,4] rfl (U3 (U2 as9 as8 rfl rfl rfl (U0 rfl (ag 0 1 rfl rfl ?_))))))
    refine mX (t:=29) rfl (fun Bv=>?_) (fun Bv=>?_)
    ·refine ak 1 2 rfl rfl rfl (cC rfl rfl rfl rfl rfl rfl rfl dI S6 (lI 8 S6.aD) ?_)
     rintro _ w7 S7 rfl;clear S6
     refine U5 rfl (ah [2,3] rfl (U3 ?_))
     have fR:(0<=m.at_/\m.at_<(d.ae.length:Int))/\(0<=m.aJ/\m.aJ<(d.ae.length:Int))/\m.at_≠m.aJ:=by omega
     refine U0 rfl (af 0 rfl (U4 rfl rfl iB rfl (S7.ar (i:=1) rfl rfl)) (af 1 rfl (U1 rfl rfl aR rfl (aB) (aA)) (af 2 rfl (U4 rfl rfl av rfl (S7.ar (i:=0) rfl rfl)) (af 3 rfl (U1 rfl rfl aR rfl (aB) (aA)) (af 4 rfl (U4 rfl rfl av rfl (S7.ar (i:=0) rfl rfl)) (b6 33 (.int .i64 ((m.at_.toNat:Nat):Int)) rfl (int_eq (by omega)) ?_))))))
     refine b6 35 (.int .i64 ((m.aJ.toNat:Nat):Int)) rfl (int_eq (by omega)) ?_
     refine ak 5 6 rfl rfl rfl (wC (C:=Uv) (l:=[_,_]) (pl:=[(0,1),(1,1)]) rfl rfl rfl rfl bw rfl rfl rfl rfl rfl S7 ?_)
     intro bE w9 S9;clear S7
     by_cases EF:lU d [m.at_.toNat,m.aJ.toNat]=0
     ·have bF:=S9.pick [3,4,5,0,1,2] [_,_,_,_,_,_] (by decide) ⟨rfl,rfl,rfl,rfl,rfl,rfl,trivial⟩;clear S9
      have bQ:SH _ _ _ (Rs.aW [_,_,_]::[_,_,_]):=SH.iD (A:=[_,_,_]) (B:=[_,_,_]) bF;clear bF
      have cw:SH _ _ _ [_,_,_,_]:=bQ.less (i:=0) rfl
      have hr1:=cw.Ep (C:=Uv) (zs:=[((m.at_.toNat:Nat):Int),((m.aJ.toNat:Nat):Int)]) (i:=1) rfl rfl (by show 2*_<=_;decide)
      have gL:=AK d ([((m.at_.toNat:Nat):Int),((m.aJ.toNat:Nat):Int)]) hsi aK cG cF hr1 (gs:=[m.at_.toNat,m.aJ.toNat]) rfl hn hab hlo (bQ.gN (i:=0) rfl)
      clear cw
      refine ak 6 7 rfl rfl rfl (jk (i:=0) rfl rfl rfl rfl rfl rfl rfl Be bQ rfl (gL.ok EF) ?_)
      intro avB jZ M1 avN aL bZ jc;clear bQ
      obtain⟨rfl,A1,c1,rfl,hr2⟩:=jc
      replace hsi:=hsi.mono aL
      replace aK:=aK.mono aL
      replace cG:=cG.mono aL
      replace cF:=cF.mono aL
      replace bZ:SH _ _ _ (Rs.aW [_,_]::[_,_,_]):=bZ
      have bN:SH _ _ _ [_,_,_,_,_]:=SH.je (A:=[_,_]) (B:=[_,_,_]) bZ;clear bZ
      refine U5 rfl (gI hC [] rfl trivial ?_)
      have bj:gp d m=0:=by unfold gp;rw[if_pos fR,if_pos Bv];exact EF
      refine .inl ⟨bj,_,rfl,_,_,aL,(bN.pick [0,1] [_,_] (by decide) ⟨rfl,rfl,trivial⟩).aW,?_⟩
      exact⟨rfl,_,_,rfl,hr2⟩
     ·have bj:gp d m=lU d [m.at_.toNat,m.aJ.toNat]:=by unfold gp;rw[if_pos fR,if_pos Bv]
      have bX:=S9.pick [3,4,5,0,1,2] [_,_,_,_,_,_] (by decide) ⟨rfl,rfl,rfl,rfl,rfl,rfl,trivial⟩;clear S9
      have bM:SH _ _ _ (Rs.aW [_,_,_]::[_,_,_]):=SH.iD (A:=[_,_,_]) (B:=[_,_,_]) bX;clear bX
      have bI:SH _ _ _ [_,_,_,_]:=bM.less (i:=0) rfl
      have hr3:=bI.Ep (C:=Uv) (zs:=[((m.at_.toNat:Nat):Int),((m.aJ.toNat:Nat):Int)]) (i:=1) rfl rfl (by show 2*_<=_;decide)
      have lN:=AK d ([((m.at_.toNat:Nat):Int),((m.aJ.toNat:Nat):Int)]) hsi aK cG cF hr3 (gs:=[m.at_.toNat,m.aJ.toNat]) rfl hn hab hlo (bM.gN (i:=0) rfl)
      refine kS (k:=6) rfl rfl rfl rfl rfl rfl rfl Be bI (lN.no EF) ?_
      intro w9 M9 ck S9
      subst hC
      exact .inr ⟨by rw[bj];first|decide|assumption,by rw[bj],M9,(Hp.le_refl _).trans ck,S9.pick [] [] (by decide) trivial⟩
    ·have fR:(0<=m.at_/\m.at_<(d.ae.length:Int))/\(0<=m.aJ/\m.aJ<(d.ae.length:Int))/\m.at_≠m.aJ:=by omega
     have bj:gp d m=8:=by unfold gp;rw[if_pos fR,if_neg (by rw[Bv];exact Bool.false_ne_true)]
     refine kS (k:=1) rfl rfl rfl rfl rfl rfl rfl dI S6 (ia 8 S6.aD) ?_
     intro w9 M9 ck S9
     subst hC
     exact .inr ⟨by rw[bj];first|decide|assumption,by rw[bj],M9,(Hp.le_refl _).trans ck,S9.pick [] [] (by decide) trivial⟩
   ·have bj:gp d m=3:=by unfold gp;rw[if_neg (by omega)]
    refine kS (k:=17) rfl rfl rfl rfl rfl rfl rfl dI S4 (ia 3 S4.aD) ?_
    intro w9 M9 ck S9
    subst hC
    exact .inr ⟨by rw[bj];first|decide|assumption,by rw[bj],M9,(Hp.le_refl _).trans ck,S9.pick [] [] (by decide) trivial⟩
  ·refine ag 11 6 rfl rfl ?_
   have bj:gp d m=3:=by unfold gp;rw[if_neg (by omega)]
   refine kS (k:=17) rfl rfl rfl rfl rfl rfl rfl dI S4 (ia 3 S4.aD) ?_
   intro w9 M9 ck S9
   subst hC
   exact .inr ⟨by rw[bj];first|decide|assumption,by rw[bj],M9,(Hp.le_refl _).trans ck,S9.pick [] [] (by decide) trivial⟩
 ·refine ag 5 6 rfl rfl (ag 11 6 rfl rfl ?_)
  have bj:gp d m=3:=by unfold gp;rw[if_neg (by omega)]
  refine kS (k:=17) rfl rfl rfl rfl rfl rfl rfl dI S3 (ia 3 S3.aD) ?_
  intro w9 M9 ck S9
  subst hC
  exact .inr ⟨by rw[bj];first|decide|assumption,by rw[bj],M9,(Hp.le_refl _).trans ck,S9.pick [] [] (by decide) trivial⟩
end Go.Proofs.YthppkofceancjaaGreat
namespace Go.Proofs.YthppkofceancjaaGreat
open Go.ChangeShapes Go.WideShapes Go.ChangeAt Go.RowKit
theorem AV:pU Tryz.prog 190 (fun x:Nat×Nat=>Value.agg (bp.f x).toArray):=abL akb (fun x y=>⟨(x.1:Int)=(y.1:Int)/\(x.2:Int)=(y.2:Int),⟨_,_,_,_,rfl,rfl,⟨_,_,_,rfl,rfl,rfl⟩,rfl⟩,⟨fun h=>by obtain⟨a,b⟩:=x;obtain⟨c,e⟩:=y;simp only at h;obtain⟨h1,h2⟩:=h;simp;omega,fun h=>by rw[h];exact⟨rfl,rfl⟩⟩⟩) (fun k=>by simp[Instr.sameBits,bp,nP])
def esN(d:Dg)(f:List Da):Nat->List (Int×Bool)
 |0=>[]
 |i+1=>mp ((dx d (ga f i):Nat):Int) true (esN d f i)
def il(d:Dg)(f:List Da)(h:Nat):Nat->Nat
 |0=>0
 |i+1=>il d f h i+(if hgt d (ga f i).a=h then 1 else 0)
def j6(d:Dg)(f:List Da):Bool:=decide (f.length=3/\(esN d f 3).length=3/\il d f 2 3=1/\il d f 0 3=1)
theorem Fq(d:Dg)(f:List Da)(h i:Nat):il d f h i<=i:=by
 induction i with
 |zero=>exact Nat.le_refl _
 |succ i ih=>unfold il;split<;>omega
theorem qx{d:Dg}{f:List Da}{h i:Nat}(e:hgt d (ga f i).a=h):il d f h (i+1)=il d f h i+1:=by rw[il,if_pos e]
theorem qB{d:Dg}{f:List Da}{h i:Nat}(e:¬hgt d (ga f i).a=h):il d f h (i+1)=il d f h i:=by rw[il,if_neg e,Nat.add_zero]
def bC(p:Nat×Nat):Nat×Nat:=(p.1,(p.2+2)%4)
def mJ(d:Dg)(f:List Da):Nat->List ((Nat×Nat)×Int)
 |0=>[]
 |i+1=>mp (Ud d (ga f i).a true) (bt d (bC (Ud d (ga f i).a false)).1 (bC (Ud d (ga f i).a false)).2) (mp (bC (Ud d (ga f i).a true)) (ga f i).a (mp (bC (Ud d (ga f i).a false)) (ga f i).a (mp (Ud d (ga f i).a false) (bt d (bC (Ud d (ga f i).a true)).1 (bC (Ud d (ga f i).a true)).2) (mJ d f i))))
def fX(xs:List Cr)(es:List ((Nat×Nat)×Int)):List Cr:=es.foldl (fun c q=>bg c q.1.1 q.1.2 q.2) xs
theorem aaG(es:List ((Nat×Nat)×Int)):∀xs:List Cr,(fX xs es).length=xs.length:=by
 induction es with
 |nil=>intro xs;rfl
 |cons q es ih=>intro xs;exact(ih _).trans (iw _ _ _ _)
theorem agp(xs:List Cr)(es:List ((Nat×Nat)×Int))(q:(Nat×Nat)×Int):fX xs (es++[q])=bg (fX xs es) q.1.1 q.1.2 q.2:=by unfold fX;rw[List.foldl_append];rfl
def pO(d:Dg)(p:Nat×Nat):Prop:=p.1<d.ae.length/\p.2<4
theorem nS{d:Dg}{p:Nat×Nat}(h:pO d p):pO d (bC p):=⟨h.1,Nat.mod_lt _ (by decide)⟩
theorem abd{κ ε:Type}[DecidableEq κ](k:κ)(v:ε)(es:List (κ×ε)):(mp k v es).map Prod.fst=if k∈es.map Prod.fst then es.map Prod.fst else es.map Prod.fst++[k]:=by
 induction es with
 |nil=>simp[mp]
 |cons p r ih=>
  unfold mp
  by_cases h:k=p.1
  ·rw[if_pos h];simp[h]
  ·rw[if_neg h,List.map_cons,ih]
   by_cases h2:k∈r.map Prod.fst
   ·rw[if_pos h2,if_pos (by rw[List.map_cons];exact List.mem_cons_of_mem _ h2),List.map_cons]
   ·rw[if_neg h2,if_neg (by rw[List.map_cons];intro h3;exact(List.mem_cons.1 h3).elim h h2),List.map_cons,List.cons_append]
def nY(d:Dg)(es:List ((Nat×Nat)×Int)):Prop:=(es.map Prod.fst).Nodup/\∀k∈es.map Prod.fst,pO d k
theorem nY.put{d:Dg}{es:List ((Nat×Nat)×Int)}(h:nY d es){k:Nat×Nat}(hk:pO d k)(v:Int):nY d (mp k v es):=by
 refine⟨?_,fun q hq=>?_⟩
 ·rw[abd]
  split
  ·exact h.1
  ·rename_i hn
   exact List.nodup_append.2 ⟨h.1,by simp,fun a ha b hb=>by simp at hb;subst hb;exact fun e=>hn (e▸ha)⟩
 ·rw[abd]at hq
  split at hq
  ·exact h.2 q hq
  ·rcases List.mem_append.1 hq with hq|hq
   ·exact h.2 q hq
   ·rw[List.mem_singleton]at hq;subst hq;exact hk
theorem Af{d:Dg}(hab:aX d=true){x:Da}(hx:okD d x)(b:Bool):pO d (Ud d x.a b):=by
 obtain⟨h1,h2,_⟩:=fe hab hx b
 exact⟨h1,h2⟩
theorem abJ{d:Dg}(hab:aX d=true){f:List Da}(hf:∀x∈f,okD d x):∀i,i<=f.length->nY d (mJ d f i):=by
 intro i
 induction i with
 |zero=>intro _;exact⟨List.nodup_nil,fun k hk=>by cases hk⟩
 |succ i ih=>
  intro hi
  have hx:=hf _ (gZ (show i<f.length by omega))
  have h1:=Af hab hx true
  have h2:=Af hab hx false
  exact((((ih (by omega)).put h2 _).put (nS h2) _).put (nS h1) _).put h1 _
theorem agW{x:Cr}{j k:Nat}{a b:Int}(hj:j<4)(hk:k<4)(h:j≠k):pn (pn x j a) k b=pn (pn x k b) j a:=by
 obtain rfl|rfl|rfl|rfl:j=0\/j=1\/j=2\/j=3:=by omega
 all_goals obtain rfl|rfl|rfl|rfl:k=0\/k=1\/k=2\/k=3:=by omega
 all_goals first|rfl|exact absurd rfl h
theorem aap{n:Nat}{xs:List Cr}{p q:Nat×Nat}{a b:Int}(hn:xs.length=n)(hp:p.1<n/\p.2<4)(hq:q.1<n/\q.2<4)(h:p≠q):bg (bg xs p.1 p.2 a) q.1 q.2 b=bg (bg xs q.1 q.2 b) p.1 p.2 a:=by
 unfold bg
 by_cases e:p.1=q.1
 ·have h2:p.2≠q.2:=fun e2=>h (Prod.ext e e2)
  rw[<-e,dV _ _ _ _ (by omega),dV _ _ _ _ (by omega),if_pos rfl,if_pos rfl,List.set_set,List.set_set,agW hp.2 hq.2 h2]
 ·rw[dV _ _ _ _ (by omega),dV _ _ _ _ (by omega),if_neg e,if_neg (fun e'=>e e'.symm),List.set_comm _ _ e]
theorem agq{d:Dg}{es es':List ((Nat×Nat)×Int)}(hp:es.Perm es')(h:nY d es'):fX d.ae es=fX d.ae es':=by
 have h0:nY d es:=⟨(hp.map Prod.fst).nodup_iff.2 h.1,fun k hk=>h.2 k ((hp.map Prod.fst).mem_iff.1 hk)⟩
 have key:∀{l₁ l₂:List ((Nat×Nat)×Int)},l₁.Perm l₂->nY d l₁->∀xs:List Cr,xs.length=d.ae.length->fX xs l₁=fX xs l₂:=by
  intro l₁ l₂ hp
  induction hp with
  |nil=>intro _ xs _;rfl
  |cons x _ ih=>
   intro hl xs hx
   obtain⟨h1,h2⟩:=hl
   rw[List.map_cons,List.nodup_cons]at h1
   exact ih ⟨h1.2,fun k hk=>h2 k (by rw[List.map_cons];exact List.mem_cons_of_mem _ hk)⟩ _ ((iw _ _ _ _).trans hx)
  |swap x y l=>
   intro hl xs hx
   obtain⟨h1,h2⟩:=hl
   rw[List.map_cons,List.map_cons,List.nodup_cons]at h1
   have hx1:=h2 x.1 (by simp)
   have hy1:=h2 y.1 (by simp)
   have hne:y.1≠x.1:=fun e=>h1.1 (by rw[e];simp)
   show fX (bg (bg xs y.1.1 y.1.2 y.2) x.1.1 x.1.2 x.2) l=fX (bg (bg xs x.1.1 x.1.2 x.2) y.1.1 y.1.2 y.2) l
   rw[aap hx hy1 hx1 hne]
  |trans h1 _ ih1 ih2=>
   intro hl xs hx
   exact(ih1 hl xs hx).trans (ih2 ⟨(h1.map Prod.fst).nodup_iff.1 hl.1,fun k hk=>hl.2 k ((h1.map Prod.fst).mem_iff.2 hk)⟩ xs hx)
 exact key hp h0 _ rfl
def gF(d:Dg)(m:Mv):Int:=if 0<=m.at_/\m.at_<((U6 d).length:Int)then(if j6 d (ga (U6 d) m.at_.toNat)=true then 0 else 8)else 3
def p6(d:Dg)(m:Mv):Dg:=⟨fX d.ae (mJ d (ga (U6 d) m.at_.toNat) 3),d.loops⟩
noncomputable def Nw:=Tryz.f127.body.getD .skip
def as7:=cL Nw
def Nv:=cR Nw
def Nu:=cL Nv
def Nt:=cR Nv
def as6:=cL Nu
def Ns:=cR Nu
def Nr:=cL Ns
def as5:=cR Ns
def as4:=cL Nr
def as3:=cR Nr
def as2:=cL Nt
def Nq:=cR Nt
def as1:=cL Nq
def Np:=cR Nq
def Nn:=cL Np
def Nk:=cR Np
def as0:=cL Nn
def afl:=cR Nn
def afk:=cL afl
def Nj:=cL afk
def asZ:=cL Nj
def Ni:=cR Nj
def Nh:=cL Ni
def Ng:=cR Ni
def asY:=cL Nh
def asX:=cR Nh
def afj:=cL Ng
def asW:=cR Ng
def Nf:=cL afj
def asV:=cL Nf
def Nc:=cR Nf
def asU:=cL Nc
def Nb:=cR Nc
def asT:=cL Nb
def Na:=cR Nb
def M0:=cL Na
def MZ:=cR Na
def asS:=cL M0
def MX:=cR M0
def asR:=cL MX
def asQ:=cR MX
def afi:=cL MZ
def CQ:=cR MZ
def afh:=cL CQ
def afg:=cR CQ
def asP:=cL Nk
def asO:=cR Nk
set_option maxHeartbeats 1000000 in
set_option maxRecDepth 10000 in
theorem aho{w:World}{M:Hp}{X:Fr}(d:Dg){bH:Nat}{cA iA oA:Option Addr}{cc ic oc:Nat}{bu:Nat}{fV:Value}(f:List Da){fA:Option Addr}{fc:Nat}(hbb:cM (M.un X.h) bu 67 [.pointer (some ⟨bH,0,none⟩),fV])(br:cM (M.un X.h) bH 70 [.slice cA d.ae.length cc,.int .i64 d.loops,.slice iA (aw d false (4*d.ae.length)).length ic,.slice oA (aw d true (4*d.ae.length)).length oc])(hsc:aF aG (M.un X.h) cA cc d.ae)(hsi:aF bp (M.un X.h) iA ic (aw d false (4*d.ae.length)))(aK:aF bp (M.un X.h) oA oc (aw d true (4*d.ae.length)))(hf:aF bW (M.un X.h) fA fc f)(hn:d.ae.length<=16)(hab:aX d=true)(hok:∀x∈f,okD d x)(S:SH w M X []):Cq Tryz.prog 127 [.pointer (some ⟨bu,0,none⟩),.slice fA f.length fc] w M X (fun u=>u=.bool (j6 d f)):=by
 unfold Cq
 have avO:f.length*16<=140737488355328:=hf.room
 refine Up (b:=Nw) Tryz.func127 rfl Tryz.ntmps127 rfl (fun C hC=>(bq [(0,_),(1,_)] ⟨rfl,rfl,trivial⟩ (U2 as7 Nv rfl rfl rfl (U0 rfl (ag 0 1 rfl rfl (U5 rfl (ah [0,1] rfl (U3 (U2 Nu Nt rfl rfl rfl ?_)))))))))
 refine U2 as6 Ns rfl rfl rfl (U0 rfl (ag 0 1 rfl rfl (af 1 rfl (cI rfl rfl rfl rfl rfl rfl ig) (af 2 rfl (iT rfl rfl rfl) (U5 rfl (ah [0,1,14] rfl (U3 ?_)))))))
 refine Ue Nr as5 rfl rfl rfl rfl (fun gD=>?_) (fun gD=>?_)
 ·refine U2 as4 as3 rfl rfl rfl (U0 rfl (ag 0 1 rfl rfl (U5 rfl (ah [4] rfl (U3 (Uj hC [_] rfl rfl ⟨rfl,trivial⟩ ?_))))))
  exact⟨_,rfl,(S.pick [] [] (by decide) trivial),(by show Value.bool _=Value.bool _;refine congrArg Value.bool ?_;unfold j6;first|(refine decide_eq_decide.2 ?_;omega)|(symm;rw[decide_eq_false_iff_not];omega))⟩
 ·refine Uf rfl (ah [0,1] rfl (U3 (U2 as2 Nq rfl rfl rfl (U0 rfl (ak 0 1 rfl rfl rfl (wA Int Bool (Value.int .i64) Value.bool rfl rfl rfl S ?_))))))
  intro iG w1 S1;clear S
  refine ag 1 1 rfl rfl (U5 rfl (ah [0,1,5] rfl (U3 (U2 as1 Np rfl rfl rfl (U0 rfl (ag 0 2 rfl rfl (U5 rfl (U3 ?_))))))))
  refine U2 Nn Nk rfl rfl rfl (U2 as0 afl rfl rfl rfl (U0 rfl (ag 0 1 rfl rfl (af 1 rfl (cI rfl rfl rfl rfl rfl rfl ig) (ag 2 1 rfl rfl (U5 rfl (ah [0,5,6,7,16,17,18] rfl (U3 ?_))))))))
  refine Uc afk 0 rfl rfl rfl ?_
  refine Uz (fun aS au aM=>∃(i:Nat) (ab:Nat) (be:Nat) (es:List (Int×Bool)),aS=f.length-i/\Env 55 [(0,.pointer (some ⟨bu,0,none⟩)),(5,.map (some iG)),(6,.int .i64 (ab:Int)),(7,.int .i64 (be:Int)),(16,.slice fA f.length fc),(17,.int .i64 (f.length:Int)),(18,.int .i64 (i:Int))] au/\SH aM M X [Rs.mp (Value.int .i64) Value.bool iG es]/\i<=f.length/\es=esN d f i/\ab=il d f 2 i/\be=il d f 0 i) rfl ?_ ?_
  ·intro au aq
   refine⟨_,⟨0,0,0,[],rfl,aq.sub ⟨rfl,rfl,rfl,rfl,rfl,rfl,rfl,trivial⟩,S1.pick [0] [_] (by decide) ⟨rfl,trivial⟩,?cd,?cT,?lS,?FR⟩⟩
   case cd=>omega
   case cT=>rfl
   case lS=>rfl
   case FR=>rfl
  ·rintro m2 a1 w2 ⟨i,ab,be,es,rfl,bh,S2,hi,hes,pL,qf⟩
   clear S1
   refine b7 bh (c:=Nj) rfl ?_
   clear bh a1
   have avY:ab<=i:=by rw[pL];exact Fq _ _ _ _
   have avX:be<=i:=by rw[qf];exact Fq _ _ _ _
   refine U2 asZ Ni rfl rfl rfl (U0 rfl (af 0 rfl (bV rfl rfl rfl) (U5 rfl (U3 (U2 Nh Ng rfl rfl rfl ?_)))))
   refine Ue asY asX rfl rfl rfl rfl (fun pK=>?_) (fun pK=>?_)
   ·refine Uf rfl (ah [0,5,6,7,16,17,18] rfl (U3 (U2 afj asW rfl rfl rfl (Uc Nf 1 rfl rfl rfl (U2 asV Nc rfl rfl rfl (U0 rfl (af 0 rfl (Uk (C:=bW) i rfl rfl rfl gM (by first|rfl|omega) hf (by first|omega|(simp only[ls];omega))) ?_)))))))
    refine af 1 rfl (U8 (us:=[_,_]) rfl rfl aZ rfl cg (hf.fq S2.um (e:=i) (by first|omega|(simp only[ls];omega)) (j:=0) ⟨rfl,rfl,trivial⟩)) ?_
    refine ak 2 3 rfl rfl rfl (Uh (l:=[_,_]) rfl rfl rfl mH rfl S2 ?_)
    intro aI w3 S3;clear S2
    refine ak 3 4 rfl rfl rfl (U7 (i:=0) (us:=[_,_]) (l':=[_,_]) (H':=[_,_]) rfl rfl S3 rfl rfl rfl rfl cg rfl rfl rfl rfl ?_)
    intro w4 S4;clear S3
    refine U5 rfl (ah [0,5,6,7,16,17,18,9] rfl (U3 (U2 asU Nb rfl rfl rfl ?_)))
    have ho:okD d (ga f i):=hok _ (gZ (by omega))
    have hpo:1<=(ga f i).a/\(ga f i).a<=2*(d.ae.length:Int):=ho
    have S5:=S4.pick [1,0] [_,_] (by decide) ⟨rfl,rfl,trivial⟩;clear S4
    refine ki [_] [_] rfl (by kernel_rfl) S5 9 rfl ?_
    clear S5
    change WA _ _ _ _ _ _ _ _ _ _ _ _ [_,_]
    refine ai 0 8 rfl (by kernel_rfl) (fun _=>run_move rfl rfl) ?_
    refine ai 1 7 rfl (by kernel_rfl) (fun _=>run_move rfl rfl) ?_
    refine ai 2 6 rfl (by kernel_rfl) (fun _=>U9 rfl rfl) ?_
    refine ai 3 5 rfl (by kernel_rfl) (fun _=>U1 rfl rfl cz rfl (cP) (cO)) ?_
    refine aj 4 4 rfl (by kernel_rfl) (fun _ _ _ hz Sz=>.inl (U4 rfl rfl cE rfl ((hbb.mono (Hp.Ua hz Sz.mx)).cell Sz.um rfl))) ?_
    refine aj 5 3 rfl (by kernel_rfl) (fun _ _ _ hz Sz=>.inl (U8 (us:=[_,_]) rfl rfl aZ rfl cg (Sz.suf.ax (i:=0) rfl ⟨rfl,rfl,trivial⟩))) ?_
    refine aj 6 2 rfl (by kernel_rfl) (fun _ _ _ hz Sz=>Uq rfl rfl rfl rfl rfl F8 Sz (Fv d (ga f i) ((br.mono (Hp.Ua hz Sz.mx)).mono Sz.Uw) ((hsc.mono (Hp.Ua hz Sz.mx)).mono Sz.Uw) ((hsi.mono (Hp.Ua hz Sz.mx)).mono Sz.Uw) ((aK.mono (Hp.Ua hz Sz.mx)).mono Sz.Uw) (by first|assumption|omega) hab (by first|assumption|omega) Sz.aD)) ?_
    refine ai 7 1 rfl (by kernel_rfl) (fun _=>mr rfl rfl ct rfl av rfl rfl) ?_
    refine Un (i:=8) 0 rfl (by kernel_rfl) rfl rfl (fun jY bX=>?_)
    refine(mY (kc:=Value.int .i64) (vc:=Value.bool) (es:=es) (k:=((Ud d (ga f i).a (!(ga f i).b)).1:Int)) (e:=true) (i:=0) (H':=[_,_]) (.inl rfl) rfl bX rfl rfl rfl rfl AP mQ rfl ?_)
    intro ot bM;clear bX
    refine aN.grow [_] (Hp.le_refl _) bM ?_;clear bM
    change WA _ _ _ _ _ _ _ _ _ _ _ _ [_,_]
    refine Uu (by kernel_rfl) (fun ma bI=>?_)
    refine ah [0,5,6,7,16,17,18,9] rfl (U3 (U2 asT Na rfl rfl rfl (U0 rfl (ag 0 1 rfl rfl (af 1 rfl (U1 rfl rfl aZ rfl (aB) (aA)) (af 2 rfl (U4 rfl rfl av rfl (bI.ar (i:=1) rfl rfl)) (ak 3 4 rfl rfl rfl (cC rfl rfl rfl rfl rfl rfl rfl F7 bI (EP d ((ga f i).a) (hbb.mono bI.Uw) (br.mono bI.Uw) (hsc.mono bI.Uw) (hsi.mono bI.Uw) (aK.mono bI.Uw) hn hab (by first|assumption|omega) bI.aD) ?_))))))))
    rintro _ lv bY rfl;clear bI
    refine ag 4 1 rfl rfl (af 5 rfl (Ul rfl rfl rfl) (af 6 rfl (Ul rfl rfl rfl) (ag 7 2 rfl rfl (U5 rfl (ah [0,5,6,7,16,17,18,10,11] rfl (U3 (U2 M0 MZ rfl rfl rfl (U2 asS MX rfl rfl rfl ?_))))))))
    refine U0 rfl (ag 0 1 rfl rfl (U5 rfl (ah [0,5,6,7,16,17,18,11,37] rfl (U3 ?_))))
    refine Ue asR asQ rfl rfl rfl rfl (fun pI=>?_) (fun pI=>?_)
    ·refine U0 rfl (ag 0 1 rfl rfl (af 1 rfl (Ug rfl rfl rfl (by first|omega|(simp only[ls];omega))) ?_))
     refine ag 2 1 rfl rfl (U5 rfl (ah [0,5,6,7,16,17,18,11] rfl (U3 (U2 afi CQ rfl rfl rfl (U0 rfl (ag 0 1 rfl rfl (U5 rfl (ah [0,5,6,7,16,17,18,40] rfl ?_))))))))
     refine U3 ?_
     refine Ue afh afg rfl rfl rfl rfl (fun jH=>?_) (fun jH=>?_)
     ·refine U0 rfl (ag 0 1 rfl rfl (af 1 rfl (Ug rfl rfl rfl (by first|omega|(simp only[ls];omega))) ?_))
      refine ag 2 1 rfl rfl (U5 rfl (bk (ah [0,5,6,7,16,17,18] rfl (U3 (U0 rfl (af 0 rfl (Ug rfl rfl rfl (by first|omega|(simp only[ls];omega))) ?_))))))
      refine ag 1 1 rfl rfl (U5 rfl (aP ?_))
      intro au aq
      refine⟨_,?dJ,⟨i+1,ab+1,be+1,mp ((Ud d (ga f i).a (!(ga f i).b)).1:Int) true es,rfl,aq.sub ⟨rfl,rfl,rfl,rfl,rfl,rfl,rfl,trivial⟩,bY.pick [0] [_] (by decide) ⟨rfl,trivial⟩,?cu,?cY,?ku,?FP⟩⟩
      case cu=>omega
      case cY=>(rw[hes];rfl)
      case ku=>first|(rw[qx pI,<-pL])|(rw[qB pI,<-pL])
      case FP=>first|(rw[qx jH,<-qf])|(rw[qB jH,<-qf])
      case dJ=>omega
     ·refine Uf rfl (bk (ah [0,5,6,7,16,17,18] rfl (U3 (U0 rfl (af 0 rfl (Ug rfl rfl rfl (by first|omega|(simp only[ls];omega))) ?_)))))
      refine ag 1 1 rfl rfl (U5 rfl (aP ?_))
      intro au aq
      refine⟨_,?kC,⟨i+1,ab+1,be,mp ((Ud d (ga f i).a (!(ga f i).b)).1:Int) true es,rfl,aq.sub ⟨rfl,rfl,rfl,rfl,rfl,rfl,rfl,trivial⟩,bY.pick [0] [_] (by decide) ⟨rfl,trivial⟩,?dO,?gh,?ny,?xH⟩⟩
      case dO=>omega
      case gh=>(rw[hes];rfl)
      case ny=>first|(rw[qx pI,<-pL])|(rw[qB pI,<-pL])
      case xH=>first|(rw[qx jH,<-qf])|(rw[qB jH,<-qf])
      case kC=>omega
    ·refine Uf rfl (ah [0,5,6,7,16,17,18,11] rfl (U3 (U2 afi CQ rfl rfl rfl (U0 rfl (ag 0 1 rfl rfl (U5 rfl (ah [0,5,6,7,16,17,18,40] rfl (U3 ?_))))))))
     refine Ue afh afg rfl rfl rfl rfl (fun jH=>?_) (fun jH=>?_)
     ·refine U0 rfl (ag 0 1 rfl rfl (af 1 rfl (Ug rfl rfl rfl (by first|omega|(simp only[ls];omega))) ?_))
      refine ag 2 1 rfl rfl (U5 rfl (bk (ah [0,5,6,7,16,17,18] rfl (U3 (U0 rfl (af 0 rfl (Ug rfl rfl rfl (by first|omega|(simp only[ls];omega))) ?_))))))
      refine ag 1 1 rfl rfl (U5 rfl (aP ?_))
      intro au aq
      refine⟨_,?jG,⟨i+1,ab,be+1,mp ((Ud d (ga f i).a (!(ga f i).b)).1:Int) true es,rfl,aq.sub ⟨rfl,rfl,rfl,rfl,rfl,rfl,rfl,trivial⟩,bY.pick [0] [_] (by decide) ⟨rfl,trivial⟩,?eU,?gQ,?o8,?xG⟩⟩
      case eU=>omega
      case gQ=>(rw[hes];rfl)
      case o8=>first|(rw[qx pI,<-pL])|(rw[qB pI,<-pL])
      case xG=>first|(rw[qx jH,<-qf])|(rw[qB jH,<-qf])
      case jG=>omega
     ·refine Uf rfl (bk (ah [0,5,6,7,16,17,18] rfl (U3 (U0 rfl (af 0 rfl (Ug rfl rfl rfl (by first|omega|(simp only[ls];omega))) ?_)))))
      refine ag 1 1 rfl rfl (U5 rfl (aP ?_))
      intro au aq
      refine⟨_,?kB,⟨i+1,ab,be,mp ((Ud d (ga f i).a (!(ga f i).b)).1:Int) true es,rfl,aq.sub ⟨rfl,rfl,rfl,rfl,rfl,rfl,rfl,trivial⟩,bY.pick [0] [_] (by decide) ⟨rfl,trivial⟩,?fB,?gP,?o7,?FL⟩⟩
      case fB=>omega
      case gP=>(rw[hes];rfl)
      case o7=>first|(rw[qx pI,<-pL])|(rw[qB pI,<-pL])
      case FL=>first|(rw[qx jH,<-qf])|(rw[qB jH,<-qf])
      case kB=>omega
   ·refine bS rfl rfl (ah [5,6,7] rfl (U3 (U2 asP asO rfl rfl rfl ?_)))
    obtain rfl:i=3:=by omega
    have hel:es.length=(esN d f 3).length:=by rw[hes]
    refine U0 rfl (ag 0 1 rfl rfl (af 1 rfl (agr (i:=0) rfl rfl rfl rfl rfl rfl AP S2 rfl) (af 2 rfl (bP rfl rfl rfl) (ag 3 1 rfl rfl ?_))))
    refine Ut (t:=47) rfl (fun x5=>?_) (fun x5=>?_)
    ·refine ag 4 1 rfl rfl (aH 5 6 rfl rfl rfl rfl rfl rfl rfl rfl (Ub rfl rfl (bP rfl rfl rfl) (ag 6 2 rfl rfl ?_)))
     refine Ut (t:=51) rfl (fun uZ=>?_) (fun uZ=>?_)
     ·refine ag 8 1 rfl rfl (aH 9 10 rfl rfl rfl rfl rfl rfl rfl rfl (Ub rfl rfl (bP rfl rfl rfl) (ag 10 2 rfl rfl (U5 rfl (ah [4] rfl (U3 (Uj hC [_] rfl rfl ⟨rfl,trivial⟩ ?_)))))))
      exact⟨_,rfl,(S2.pick [] [] (by decide) trivial),(by show Value.bool _=Value.bool _;refine congrArg Value.bool ?_;unfold j6;first|(refine decide_eq_decide.2 ?_;omega)|(symm;rw[decide_eq_false_iff_not];omega))⟩
     ·refine ag 8 4 rfl rfl (U5 rfl (ah [4] rfl (U3 (Uj hC [_] rfl rfl ⟨rfl,trivial⟩ ?_))))
      exact⟨_,rfl,(S2.pick [] [] (by decide) trivial),(by show Value.bool _=Value.bool _;refine congrArg Value.bool ?_;unfold j6;first|(refine decide_eq_decide.2 ?_;omega)|(symm;rw[decide_eq_false_iff_not];omega))⟩
    ·refine ag 4 6 rfl rfl (ag 10 2 rfl rfl (U5 rfl (ah [4] rfl (U3 (Uj hC [_] rfl rfl ⟨rfl,trivial⟩ ?_)))))
     exact⟨_,rfl,(S2.pick [] [] (by decide) trivial),(by show Value.bool _=Value.bool _;refine congrArg Value.bool ?_;unfold j6;first|(refine decide_eq_decide.2 ?_;omega)|(symm;rw[decide_eq_false_iff_not];omega))⟩
noncomputable def MW:=Tryz.f128.body.getD .skip
def asN:=cL MW
def MV:=cR MW
def asM:=cL MV
def asL:=cR MV
set_option maxRecDepth 10000 in
theorem zY{w:World}{M:Hp}{X:Fr}(x:Nat×Nat)(hx:x.2<4)(S:SH w M X []):Cq Tryz.prog 128 [.agg [.int .i64 (x.1:Int),.int .i64 (x.2:Int)].toArray] w M X (fun u=>u=.agg [.int .i64 ((bC x).1:Int),.int .i64 ((bC x).2:Int)].toArray):=by
 unfold Cq
 refine Up (b:=MW) Tryz.func128 rfl Tryz.ntmps128 rfl (fun C hC=>(bq [(0,_)] ⟨rfl,trivial⟩ (U2 asN MV rfl rfl rfl (U0 rfl (ak 0 1 rfl rfl rfl (bA (l:=[_,_]) rfl rfl rfl rfl rfl S ?_))))))
 intro aI w1 S1;clear S
 refine ak 1 2 rfl rfl rfl (Uh (l:=[_,_]) rfl rfl rfl nr rfl S1 ?_)
 intro aQ w2 S2;clear S1
 refine U5 rfl (ah [1,2] rfl (U3 (U2 asM asL rfl rfl rfl (U0 rfl (af 0 rfl (U1 rfl rfl ct rfl (aB) (aA)) (af 1 rfl (U4 rfl rfl av rfl (S2.ar (i:=1) rfl rfl)) (af 2 rfl (U1 rfl rfl ct rfl (aB) (aA)) (af 3 rfl (U4 rfl rfl av rfl (S2.ar (i:=1) rfl rfl)) ?_))))))))
 refine af 4 rfl (Ug rfl rfl rfl (by first|omega|(simp only[ls];omega))) ?_
 refine af 5 rfl (jq rfl rfl rfl (by first|omega|(simp only[ls];omega))) ?_
 refine b6 8 (.int .i64 (((x.2+2)%4:Nat):Int)) rfl (int_eq (by omega)) ?_
 refine af 6 rfl (run_build (l:=[_,_]) rfl rfl FD rfl rfl) (ak 7 8 rfl rfl rfl (U7 (i:=0) (us:=[_,_]) (l':=[_,_]) (H':=[_,_]) rfl rfl S2 rfl rfl rfl rfl dH rfl rfl rfl rfl ?_))
 intro w3 S3;clear S2
 refine U5 rfl (ah [2] rfl (U3 (Uj hC [_] rfl rfl ⟨⟨_,rfl,Um (us:=[_,_]) ct rfl dH (S3.ax (i:=0) rfl ⟨rfl,rfl,trivial⟩)⟩,trivial⟩ ?_)))
 exact⟨_,rfl,(S3.pick [] [] (by decide) trivial),(by rfl)⟩
end Go.Proofs.YthppkofceancjaaGreat
namespace Go.Proofs.YthppkofceancjaaGreat
open Go.ChangeShapes Go.WideShapes Go.ChangeAt Go.RowKit
section
variable {κ ε : Type} [DecidableEq κ]
theorem F6(k:κ)(v:ε):∀(es:List (κ×ε)) (i:Nat),fk k (mp k v es) i=some (((fk k es i).map (·.1)).getD (i+es.length),v)
 |[],i=>by simp[mp,fk]
 |p::r,i=>by
  unfold mp
  by_cases h:k=p.1
  ·rw[if_pos h];simp[fk,h]
  ·rw[if_neg h]
   simp only[fk,if_neg h,F6 k v r (i+1),List.length_cons]
   rw[show i+1+r.length=i+(r.length+1) by omega]
theorem alb{k:κ}:∀{es:List (κ×ε)}{j:Nat}{v:ε},fk k es 0=some (j,v)->es[j]? =some (k,v):=by
 have key:∀(es:List (κ×ε)) (i j:Nat) (v:ε),fk k es i=some (j,v)->∃m,j=i+m/\es[m]? =some (k,v):=by
  intro es
  induction es with
  |nil=>intro i j v h;cases h
  |cons p r ih=>
   intro i j v h
   unfold fk at h
   split at h
   ·rename_i he
    injection h with h
    injection h with h1 h2
    exact⟨0,by omega,by subst he;subst h2;rfl⟩
   ·obtain⟨m,h1,h2⟩:=ih _ _ _ h
    exact⟨m+1,by omega,by simpa using h2⟩
 intro es j v h
 obtain⟨m,h1,h2⟩:=key es 0 j v h
 obtain rfl:j=m:=by omega
 exact h2
theorem acD(k:κ)(v v':ε):∀es:List (κ×ε),mp k v (mp k v' es)=mp k v es
 |[]=>by simp[mp]
 |p::r=>by
  by_cases h:k=p.1
  ·simp[mp,h]
  ·simp[mp,h,acD k v v' r]
theorem abn{st:Nat}:∀{l:List MapEntry}{j:Nat},(l.map (·.born)).Nodup->(l[j]?).map (·.born)=some st->l.findIdx? (fun e=>((e.born:Nat):Int)==(st:Int))=some j
 |[],_,_,h=>by simp at h
 |e::l,0,_,h=>by
  have h1:e.born=st:=by simpa using h
  rw[List.findIdx?_cons,if_pos (by simp[h1])]
 |e::l,j+1,hn,h=>by
  obtain⟨h1,h2⟩:=List.nodup_cons.1 (by simpa using hn:(e.born::l.map (·.born)).Nodup)
  have h3:(l[j]?).map (·.born)=some st:=by simpa using h
  have hne:e.born≠st:=fun e1=>h1 (by
   cases hl:l[j]? with
   |none=>rw[hl]at h3;cases h3
   |some y=>
    rw[hl]at h3
    injection h3 with h3
    exact List.mem_map.2 ⟨y,List.mem_of_getElem? hl,(show y.born=e.born from by rw[e1];exact h3)⟩)
  rw[List.findIdx?_cons,if_neg (by simpa using fun e1=>hne (by omega)),abn h2 h3]
  rfl
theorem ahr{α:Type}{l:List α}{j:Nat}{a:α}(h:l[j]? =some a):l.set j a=l:=by
 apply List.ext_getElem?
 intro q
 rw[List.getElem?_set]
 split
 ·rename_i e
  subst e
  rw[h,if_pos (List.getElem?_eq_some_iff.1 h).1]
 ·rfl
def MpS(kc:κ->Value)(vc:ε->Value)(g:Nat)(es:List (κ×ε))(k:κ)(st:Nat)(h:Hp):Prop:=
 ∃arr clock,h g=some (.map arr clock)/\arr.toList.map (fun e=>(e.key,e.val))=es.map (fun p=>(kc p.1,vc p.2))/\wD arr clock/\∃j v,fk k es 0=some (j,v)/\(arr[j]?).map (·.born)=some st
def Rs.y9(kc:κ->Value)(vc:ε->Value)(g:Nat)(es:List (κ×ε))(k:κ)(st:Nat):Rs:=
 ⟨[g],MpS kc vc g es k st,fun h h' hb hk=>by
  obtain⟨arr,clock,h1,h2⟩:=hk
  exact⟨arr,clock,by rw[hb g (by simp)];exact h1,h2⟩⟩
end
section
variable {P : Program} {o : Oper} {L : List (Nat × Value)} {w w' : World} {x y z : Operand} {t T K E : TypeId} {v u : Value} {n d g i : Nat} {Kt : List (Nat × Value) → World → Prop} {M M' : Hp} {X : Fr} {H H' : List Rs}
variable {κ ε : Type} [DecidableEq κ] {kc : κ → Value} {vc : ε → Value} {es : List (κ × ε)}
theorem af9{k:κ}{zv:ε}(hop:o.op=.mapEntry T x y)(hd:o.dst=some d)(hn:Nat.blt d n=true)(S:SH w M X H)(hi:nth H i=some (Rs.mp kc vc g es))(hx:oev L x=some (.map (some g)))(hy:oev L y=some (kc k))(hu:P.underlying T=some (.map K E))(hK:pU P K kc)(hz:(P.info? E).map (·.zero)=some (some (vc zv)))
  (h:∀(st:Nat) w',SH w' M X (H.set i (Rs.y9 kc vc g (Go.Proofs.YthppkofceancjaaGreat.mp k ((mg k es).getD zv) es) k st))->Kt ((d,.tuple #[vc ((mg k es).getD zv),.int .i64 (st:Int)])::L) w'):WO P n o L w Kt:=by
 obtain⟨arr,clock,hg,ha,jV⟩:=(S.get hi:l8 kc vc g es (hp w))
 have hf:=hK.find k _ arr.toList w (Ed ha)
 rw[AF]at hf
 have hg':w.heap[g]? =some (.map arr clock):=hg
 have hgo:=MapKept.run_getObj_map (P:=P) hg'
 have hc:=fun b=>hK.check k w b
 have hlen:arr.toList.length=es.length:=by have:=congrArg List.length ha;simpa using this
 have key:∃ll clock' st,(Instr.mapEntry T (.map (some g)) (kc k)).run P w=.ok (.tuple #[vc ((mg k es).getD zv),.int .i64 ((st:Nat):Int)]) {w with heap:=w.heap.setIfInBounds g (.map ll clock')}/\ll.toList.map (fun e=>(e.key,e.val))=(Go.Proofs.YthppkofceancjaaGreat.mp k ((mg k es).getD zv) es).map (fun p=>(kc p.1,vc p.2))/\wD ll clock'/\∃j v,fk k (Go.Proofs.YthppkofceancjaaGreat.mp k ((mg k es).getD zv) es) 0=some (j,v)/\(ll[j]?).map (·.born)=some st:=by
  cases iP:fk k es 0 with
  |none=>
   rw[iP]at hf
   have hm:=(wV iP).1
   rw[hm,Option.getD_none]
   refine⟨arr.push {key:=kc k,val:=vc zv,born:=clock},clock+1,clock,?_,?_,?_,?_⟩
   ·simp only[Instr.mapEntry,Sem.run_bind,run_underlying hu,hgo,hc,hf,Result.andThen_ok,Option.map_none,wM hz,MapKept.run_setObj_map _ hg',Sem.run_pure]
    rfl
   ·rw[(wV iP).2 zv,Array.toList_push,List.map_append,List.map_append,ha];rfl
   ·refine⟨?_,fun x hx=>?_⟩
    ·rw[Array.toList_push,List.map_append]
     refine List.nodup_append.2 ⟨jV.1,by simp,fun a ha' b hb'=>?_⟩
     obtain⟨x,hx,rfl⟩:=List.mem_map.1 ha'
     simp at hb'
     have:=jV.2 x hx
     omega
    ·rw[Array.toList_push]at hx
     rcases List.mem_append.1 hx with h1|h1
     ·have:=jV.2 x h1;omega
     ·simp at h1;subst h1;exact Nat.lt_succ_self _
   ·refine⟨_,_,F6 k zv es 0,?_⟩
    rw[iP]
    show((arr.push _)[0+es.length]?).map _=_
    rw[Nat.zero_add,<-hlen,Array.length_toList,Array.getElem?_push_size]
    rfl
  |some q=>
   obtain⟨j,v⟩:=q
   rw[iP]at hf
   obtain⟨hm,m,hj,p,hp1,hp2,ld⟩:=wU iP
   obtain rfl:j=m:=by omega
   have hjl:j<es.length:=(List.getElem?_eq_some_iff.1 hp1).1
   have hja:j<arr.size:=by rw[<-Array.length_toList,hlen];exact hjl
   have Dq:(arr[j]?).map (fun e=>(e.key,e.val))=some (kc p.1,vc p.2):=by
    have h1:=congrArg (fun l=>l[j]?) ha
    simp only[List.getElem?_map,hp1,Option.map_some]at h1
    rw[Array.getElem?_toList]at h1
    exact h1
   rw[Array.getElem?_eq_getElem hja,Option.map_some,Option.some.injEq,Prod.mk.injEq]at Dq
   rw[hp2]at Dq
   have OH:=alb iP
   have hv:p.2=v:=by rw[hp1]at OH;simp at OH;rw[OH]
   have akI:(arr.modify j fun e'=>{e' with key:=kc k})=arr:=by
    apply Array.ext'
    apply List.ext_getElem?
    intro q
    rw[Array.getElem?_toList,Array.getElem?_modify,Array.getElem?_toList]
    by_cases hq:j=q
    ·subst hq
     rw[if_pos rfl,Array.getElem?_eq_getElem hja,Option.map_some,<-Dq.1]
    ·rw[if_neg hq]
   rw[hm,Option.getD_some]
   refine⟨arr,clock,arr[j].born,?_,?_,jV,j,v,?_,by rw[Array.getElem?_eq_getElem hja];rfl⟩
   ·have hst:(Instr.keyThatStays (kc k) (kc k)).run P w=.ok (kc k) w:=by
     unfold Instr.keyThatStays
     rw[if_pos (hK.bits k)];rfl
    have hkey:(arr[j]?).map (·.key)=some (kc k):=by rw[Array.getElem?_eq_getElem hja,Option.map_some,Dq.1]
    simp only[Instr.mapEntry,Sem.run_bind,run_underlying hu,hgo,hc,hf,Result.andThen_ok,Option.map_some,hkey,Option.getD_some,hst,MapKept.run_setObj_map _ hg',akI,Sem.run_pure]
    rw[Array.getElem?_eq_getElem hja]
    rfl
   ·rw[ld v,ha]
    have h4:es.set j (k,v)=es:=by
     rw[<-hp2,<-hv]
     exact ahr hp1
    rw[h4]
   ·have h5:=F6 k v es 0
    rw[iP]at h5
    exact h5
 obtain⟨ll,clock',st,hrun,Fk,FJ,ams⟩:=key
 have hlt:=gH hg
 refine Ub (v:=.tuple #[vc ((mg k es).getD zv),.int .i64 ((st:Nat):Int)]) (w':={w with heap:=w.heap.setIfInBounds g (.map ll clock')}) hd hn ?_ (h st _ ?_)
 ·intro n c he
  unfold execOp
  simp only[hop,he.eval hx,he.eval hy,hrun,Sem.run_bind,Result.andThen_ok,Sem.run_pure]
 ·refine S.step hi rfl (Ee w g _) (fun b _ hb=>?_) ⟨ll,clock',?_,Fk,FJ,ams⟩ (fun b hb=>⟨.inl hb,?_⟩)
  ·have hne:b≠g:=by simpa[Rs.mp]using hb
   show(w.heap.setIfInBounds g _)[b]? =w.heap[b]?
   rw[Array.getElem?_setIfInBounds_ne (Ne.symm hne)]
  ·show(w.heap.setIfInBounds g _)[g]? =_
   simp[hlt]
  ·simp[Rs.y9]at hb
   subst hb
   show _<(w.heap.setIfInBounds _ _).size
   simpa using hlt
theorem afX{k:κ}{e:ε}{st:Nat}(hop:o.op=.entryStore T x y z)(hd:o.dst=none)(S:SH w M X H)(hi:nth H i=some (Rs.y9 kc vc g es k st))(hx:oev L x=some (.map (some g)))(hy:oev L y=some (.int .i64 (st:Int)))(hz:oev L z=some (vc e))
  (hH:H.set i (Rs.mp kc vc g (Go.Proofs.YthppkofceancjaaGreat.mp k e es))=H')(h:∀w',SH w' M X H'->Kt L w'):WO P n o L w Kt:=by
 obtain⟨arr,clock,hg,ha,jV,j,v,iP,hb⟩:=(S.get hi:MpS kc vc g es k st (hp w))
 have hg':w.heap[g]? =some (.map arr clock):=hg
 have hgo:=MapKept.run_getObj_map (P:=P) hg'
 have hlen:arr.toList.length=es.length:=by have:=congrArg List.length ha;simpa using this
 obtain⟨hm,m,hj,p,hp1,hp2,ld⟩:=wU iP
 obtain rfl:j=m:=by omega
 have hjl:j<es.length:=(List.getElem?_eq_some_iff.1 hp1).1
 have hja:j<arr.size:=by rw[<-Array.length_toList,hlen];exact hjl
 have hkey:arr[j].key=kc k:=by
  have h1:=congrArg (fun l=>l[j]?) ha
  simp only[List.getElem?_map,hp1,Option.map_some]at h1
  rw[Array.getElem?_toList,Array.getElem?_eq_getElem hja]at h1
  simp only[Option.map_some,Option.some.injEq,Prod.mk.injEq]at h1
  rw[h1.1,hp2]
 rw[Array.getElem?_eq_getElem hja,Option.map_some,Option.some.injEq]at hb
 have amL:arr.findIdx? (fun e=>((e.born:Nat):Int)==(st:Int))=some j:=by
  obtain⟨la⟩:=arr
  rw[show(Array.mk la).findIdx? (fun e=>((e.born:Nat):Int)==(st:Int))=la.findIdx? (fun e=>((e.born:Nat):Int)==(st:Int))from by simp]
  exact abn jV.1 (by rw[Array.getElem?_toList,Array.getElem?_eq_getElem hja,Option.map_some,hb])
 have hrun:(Instr.entryStore T (.map (some g)) (.int .i64 (st:Int)) (vc e)).run P w=.ok () {w with heap:=w.heap.setIfInBounds g (.map (arr.modify j fun e'=>{e' with val:=vc e}) clock)}:=by
  simp[Instr.entryStore,hgo,asInt,asIntOf,amL,MapKept.run_setObj_map _ hg',Result.andThen]
 have hlt:=gH hg
 refine Aj hd (w':={w with heap:=w.heap.setIfInBounds g (.map (arr.modify j fun e'=>{e' with val:=vc e}) clock)}) ?_ (h _ ?_)
 ·intro n c he
  unfold execOp
  simp only[hop,he.eval hx,he.eval hy,he.eval hz,hrun,Sem.run_bind,Result.andThen_ok,Sem.run_pure]
 ·refine S.step hi hH (Ee w g _) (fun b _ hb=>?_) ⟨arr.modify j fun e'=>{e' with val:=vc e},clock,?_,?_,?_⟩ (fun b hb=>⟨.inl hb,?_⟩)
  ·have hne:b≠g:=by simpa[Rs.y9]using hb
   show(w.heap.setIfInBounds g _)[b]? =w.heap[b]?
   rw[Array.getElem?_setIfInBounds_ne (Ne.symm hne)]
  ·show(w.heap.setIfInBounds g _)[g]? =_
   simp[hlt]
  ·rw[ld e]
   apply List.ext_getElem?
   intro q
   have h1:=congrArg (fun l=>l[q]?) ha
   simp only[List.getElem?_map]at h1 ⊢
   rw[Array.getElem?_toList,Array.getElem?_modify,List.getElem?_set]
   rw[Array.getElem?_toList]at h1
   by_cases hq:j=q
   ·subst hq
    rw[if_pos rfl,if_pos rfl,if_pos hjl,Array.getElem?_eq_getElem hja]
    simp only[Option.map_some,hkey]
   ·rw[if_neg hq,if_neg hq]
    exact h1
  ·have Dx:(arr.modify j fun e'=>{e' with val:=vc e}).toList.map (·.born)=arr.toList.map (·.born):=by
    apply List.ext_getElem?
    intro q
    simp only[List.getElem?_map]
    rw[Array.getElem?_toList,Array.getElem?_modify,Array.getElem?_toList]
    by_cases hq:j=q
    ·subst hq;rw[if_pos rfl,Array.getElem?_eq_getElem hja];rfl
    ·rw[if_neg hq]
   refine⟨by rw[Dx];exact jV.1,fun x hx=>?_⟩
   have h2:x.born∈arr.toList.map (·.born):=by rw[<-Dx];exact List.mem_map.2 ⟨x,hx,rfl⟩
   obtain⟨y,hy,e2⟩:=List.mem_map.1 h2
   rw[<-e2];exact jV.2 y hy
  ·simp[Rs.mp]at hb
   subst hb
   show _<(w.heap.setIfInBounds _ _).size
   simpa using hlt
end
section
variable {P : Program} {ops : Array Oper} {Q : Exit → Act → World → Prop} {md : Region.Mode} {X : Fr}
end
section
variable {P : Program} {n : Nat} {C : Ctx} {c : Code} {s : List K} {L : List (Nat × Value)} {w : World} {Mb M : Hp} {X : Fr} {Hb H : List Rs} {l : Array Bool} {f : Nat}
end
section
variable {P : Program} {n : Nat} {C : Ctx} {c : Code} {s : List K} {L : List (Nat × Value)} {w : World} {M : Hp} {X : Fr} {H : List Rs}
end
end Go.Proofs.YthppkofceancjaaGreat
