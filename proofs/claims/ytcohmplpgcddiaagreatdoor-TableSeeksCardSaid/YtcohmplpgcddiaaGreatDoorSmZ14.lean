/- Part 14 of the proof of the law TableSeeks: the walks through its functions and the plain laws that they need. -/
import Derived.Test.YtcohmplpgcddiaaGreatDoorSmZ13
set_option linter.unusedSimpArgs false
set_option linter.unusedVariables false
noncomputable section
namespace Go.Proofs.YtcohmplpgcddiaaGreatDoor
open Go.ChangeShapes Go.WideShapes Go.ChangeAt Go.RowKit
theorem Ub{t:List UInt8}{xs:List (List UInt8)}{j:Nat}(hj:j<xs.length){th:Bool}(h:th=decide (t∈xs.take j)):decide (t∈xs.take (j+1))=(th||decide (ga xs j=t)):=by
 rw[na _ j hj,h,Bool.eq_iff_iff]
 simp only[List.mem_append,List.mem_singleton,decide_eq_true_eq,Bool.or_eq_true]
 exact or_congr Iff.rfl ⟨fun h=>h.symm,fun h=>h.symm⟩
noncomputable def Z5v:=Tryz.f7.body.getD .skip
set_option maxHeartbeats 2000000 in
set_option maxRecDepth 10000 in
theorem aaI{w:World}{M:Hp}{X:Fr}(d:Dg){bz:Option Addr}{bw:Nat}(dp:Nat)(aC:aJ bu M bz bw d.ae)(hdp:dp<=5)(hgd:Gd d)(S:SH w M X []):Ct Tryz.prog 7 [.agg [.slice bz d.ae.length bw,.int .i64 d.loops].toArray,.int .i64 (dp:Int)] w M X (fun u _=>∃r,u=.int .i64 r/\Rl d dp r):=by
 unfold Ct
 have iL:d.ae.length*40<=140737488355328:=aC.room
 refine cw (b:=Z5v) Tryz.func7 rfl Tryz.ntmps7 rfl (fun C hC=>(cB [0,1] rfl (ar (aj rfl (dx (l:=[_,_]) rfl rfl rfl rfl rfl S ?_)))))
 intro aP w1 S1;clear S
 refine af 1 rfl (bM [1,2] rfl (ar (ag rfl (az rfl aM rfl dN dM) (ag rfl (aw rfl cE (S1.bc 0 rfl rfl)) (ag rfl (cK rfl cE) (af 1 rfl (ax [1,2,20] rfl ?_)))))))
 refine bp rfl (fun xw=>?_) (fun xw=>?_)
 ·refine ar (af 1 rfl (ax [4] rfl (bU hC rfl ?_)))
  refine⟨_,rfl,_,Hp.le_refl _,(S1.pick [] [] (by decide) trivial),?_⟩
  show∃r,Value.int _ _=Value.int _ r/\_
  exact⟨_,rfl,.inl ⟨by omega,rfl⟩⟩
 ·have yh:=hgd
  have hz0:d.ae.length≠0:=by omega
  have oG:=E6 yh hz0
  refine aV (cP [1,2] rfl (ag rfl (aU [_,_] rfl aM aN (S1.bs 0 rfl rfl)) (aj rfl (eo rfl rfl rfl rfl rfl rfl rfl YC S1 (RL d (aC.mono (Hp.cM _ _)) (by have:=yh.1;omega) yh.2.2.2 S1.aT) ?_))))
  intro sZ w2 M1 bh S2 kY;clear S1
  replace aC:=aC.mono bh
  obtain⟨A1,c1,rfl,hr1⟩:=kY
  refine aj rfl (dU rfl rfl rfl rfl rfl rfl rfl YD S2 (Rx (gF d) (hr1.mono (Hp.cM _ _)) oG.1 oG.2.1 oG.2.2.1 oG.2.2.2.1 S2.aT) ?_)
  rintro _ w3 S3 rfl;clear S2
  refine aj rfl (eQ (C:=iY) (l:=[_]) rfl rfl rfl rfl pJ rfl rfl rfl rfl S3 ?_)
  intro bJ w4 S4;clear S3
  refine af 1 rfl (bL [1,2,5] rfl (ag rfl (aU [_,_] rfl aM aN (S4.bs 1 rfl rfl)) (aj rfl (eQ (C:=pO) (l:=[_,_]) rfl rfl rfl rfl De rfl rfl rfl rfl S4 ?_))))
  intro dE w5 S5;clear S4
  refine af 1 rfl (bM [1,5,6] rfl (ar (af 1 rfl (aB (bK (bg ?_))))))
  have S6:=S5.qi (C:=iY) [(iw d)] (i:=1) (H':=[_,_,_]) rfl rfl (by simp) rfl;clear S5
  obtain⟨s6,zK⟩:∃v,v=Value.slice (some ⟨bJ,0,none⟩) ([(iw d)]).length ([(iw d)]).length:=⟨_,rfl⟩
  rw[<-zK]at S6
  refine iZ 5 (s6) rfl zK.symm ?_
  have S7:=S6.qi (C:=pO) [(⟨(⟨bz,d.ae.length,bw⟩:ei),d.loops⟩:tJ)] (i:=0) (H':=[_,_,_]) rfl rfl (by simp) rfl;clear S6
  obtain⟨vQ,Hj⟩:∃v,v=Value.slice (some ⟨dE,0,none⟩) ([(⟨(⟨bz,d.ae.length,bw⟩:ei),d.loops⟩:tJ)]).length ([(⟨(⟨bz,d.ae.length,bw⟩:ei),d.loops⟩:tJ)]).length:=⟨_,rfl⟩
  rw[<-Hj]at S7
  have hz1:=(rI.eO (N:=M1)).snoc d aC
  refine iZ 6 (vQ) rfl Hj.symm ?_
  refine ck (fun aZ au aR=>∃(n:Nat) (ss:List (List UInt8)) (vs:List tJ) (nw:List Dg) (uJ:Value) (kB:Value) (M2:Hp),M1.le M2/\aZ=dp-n/\Env 97 [(1,.int .i64 (dp:Int)),(5,uJ),(6,kB),(7,.int .i64 ((n+1:Nat):Int))] au/\SH aR M2 X [Rs.row pO kB vs,Rs.row iY uJ ss]/\n<=dp/\(ss,nw)=iQ d n/\Kr d n/\rI M2 vs nw) rfl ?_ ?_
  ·intro au aq
   refine⟨_,⟨0,_,_,([d]),_,_,_,Hp.le_refl _,rfl,aq.su rfl,S7.pick [0,1] [_,_] (by decide) ⟨rfl,rfl,trivial⟩,?dh,?dC,?jm,?q7⟩⟩
   case dh=>omega
   case dC=>rfl
   case jm=>(intro q hq;omega)
   case q7=>exact hz1
  ·rintro m1 a1 w6 ⟨n,ss,vs,nw,uJ,kB,M2,hle2,rfl,bN,S8,hn,nN,hno,oC⟩
   clear S7
   refine cy bN ?_
   clear bN a1
   replace aC:=aC.mono hle2
   replace hr1:=hr1.mono hle2
   replace hz1:=hz1.mono hle2
   have anm:=oC.1
   obtain⟨G6,hbs,zF⟩:=Ve hgd n
   have hbd:=ahL (show n<=5 by omega)
   rw[<-nN]at G6 hbs zF
   replace hbs:ss.length<=lN n:=hbs
   replace zF:nw.length<=lN n:=zF
   replace G6:∀x∈nw,Gd x:=G6
   refine cJ (ar (af 3 rfl (ax [1,5,6,7,29] rfl ?_)))
   refine bp rfl (fun sI=>?_) (fun sI=>?_)
   ·refine aV (bC [1,5,6,7] rfl (bg (ar (af 1 rfl (aB (di (ar (af 1 rfl ?_))))))))
    refine aB (bK (bg ?_))
    have S9:=S8.jI pO;clear S8
    refine ck (fun aZ au aR=>∃(i:Nat) (s2:List (List UInt8)) (us:List tJ) (nx:List Dg) (ug:Value) (PR:Value) (M3:Hp),M2.le M3/\aZ=nw.length-i/\Env 97 [(1,.int .i64 (dp:Int)),(5,ug),(6,kB),(7,.int .i64 ((n+1:Nat):Int)),(8,PR),(9,.int .i64 (i:Int))] au/\SH aR M3 X [Rs.row pO PR us,Rs.row pO kB vs,Rs.row iY ug s2]/\i<=nw.length/\(s2,nx)=qG nw (ss,[]) i/\P4 nw i/\rI M3 us nx) rfl ?_ ?_
    ·intro au aq
     refine⟨_,⟨0,_,_,([]),_,_,_,Hp.le_refl _,rfl,aq.su rfl,S9.pick [0,1,2] [_,_,_] (by decide) ⟨rfl,rfl,rfl,trivial⟩,?dv,?dL,?jl,?py⟩⟩
     case dv=>omega
     case dL=>rfl
     case jl=>(intro q hq;omega)
     case py=>exact rI.eO
    ·rintro m2 a2 w7 ⟨i,s2,us,nx,ug,PR,M3,bZ,rfl,cU,bQ,hi,hsi,XD,p6⟩
     clear S9
     refine cy cU ?_
     clear cU a2
     replace aC:=aC.mono bZ
     replace hr1:=hr1.mono bZ
     replace hz1:=hz1.mono bZ
     replace oC:=oC.mono bZ
     have ank:=p6.1
     obtain⟨KA,kI,KF⟩:=Vg (s:=(ss,[])) (a:=lN n) (b:=0) ⟨fun x hx=>absurd hx List.not_mem_nil,hbs,Nat.le_refl _⟩ G6 hi
     rw[<-hsi]at KA kI KF
     replace kI:s2.length<=lN n+104*i:=kI
     replace KF:nx.length<=0+104*i:=KF
     refine cJ (ar (af 2 rfl (ag rfl (kZ (i:=1) rfl De bQ rfl) (af 1 rfl (ax [1,5,6,7,8,9,35] rfl ?_)))))
     refine bp rfl (fun mQ=>?_) (fun mQ=>?_)
     ·refine aV (bC [1,5,6,7,8,9] rfl (bg (cJ ?_)))
      have hgx:Gd (ga nw i):=G6 _ (cY (by omega))
      have hxl:=Ug hgx.1
      refine aH (af 2 rfl (ag rfl (bS (i:=1) i rfl De bQ rfl) ?_))
      obtain⟨kG,hr2,hl1⟩:=oC.2 i (by first|omega|(simp only[ls];omega))
      have Aq:(ga nw i).ae.length*40<=140737488355328:=hr2.room
      refine ag rfl (aU [_,_] rfl aM aN (bQ.qY (i:=1) (e:=i) (j:=0) rfl (by first|omega|(simp only[ls];omega)) ⟨congrArg (fun n=>some (Value.slice _ n _)) kG,congrArg (fun z=>some (Value.int .i64 z)) hl1,trivial⟩)) ?_
      refine aj rfl (eo rfl rfl rfl rfl rfl rfl rfl aki bQ (aaz (ga nw i) (hr2.mono (Hp.cM _ _)) (by have:=hgx.1;omega) hgx.2.2.2 bQ.aT) ?_)
      intro PL w8 M4 b7 cz Bo;clear bQ
      replace aC:=aC.mono b7
      replace hr1:=hr1.mono b7
      replace hz1:=hz1.mono b7
      replace oC:=oC.mono b7
      replace p6:=p6.mono b7
      replace hr2:=hr2.mono b7
      obtain⟨A2,c2,rfl,hr3⟩:=Bo
      refine af 1 rfl (bL [1,5,6,7,8,9,10] rfl (af 1 rfl (aB (bK (bg ?_)))))
      refine ck (fun aZ au aR=>∃(k:Nat) (s3:List (List UInt8)) (ys:List tJ) (n3:List Dg) (uf:Value) (uI:Value) (M5:Hp),M4.le M5/\aZ=(dJ (ga nw i)).length-k/\Env 97 [(1,.int .i64 (dp:Int)),(5,uf),(6,kB),(7,.int .i64 ((n+1:Nat):Int)),(8,uI),(9,.int .i64 (i:Int)),(10,.slice A2 (dJ (ga nw i)).length c2),(11,.int .i64 (k:Int))] au/\SH aR M5 X [Rs.row pO uI ys,Rs.row pO kB vs,Rs.row iY uf s3]/\k<=(dJ (ga nw i)).length/\(s3,n3)=slK (ga nw i) (dJ (ga nw i)) (s2,nx) k/\PZ (ga nw i) (dJ (ga nw i)) k/\rI M5 ys n3) rfl ?_ ?_
      ·intro au aq
       refine⟨_,⟨0,_,_,nx,_,_,_,Hp.le_refl _,rfl,aq.su rfl,cz.pick [0,1,2] [_,_,_] (by decide) ⟨rfl,rfl,rfl,trivial⟩,?fg,?fR,?ko,?mI⟩⟩
       case fg=>omega
       case fR=>rfl
       case ko=>(intro q hq;omega)
       case mI=>exact p6
      ·rintro m3 a3 w9 ⟨k,s3,ys,n3,uf,uI,M5,cH,rfl,fB,cO,hk,hsk,JJ,rL⟩
       clear cz
       refine cy fB ?_
       clear fB a3
       replace aC:=aC.mono cH
       replace hr1:=hr1.mono cH
       replace hz1:=hz1.mono cH
       replace oC:=oC.mono cH
       replace p6:=p6.mono cH
       replace hr2:=hr2.mono cH
       replace hr3:=hr3.mono cH
       have anp:=rL.1
       obtain⟨hgk,hbk,hbl⟩:=Vf (s:=(s2,nx)) ⟨KA,kI,KF⟩ hgx CM hk
       rw[<-hsk]at hgk hbk hbl
       replace hbk:s3.length<=lN n+104*i+k:=hbk
       replace hbl:n3.length<=0+104*i+k:=hbl
       refine cJ (ar (af 2 rfl (ag rfl (cK rfl pH) (af 1 rfl (ax [1,5,6,7,8,9,10,11,46] rfl ?_)))))
       refine bp rfl (fun O7=>?_) (fun O7=>?_)
       ·refine aV (bC [1,5,6,7,8,9,10,11] rfl (bg (cJ ?_)))
        refine z6 (fun au aR=>∃(xA:Option Addr) (xc:Nat) (rR:Nat) (M6:Hp),M5.le M6/\Env 97 [(1,.int .i64 (dp:Int)),(5,uf),(6,kB),(7,.int .i64 ((n+1:Nat):Int)),(8,uI),(9,.int .i64 (i:Int)),(10,.slice A2 (dJ (ga nw i)).length c2),(11,.int .i64 (k:Int)),(12,.pointer (some ⟨rR,0,none⟩)),(13,.int .i64 ((bR (ga nw i) (ga (dJ (ga nw i)) k)).2))] au/\SH aR M6 X [Rs.box rR 24 [.slice xA ((bR (ga nw i) (ga (dJ (ga nw i)) k)).1.ae).length xc,.int .i64 ((bR (ga nw i) (ga (dJ (ga nw i)) k)).1.loops)],Rs.row pO uI ys,Rs.row pO kB vs,Rs.row iY uf s3]/\aJ bu M6 xA xc (bR (ga nw i) (ga (dJ (ga nw i)) k)).1.ae) ?_ ?_
        ·refine dH cO 15 ?_
         clear cO
         refine aK 13 [0,1] rfl (ay 2 rfl (fun ah Sz=>bS (i:=1) i rfl De Sz.suf rfl) ?_)
         obtain⟨mv,hr4,hl2⟩:=oC.2 i (by first|omega|(simp only[ls];omega))
         have Fj:(ga nw i).ae.length*40<=140737488355328:=hr4.room
         refine ay 3 rfl (fun ah Sz=>aU [_,_] rfl aM aN (Sz.suf.qY (i:=1) (e:=i) (j:=0) rfl (by first|omega|(simp only[ls];omega)) ⟨congrArg (fun n=>some (Value.slice _ n _)) mv,congrArg (fun z=>some (Value.int .i64 z)) hl2,trivial⟩)) ?_
         refine aK 9 [4,5] rfl (ay 6 rfl (fun ah Sz=>cN k rfl kQ (hr3.mono ah)) (ay 7 rfl (fun ah Sz=>aU [_,_,_,_,_,_,_,_] rfl eT sF ((hr3.mono ah).j6 Sz.m (e:=k) (by first|omega|(simp only[ls];omega)) (j:=0) ⟨rfl,rfl,rfl,rfl,rfl,rfl,rfl,rfl,trivial⟩)) ?_))
         refine z7 (i:=8) (j:=12) 6 rfl rfl (by kernel_rfl) rfl rfl rfl rfl (fun vO gN=>?_) (fun vO gN=>?_)
         ·refine(eo rfl rfl rfl rfl rfl rfl rfl J1 gN (Ig (ga nw i) (ga (dJ (ga nw i)) k) (hr4.mono (Hp.cM _ _)) (CM _ (cY (by omega))) gN.aT) ?_)
          intro amx xU M17 tY gI ahk;clear gN
          replace aC:=aC.mono tY
          replace hr1:=hr1.mono tY
          replace hz1:=hz1.mono tY
          replace oC:=oC.mono tY
          replace p6:=p6.mono tY
          replace hr2:=hr2.mono tY
          replace hr3:=hr3.mono tY
          replace rL:=rL.mono tY
          replace hr4:=hr4.mono tY
          obtain⟨A3,c3,rfl,ja⟩:=ahk
          refine lC.grow [] (tY) gI ?_;clear gI
          change WA _ _ _ _ _ _ _ _ _ _ _ _ [_,_,_]
          refine yq (aK 3 [9,10,11] rfl (cm 12 rfl (fun DR kj=>((bW (l:=[_,_]) rfl rfl rfl jo rfl kj ?_)))))
          intro lK sY gM;clear kj
          refine dB [_] [_,_,_,_] rfl gM ?_;clear gM
          refine cm 13 rfl (fun BM jd=>((bH 0 [_,_] [_,_] [_,_,_,_] rfl jd rfl rfl aN rfl rfl ?_)))
          intro BL gu;clear jd
          refine dB [_] [_,_,_,_] rfl gu ?_;clear gu
          refine aK 0 [14] rfl (cD (fun zt jH=>(br ?_)))
          intro au aq
          refine⟨_,_,_,_,(tY),aq.su rfl,jH.pick [0,1,2,3] [_,_,_,_] (by decide) ⟨rfl,rfl,rfl,rfl,trivial⟩,?fJ⟩
          case fJ=>exact ja
         ·refine(bW (l:=[_,_]) rfl rfl rfl jo rfl gN ?_)
          intro iI xR lq;clear gN
          refine dB [_] [_,_,_,_] rfl lq ?_;clear lq
          refine cm 8 rfl (fun zr iJ=>((eo rfl rfl rfl rfl rfl rfl rfl J1 iJ (Ig (ga nw i) (ga (dJ (ga nw i)) k) (hr4.mono (Hp.cM _ _)) (CM _ (cY (by omega))) iJ.aT) ?_)))
          intro amr GK M25 tX jc ahe;clear iJ
          replace aC:=aC.mono tX
          replace hr1:=hr1.mono tX
          replace hz1:=hz1.mono tX
          replace oC:=oC.mono tX
          replace p6:=p6.mono tX
          replace hr2:=hr2.mono tX
          replace hr3:=hr3.mono tX
          replace rL:=rL.mono tX
          replace hr4:=hr4.mono tX
          obtain⟨A4,c4,rfl,p8⟩:=ahe
          refine lC.grow [_] (tX) jc ?_;clear jc
          change WA _ _ _ _ _ _ _ _ _ _ _ _ [_,_,_,_]
          refine yq (aK 2 [9,10,11] rfl (cm 13 rfl (fun DM jV=>((bH 0 [_,_] [_,_] [_,_,_,_] rfl jV rfl rfl aN rfl rfl ?_)))))
          intro xQ ma;clear jV
          refine ij ma ?_;clear ma
          change WA _ _ _ _ _ _ _ _ _ _ _ _ [_,_,_,_]
          refine aK 0 [14] rfl (cD (fun xP pg=>(br ?_)))
          intro au aq
          refine⟨_,_,_,_,(tX),aq.su rfl,pg.pick [0,1,2,3] [_,_,_,_] (by decide) ⟨rfl,rfl,rfl,rfl,trivial⟩,?fI⟩
          case fI=>exact p8
        ·rintro a4 ld ⟨xA,xc,rR,M6,eW,iT,cF,Ku⟩
         clear cO
         refine Au iT ?_
         clear iT a4
         replace aC:=aC.mono eW
         replace hr1:=hr1.mono eW
         replace hz1:=hz1.mono eW
         replace oC:=oC.mono eW
         replace p6:=p6.mono eW
         replace hr2:=hr2.mono eW
         replace hr3:=hr3.mono eW
         replace rL:=rL.mono eW
         refine di (ar (af 2 rfl (ax [1,5,6,7,8,9,10,11,12,62] rfl ?_)))
         refine bp rfl (fun je=>?_) (fun je=>?_)
         ·refine bX rfl (aW [1,5,6,7,8,9,10,11] rfl (aH (af 1 rfl (ag rfl (bj rfl) (af 1 rfl (aB (br ?_)))))))
          intro au aq
          refine⟨_,?kq,⟨k+1,_,_,n3,_,_,_,(cH.trans eW),rfl,aq.su rfl,cF.pick [1,2,3] [_,_,_] (by decide) ⟨rfl,rfl,rfl,trivial⟩,?iB,?iW,?px,?tU⟩⟩
          case iB=>omega
          case iW=>(rw[slK,if_neg (by simpa using je),<-hsk])
          case px=>(intro q hq h0;by_cases e:q=k;(subst e;exact absurd h0 (by simpa using je));exact JJ q (by omega) h0)
          case tU=>exact rL
          case kq=>omega
         ·refine aV (bC [1,5,6,7,8,9,10,11,12] rfl (ar (ag rfl (az rfl aM rfl dN dM) (ag rfl (aw rfl cE (cF.bc 0 rfl rfl)) (ag rfl (cK rfl cE) (af 1 rfl (ax [1,5,6,7,8,9,10,11,12,66] rfl ?_)))))))
          refine bp rfl (fun F6=>?_) (fun F6=>?_)
          ·refine ar (af 2 rfl (ax [4] rfl (bU hC rfl ?_)))
           refine⟨_,rfl,_,((((bh.trans hle2).trans bZ).trans b7).trans cH).trans eW,(cF.pick [] [] (by decide) trivial),?_⟩
           refine⟨_,rfl,.inr ⟨by omega,.inr ⟨n,i,k,rfl,by omega,hno,?_⟩⟩⟩
           rw[<-nN]
           exact⟨(by omega:i<nw.length),(by omega:k<(dJ (ga nw i)).length),(by simpa using je),(by omega:(bR (ga nw i) (ga (dJ (ga nw i)) k)).1.ae.length=0)⟩
          ·have yh:Gd (bR (ga nw i) (ga (dJ (ga nw i)) k)).1:=zT hgx (CM _ (cY (by omega))) (by simpa using je)
           have Ks:(bR (ga nw i) (ga (dJ (ga nw i)) k)).1.ae.length≠0:=by omega
           have oG:=E6 yh Ks
           refine aV (cP [1,5,6,7,8,9,10,11,12] rfl (ag rfl (aU [_,_] rfl aM aN (cF.bs 0 rfl rfl)) (aj rfl (eo rfl rfl rfl rfl rfl rfl rfl YC cF (RL ((bR (ga nw i) (ga (dJ (ga nw i)) k)).1) (Ku.mono (Hp.cM _ _)) (by have:=yh.1;omega) yh.2.2.2 cF.aT) ?_))))
           intro Xe GH M31 nW jG NP;clear cF
           replace aC:=aC.mono nW
           replace hr1:=hr1.mono nW
           replace hz1:=hz1.mono nW
           replace oC:=oC.mono nW
           replace p6:=p6.mono nW
           replace hr2:=hr2.mono nW
           replace hr3:=hr3.mono nW
           replace rL:=rL.mono nW
           replace Ku:=Ku.mono nW
           obtain⟨A5,c5,rfl,tq⟩:=NP
           refine aj rfl (dU rfl rfl rfl rfl rfl rfl rfl YD jG (Rx (gF ((bR (ga nw i) (ga (dJ (ga nw i)) k)).1)) (tq.mono (Hp.cM _ _)) oG.1 oG.2.1 oG.2.2.1 oG.2.2.2.1 jG.aT) ?_)
           rintro _ PH kK rfl;clear jG
           refine af 1 rfl (bL [1,5,6,7,8,9,10,11,12,14] rfl (af 1 rfl (aB (di (ar (af 1 rfl (aB (bK ?_))))))))
           refine bg ?_
           refine ck (fun aZ au aR=>∃(j:Nat) (th:Bool),aZ=s3.length-j/\Env 97 [(1,.int .i64 (dp:Int)),(5,uf),(6,kB),(7,.int .i64 ((n+1:Nat):Int)),(8,uI),(9,.int .i64 (i:Int)),(10,.slice A2 (dJ (ga nw i)).length c2),(11,.int .i64 (k:Int)),(12,.pointer (some ⟨rR,0,none⟩)),(14,.string (sB (iw ((bR (ga nw i) (ga (dJ (ga nw i)) k)).1)))),(15,.bool th),(16,.int .i64 (j:Int))] au/\SH aR M31 X [Rs.box rR 24 [.slice xA ((bR (ga nw i) (ga (dJ (ga nw i)) k)).1.ae).length xc,.int .i64 ((bR (ga nw i) (ga (dJ (ga nw i)) k)).1.loops)],Rs.row pO uI ys,Rs.row pO kB vs,Rs.row iY uf s3]/\j<=s3.length/\th=decide ((iw (bR (ga nw i) (ga (dJ (ga nw i)) k)).1)∈s3.take j)) rfl ?_ ?_
           ·intro au aq
            refine⟨_,⟨0,false,rfl,aq.su rfl,kK.pick [0,1,2,3] [_,_,_,_] (by decide) ⟨rfl,rfl,rfl,rfl,trivial⟩,?jN,?jM⟩⟩
            case jN=>omega
            case jM=>(symm;rw[decide_eq_false_iff_not,List.take_zero];exact List.not_mem_nil)
           ·rintro m4 a5 Ki ⟨j,th,rfl,uU,jF,hj,uS⟩
            clear kK
            refine cy uU ?_
            clear uU a5
            refine cJ (ar (af 2 rfl (ag rfl (kZ (i:=3) rfl pJ jF rfl) (af 1 rfl (ax [1,5,6,7,8,9,10,11,12,14,15,16,74] rfl ?_)))))
            refine bp rfl (fun xn=>?_) (fun xn=>?_)
            ·refine aV (bC [1,5,6,7,8,9,10,11,12,14,15,16] rfl (bg (aH (af 2 rfl ?_))))
             refine uE (t:=78) rfl (fun FU=>?_) (fun FU=>?_)
             ·refine af 6 rfl (af 2 rfl (aB (bE (aW [1,5,6,7,8,9,10,11,12,14,15,16] rfl (aH (af 1 rfl (ag rfl (bj rfl) (af 1 rfl ?_))))))))
              refine aB (br ?_)
              intro au aq
              refine⟨_,?lZ,⟨j+1,true,rfl,aq.su rfl,jF.pick [0,1,2,3] [_,_,_,_] (by decide) ⟨rfl,rfl,rfl,rfl,trivial⟩,?jL,?jK⟩⟩
              case jL=>omega
              case jK=>(rw[Ub (by omega) uS,FU];rfl)
              case lZ=>omega
             ·refine af 2 rfl (b8 rfl (bS (i:=3) j rfl pJ jF rfl) (b8 rfl (aw rfl xY (jF.dS (i:=3) (e:=j) (j:=0) rfl (by first|omega|(simp only[ls];omega)) rfl rfl)) ?_))
              refine af 1 rfl (b8 rfl (aco rfl rfl rfl) (af 2 rfl (aB (bE (aW [1,5,6,7,8,9,10,11,12,14,15,16] rfl (aH (af 1 rfl (ag rfl (bj rfl) ?_))))))))
              refine af 1 rfl (aB (br ?_))
              intro au aq
              refine⟨_,?n7,⟨j+1,decide (ga s3 j=(iw ((bR (ga nw i) (ga (dJ (ga nw i)) k)).1))),rfl,aq.su rfl,jF.pick [0,1,2,3] [_,_,_,_] (by decide) ⟨rfl,rfl,rfl,rfl,trivial⟩,?lU,?lT⟩⟩
              case lU=>omega
              case lT=>(rw[Ub (by omega) uS,FU];rfl)
              case n7=>omega
            ·refine bX rfl (bC [1,5,6,7,8,9,10,11,12,14,15] rfl ?_)
             obtain rfl:j=s3.length:=by omega
             rw[List.take_length]at uS
             refine aH (af 2 rfl (ax [1,5,6,7,8,9,10,11,12,14,87] rfl ?_))
             refine gB rfl (fun xm=>?_) (fun xm=>?_)
             ·simp only[Bool.and_eq_true,Bool.or_eq_true,Bool.and_eq_false_iff,Bool.or_eq_false_iff,decide_eq_true_eq,decide_eq_false_iff_not,Bool.not_eq_true',Bool.not_eq_false']at xm
              have hni:¬(iw (bR (ga nw i) (ga (dJ (ga nw i)) k)).1)∈s3:=by rw[uS]at xm;simpa using xm
              refine ar (af 2 rfl (aj rfl (eQ (C:=iY) (l:=[_]) rfl rfl rfl rfl pJ rfl rfl rfl rfl jF ?_)))
              intro rS PG lR;clear jF
              refine aj rfl (gw (C:=iY) (i:=4) (q:=0) (iw ((bR (ga nw i) (ga (dJ (ga nw i)) k)).1)) rfl rfl rfl rfl rfl rfl rfl rfl pJ lR rfl rfl rfl (by show(_+1)*16<=_;first|omega|(simp only[ls];omega)) ?_)
              intro amG PF ll;clear lR
              have lQ:=ll.pick [1,2,3,4] [_,_,_,_] (by decide) ⟨rfl,rfl,rfl,rfl,trivial⟩;clear ll
              refine af 1 rfl (ax [1,5,6,7,8,9,10,11,12] rfl (aH (af 1 rfl (ag rfl (aU [_,_] rfl aM aN (lQ.bs 0 rfl rfl)) (aj rfl (eQ (C:=pO) (l:=[_,_]) rfl rfl rfl rfl De rfl rfl rfl rfl lQ ?_))))))
              intro uY PE qT;clear lQ
              refine aj rfl (gw (C:=pO) (i:=2) (q:=0) (⟨(⟨xA,((bR (ga nw i) (ga (dJ (ga nw i)) k)).1.ae).length,xc⟩:ei),(bR (ga nw i) (ga (dJ (ga nw i)) k)).1.loops⟩:tJ) rfl rfl rfl rfl rfl rfl rfl rfl De qT rfl rfl rfl (by show(_+1)*32<=_;first|omega|(simp only[ls];omega)) ?_)
              intro amD Kh mG;clear qT
              have tG:=mG.pick [1,2,3,4] [_,_,_,_] (by decide) ⟨rfl,rfl,rfl,rfl,trivial⟩;clear mG
              have hz2:=rL.snoc ((bR (ga nw i) (ga (dJ (ga nw i)) k)).1) Ku
              refine af 1 rfl (aB (bE (aW [1,5,6,7,8,9,10,11] rfl (aH (af 1 rfl (ag rfl (bj rfl) (af 1 rfl (aB ?_))))))))
              refine br ?_
              intro au aq
              refine⟨_,?wQ,⟨k+1,_,_,(n3++[(bR (ga nw i) (ga (dJ (ga nw i)) k)).1]),_,_,_,((cH.trans eW).trans nW),rfl,aq.su rfl,tG.pick [1,2,3] [_,_,_] (by decide) ⟨rfl,rfl,rfl,trivial⟩,?qW,?qV,?wK,?MK⟩⟩
              case qW=>omega
              case qV=>(have uV:(bR (ga nw i) (ga (dJ (ga nw i)) k)).2=0:=(by simpa using je);rw[slK,if_pos uV,<-hsk,s7,if_neg hni])
              case wK=>(intro q hq h0;by_cases e:q=k;(subst e;exact Ks);exact JJ q (by omega) h0)
              case MK=>exact hz2
              case wQ=>omega
             ·simp only[Bool.and_eq_true,Bool.or_eq_true,Bool.and_eq_false_iff,Bool.or_eq_false_iff,decide_eq_true_eq,decide_eq_false_iff_not,Bool.not_eq_true',Bool.not_eq_false']at xm
              have hni:(iw (bR (ga nw i) (ga (dJ (ga nw i)) k)).1)∈s3:=by rw[uS]at xm;simpa using xm
              refine aV (bE (aW [1,5,6,7,8,9,10,11] rfl (aH (af 1 rfl (ag rfl (bj rfl) (af 1 rfl (aB (br ?_))))))))
              intro au aq
              refine⟨_,?AF,⟨k+1,_,_,n3,_,_,_,((cH.trans eW).trans nW),rfl,aq.su rfl,jF.pick [1,2,3] [_,_,_] (by decide) ⟨rfl,rfl,rfl,trivial⟩,?wJ,?wI,?EZ,?MJ⟩⟩
              case wJ=>omega
              case wI=>(have uV:(bR (ga nw i) (ga (dJ (ga nw i)) k)).2=0:=(by simpa using je);rw[slK,if_pos uV,<-hsk,s7,if_pos hni])
              case EZ=>(intro q hq h0;by_cases e:q=k;(subst e;exact Ks);exact JJ q (by omega) h0)
              case MJ=>exact rL
              case AF=>omega
       ·refine bX rfl (bE (aW [1,5,6,7,8,9] rfl (aH (af 1 rfl (ag rfl (bj rfl) (af 1 rfl (aB (br ?_))))))))
        intro au aq
        refine⟨_,?Fy,⟨i+1,_,_,n3,_,_,_,((bZ.trans b7).trans cH),rfl,aq.su rfl,cO.pick [0,1,2] [_,_,_] (by decide) ⟨rfl,rfl,rfl,trivial⟩,?Af,?Ae,?MI,?afn⟩⟩
        case Af=>omega
        case Ae=>(obtain rfl:k=(dJ (ga nw i)).length:=(by omega);rw[qG,<-hsi];exact hsk)
        case MI=>(intro q hq;by_cases e:q=i;(subst e;obtain rfl:k=(dJ (ga nw q)).length:=(by omega);exact JJ);exact XD q (by omega))
        case afn=>exact rL
        case Fy=>omega
     ·refine bX rfl (aW [1,5,7,8] rfl (aH (af 2 rfl (aB (bE (aW [1,5,7,6] rfl (aH (af 1 rfl ?_))))))))
      refine ag rfl (bj rfl) (af 1 rfl (aB (br ?_)))
      intro au aq
      refine⟨_,?AE,⟨n+1,_,_,nx,_,_,_,(hle2.trans bZ),rfl,aq.su rfl,bQ.pick [0,2] [_,_] (by decide) ⟨rfl,rfl,trivial⟩,?Ad,?Ac,?MH,?afm⟩⟩
      case Ad=>omega
      case Ac=>(obtain rfl:i=nw.length:=(by omega);rw[iQ,<-nN];exact hsi)
      case MH=>(intro q hq;by_cases e:q=n;(subst e;rw[<-nN];obtain rfl:i=nw.length:=(by omega);exact XD);exact hno q (by omega))
      case afm=>exact p6
      case AE=>omega
   ·refine bX rfl (cP [] rfl (af 1 rfl (aB (bK (bU hC rfl ?_)))))
    refine⟨_,rfl,_,bh.trans hle2,(S8.pick [] [] (by decide) trivial),?_⟩
    obtain rfl:n=dp:=by omega
    exact⟨_,rfl,.inr ⟨by omega,.inl ⟨rfl,hno⟩⟩⟩
end Go.Proofs.YtcohmplpgcddiaaGreatDoor
namespace Go.Proofs.YtcohmplpgcddiaaGreatDoor
open Go.ChangeShapes Go.WideShapes Go.ChangeAt Go.RowKit
def nxB(a:Nat):Nat->List Mv
 |0=>[]
 |b+1=>nxB a b++[mP b a]
def o6:Nat->List Mv
 |0=>[]
 |a+1=>o6 a++[mU a]++nxB a a
def qK:Nat->List Mv
 |0=>[]
 |f+1=>qK f++[mS f]
def bP(d:Dg):List Mv:=o6 d.ae.length++qK (ai d).length
theorem UC(a b:Nat):(nxB a b).length=b:=by
 induction b with
 |zero=>rfl
 |succ b ih=>rw[nxB,List.length_append,ih];rfl
theorem LS(a:Nat):(o6 a).length<=a*(a+1):=by
 induction a with
 |zero=>exact Nat.zero_le _
 |succ a ih=>
  rw[o6,List.length_append,List.length_append,UC,Nat.succ_mul]
  have:a*(a+1+1)=a*(a+1)+a:=by rw[Nat.mul_succ]
  simp
  omega
theorem UB(f:Nat):(qK f).length=f:=by
 induction f with
 |zero=>rfl
 |succ b ih=>rw[qK,List.length_append,ih];rfl
def qN(m:Mv):Prop:=lh m/\m.ua=0/\m.ub=false/\m.va=0/\m.vb=false/\m.ov=false/\(m.kd=4\/m.dG=0)
theorem aeY{a b:Nat}:∀m∈nxB a b,qN m:=by
 induction b with
 |zero=>intro m h;cases h
 |succ b ih=>
  intro m h
  rw[nxB,List.mem_append,List.mem_singleton]at h
  rcases h with h|h
  ·exact ih m h
  ·subst h;exact⟨.inr (.inl rfl),rfl,rfl,rfl,rfl,rfl,.inl rfl⟩
theorem aeZ{a:Nat}:∀m∈o6 a,qN m:=by
 induction a with
 |zero=>intro m h;cases h
 |succ b ih=>
  intro m h
  rw[o6,List.mem_append,List.mem_append,List.mem_singleton]at h
  rcases h with(h|h)|h
  ·exact ih m h
  ·subst h;exact⟨.inl rfl,rfl,rfl,rfl,rfl,rfl,.inr rfl⟩
  ·exact aeY m h
theorem aeX{a:Nat}:∀m∈qK a,qN m:=by
 induction a with
 |zero=>intro m h;cases h
 |succ b ih=>
  intro m h
  rw[qK,List.mem_append,List.mem_singleton]at h
  rcases h with h|h
  ·exact ih m h
  ·subst h;exact⟨.inr (.inr rfl),rfl,rfl,rfl,rfl,rfl,.inr rfl⟩
theorem Vq{d:Dg}:∀m∈bP d,qN m:=by
 intro m h
 rcases List.mem_append.1 h with h|h
 ·exact aeZ m h
 ·exact aeX m h
theorem IU{d:Dg}:∀m∈bP d,lh m:=fun m h=>(Vq m h).1
theorem Uz{d:Dg}(h:d.ae.length<=8):(bP d).length<=104:=by
 have h1:=LS d.ae.length
 have h3:=BF d
 have h4:d.ae.length*(d.ae.length+1)<=8*9:=Nat.mul_le_mul h (by omega)
 unfold bP
 rw[List.length_append,UB]
 omega
noncomputable def qJ(x:jE)(l:List Mv):Nat->List jE
 |0=>[]
 |k+1=>qJ x l k++(if(bR x.1 (ga l k)).2=0 then[((bR x.1 (ga l k)).1,x.2++[ga l k])]else[])
theorem Uy(x:jE)(l:List Mv)(k:Nat):(qJ x l k).length<=k:=by
 induction k with
 |zero=>exact Nat.le_refl _
 |succ k ih=>rw[qJ,List.length_append];split<;>simp<;>omega
noncomputable def zA(x:jE):List jE:=qJ x (bP x.1) (bP x.1).length
end Go.Proofs.YtcohmplpgcddiaaGreatDoor
namespace Go.Proofs.YtcohmplpgcddiaaGreatDoor
open Go.ChangeShapes Go.WideShapes Go.ChangeAt Go.RowKit
theorem aas{N:Hp}{A:Option Addr}{c:Nat}{s:List Mv}(h:aJ gh N A c s)(hn:Option.isNone A=true):s=[]:=by
 cases s with
 |nil=>rfl
 |cons y ys=>have:=(h.2.2 (by simp)).1;rw[this]at hn;cases hn
noncomputable def Z5w:=Tryz.f31.body.getD .skip
set_option maxRecDepth 10000 in
theorem T9{w:World}{M:Hp}{X:Fr}(s:List Mv){sA:Option Addr}{sc:Nat}(hs:aJ gh (M.un X.h) sA sc s)(S:SH w M X []):Co Tryz.prog 31 [.slice sA s.length sc] w M X (fun v N=>N=[Rs.row gh v s]):=by
 unfold Co
 have Df:s.length*64<=140737488355328:=hs.room
 refine cw (b:=Z5w) Tryz.func31 rfl Tryz.ntmps31 rfl (fun C hC=>(cB [0] rfl (ar (af 1 rfl (bM [0] rfl (ar (af 1 rfl (ag rfl (aaS rfl rfl rfl pH) (ax [0,4] rfl ?_)))))))))
 refine gB rfl (fun hb4=>?_) (fun hb4=>?_)
 ·refine ar (af 1 rfl (ax [2] rfl (bU hC rfl ?_)))
  obtain rfl:s=[]:=aas hs hb4
  have S1:=S.jI gh;clear S
  exact⟨_,rfl,_,S1.pick [0] [_] (by decide) ⟨rfl,trivial⟩,rfl⟩
 ·refine aV (cP [0] rfl (aj rfl (aag (C:=gh) rfl rfl rfl rfl kQ S ?_)))
  intro s6 w1 S2;clear S
  refine af 1 rfl (aj rfl (sX (C:=gh) (i:=0) rfl rfl rfl rfl rfl rfl rfl rfl kQ S2 rfl hs S2.um (by have h:_*64<=_:=hs.room;show(0+_)*64<=_;first|omega|(simp only[ls];omega)) ?_))
  intro vQ w2 S3;clear S2
  change SH _ _ _ [Rs.row gh vQ s]at S3
  refine af 1 rfl (ax [2] rfl (bU hC rfl ?_))
  exact⟨_,rfl,_,S3.pick [0] [_] (by decide) ⟨rfl,trivial⟩,rfl⟩
noncomputable def Z5x:=Tryz.f14.body.getD .skip
set_option maxHeartbeats 2000000 in
set_option maxRecDepth 10000 in
theorem ae2{w:World}{M:Hp}{X:Fr}(x:jE){sA mA:Option Addr}{sc mc:Nat}(hcr:aJ bu M sA sc x.1.ae)(hmv:aJ gh M mA mc x.2)(hn:x.1.ae.length<=8)(FR:fp x.1=true)(anI:x.2.length<=100)(S:SH w M X []):Ct Tryz.prog 14 [.agg [.slice sA x.1.ae.length sc,.int .i64 x.1.loops,.slice mA x.2.length mc].toArray] w M X (fun u N=>∃A c us,u=.slice A us.length c/\aJ oP N A c us/\mX N us (zA x)):=by
 unfold Ct
 have ak6:x.1.ae.length*40<=140737488355328:=hcr.room
 have ak5:x.2.length*64<=140737488355328:=hmv.room
 refine cw (b:=Z5x) Tryz.func14 rfl Tryz.ntmps14 rfl (fun C hC=>(cB [0] rfl (ar (aj rfl (dx (l:=[_,_,_]) rfl rfl rfl rfl rfl S ?_)))))
 intro aP w1 S1;clear S
 refine af 1 rfl (bL [1] rfl (af 1 rfl (aB (di (ar (ag rfl (az rfl uh rfl jZ jX) (ag rfl (az rfl aM rfl dN dM) (ag rfl (aw rfl cE (S1.bc 0 rfl rfl)) ?_))))))))
 refine ag rfl (cK rfl cE) (af 1 rfl (ax [1,3,17,18] rfl (bg ?_)))
 have S2:=S1.jI gh;clear S1
 refine ck (fun aZ au aR=>∃(a:Nat) (xs:List Mv) (uM:Value),aZ=x.1.ae.length-a/\Env 88 [(1,.pointer (some ⟨aP,0,none⟩)),(3,uM),(17,.int .i64 (x.1.ae.length:Int)),(18,.int .i64 (a:Int))] au/\SH aR M X [Rs.row gh uM xs,Rs.box aP 44 [.slice sA x.1.ae.length sc,.int .i64 x.1.loops,.slice mA x.2.length mc]]/\a<=x.1.ae.length/\xs=o6 a) rfl ?_ ?_
 ·intro au aq
  refine⟨_,⟨0,_,_,rfl,aq.su rfl,S2.pick [0,1] [_,_] (by decide) ⟨rfl,rfl,trivial⟩,?dh,?dC⟩⟩
  case dh=>omega
  case dC=>rfl
 ·rintro m1 a1 w2 ⟨a,xs,uM,rfl,bN,S3,ha,hxs⟩
  clear S2
  refine cy bN ?_
  clear bN a1
  have hxl:=LS a
  rw[<-hxs]at hxl
  have h72:a*(a+1)<=8*9:=Nat.mul_le_mul (by omega) (by omega)
  refine ar (af 1 rfl (aB (di ?_)))
  refine bp rfl (fun l5=>?_) (fun l5=>?_)
  ·refine aV (bC [1,3,17,18] rfl (bg (ar (af 2 rfl (bL [1,3,17,18,4] rfl (af 2 rfl (ag rfl (run_build (l:=[_,_,_,_,_,_,_,_]) rfl rfl Dd rfl rfl) (aj rfl (eQ (C:=gh) (l:=[_,_,_,_,_,_,_,_]) rfl rfl rfl rfl kQ rfl rfl rfl rfl S3 ?_)))))))))
   intro bJ w3 S4;clear S3
   refine aj rfl (gw (C:=gh) (i:=1) (q:=0) (⟨2,(a:Int),0,0,false,0,false,false⟩:Mv) rfl rfl rfl rfl rfl rfl rfl rfl kQ S4 rfl rfl rfl (by show(_+1)*64<=_;first|omega|(simp only[ls];omega)) ?_)
   intro aia w4 S5;clear S4
   have S6:=S5.pick [1,2] [_,_] (by decide) ⟨rfl,rfl,trivial⟩;clear S5
   refine af 1 rfl (bL [1,3,17,18,4] rfl (ag rfl (az rfl uh rfl jZ jX) (ag rfl (az rfl aM rfl dN dM) (ag rfl (aw rfl cE (S6.bc 1 rfl rfl)) (af 1 rfl (aj rfl (abe (C:=bu) a rfl rfl rfl rfl rfl fX (by first|rfl|omega) (by first|omega|(simp only[ls];omega)) hcr ?_)))))))
   intro A1 c1 hr1
   refine ag rfl (cK rfl cE) (af 1 rfl (ax [1,3,17,18,4,31,32] rfl (bg ?_)))
   refine ck (fun aZ au aR=>∃(b:Nat) (ys:List Mv) (PV:Value),aZ=a-b/\Env 88 [(1,.pointer (some ⟨aP,0,none⟩)),(3,PV),(17,.int .i64 (x.1.ae.length:Int)),(18,.int .i64 (a:Int)),(4,.int .i64 (a:Int)),(31,.int .i64 ((x.1.ae.take a).length:Int)),(32,.int .i64 (b:Int))] au/\SH aR M X [Rs.row gh PV ys,Rs.box aP 44 [.slice sA x.1.ae.length sc,.int .i64 x.1.loops,.slice mA x.2.length mc]]/\b<=a/\ys=xs++[mU a]++nxB a b) rfl ?_ ?_
   ·intro au aq
    refine⟨_,⟨0,_,_,rfl,aq.su rfl,S6.pick [0,1] [_,_] (by decide) ⟨rfl,rfl,trivial⟩,?dv,?dL⟩⟩
    case dv=>omega
    case dL=>(rw[nxB,List.append_nil];rfl)
   ·rintro m2 a2 w5 ⟨b,ys,PV,rfl,cU,S7,hb,hys⟩
    clear S6
    refine cy cU ?_
    clear cU a2
    have hyl:ys.length=xs.length+1+b:=by rw[hys,List.length_append,List.length_append,UC];rfl
    have htk:(x.1.ae.take a).length=a:=by rw[List.length_take];omega
    refine ar (af 1 rfl (aB (di ?_)))
    refine bp rfl (fun O8=>?_) (fun O8=>?_)
    ·refine aV (bC [1,3,17,18,4,31,32] rfl (bg (ar (af 2 rfl (ax [1,3,17,18,4,31,32,5] rfl (aH (af 3 rfl (ag rfl (run_build (l:=[_,_,_,_,_,_,_,_]) rfl rfl Dd rfl rfl) ?_))))))))
     refine aj rfl (eQ (C:=gh) (l:=[_,_,_,_,_,_,_,_]) rfl rfl rfl rfl kQ rfl rfl rfl rfl S7 ?_)
     intro dE w6 S8;clear S7
     refine aj rfl (gw (C:=gh) (i:=1) (q:=0) (⟨4,(b:Int),(a:Int),0,false,0,false,false⟩:Mv) rfl rfl rfl rfl rfl rfl rfl rfl kQ S8 rfl rfl rfl (by show(_+1)*64<=_;first|omega|(simp only[ls];omega)) ?_)
     intro amM w7 S9;clear S8
     have bQ:=S9.pick [1,2] [_,_] (by decide) ⟨rfl,rfl,trivial⟩;clear S9
     refine af 1 rfl (aB (bE (aW [1,3,17,18,4,31,32] rfl (aH (ag rfl (bj rfl) (af 1 rfl (aB (br ?_))))))))
     intro au aq
     refine⟨_,?kr,⟨b+1,_,_,rfl,aq.su rfl,bQ.pick [0,1] [_,_] (by decide) ⟨rfl,rfl,trivial⟩,?fg,?fR⟩⟩
     case fg=>omega
     case fR=>(rw[hys,nxB,<-List.append_assoc];rfl)
     case kr=>omega
    ·refine bX rfl (bE (aW [1,3,17,18] rfl (aH (ag rfl (bj rfl) (af 1 rfl (aB (br ?_)))))))
     intro au aq
     refine⟨_,?jr,⟨a+1,_,_,rfl,aq.su rfl,S7.pick [0,1] [_,_] (by decide) ⟨rfl,rfl,trivial⟩,?fJ,?fZ⟩⟩
     case fJ=>omega
     case fZ=>(obtain rfl:b=a:=(by omega);rw[hys,hxs];rfl)
     case jr=>omega
  ·refine bX rfl (cP [1,3] rfl (ag rfl (az rfl uh rfl jZ jX) (ag rfl (aU [_,_] rfl aM aN (S3.bs 1 rfl rfl)) (aj rfl (eo rfl rfl rfl rfl rfl rfl rfl akf S3 (ac3 x.1 (hcr.mono (Hp.cM _ _)) S3.aT) ?_)))))
   intro PL w8 M1 bZ cz Bo;clear S3
   replace hcr:=hcr.mono bZ
   replace hmv:=hmv.mono bZ
   obtain⟨A2,c2,fs1,rfl,hr2,hd1⟩:=Bo
   have hfl:=hd1.1
   rw[show Ah x.1=ai x.1 from by unfold Ah;rw[if_pos FR]]at hfl
   refine af 5 rfl (bM [1,3,6] rfl (ar (af 1 rfl (ag rfl (cK rfl qo) (af 1 rfl (ax [1,3,50,51] rfl (bg ?_)))))))
   refine ck (fun aZ au aR=>∃(f:Nat) (zs:List Mv) (uL:Value),aZ=(ai x.1).length-f/\Env 88 [(1,.pointer (some ⟨aP,0,none⟩)),(3,uL),(50,.int .i64 (fs1.length:Int)),(51,.int .i64 (f:Int))] au/\SH aR M1 X [Rs.row gh uL zs,Rs.box aP 44 [.slice sA x.1.ae.length sc,.int .i64 x.1.loops,.slice mA x.2.length mc]]/\f<=(ai x.1).length/\zs=o6 x.1.ae.length++qK f) rfl ?_ ?_
   ·intro au aq
    refine⟨_,⟨0,_,_,rfl,aq.su rfl,cz.pick [0,1] [_,_] (by decide) ⟨rfl,rfl,trivial⟩,?fI,?fY⟩⟩
    case fI=>omega
    case fY=>(obtain rfl:a=x.1.ae.length:=(by omega);rw[hxs,qK,List.append_nil])
   ·rintro m3 a3 w9 ⟨f,zs,uL,rfl,fB,cO,hf,hzs⟩
    clear cz
    refine cy fB ?_
    clear fB a3
    have Xw:=BF x.1
    have hzl:zs.length<=8*9+f:=by rw[hzs,List.length_append,UB];have h1:=LS x.1.ae.length;have h2:x.1.ae.length*(x.1.ae.length+1)<=8*9:=Nat.mul_le_mul (by omega) (by omega);omega
    refine ar (af 1 rfl (aB (di ?_)))
    refine bp rfl (fun O6=>?_) (fun O6=>?_)
    ·refine aV (bC [1,3,50,51] rfl (bg (ar (af 2 rfl (ax [1,3,50,51,8] rfl (aH (af 2 rfl (ag rfl (run_build (l:=[_,_,_,_,_,_,_,_]) rfl rfl Dd rfl rfl) ?_))))))))
     refine aj rfl (eQ (C:=gh) (l:=[_,_,_,_,_,_,_,_]) rfl rfl rfl rfl kQ rfl rfl rfl rfl cO ?_)
     intro lK ld cF;clear cO
     refine aj rfl (gw (C:=gh) (i:=1) (q:=0) (⟨5,(f:Int),0,0,false,0,false,false⟩:Mv) rfl rfl rfl rfl rfl rfl rfl rfl kQ cF rfl rfl rfl (by show(_+1)*64<=_;first|omega|(simp only[ls];omega)) ?_)
     intro amK lI ct;clear cF
     have cS:=ct.pick [1,2] [_,_] (by decide) ⟨rfl,rfl,trivial⟩;clear ct
     refine af 1 rfl (aB (bE (aW [1,3,50,51] rfl (aH (ag rfl (bj rfl) (af 1 rfl (aB (br ?_))))))))
     intro au aq
     refine⟨_,?kq,⟨f+1,_,_,rfl,aq.su rfl,cS.pick [0,1] [_,_] (by decide) ⟨rfl,rfl,trivial⟩,?iB,?iW⟩⟩
     case iB=>omega
     case iW=>(rw[hzs,qK,<-List.append_assoc];rfl)
     case kq=>omega
    ·refine bX rfl (bC [1,3] rfl ?_)
     obtain rfl:f=(ai x.1).length:=by omega
     have P5:zs=bP x.1:=hzs
     have nZ:zs=(bP x.1):=P5
     rw[nZ]at cO;clear nZ
     have hnl:=Uz (d:=x.1) (by omega)
     have hsh:∀m∈bP x.1,lh m:=IU
     refine aH (af 1 rfl (aB (di (ar (af 1 rfl (ag rfl (kZ (i:=0) rfl kQ cO rfl) (af 1 rfl (ax [1,9,60,61,62] rfl ?_))))))))
     refine bg ?_
     have cC:=cO.jI oP;clear cO
     refine ck (fun aZ au aR=>∃(k:Nat) (us:List qQ) (os:List jE) (eV:Value) (M2:Hp),M1.le M2/\aZ=(bP x.1).length-k/\Env 88 [(1,.pointer (some ⟨aP,0,none⟩)),(9,eV),(60,uL),(61,.int .i64 ((bP x.1).length:Int)),(62,.int .i64 (k:Int))] au/\SH aR M2 X [Rs.row oP eV us,Rs.row gh uL (bP x.1),Rs.box aP 44 [.slice sA x.1.ae.length sc,.int .i64 x.1.loops,.slice mA x.2.length mc]]/\k<=(bP x.1).length/\os=qJ x (bP x.1) k/\mX M2 us os) rfl ?_ ?_
     ·intro au aq
      refine⟨_,⟨0,_,([]),_,_,Hp.le_refl _,rfl,aq.su rfl,cC.pick [0,1,2] [_,_,_] (by decide) ⟨rfl,rfl,rfl,trivial⟩,?jN,?jM,?tT⟩⟩
      case jN=>omega
      case jM=>rfl
      case tT=>exact mX.eO
     ·rintro m4 a4 nL ⟨k,us,os,eV,M2,cH,rfl,iT,bY,hk,hos,rM⟩
      clear cC
      refine cy iT ?_
      clear iT a4
      replace hcr:=hcr.mono cH
      replace hmv:=hmv.mono cH
      replace hr2:=hr2.mono cH
      have hol:=Uy x (bP x.1) k
      rw[<-hos]at hol
      have Qd:=rM.1
      refine ar (af 1 rfl (aB (di ?_)))
      refine bp rfl (fun n9=>?_) (fun n9=>?_)
      ·refine aV (bC [1,9,60,61,62] rfl (bg (ar (ag rfl (bS (i:=1) k rfl kQ bY rfl) (ag rfl (aU [_,_,_,_,_,_,_,_] rfl eT sF (bY.qY (i:=1) (e:=k) (j:=0) rfl (by first|omega|(simp only[ls];omega)) ⟨rfl,rfl,rfl,rfl,rfl,rfl,rfl,rfl,trivial⟩)) ?_)))))
       refine aj rfl (bW (l:=[_,_,_,_,_,_,_,_]) rfl rfl rfl N7 rfl bY ?_)
       intro iI ng dW;clear bY
       refine aj rfl (bH 0 [_,_,_,_,_,_,_,_] [_,_,_,_,_,_,_,_] [_,_,_,_] rfl dW rfl rfl sF rfl rfl ?_)
       intro lH ek;clear dW
       refine bL [1,9,60,61,62,11] rfl (ag rfl (az rfl uh rfl jZ jX) (ag rfl (aU [_,_] rfl aM aN (ek.bs 3 rfl rfl)) (ag rfl (aU [_,_,_,_,_,_,_,_] rfl eT sF (ek.bs 0 rfl rfl)) (aj rfl (eo rfl rfl rfl rfl rfl rfl rfl YA ek (ZT x.1 (ga (bP x.1) k) (hsh _ (cY (by omega))) (hcr.mono (Hp.cM _ _)) ek.aT) ?_)))))
       intro N8 ow M3 eW fM C4;clear ek
       replace hcr:=hcr.mono eW
       replace hmv:=hmv.mono eW
       replace hr2:=hr2.mono eW
       replace rM:=rM.mono eW
       obtain⟨A3,c3,rfl,hr3⟩:=C4
       refine af 3 rfl (aj rfl (bW (l:=[_,_]) rfl rfl rfl jo rfl fM ?_))
       intro rS oU eF;clear fM
       refine aj rfl (bH 0 [_,_] [_,_] [_,_,_,_,_] rfl eF rfl rfl aN rfl rfl ?_)
       intro pU fx;clear eF
       refine af 1 rfl (bL [1,9,60,61,62,11,12,13] rfl (af 2 rfl (ax [1,9,60,61,62,11,12,74] rfl ?_)))
       refine bp rfl (fun xn=>?_) (fun xn=>?_)
       ·refine dH fx 12 ?_
        clear fx
        refine aK 11 [0] rfl (ay 1 rfl (fun ah Sz=>aU [_,_] rfl aM aN (Sz.suf.bs 0 rfl rfl)) (aS 2 rfl (az rfl uh rfl YF Xn) (ay 3 rfl (fun ah Sz=>aw rfl pH (Sz.suf.bc 4 rfl rfl)) (ay 5 rfl (fun ah Sz=>aU [_,_,_,_,_,_,_,_] rfl eT sF (Sz.suf.bs 1 rfl rfl)) ?_))))
        refine z7 (i:=4) (j:=6) 6 rfl rfl (by kernel_rfl) rfl rfl rfl rfl (fun xS gM=>?_) (fun xS gM=>?_)
        ·refine(Ji rfl rfl rfl rfl rfl rfl rfl Yx gM (T9 x.2 (hmv.mono (Hp.cM _ _)) gM.aT) ?_)
         intro ah6 DR anK pj ahh;clear gM
         obtain rfl:=ahh
         obtain⟨amP,ajU⟩:∃v9,v9=ah6:=⟨_,rfl⟩
         have jd:SH _ _ _ [_,_,_,_,_,_]:=pj;clear pj
         subst ajU
         refine dB [_] [_,_,_,_,_,_] rfl jd ?_;clear jd
         refine cm 6 rfl (fun vN ki=>((eQ (C:=gh) (l:=[_,_,_,_,_,_,_,_]) rfl rfl rfl rfl kQ rfl rfl rfl rfl ki ?_)))
         intro uY BM jH;clear ki
         refine dB [_,_] [_,_,_,_,_,_,_] rfl jH ?_;clear jH
         refine cm 7 rfl (fun PJ wA=>((gw (C:=gh) (i:=1) (q:=0) (⟨(ga (bP x.1) k).kd,(ga (bP x.1) k).at_,(ga (bP x.1) k).dG,(ga (bP x.1) k).ua,(ga (bP x.1) k).ub,(ga (bP x.1) k).va,(ga (bP x.1) k).vb,(ga (bP x.1) k).ov⟩:Mv) rfl rfl rfl rfl rfl rfl rfl rfl kQ wA rfl rfl rfl (by show(_+1)*64<=_;first|omega|(simp only[ls];omega)) ?_)))
         intro aic zt iJ;clear wA
         have jc:=iJ.pick [1,2,3,4,5,6] [_,_,_,_,_,_] (by decide) ⟨rfl,rfl,rfl,rfl,rfl,rfl,trivial⟩;clear iJ
         refine dB [_] [_,_,_,_,_,_] rfl jc ?_;clear jc
         refine yq (ay 8 rfl (fun ah Sz=>run_build (l:=[.slice A3 ((bR x.1 (ga (bP x.1) k)).1.ae).length c3,.int .i64 ((bR x.1 (ga (bP x.1) k)).1.loops),aic]) rfl rfl Oo rfl (by obtain⟨_,_,e9,_⟩:=Sz.suf.sl (i:=0) rfl;subst e9;rfl)) ?_)
         refine cm 9 rfl (fun zr nQ=>?_)
         obtain⟨M16,CY,kL,⟨A4,c4,e1,hr4⟩⟩:=nQ.gP (i:=0) (H':=[_,_,_,_,_,_]) rfl rfl (by show _*64<=_;first|omega|(simp only[ls];omega))
         clear nQ;subst e1
         replace hcr:=hcr.mono CY
         replace hmv:=hmv.mono CY
         replace hr2:=hr2.mono CY
         replace rM:=rM.mono CY
         replace hr3:=hr3.mono CY
         refine(eQ (C:=oP) (l:=[_,_,_]) rfl rfl rfl rfl yV rfl rfl rfl rfl kL ?_)
         intro wm GK jV;clear kL
         refine ij jV ?_;clear jV
         change WA _ _ _ _ _ _ _ _ _ _ _ _ [_,_,_,_,_,_,_]
         refine cm 10 rfl (fun GJ tH=>((gw (C:=oP) (i:=4) (q:=0) (⟨(⟨A3,((bR x.1 (ga (bP x.1) k)).1.ae).length,c3⟩:ei),(bR x.1 (ga (bP x.1) k)).1.loops,(⟨A4,(x.2++[(⟨(ga (bP x.1) k).kd,(ga (bP x.1) k).at_,(ga (bP x.1) k).dG,(ga (bP x.1) k).ua,(ga (bP x.1) k).ub,(ga (bP x.1) k).va,(ga (bP x.1) k).vb,(ga (bP x.1) k).ov⟩:Mv)]).length,c4⟩:ei)⟩:qQ) rfl rfl rfl rfl rfl rfl rfl rfl yV tH rfl rfl rfl (by show(_+1)*56<=_;first|omega|(simp only[ls];omega)) ?_)))
         intro AU DN pg;clear tH
         have jG:=pg.pick [1,2,3,4,5,6] [_,_,_,_,_,_] (by decide) ⟨rfl,rfl,rfl,rfl,rfl,rfl,trivial⟩;clear pg
         have hz1:=rM.snoc ((bR x.1 (ga (bP x.1) k)).1) (x.2++[(⟨(ga (bP x.1) k).kd,(ga (bP x.1) k).at_,(ga (bP x.1) k).dG,(ga (bP x.1) k).ua,(ga (bP x.1) k).ub,(ga (bP x.1) k).va,(ga (bP x.1) k).vb,(ga (bP x.1) k).ov⟩:Mv)]) hr3 hr4
         refine ij jG ?_;clear jG
         change WA _ _ _ _ _ _ _ _ _ _ _ _ [_,_,_,_,_,_]
         refine aK 0 [11] rfl (cD (fun DM jF=>(bE (aW [1,9,60,61,62] rfl (aH (ag rfl (bj rfl) (af 1 rfl (aB (br ?_)))))))))
         intro au aq
         refine⟨_,?lZ,⟨k+1,_,(os++[((bR x.1 (ga (bP x.1) k)).1,x.2++[(⟨(ga (bP x.1) k).kd,(ga (bP x.1) k).at_,(ga (bP x.1) k).dG,(ga (bP x.1) k).ua,(ga (bP x.1) k).ub,(ga (bP x.1) k).va,(ga (bP x.1) k).vb,(ga (bP x.1) k).ov⟩:Mv)])]),_,_,((cH.trans eW).trans CY),rfl,aq.su rfl,jF.pick [3,4,5] [_,_,_] (by decide) ⟨rfl,rfl,rfl,trivial⟩,?jL,?jK,?tS⟩⟩
         case jL=>omega
         case jK=>(rw[hos,qJ];first|(rw[if_pos (by simpa using xn)];done)|(rw[if_neg (by simpa using xn),List.append_nil]))
         case tS=>exact hz1
         case lZ=>omega
        ·refine(eQ (C:=gh) (l:=[_,_,_,_,_,_,_,_]) rfl rfl rfl rfl kQ rfl rfl rfl rfl gM ?_)
         intro Hi xQ lR;clear gM
         refine dB [_] [_,_,_,_,_,_] rfl lR ?_;clear lR
         refine cm 4 rfl (fun xP lQ=>((Ji rfl rfl rfl rfl rfl rfl rfl Yx lQ (T9 x.2 (hmv.mono (Hp.cM _ _)) lQ.aT) ?_)))
         intro Xe GH anJ qT NP;clear lQ
         obtain rfl:=NP
         obtain⟨amO,ajT⟩:∃v9,v9=Xe:=⟨_,rfl⟩
         have mG:SH _ _ _ [_,_,_,_,_,_,_]:=qT;clear qT
         subst ajT
         refine dB [_,_] [_,_,_,_,_,_,_] rfl mG ?_;clear mG
         refine cm 7 rfl (fun Ki kV=>((gw (C:=gh) (i:=0) (q:=1) (⟨(ga (bP x.1) k).kd,(ga (bP x.1) k).at_,(ga (bP x.1) k).dG,(ga (bP x.1) k).ua,(ga (bP x.1) k).ub,(ga (bP x.1) k).va,(ga (bP x.1) k).vb,(ga (bP x.1) k).ov⟩:Mv) rfl rfl rfl rfl rfl rfl rfl rfl kQ kV rfl rfl rfl (by show(_+1)*64<=_;first|omega|(simp only[ls];omega)) ?_)))
         intro aib PG nz;clear kV
         have pd:=nz.pick [0,2,3,4,5,6] [_,_,_,_,_,_] (by decide) ⟨rfl,rfl,rfl,rfl,rfl,rfl,trivial⟩;clear nz
         refine dB [_] [_,_,_,_,_,_] rfl pd ?_;clear pd
         refine yq (ay 8 rfl (fun ah Sz=>run_build (l:=[.slice A3 ((bR x.1 (ga (bP x.1) k)).1.ae).length c3,.int .i64 ((bR x.1 (ga (bP x.1) k)).1.loops),aib]) rfl rfl Oo rfl (by obtain⟨_,_,e9,_⟩:=Sz.suf.sl (i:=0) rfl;subst e9;rfl)) ?_)
         refine cm 9 rfl (fun Kh mE=>?_)
         obtain⟨M23,wS,S64,⟨A5,c5,e2,ja⟩⟩:=mE.gP (i:=0) (H':=[_,_,_,_,_,_]) rfl rfl (by show _*64<=_;first|omega|(simp only[ls];omega))
         clear mE;subst e2
         replace hcr:=hcr.mono wS
         replace hmv:=hmv.mono wS
         replace hr2:=hr2.mono wS
         replace rM:=rM.mono wS
         replace hr3:=hr3.mono wS
         refine(eQ (C:=oP) (l:=[_,_,_]) rfl rfl rfl rfl yV rfl rfl rfl rfl S64 ?_)
         intro Ph w53 qh;clear S64
         refine ij qh ?_;clear qh
         change WA _ _ _ _ _ _ _ _ _ _ _ _ [_,_,_,_,_,_,_]
         refine cm 10 rfl (fun w55 o9=>((gw (C:=oP) (i:=4) (q:=0) (⟨(⟨A3,((bR x.1 (ga (bP x.1) k)).1.ae).length,c3⟩:ei),(bR x.1 (ga (bP x.1) k)).1.loops,(⟨A5,(x.2++[(⟨(ga (bP x.1) k).kd,(ga (bP x.1) k).at_,(ga (bP x.1) k).dG,(ga (bP x.1) k).ua,(ga (bP x.1) k).ub,(ga (bP x.1) k).va,(ga (bP x.1) k).vb,(ga (bP x.1) k).ov⟩:Mv)]).length,c5⟩:ei)⟩:qQ) rfl rfl rfl rfl rfl rfl rfl rfl yV o9 rfl rfl rfl (by show(_+1)*56<=_;first|omega|(simp only[ls];omega)) ?_)))
         intro jx w56 o8;clear o9
         have jb:=o8.pick [1,2,3,4,5,6] [_,_,_,_,_,_] (by decide) ⟨rfl,rfl,rfl,rfl,rfl,rfl,trivial⟩;clear o8
         have hz2:=rM.snoc ((bR x.1 (ga (bP x.1) k)).1) (x.2++[(⟨(ga (bP x.1) k).kd,(ga (bP x.1) k).at_,(ga (bP x.1) k).dG,(ga (bP x.1) k).ua,(ga (bP x.1) k).ub,(ga (bP x.1) k).va,(ga (bP x.1) k).vb,(ga (bP x.1) k).ov⟩:Mv)]) hr3 ja
         refine ij jb ?_;clear jb
         change WA _ _ _ _ _ _ _ _ _ _ _ _ [_,_,_,_,_,_]
         refine aK 0 [11] rfl (cD (fun GG wz=>(bE (aW [1,9,60,61,62] rfl (aH (ag rfl (bj rfl) (af 1 rfl (aB (br ?_)))))))))
         intro au aq
         refine⟨_,?n7,⟨k+1,_,(os++[((bR x.1 (ga (bP x.1) k)).1,x.2++[(⟨(ga (bP x.1) k).kd,(ga (bP x.1) k).at_,(ga (bP x.1) k).dG,(ga (bP x.1) k).ua,(ga (bP x.1) k).ub,(ga (bP x.1) k).va,(ga (bP x.1) k).vb,(ga (bP x.1) k).ov⟩:Mv)])]),_,_,((cH.trans eW).trans wS),rfl,aq.su rfl,wz.pick [3,4,5] [_,_,_] (by decide) ⟨rfl,rfl,rfl,trivial⟩,?lU,?lT,?tQ⟩⟩
         case lU=>omega
         case lT=>(rw[hos,qJ];first|(rw[if_pos (by simpa using xn)];done)|(rw[if_neg (by simpa using xn),List.append_nil]))
         case tQ=>exact hz2
         case n7=>omega
       ·refine aV (bE (aW [1,9,60,61,62] rfl (aH (ag rfl (bj rfl) (af 1 rfl (aB (br ?_)))))))
        intro au aq
        refine⟨_,?wQ,⟨k+1,_,os,_,_,(cH.trans eW),rfl,aq.su rfl,fx.pick [2,3,4] [_,_,_] (by decide) ⟨rfl,rfl,rfl,trivial⟩,?qW,?qV,?wK⟩⟩
        case qW=>omega
        case qV=>(rw[hos,qJ];first|(rw[if_pos (by simpa using xn)];done)|(rw[if_neg (by simpa using xn),List.append_nil]))
        case wK=>exact rM
        case wQ=>omega
      ·refine bX rfl (cP [9] rfl (af 2 rfl (ax [2] rfl ?_)))
       obtain⟨M26,FA,tE,⟨A6,c6,e3,p8⟩⟩:=bY.gP (i:=0) (H':=[_,_,_]) rfl rfl (by show _*56<=_;first|omega|(simp only[ls];omega))
       clear bY;subst e3
       replace hcr:=hcr.mono FA
       replace hmv:=hmv.mono FA
       replace hr2:=hr2.mono FA
       replace rM:=rM.mono FA
       refine bU hC rfl ?_
       refine⟨_,rfl,_,(bZ.trans cH).trans FA,(tE.pick [] [] (by decide) trivial),?_⟩
       obtain rfl:k=(bP x.1).length:=by omega
       have e9:os=zA x:=hos
       subst e9
       exact⟨_,_,_,rfl,p8,rM⟩
end Go.Proofs.YtcohmplpgcddiaaGreatDoor
namespace Go.Proofs.YtcohmplpgcddiaaGreatDoor
open Go.ChangeShapes Go.WideShapes Go.ChangeAt Go.RowKit
abbrev Ps:=List (List UInt8×Bool)×List jE
noncomputable def zw(more:Bool)(s:Ps)(x:jE):Ps:=if more=true/\(mg (iw x.1) s.1).getD false=false then(mp (iw x.1) true s.1,s.2++zA x)else s
noncomputable def pkI(more:Bool)(lv:List jE)(s:Ps):Nat->Ps
 |0=>s
 |j+1=>zw more (pkI more lv s j) (ga lv j)
noncomputable def ji(d:Dg)(dp:Nat):Nat->Ps
 |0=>([],[(d,[])])
 |i+1=>pkI (decide (i<dp)) (ji d dp i).2 ((ji d dp i).1,[]) (ji d dp i).2.length
def PY(lv:List jE)(j:Nat):Prop:=∀q,q<j->(ga lv q).1.ae.length≠0
def BX(d:Dg)(dp i:Nat):Prop:=∀q,q<i->PY (ji d dp q).2 (ji d dp q).2.length
def Rm(d:Dg)(dp:Nat)(l:List Mv)(e:Int):Prop:=(∃i j,i<=dp/\BX d dp i/\j<(ji d dp i).2.length/\(ga (ji d dp i).2 j).1.ae.length=0/\l=(ga (ji d dp i).2 j).2/\e=0)\/(BX d dp (dp+1)/\l=[]/\e=8)
def tB(d:Dg)(depth:Int)(l:List Mv)(e:Int):Prop:=if depth<0\/5<depth then l=[]/\e=3 else if fD d=false then l=[]/\e=7 else if 8<d.ae.length then l=[]/\e=2 else Rm d depth.toNat l e
def Eb(lv:List jE)(i b:Nat):Prop:=(∀x∈lv,Gd x.1/\x.2.length=i/\∀m∈x.2,qN m)/\lv.length<=b
theorem aeW{x:jE}{i:Nat}(hx:Gd x.1)(hi:x.2.length=i)(hm:∀m∈x.2,qN m){l:List Mv}(hl:∀m∈l,qN m):∀k,k<=l.length->∀y∈qJ x l k,Gd y.1/\y.2.length=i+1/\∀m∈y.2,qN m:=by
 intro k
 induction k with
 |zero=>intro _ y hy;cases hy
 |succ k ih=>
  intro hk y hy
  rw[qJ,List.mem_append]at hy
  rcases hy with hy|hy
  ·exact ih (by omega) y hy
  ·split at hy
   ·rename_i h0
    rw[List.mem_singleton]at hy
    subst hy
    have hs:=hl _ (cY (show k<l.length by omega))
    refine⟨zT hx hs.1 h0,by simp[hi],fun m h=>?_⟩
    rcases List.mem_append.1 h with h|h
    ·exact hm m h
    ·rw[List.mem_singleton]at h;subst h;exact hs
   ·cases hy
theorem Vp{x:jE}{i:Nat}(hx:Gd x.1)(hi:x.2.length=i)(hm:∀m∈x.2,qN m):Eb (zA x) (i+1) 104:=⟨aeW hx hi hm Vq _ (Nat.le_refl _),Nat.le_trans (Uy _ _ _) (Uz hx.1)⟩
theorem aeS{more:Bool}{s:Ps}{x:jE}{i b:Nat}(h:Eb s.2 (i+1) b)(hx:Gd x.1)(hi:x.2.length=i)(hm:∀m∈x.2,qN m):Eb (zw more s x).2 (i+1) (b+104):=by
 obtain⟨h1,h2⟩:=h
 have h3:=Vp hx hi hm
 unfold zw
 split
 ·refine⟨fun y hy=>?_,by simp only[List.length_append];have:=h3.2;omega⟩
  rcases List.mem_append.1 hy with hy|hy
  ·exact h1 y hy
  ·exact h3.1 y hy
 ·exact⟨h1,by omega⟩
theorem Vk{more:Bool}{lv:List jE}{s:Ps}{i b j:Nat}(h:Eb s.2 (i+1) b)(hl:∀x∈lv,Gd x.1/\x.2.length=i/\∀m∈x.2,qN m)(hj:j<=lv.length):Eb (pkI more lv s j).2 (i+1) (b+104*j):=by
 induction j with
 |zero=>exact h
 |succ j ih=>
  obtain⟨h1,h2,h3⟩:=hl _ (cY (show j<lv.length by omega))
  have h9:=aeS (more:=more) (ih (by omega)) h1 h2 h3
  unfold pkI
  exact⟨h9.1,by have:=h9.2;omega⟩
theorem Mq{d:Dg}(h:Gd d)(dp i:Nat):Eb (ji d dp i).2 i (lN i):=by
 induction i with
 |zero=>exact⟨fun x hx=>by rw[ji,List.mem_singleton]at hx;subst hx;exact⟨h,rfl,fun m hm=>absurd hm List.not_mem_nil⟩,Nat.le_refl _⟩
 |succ i ih=>
  have h9:=Vk (more:=decide (i<dp)) (s:=((ji d dp i).1,[])) (b:=0) ⟨fun x hx=>absurd hx List.not_mem_nil,Nat.le_refl _⟩ ih.1 (Nat.le_refl _)
  have h8:=ih.2
  have e:lN (i+1)=105*lN i:=rfl
  rw[e]
  exact⟨h9.1,by have h7:=h9.2;show(pkI _ _ _ _).2.length<=_;omega⟩
theorem ahM{n:Nat}(h:n<=4):lN n<=121550625:=Nat.le_trans (MV h) (by decide)
theorem ahK{n:Nat}(h:n<=6):lN n<=1340095640625:=Nat.le_trans (MV h) (by decide)
end Go.Proofs.YtcohmplpgcddiaaGreatDoor
namespace Go.Proofs.YtcohmplpgcddiaaGreatDoor
open Go.ChangeShapes Go.WideShapes Go.ChangeAt Go.RowKit
theorem Vi(a b:List UInt8):(sB a==sB b)=decide (a=b):=by
 show(a.toArray==b.toArray)=_
 by_cases h:a=b
 ·subst h;simp
 ·simp[h]
theorem acA{P:Program}{K:TypeId}(hu:P.underlying K=some .string):sM P K (fun x:List UInt8=>Value.string (sB x)):=by
 have NL:∀(k:List UInt8) (es:List (List UInt8×Value)) (l:List MapEntry) (i:Nat),l.map (fun e=>(e.key,e.val))=es.map (fun p=>(Value.string (sB p.1),p.2))->Instr.findNow .string (.string (sB k)) l i=some (fk k es i):=by
  intro k es
  induction es with
  |nil=>intro l i h;rw[List.map_nil,List.map_eq_nil_iff]at h;subst h;rfl
  |cons p es ih=>
   intro l i h
   cases l with
   |nil=>cases h
   |cons e l=>
    simp only[List.map_cons,List.cons.injEq,Prod.mk.injEq]at h
    unfold Instr.findNow fk
    rw[h.1.1]
    simp only[Instr.sameNow,Vi]
    by_cases hk:k=p.1
    ·simp[hk,h.1.2]
    ·rw[decide_eq_false hk,if_neg hk]
     exact ih l (i+1) h.2
 refine⟨fun k w b=>?_,fun k es l w h=>MapKept.run_findKey hu (NL k es l 0 h),fun k=>by simp[Instr.sameBits,Vi]⟩
 rw[show(10000:Nat)=9999+1 from rfl]
 unfold Instr.checkKey
 simp only[Sem.run_bind,run_underlying hu,Result.andThen]
 rfl
theorem mk9:sM Tryz.prog 9 (fun x:List UInt8=>Value.string (sB x)):=acA xY
noncomputable def Z5y:=Tryz.f4.body.getD .skip
set_option maxHeartbeats 2000000 in
set_option maxRecDepth 10000 in
theorem afK{w:World}{M:Hp}{X:Fr}(d:Dg){bz:Option Addr}{bw:Nat}(depth:Int)(aC:aJ bu M bz bw d.ae)(S:SH w M X []):Ct Tryz.prog 4 [.agg [.slice bz d.ae.length bw,.int .i64 d.loops].toArray,.int .i64 depth] w M X (fun u N=>∃A c l e,u=.tuple [.slice A l.length c,.int .i64 e].toArray/\aJ gh N A c l/\tB d depth l e):=by
 unfold Ct
 have iL:d.ae.length*40<=140737488355328:=aC.room
 refine cw (b:=Z5y) Tryz.func4 rfl Tryz.ntmps4 rfl (fun C hC=>(cB [0,1] rfl (ar (aj rfl (dx (l:=[_,_]) rfl rfl rfl rfl rfl S ?_)))))
 intro aP w1 S1;clear S
 refine af 2 rfl (bL [1,2] rfl (ag rfl (aU [_,_] rfl aM aN (S1.bs 0 rfl rfl)) (aj rfl (eo rfl rfl rfl rfl rfl rfl rfl akm S1 (abT d (aC.mono (Hp.cM _ _)) S1.aT) ?_))))
 intro sZ w2 M1 bh S2 kY;clear S1
 replace aC:=aC.mono bh
 subst kY
 refine af 5 rfl (bM [1,2,6,7] rfl (bg (ar (af 3 rfl ?_))))
 refine eN (t:=26) rfl (fun ajh=>?_) (fun ajh=>?_)
 ·refine af 4 rfl (ax [1,2,6,7,23] rfl (kP (ar (af 2 rfl (ax [4,5] rfl (bU hC rfl ?_))))))
  refine⟨_,rfl,_,bh,(S2.pick [] [] (by decide) trivial),?_⟩
  exact⟨none,0,[],_,rfl,aJ.eO,by unfold tB;rw[if_pos (by omega)];exact⟨rfl,rfl⟩⟩
 ·refine af 4 rfl (ax [1,2,6,7,23] rfl ?_)
  refine bp rfl (fun Bl=>?_) (fun Bl=>?_)
  ·refine ar (af 2 rfl (ax [4,5] rfl (bU hC rfl ?_)))
   refine⟨_,rfl,_,bh,(S2.pick [] [] (by decide) trivial),?_⟩
   exact⟨none,0,[],_,rfl,aJ.eO,by unfold tB;rw[if_pos (by omega)];exact⟨rfl,rfl⟩⟩
  ·refine ar (af 3 rfl ?_)
   refine eN (t:=33) rfl (fun OX=>?_) (fun OX=>?_)
   ·have hop:fD d=false:=by
     unfold fD rC at*
     cases h1:fp d<;>cases h2:ml d<;>simp_all
    refine af 4 rfl (ax [1,2,30] rfl (kP (ar (af 2 rfl (ax [4,5] rfl (bU hC rfl ?_))))))
    refine⟨_,rfl,_,bh,(S2.pick [] [] (by decide) trivial),?_⟩
    exact⟨none,0,[],_,rfl,aJ.eO,by unfold tB;rw[if_neg (by omega),if_pos hop];exact⟨rfl,rfl⟩⟩
   ·refine af 4 rfl (ax [1,2,30] rfl ?_)
    refine gB rfl (fun xu=>?_) (fun xu=>?_)
    ·simp only[Bool.and_eq_true,Bool.or_eq_true,Bool.and_eq_false_iff,Bool.or_eq_false_iff,decide_eq_true_eq,decide_eq_false_iff_not,Bool.not_eq_true',Bool.not_eq_false']at xu
     have hop:fD d=false:=by
      unfold fD rC at*
      cases h1:fp d<;>cases h2:ml d<;>simp_all
     refine ar (af 2 rfl (ax [4,5] rfl (bU hC rfl ?_)))
     refine⟨_,rfl,_,bh,(S2.pick [] [] (by decide) trivial),?_⟩
     exact⟨none,0,[],_,rfl,aJ.eO,by unfold tB;rw[if_neg (by omega),if_pos hop];exact⟨rfl,rfl⟩⟩
    ·simp only[Bool.and_eq_true,Bool.or_eq_true,Bool.and_eq_false_iff,Bool.or_eq_false_iff,decide_eq_true_eq,decide_eq_false_iff_not,Bool.not_eq_true',Bool.not_eq_false']at xu
     have hop:fD d=true:=by
      unfold fD rC at*
      cases h1:fp d<;>cases h2:ml d<;>simp_all
     obtain⟨_,hab,hlo⟩:=EG hop
     refine ar (ag rfl (az rfl aM rfl dN dM) (ag rfl (aw rfl cE (S2.bc 0 rfl rfl)) (ag rfl (cK rfl cE) (af 2 rfl (ax [1,2,37] rfl ?_)))))
     refine bp rfl (fun rz=>?_) (fun rz=>?_)
     ·refine ar (af 2 rfl (ax [4,5] rfl (bU hC rfl ?_)))
      refine⟨_,rfl,_,bh,(S2.pick [] [] (by decide) trivial),?_⟩
      exact⟨none,0,[],_,rfl,aJ.eO,by unfold tB;rw[if_neg (by omega),if_neg (by rw[hop];decide),if_pos (by omega)];exact⟨rfl,rfl⟩⟩
     ·refine aV (bE (bC [1,2] rfl ?_))
      have hgd:Gd d:=⟨by omega,hlo.1,hlo.2,hab⟩
      obtain⟨dp,hdp⟩:∃dp:Nat,depth=(dp:Int):=⟨depth.toNat,by omega⟩
      have vZ:depth.toNat=dp:=by omega
      refine aH (aj rfl (xJ (List UInt8) Bool (fun x:List UInt8=>Value.string (sB x)) Value.bool rfl rfl rfl S2 ?_))
      intro iH w3 S3;clear S2
      refine af 1 rfl (bL [1,2,8] rfl (ag rfl (aU [_,_] rfl aM aN (S3.bs 1 rfl rfl)) (ag rfl (run_build (l:=[_,_,_]) rfl rfl Oo rfl rfl) (aj rfl (eQ (C:=oP) (l:=[_,_,_]) rfl rfl rfl rfl yV rfl rfl rfl rfl S3 ?_)))))
      intro bJ w4 S4;clear S3
      refine af 1 rfl (bM [1,8,9] rfl (ar (af 1 rfl (ag rfl (bj rfl) (af 1 rfl (ax [1,8,9,47,48] rfl (bg ?_)))))))
      have S5:=S4.qi (C:=oP) [(⟨(⟨bz,d.ae.length,bw⟩:ei),d.loops,(⟨none,0,0⟩:ei)⟩:qQ)] (i:=0) (H':=[_,_,_]) rfl rfl (by simp) rfl;clear S4
      obtain⟨s6,zK⟩:∃v,v=Value.slice (some ⟨bJ,0,none⟩) ([(⟨(⟨bz,d.ae.length,bw⟩:ei),d.loops,(⟨none,0,0⟩:ei)⟩:qQ)]).length ([(⟨(⟨bz,d.ae.length,bw⟩:ei),d.loops,(⟨none,0,0⟩:ei)⟩:qQ)]).length:=⟨_,rfl⟩
      rw[<-zK]at S5
      have hz1:=(mX.eO (N:=M1)).snoc d [] (B:=none) (b:=0) aC aJ.eO
      refine iZ 9 (s6) rfl zK.symm ?_
      refine ck (fun aZ au aR=>∃(i:Nat) (es:List (List UInt8×Bool)) (vs:List qQ) (lv:List jE) (oW:Value) (M2:Hp),M1.le M2/\aZ=dp+1-i/\Env 93 [(1,.int .i64 depth),(8,.map (some iH)),(9,oW),(47,.int .i64 (depth+1)),(48,.int .i64 (i:Int))] au/\SH aR M2 X [Rs.row oP oW vs,Rs.mp (fun x:List UInt8=>Value.string (sB x)) Value.bool iH es]/\i<=dp+1/\(es,lv)=ji d dp i/\BX d dp i/\mX M2 vs lv) rfl ?_ ?_
      ·intro au aq
       refine⟨_,⟨0,[],_,([(d,[])]),_,_,Hp.le_refl _,rfl,aq.su rfl,S5.pick [0,1] [_,_] (by decide) ⟨rfl,rfl,trivial⟩,?dh,?dC,?jm,?q7⟩⟩
       case dh=>omega
       case dC=>rfl
       case jm=>(intro q hq;omega)
       case q7=>exact hz1
      ·rintro m2 a1 w5 ⟨i,es,vs,lv,oW,M2,hle2,rfl,bN,S6,hi,hlv,hnz,vS⟩
       clear S5
       refine cy bN ?_
       clear bN a1
       replace aC:=aC.mono hle2
       replace hz1:=hz1.mono hle2
       have hvl:=vS.1
       obtain⟨hgl,hbl⟩:=Mq hgd dp i
       have hbd:=ahK (show i<=6 by omega)
       rw[<-hlv]at hgl hbl
       replace hbl:lv.length<=lN i:=hbl
       replace hgl:∀x∈lv,Gd x.1/\x.2.length=i/\∀m∈x.2,qN m:=hgl
       refine ar (af 1 rfl (aB (di ?_)))
       refine bp rfl (fun ajE=>?_) (fun ajE=>?_)
       ·refine aV (bC [1,8,9,47,48] rfl (bg (ar (af 2 rfl (bL [1,8,9,47,48,10] rfl (af 1 rfl (aB (di ?_))))))))
        refine ar (af 1 rfl (ag rfl (kZ (i:=0) rfl yV S6 rfl) (af 1 rfl (ax [1,8,47,48,10,11,51,52,53] rfl (bg ?_)))))
        have S7:=S6.jI oP;clear S6
        refine ck (fun aZ au aR=>∃(j:Nat) (e2:List (List UInt8×Bool)) (us:List qQ) (lt:List jE) (uK:Value) (M3:Hp),M2.le M3/\aZ=lv.length-j/\Env 93 [(1,.int .i64 depth),(8,.map (some iH)),(47,.int .i64 (depth+1)),(48,.int .i64 (i:Int)),(10,.int .i64 (i:Int)),(11,uK),(51,oW),(52,.int .i64 (vs.length:Int)),(53,.int .i64 (j:Int))] au/\SH aR M3 X [Rs.row oP uK us,Rs.row oP oW vs,Rs.mp (fun x:List UInt8=>Value.string (sB x)) Value.bool iH e2]/\j<=lv.length/\(e2,lt)=pkI (decide (i<dp)) lv (es,[]) j/\PY lv j/\mX M3 us lt) rfl ?_ ?_
        ·intro au aq
         refine⟨_,⟨0,es,_,([]),_,_,Hp.le_refl _,rfl,aq.su rfl,S7.pick [0,1,2] [_,_,_] (by decide) ⟨rfl,rfl,rfl,trivial⟩,?dv,?dL,?jl,?py⟩⟩
         case dv=>omega
         case dL=>rfl
         case jl=>(intro q hq;omega)
         case py=>exact mX.eO
        ·rintro m3 a2 w6 ⟨j,e2,us,lt,uK,M3,bZ,rfl,cU,S8,hj,hlt,Kv,uR⟩
         clear S7
         refine cy cU ?_
         clear cU a2
         replace aC:=aC.mono bZ
         replace hz1:=hz1.mono bZ
         replace vS:=vS.mono bZ
         have Qd:=uR.1
         obtain⟨_,mD⟩:=Vk (more:=decide (i<dp)) (s:=(es,[])) (b:=0) ⟨fun x hx=>absurd hx List.not_mem_nil,Nat.le_refl _⟩ hgl hj
         rw[<-hlt]at mD
         replace mD:lt.length<=0+104*j:=mD
         refine ar (af 1 rfl (aB (di ?_)))
         refine bp rfl (fun Bg=>?_) (fun Bg=>?_)
         ·refine aV (bC [1,8,47,48,10,11,51,52,53] rfl (bg (ar (ag rfl (bS (i:=1) j rfl yV S8 rfl) ?_))))
          obtain⟨kG,hr1,hl1,mv,hr2⟩:=vS.2 j (by first|omega|(simp only[ls];omega))
          have Nq:(ga lv j).1.ae.length*40<=140737488355328:=hr1.room
          have Aq:(ga lv j).2.length*64<=140737488355328:=hr2.room
          refine ag rfl (aU [_,_,_] rfl uh Ol (S8.qY (i:=1) (e:=j) (j:=0) rfl (by first|omega|(simp only[ls];omega)) ⟨congrArg (fun n=>some (Value.slice _ n _)) kG,congrArg (fun z=>some (Value.int .i64 z)) hl1,congrArg (fun n=>some (Value.slice _ n _)) mv,trivial⟩)) ?_
          refine aj rfl (bW (l:=[_,_,_]) rfl rfl rfl ahW rfl S8 ?_)
          intro dE w7 S9;clear S8
          refine aj rfl (bH 0 [_,_,_] [_,_,_] [_,_,_,_] rfl S9 rfl rfl Ol rfl rfl ?_)
          intro w8 bQ;clear S9
          refine bM [1,8,47,48,10,11,51,52,53,13] rfl (cJ ?_)
          obtain⟨hgx,hx2,hx3⟩:=hgl _ (cY (show j<lv.length by omega))
          refine aH (ag rfl (az rfl uh rfl jZ jX) (ag rfl (az rfl aM rfl dN dM) (ag rfl (aw rfl cE (bQ.bc 0 rfl rfl)) (ag rfl (cK rfl cE) (af 1 rfl (ax [1,8,47,48,10,11,51,52,53,13,61] rfl ?_))))))
          refine bp rfl (fun vD=>?_) (fun vD=>?_)
          ·refine ar (ag rfl (az rfl uh rfl YF Xn) (ag rfl (aw rfl pH (bQ.bc 0 rfl rfl)) (af 2 rfl (ax [4,5] rfl (bU hC rfl ?_)))))
           refine⟨_,rfl,_,(bh.trans hle2).trans bZ,(bQ.pick [] [] (by decide) trivial),?_⟩
           refine⟨_,_,_,_,rfl,hr2,?_⟩
           unfold tB;rw[if_neg (by omega),if_neg (by rw[hop];decide),if_neg (by omega),vZ]
           refine .inl ⟨i,j,by omega,hnz,?_⟩
           show j<(ji d dp i).2.length/\_
           rw[<-hlv]
           exact⟨(by omega:j<lv.length),(by omega:(ga lv j).1.ae.length=0),rfl,rfl⟩
          ·have hz0:(ga lv j).1.ae.length≠0:=by omega
           have oG:=E6 hgx hz0
           refine aV (cP [1,8,47,48,10,11,51,52,53,13] rfl (ag rfl (az rfl uh rfl jZ jX) (ag rfl (aU [_,_] rfl aM aN (bQ.bs 0 rfl rfl)) (aj rfl (eo rfl rfl rfl rfl rfl rfl rfl akl bQ (aeu ((ga lv j).1) (hr1.mono (Hp.cM _ _)) bQ.aT) ?_)))))
           intro vw9 w9 M4 b7 cz ajN;clear bQ
           replace aC:=aC.mono b7
           replace hz1:=hz1.mono b7
           replace vS:=vS.mono b7
           replace uR:=uR.mono b7
           replace hr1:=hr1.mono b7
           replace hr2:=hr2.mono b7
           obtain⟨A1,c1,rfl,hr3⟩:∃A c,vw9=.tuple [.agg [.slice A (gF ((ga lv j).1)).ae.length c,.int .i64 (gF ((ga lv j).1)).loops].toArray,.int .i64 0].toArray/\aJ bu _ A c (gF ((ga lv j).1)).ae:=by
            rcases ajN with⟨h9,_⟩|⟨_,A,c,h1,h2⟩
            ·rw[oG.2.2.2.2.2]at h9;cases h9
            ·exact⟨A,c,h1,h2⟩
           refine af 3 rfl (aj rfl (bW (l:=[_,_]) rfl rfl rfl jo rfl cz ?_))
           intro lK ld cO;clear cz
           refine aj rfl (bH 0 [_,_] [_,_] [_,_,_,_,_] rfl cO rfl rfl aN rfl rfl ?_)
           intro lI cF;clear cO
           refine af 1 rfl (bL [1,8,47,48,10,11,51,52,53,13,14] rfl (ag rfl (aU [_,_] rfl aM aN (cF.bs 0 rfl rfl)) (aj rfl (eo rfl rfl rfl rfl rfl rfl rfl akk cF (afE (gF ((ga lv j).1)) (hr3.mono (Hp.cM _ _)) cF.aT) ?_))))
           intro ah7 nL M5 cH ct Js;clear cF
           replace aC:=aC.mono cH
           replace hz1:=hz1.mono cH
           replace vS:=vS.mono cH
           replace uR:=uR.mono cH
           replace hr1:=hr1.mono cH
           replace hr2:=hr2.mono cH
           replace hr3:=hr3.mono cH
           rw[adh oG.2.2.2.2.1]at Js
           replace Js:ah7=.tuple [.string (sB (iw ((ga lv j).1))),.int .i64 (Dp (gF ((ga lv j).1)))].toArray:=Js
           subst Js
           refine af 5 rfl (bL [1,8,47,48,10,11,51,52,53,13,16] rfl (af 4 rfl ?_))
           refine eN (t:=78) rfl (fun FU=>?_) (fun FU=>?_)
           ·refine af 2 rfl (b8 rfl (zn (kc:=(fun x:List UInt8=>Value.string (sB x))) (vc:=Value.bool) (es:=e2) (k:=(iw ((ga lv j).1))) (zv:=false) (i:=4) rfl rfl rfl Xh mk9 Ke ct rfl) (af 2 rfl (ax [1,8,47,48,10,11,51,52,53,13,16,83] rfl ?_)))
            refine gB rfl (fun F4=>?_) (fun F4=>?_)
            ·simp only[Bool.and_eq_true,Bool.or_eq_true,Bool.and_eq_false_iff,Bool.or_eq_false_iff,decide_eq_true_eq,decide_eq_false_iff_not,Bool.not_eq_true',Bool.not_eq_false']at F4
             have wj:=ahM (show i<=4 by omega)
             have hno:(mg (iw (ga lv j).1) e2).getD false=false:=by simpa using F4
             refine ar (af 2 rfl (aj rfl (ou (kc:=(fun x:List UInt8=>Value.string (sB x))) (vc:=Value.bool) (es:=e2) (k:=(iw ((ga lv j).1))) (e:=true) (i:=4) (H':=[_,_,_,_,_]) (.inl rfl) rfl ct rfl rfl rfl rfl Xh mk9 rfl ?_)))
             intro ng cS;clear ct
             refine ax [1,8,47,48,10,11,51,52,53,13] rfl (aH (af 1 rfl (ag rfl (aU [_,_,_] rfl uh Ol (cS.bs 1 rfl rfl)) (aj rfl (eo rfl rfl rfl rfl rfl rfl rfl akj cS (ae2 (ga lv j) hr1 hr2 (by have:=hgx.1;omega) oG.2.2.2.2.2 (by omega) cS.aT) ?_)))))
             intro N9 lH M6 eW cC AL;clear cS
             replace aC:=aC.mono eW
             replace hz1:=hz1.mono eW
             replace vS:=vS.mono eW
             replace uR:=uR.mono eW
             replace hr1:=hr1.mono eW
             replace hr2:=hr2.mono eW
             replace hr3:=hr3.mono eW
             obtain⟨A2,c2,us1,rfl,hr4,hz2⟩:=AL
             have Fj:us1.length*56<=140737488355328:=hr4.room
             have ano:(zA (ga lv j)).length<=104:=(Vp hgx hx2 hx3).2
             have amZ:=hz2.1
             refine aj rfl (sX (C:=oP) (i:=2) rfl rfl rfl rfl rfl rfl rfl rfl yV cC rfl hr4 cC.m (by show(_+_)*56<=_;first|omega|(simp only[ls];omega)) ?_)
             intro Od ow bY;clear cC
             change SH _ _ _ [_,_,Rs.row oP Od (us++us1),_,_]at bY
             have hz3:=uR.app hz2
             refine af 1 rfl (aB (bE (aW [1,8,47,48,10,11,51,52,53] rfl (aH (ag rfl (bj rfl) (af 1 rfl (aB (br ?_))))))))
             intro au aq
             refine⟨_,?kr,⟨j+1,mp (iw ((ga lv j).1)) true e2,_,(lt++(zA (ga lv j))),_,_,(((bZ.trans b7).trans cH).trans eW),rfl,aq.su rfl,bY.pick [2,3,4] [_,_,_] (by decide) ⟨rfl,rfl,rfl,trivial⟩,?fg,?fR,?ko,?mI⟩⟩
             case fg=>omega
             case fR=>(rw[pkI,<-hlt,zw];rw[if_pos ⟨decide_eq_true (by omega),hno⟩])
             case ko=>(intro q hq;by_cases e:q=j;(subst e;exact hz0);exact Kv q (by omega))
             case mI=>exact hz3
             case kr=>omega
            ·simp only[Bool.and_eq_true,Bool.or_eq_true,Bool.and_eq_false_iff,Bool.or_eq_false_iff,decide_eq_true_eq,decide_eq_false_iff_not,Bool.not_eq_true',Bool.not_eq_false']at F4
             have hno:(mg (iw (ga lv j).1) e2).getD false=true:=by simpa using F4
             refine aV (bE (aW [1,8,47,48,10,11,51,52,53] rfl (aH (ag rfl (bj rfl) (af 1 rfl (aB (br ?_)))))))
             intro au aq
             refine⟨_,?jr,⟨j+1,e2,_,lt,_,_,((bZ.trans b7).trans cH),rfl,aq.su rfl,ct.pick [2,3,4] [_,_,_] (by decide) ⟨rfl,rfl,rfl,trivial⟩,?fJ,?fZ,?lX,?nV⟩⟩
             case fJ=>omega
             case fZ=>(rw[pkI,<-hlt,zw];rw[if_neg (fun h=>by rw[h.2]at hno;cases hno)])
             case lX=>(intro q hq;by_cases e:q=j;(subst e;exact hz0);exact Kv q (by omega))
             case nV=>exact uR
             case jr=>omega
           ·refine af 5 rfl (ax [1,8,47,48,10,11,51,52,53,13,16,83] rfl (sD (aV (bE (aW [1,8,47,48,10,11,51,52,53] rfl (aH (ag rfl (bj rfl) (af 1 rfl ?_))))))))
            refine aB (br ?_)
            intro au aq
            refine⟨_,?jq,⟨j+1,e2,_,lt,_,_,((bZ.trans b7).trans cH),rfl,aq.su rfl,ct.pick [2,3,4] [_,_,_] (by decide) ⟨rfl,rfl,rfl,trivial⟩,?fI,?fY,?lW,?qZ⟩⟩
            case fI=>omega
            case fY=>(rw[pkI,<-hlt,zw];rw[if_neg (fun h=>by have:=of_decide_eq_true h.1;omega)])
            case lW=>(intro q hq;by_cases e:q=j;(subst e;exact hz0);exact Kv q (by omega))
            case qZ=>exact uR
            case jq=>omega
         ·refine bX rfl (aW [1,8,47,48,11] rfl (aH (af 2 rfl (aB (bE (aW [1,8,47,48,9] rfl (aH (ag rfl (bj rfl) ?_))))))))
          refine af 1 rfl (aB (br ?_))
          intro au aq
          refine⟨_,?kq,⟨i+1,e2,_,lt,_,_,(hle2.trans bZ),rfl,aq.su rfl,S8.pick [0,2] [_,_] (by decide) ⟨rfl,rfl,trivial⟩,?iB,?iW,?px,?tU⟩⟩
          case iB=>omega
          case iW=>(obtain rfl:j=lv.length:=(by omega);rw[ji,<-hlv];exact hlt)
          case px=>(intro q hq;by_cases e:q=i;(subst e;rw[<-hlv];obtain rfl:j=lv.length:=(by omega);exact Kv);exact hnz q (by omega))
          case tU=>exact uR
          case kq=>omega
       ·refine bX rfl (cP [] rfl (af 2 rfl (aB (bK (bU hC rfl ?_)))))
        refine⟨_,rfl,_,bh.trans hle2,(S6.pick [] [] (by decide) trivial),?_⟩
        obtain rfl:i=dp+1:=by omega
        refine⟨none,0,[],_,rfl,aJ.eO,?_⟩
        unfold tB;rw[if_neg (by omega),if_neg (by rw[hop];decide),if_neg (by omega),vZ]
        exact .inr ⟨hnz,rfl,rfl⟩
end Go.Proofs.YtcohmplpgcddiaaGreatDoor
namespace Go.Proofs.YtcohmplpgcddiaaGreatDoor
open Go.ChangeShapes Go.WideShapes Go.ChangeAt Go.RowKit
def Dq(m:Nat):List UInt8:=if m<10 then[UInt8.ofNat (48+m)]else[UInt8.ofNat (48+m/10),UInt8.ofNat (48+m%10)]
theorem UY{m:Nat}(h:m<100):Lib.decDigits m=Dq m:=by
 unfold Dq
 split
 ·rename_i h1;exact DC h1
 ·rename_i h1;rw[L6 h1,DC (by omega)];rfl
theorem TU:∀m,m<33->(∀n,n<33->Dq m=Dq n->m=n)/\44∉Dq m/\93∉Dq m:=by decide+kernel
theorem Uk{s:UInt8}:∀{a b r r':List UInt8},s∉a->s∉b->a++s::r=b++s::r'->a=b/\r=r'
 |[],[],_,_,_,_,h=>by injection h with _ h;exact⟨rfl,h⟩
 |[],y::b,_,_,_,hb,h=>by injection h with h1 _;subst h1;exact absurd (List.mem_cons_self ..) hb
 |x::a,[],_,_,ha,_,h=>by injection h with h1 _;subst h1;exact absurd (List.mem_cons_self ..) ha
 |x::a,y::b,_,_,ha,hb,h=>by
  injection h with h1 h2
  obtain⟨h3,h4⟩:=Uk (fun h=>ha (List.mem_cons_of_mem _ h)) (fun h=>hb (List.mem_cons_of_mem _ h)) h2
  exact⟨by rw[h1,h3],h4⟩
def BU(v:Int):Prop:=0<=v/\v<33
theorem Iu{s:UInt8}(hs:s=44\/s=93){v u:Int}(hv:BU v)(hu:BU u){r r':List UInt8}(h:fL v++s::r=fL u++s::r'):v=u/\r=r':=by
 obtain⟨v1,v2⟩:=hv
 obtain⟨u1,u2⟩:=hu
 unfold fL at h
 rw[UY (by omega),UY (by omega)]at h
 obtain⟨p1,p2,p3⟩:=TU v.toNat (by omega)
 obtain⟨_,q2,q3⟩:=TU u.toNat (by omega)
 obtain⟨e,e2⟩:=Uk (by rcases hs with rfl|rfl<;>assumption) (by rcases hs with rfl|rfl<;>assumption) h
 have:=p1 u.toNat (by omega) e
 exact⟨by omega,e2⟩
def DT(x:Cr):Prop:=BU x.a/\BU x.b/\BU x.c/\BU x.d
theorem ad8{x y:Cr}(hx:DT x)(hy:DT y){r r':List UInt8}(h:nO x++r=nO y++r'):x=y/\r=r':=by
 obtain⟨xa,xb,xc,xd⟩:=hx
 obtain⟨ya,yb,yc,yd⟩:=hy
 rw[I3,I3]at h
 simp only[List.append_assoc]at h
 have hh:x.plus=y.plus/\fL x.a++([44]++(fL x.b++([44]++(fL x.c++([44]++(fL x.d++([93]++r)))))))=fL y.a++([44]++(fL y.b++([44]++(fL y.c++([44]++(fL y.d++([93]++r'))))))):=by
  unfold tZ at h
  cases h1:x.plus<;>cases h2:y.plus<;>rw[h1,h2]at h<;>simp at h<;>simp[h]
 obtain⟨hp,h⟩:=hh
 obtain⟨e1,h⟩:=Iu (.inl rfl) xa ya h
 obtain⟨e2,h⟩:=Iu (.inl rfl) xb yb h
 obtain⟨e3,h⟩:=Iu (.inl rfl) xc yc h
 obtain⟨e4,h⟩:=Iu (.inr rfl) xd yd h
 exact⟨by cases x;cases y;simp_all,h⟩
def fT(l:List Cr)(k:Nat):List UInt8:=((l.map nO).map ([32]++·)).flatten++(List.replicate k [32,79]).flatten
theorem VJ(x:Cr):∃r,nO x=88::r:=by
 rw[I3]
 unfold tZ
 split<;>exact⟨_,rfl⟩
theorem VF:∀{l l':List Cr}{k k':Nat},(∀x∈l,DT x)->(∀x∈l',DT x)->fT l k=fT l' k'->l=l'/\k=k'
 |[],[],k,k',_,_,h=>by
  have:=congrArg List.length h
  simp[fT]at this
  exact⟨rfl,by omega⟩
 |x::l,[],k,k',_,_,h=>by
  obtain⟨r,e⟩:=VJ x
  cases k' with
  |zero=>simp[fT]at h
  |succ k'=>simp[fT,e,List.replicate_succ]at h
 |[],x::l,k,k',_,_,h=>by
  obtain⟨r,e⟩:=VJ x
  cases k with
  |zero=>simp[fT]at h
  |succ k'=>simp[fT,e,List.replicate_succ]at h
 |x::l,y::l',k,k',hl,hl',h=>by
  have e:∀(z:Cr) (m:List Cr) (q:Nat),fT (z::m) q=32::(nO z++fT m q):=by
   intro z m q;simp[fT]
  rw[e,e]at h
  injection h with _ h
  obtain⟨e1,h⟩:=ad8 (hl _ (List.mem_cons_self ..)) (hl' _ (List.mem_cons_self ..)) h
  obtain⟨e2,e3⟩:=VF (fun z hz=>hl z (List.mem_cons_of_mem _ hz)) (fun z hz=>hl' z (List.mem_cons_of_mem _ hz)) h
  exact⟨by rw[e1,e2],e3⟩
theorem Wa{d:Dg}(h:aO d=true)(hn:d.ae.length<=16):∀x∈d.ae,DT x:=by
 intro x hx
 obtain⟨i,hi,rfl⟩:=List.mem_iff_getElem.1 hx
 rw[<-cZ hi]
 have k:=fun s hs=>ey h hi (k:=s) hs
 have k0:=k 0 (by omega)
 have k1:=k 1 (by omega)
 have k2:=k 2 (by omega)
 have k3:=k 3 (by omega)
 replace k0:1<=(ga d.ae i).a/\(ga d.ae i).a<=2*(d.ae.length:Int):=k0
 replace k1:1<=(ga d.ae i).b/\(ga d.ae i).b<=2*(d.ae.length:Int):=k1
 replace k2:1<=(ga d.ae i).c/\(ga d.ae i).c<=2*(d.ae.length:Int):=k2
 replace k3:1<=(ga d.ae i).d/\(ga d.ae i).d<=2*(d.ae.length:Int):=k3
 unfold DT BU
 omega
theorem aeA{x y:Dg}(hx:Gd x)(hy:Gd y)(zx:x.ae.length≠0)(zy:y.ae.length≠0)(h:iw x=iw y):gF x=gF y:=by
 obtain⟨x1,x2,x3,x4,_⟩:=E6 hx zx
 obtain⟨y1,y2,y3,y4,_⟩:=E6 hy zy
 have hf:∀d:Dg,allT d=fT d.ae d.loops.toNat:=fun d=>U2 d
 have hh:∀d:Dg,1<=(allT d).length->allT d=32::(allT d).drop 1:=by
  intro d h1
  rw[hf]at h1 ⊢
  unfold fT at h1 ⊢
  cases hc:d.ae with
  |cons z l=>simp
  |nil=>
   rw[hc]at h1
   cases hk:d.loops.toNat with
   |zero=>rw[hk]at h1;simp at h1
   |succ k=>simp[List.replicate_succ]
 have e:allT (gF x)=allT (gF y):=by
  rw[hh _ x4,hh _ y4]
  exact congrArg _ h
 rw[hf,hf]at e
 obtain⟨e1,e2⟩:=VF (Wa x2 x1) (Wa y2 y1) e
 have e3:(gF x).loops=(gF y).loops:=by omega
 cases hX:gF x
 cases hY:gF y
 rw[hX,hY]at e1 e3
 simp_all
end Go.Proofs.YtcohmplpgcddiaaGreatDoor
namespace Go.Proofs.YtcohmplpgcddiaaGreatDoor
open Go.ChangeShapes Go.WideShapes Go.ChangeAt Go.RowKit
def Rk:Nat->Dg->Prop
 |0,x=>x.ae.length=0
 |k+1,x=>∃m∈bP x,(bR x m).2=0/\Rk k (bR x m).1
theorem Ui{d:Dg}{f n:Nat}(hf:f<n)(h:(ga (ai d) f).length=3):mS f∈qI d n:=by
 induction n with
 |zero=>omega
 |succ n ih=>
  rw[qI]
  by_cases e:f=n
  ·subst e;rw[if_pos h];simp
  ·exact List.mem_append_left _ (ih (by omega))
theorem adg{d:Dg}{i q k:Nat}(hq:q<k)(h:(ai d).any (kR d i ((i+1+q:Nat):Int))=true):mP i (i+1+q)∈skJ d i k:=by
 induction k with
 |zero=>omega
 |succ k ih=>
  rw[skJ]
  by_cases e:q=k
  ·subst e;rw[if_pos h];simp
  ·exact List.mem_append_left _ (ih (by omega))
theorem Wc{d:Dg}{i n:Nat}(hi:i<n)(h:curlN (ga d.ae i) 4=true):mU i∈qH d n:=by
 induction n with
 |zero=>omega
 |succ n ih=>
  rw[qH]
  by_cases e:i=n
  ·subst e;rw[if_pos h];simp
  ·exact List.mem_append_left _ (List.mem_append_left _ (ih (by omega)))
theorem Nj{d:Dg}{i j n:Nat}(hi:i<n)(hij:i<j)(hj:j<d.ae.length)(h:(ai d).any (kR d i j)=true):mP i j∈qH d n:=by
 induction n with
 |zero=>omega
 |succ n ih=>
  rw[qH]
  by_cases e:i=n
  ·subst e
   refine List.mem_append_right _ ?_
   have:=adg (d:=d) (i:=i) (q:=j-(i+1)) (k:=d.ae.length-(i+1)) (by omega) (by rw[show i+1+(j-(i+1))=j from by omega];exact h)
   rwa [show i+1+(j-(i+1))=j from by omega]at this
  ·exact List.mem_append_left _ (List.mem_append_left _ (ih (by omega)))
theorem adH{a b:Nat}{m:Mv}(h:m∈nxB a b):∃q,q<b/\m=mP q a:=by
 induction b with
 |zero=>cases h
 |succ b ih=>
  rw[nxB,List.mem_append,List.mem_singleton]at h
  rcases h with h|h
  ·obtain⟨q,h1,h2⟩:=ih h;exact⟨q,by omega,h2⟩
  ·exact⟨b,by omega,h⟩
theorem UD{a:Nat}{m:Mv}(h:m∈o6 a):(∃i,i<a/\m=mU i)\/∃i j,i<j/\j<a/\m=mP i j:=by
 induction a with
 |zero=>cases h
 |succ a ih=>
  rw[o6,List.mem_append,List.mem_append,List.mem_singleton]at h
  rcases h with(h|h)|h
  ·rcases ih h with⟨i,h1,h2⟩|⟨i,j,h1,h2,h3⟩
   ·exact .inl ⟨i,by omega,h2⟩
   ·exact .inr ⟨i,j,h1,by omega,h3⟩
  ·exact .inl ⟨a,by omega,h⟩
  ·obtain⟨q,h1,h2⟩:=adH h
   exact .inr ⟨q,a,h1,by omega,h2⟩
theorem UA{a:Nat}{m:Mv}(h:m∈qK a):∃f,f<a/\m=mS f:=by
 induction a with
 |zero=>cases h
 |succ b ih=>
  rw[qK,List.mem_append,List.mem_singleton]at h
  rcases h with h|h
  ·obtain⟨q,h1,h2⟩:=ih h;exact⟨q,by omega,h2⟩
  ·exact⟨b,by omega,h⟩
theorem Wn{d:Dg}{m:Mv}(h:m∈bP d)(h0:(bR d m).2=0):m∈dJ d:=by
 obtain⟨_,hE,_⟩:=MS h0
 rcases List.mem_append.1 h with h|h
 ·refine List.mem_append_left _ ?_
  rcases UD h with⟨i,h1,rfl⟩|⟨i,j,h1,h2,rfl⟩
  ·have e:jW d (mU i)=0:=hE
   unfold jW at e
   split at e
   ·split at e
    ·rename_i h3;exact Wc h1 h3
    ·cases e
   ·cases e
  ·have e:iG d (mP i j)=0:=hE
   unfold iG at e
   split at e
   ·split at e
    ·rename_i h3;exact Nj (by omega) h1 h2 h3
    ·cases e
   ·cases e
 ·obtain⟨f,h1,rfl⟩:=UA h
  have e:iR d (mS f)=0:=hE
  unfold iR at e
  split at e
  ·split at e
   ·rename_i h3
    unfold ky at h3
    exact List.mem_append_right _ (Ui h1 (of_decide_eq_true h3).1)
   ·cases e
  ·cases e
theorem Am{d:Dg}{m:Mv}(h:m∈dJ d):m∈bP d:=by
 have hA:∀{i a:Nat},i<a->mU i∈o6 a:=by
  intro i a
  induction a with
  |zero=>intro h;omega
  |succ a ih=>
   intro h
   rw[o6]
   by_cases e:i=a
   ·subst e;simp
   ·exact List.mem_append_left _ (List.mem_append_left _ (ih (by omega)))
 have hB:∀{q b a:Nat},q<b->mP q a∈nxB a b:=by
  intro q b a
  induction b with
  |zero=>intro h;omega
  |succ b ih=>
   intro h
   rw[nxB]
   by_cases e:q=b
   ·subst e;simp
   ·exact List.mem_append_left _ (ih (by omega))
 have hP:∀{i j a:Nat},i<j->j<a->mP i j∈o6 a:=by
  intro i j a
  induction a with
  |zero=>intro _ h;omega
  |succ a ih=>
   intro h1 h
   rw[o6]
   by_cases e:j=a
   ·subst e;exact List.mem_append_right _ (hB h1)
   ·exact List.mem_append_left _ (List.mem_append_left _ (ih h1 (by omega)))
 have hF:∀{f a:Nat},f<a->mS f∈qK a:=by
  intro q b
  induction b with
  |zero=>intro h;omega
  |succ b ih=>
   intro h
   rw[qK]
   by_cases e:q=b
   ·subst e;simp
   ·exact List.mem_append_left _ (ih (by omega))
 rcases List.mem_append.1 h with h|h
 ·refine List.mem_append_left _ ?_
  have hJ:∀{i k:Nat},i+1+k<=d.ae.length->m∈skJ d i k->m∈o6 d.ae.length:=by
   intro i k
   induction k with
   |zero=>intro _ h;cases h
   |succ k ih=>
    intro hk h
    rw[skJ,List.mem_append]at h
    rcases h with h|h
    ·exact ih (by omega) h
    ·split at h
     ·rw[List.mem_singleton]at h;subst h;exact hP (by omega) (by omega)
     ·cases h
  have hI:∀{n:Nat},n<=d.ae.length->m∈qH d n->m∈o6 d.ae.length:=by
   intro n
   induction n with
   |zero=>intro _ h;cases h
   |succ n ih=>
    intro hn h
    rw[qH,List.mem_append,List.mem_append]at h
    rcases h with(h|h)|h
    ·exact ih (by omega) h
    ·split at h
     ·rw[List.mem_singleton]at h;subst h;exact hA (by omega)
     ·cases h
    ·exact hJ (by omega) h
  exact hI (Nat.le_refl _) h
 ·refine List.mem_append_right _ ?_
  have hS:∀{n:Nat},n<=(ai d).length->m∈qI d n->m∈qK (ai d).length:=by
   intro n
   induction n with
   |zero=>intro _ h;cases h
   |succ n ih=>
    intro hn h
    rw[qI,List.mem_append]at h
    rcases h with h|h
    ·exact ih (by omega) h
    ·split at h
     ·rw[List.mem_singleton]at h;subst h;exact hF (by omega)
     ·cases h
  exact hS (Nat.le_refl _) h
theorem agE{x y:Dg}{f g:Nat->Nat}(h:fH x y f g)(gx:Gd x)(gy:Gd y)(hop:fD x=true):fD y=true:=by
 unfold fD at hop ⊢
 rw[Bool.and_eq_true]at hop ⊢
 obtain⟨a,b⟩:=hop
 refine⟨?_,adv h gx.2.2.2 gy.2.2.2 b⟩
 rw[Eh]at a ⊢
 rw[gx.2.2.2]at a
 rw[h.n,h.l,gy.2.2.2]
 exact a
theorem ahv{y:Dg}{m:Mv}(h1:fD y=true)(h2:jC y m=0):(bR y m).2=0/\(bR y m).1=jT y m:=by
 unfold bR
 rw[if_neg (by rw[h1];decide),if_pos h2]
 exact⟨rfl,rfl⟩
theorem Wb(d:Dg)(k:Nat):oX d (mS k)=mq d (ga (ai d) k):=by
 simp only[oX,mq];rfl
theorem ada{x y:Dg}{f g:Nat->Nat}(h:fH x y f g)(gx:Gd x)(gy:Gd y){m:Mv}(hm:m∈bP x)(h0:(bR x m).2=0):∃m'∈bP y,(bR y m').2=0/\∃f' g',fH (bR x m).1 (bR y m').1 f' g':=by
 have hx:=gx.2.2.2
 have hy:=gy.2.2.2
 have hn:=h.n
 obtain⟨ho,hE,hD⟩:=MS h0
 have ho':=agE h gx gy ho
 rw[hD]
 have fin:∀m':Mv,m'∈bP y->jC y m'=0->(∃f' g',fH (jT x m) (jT y m') f' g')->∃m'∈bP y,(bR y m').2=0/\∃f' g',fH (jT x m) (bR y m').1 f' g':=fun m' a b c=>by
  obtain⟨q1,q2⟩:=ahv ho' b
  exact⟨m',a,q1,by rw[q2];exact c⟩
 have tk:∀(gs gs':List Nat),(∀c,c<x.ae.length->(f c∈gs'<->c∈gs))->mL x gs=0->mL y gs'=0/\∃f' g',fH (ik x (cG gs)) (ik y (cG gs')) f' g':=by
  intro gs gs' e t
  obtain⟨f',g',i⟩:=aeC h hx hy (gn:=cG gs) (fE:=cG gs') fun c hc=>by
   have:=e c hc
   rw[<-CI,<-CI]at this
   cases h1:cG gs' (f c)<;>cases h2:cG gs c<;>simp[h1,h2]at this ⊢
  refine⟨?_,f',g',i⟩
  unfold mL at t ⊢
  rw[i.l];exact t
 have inj:∀a c,a<x.ae.length->c<x.ae.length->(f c=f a<->c=a):=fun a c ha hc=>⟨fun e=>by
  have h1:=(h.fl a ha).2
  have h2:=(h.fl c hc).2
  rw[e]at h2;omega,fun e=>by rw[e]⟩
 rcases List.mem_append.1 hm with hm|hm
 ·rcases UD hm with⟨i,hi,rfl⟩|⟨i,j,hij,hj,rfl⟩
  ·have hE:jW x (mU i)=0:=hE
   have hfi:=(h.fl i hi).1
   unfold jW at hE
   split at hE
   ·split at hE
    ·rename_i hc
     have hcy:=ad6 h hi (show curlN (ga x.ae i) 4=true from hc)
     obtain⟨t1,t2⟩:=tk [i] [f i] (fun c hc=>by simpa using inj i c hi hc) hE
     refine fin (mU (f i)) (Am (List.mem_append_left _ (Wc (by omega) hcy))) ?_ t2
     show jW y (mU (f i))=0
     unfold jW
     exact(if_pos (show 0<=((f i:Nat):Int)/\((f i:Nat):Int)<(y.ae.length:Int) by omega)).trans ((if_pos hcy).trans t1)
    ·cases hE
   ·cases hE
  ·have hE:iG x (mP i j)=0:=hE
   have hi:i<x.ae.length:=by omega
   have hfi:=(h.fl i hi).1
   have hfj:=(h.fl j hj).1
   have hne:f i≠f j:=fun e=>by have:=(inj j i hj hi).1 e;omega
   unfold iG at hE
   split at hE
   ·split at hE
    ·rename_i hc
     obtain⟨p1,p2⟩:=aeQ h hx hy (show(ai x).any (kR x (i:Int) (j:Int))=true from hc)
     have pl:∀a b:Nat,a<y.ae.length->b<y.ae.length->a≠b->(ai y).any (kR y (a:Int) (b:Int))=true->mL y [a,b]=0->jC y (mP a b)=0:=fun a b ha hb hab hp ht=>by
      show iG y (mP a b)=0
      unfold iG
      exact(if_pos (show(0<=(a:Int)/\(a:Int)<(y.ae.length:Int))/\(0<=(b:Int)/\(b:Int)<(y.ae.length:Int))/\(a:Int)≠(b:Int) by omega)).trans ((if_pos hp).trans ht)
     rcases Nat.lt_or_gt_of_ne hne with hlt|hlt
     ·obtain⟨t1,t2⟩:=tk [i,j] [f i,f j] (fun c hc=>by simp[inj i c hi hc,inj j c hj hc]) hE
      exact fin (mP (f i) (f j)) (Am (List.mem_append_left _ (Nj (by omega) hlt (by omega) p1))) (pl _ _ (by omega) (by omega) hne p1 t1) t2
     ·obtain⟨t1,t2⟩:=tk [i,j] [f j,f i] (fun c hc=>by simp[inj i c hi hc,inj j c hj hc,or_comm]) hE
      exact fin (mP (f j) (f i)) (Am (List.mem_append_left _ (Nj (by omega) hlt (by omega) p2))) (pl _ _ (by omega) (by omega) hne.symm p2 t1) t2
    ·cases hE
   ·cases hE
 ·obtain⟨k,hk,rfl⟩:=UA hm
  have hE:iR x (mS k)=0:=hE
  unfold iR at hE
  split at hE
  ·split at hE
   ·rename_i hs
    obtain⟨k',k1,k2,k3⟩:=aca h hx hy hk (show ky x (ga (ai x) k)=true from hs)
    have k4:=k2
    unfold ky at k4
    refine fin (mS k') (Am (List.mem_append_right _ (Ui k1 (of_decide_eq_true k4).1))) ?_ ⟨f,g,?_⟩
    ·show iR y (mS k')=0
     unfold iR
     exact(if_pos (show 0<=((k':Nat):Int)/\((k':Nat):Int)<((ai y).length:Int) by omega)).trans (if_pos k2)
    ·show fH (oX x (mS k)) (oX y (mS k')) f g
     rw[Wb,Wb];exact k3
   ·cases hE
  ·cases hE
theorem agK{k:Nat}:∀{x y:Dg}{f g:Nat->Nat},Gd x->Gd y->fH x y f g->Rk k x->Rk k y:=by
 induction k with
 |zero=>intro x y f g _ _ h hk;exact h.n.trans hk
 |succ k ih=>
  intro x y f g gx gy h hk
  obtain⟨m,hm,h0,hk⟩:=hk
  obtain⟨m',hm',h0',f',g',hi⟩:=ada h gx gy hm h0
  exact⟨m',hm',h0',ih (zT gx (IU _ hm) h0) (zT gy (IU _ hm') h0') hi hk⟩
theorem Xi{x y:Dg}(hx:Gd x)(hy:Gd y)(zx:x.ae.length≠0)(zy:y.ae.length≠0)(h:iw x=iw y){k:Nat}(hk:Rk k x):Rk k y:=by
 have e:=aeA hx hy zx zy h
 obtain⟨⟨f,g,h1⟩,_⟩:=L8 hx.2.2.2
 obtain⟨⟨f',g',h2⟩,_⟩:=L8 hy.2.2.2
 rw[e]at h1
 exact agK hx hy (h1.symm.trans h2) hk
def Up(d:Dg)(m:Nat)(y:Dg):Prop:=∀j,Rk j y->Rk (m+j) d
def AQ(d:Dg)(n:Nat)(s:Ss):Prop:=∀t∈s.1,∃y m,iw y=t/\Gd y/\y.ae.length≠0/\Up d m y/\(m<n\/m=n/\y∈s.2)
theorem Vc(s:Ss)(x:Dg):iw x∈(s7 s x).1/\(∀t∈s.1,t∈(s7 s x).1)/\∀y∈s.2,y∈(s7 s x).2:=by
 unfold s7
 split
 ·rename_i h;exact⟨h,fun _ h=>h,fun _ h=>h⟩
 ·exact⟨by simp,fun _ h=>List.mem_append_left _ h,fun _ h=>List.mem_append_left _ h⟩
theorem acb{d:Dg}{n:Nat}{s:Ss}{x:Dg}(h:AQ d n s)(hx:Gd x)(hz:x.ae.length≠0)(hu:Up d n x):AQ d n (s7 s x):=by
 intro t ht
 have hin:=Vc s x
 by_cases ht2:t∈s.1
 ·obtain⟨y,m,h1,h2,h3,h4,h5⟩:=h t ht2
  exact⟨y,m,h1,h2,h3,h4,h5.imp id fun h=>⟨h.1,hin.2.2 _ h.2⟩⟩
 ·unfold s7 at ht ⊢
  split at ht
  ·exact absurd ht ht2
  ·rename_i hn
   rw[if_neg hn]
   rcases List.mem_append.1 ht with h9|h9
   ·exact absurd h9 ht2
   ·rw[List.mem_singleton]at h9
    subst h9
    exact⟨x,n,rfl,hx,hz,hu,.inr ⟨rfl,by simp⟩⟩
theorem N5{d:Dg}{n:Nat}{x:Dg}{m:Mv}(h:Up d n x)(hm:m∈bP x)(h0:(bR x m).2=0):Up d (n+1) (bR x m).1:=by
 intro j hj
 have:=h (j+1) ⟨m,hm,h0,hj⟩
 rwa [show n+1+j=n+(j+1)from by omega]
theorem acd{d:Dg}{n:Nat}{x:Dg}(hx:Gd x)(hu:Up d n x)(s:Ss)(hs:AQ d (n+1) s):∀k,k<=(dJ x).length->PZ x (dJ x) k->AQ d (n+1) (slK x (dJ x) s k)/\(∀t∈s.1,t∈(slK x (dJ x) s k).1)/\(∀y∈s.2,y∈(slK x (dJ x) s k).2)/\∀q,q<k->(bR x (ga (dJ x) q)).2=0->iw (bR x (ga (dJ x) q)).1∈(slK x (dJ x) s k).1:=by
 intro k
 induction k with
 |zero=>intro _ _;exact⟨hs,fun _ h=>h,fun _ h=>h,fun q hq=>absurd hq (Nat.not_lt_zero _)⟩
 |succ k ih=>
  intro hk hno
  obtain⟨i1,i2,i3,i4⟩:=ih (by omega) (fun q hq=>hno q (by omega))
  have hm:ga (dJ x) k∈dJ x:=cY (by omega)
  unfold slK
  split
  ·rename_i h0
   have hin:=Vc (slK x (dJ x) s k) (bR x (ga (dJ x) k)).1
   refine⟨acb i1 (zT hx (CM _ hm) h0) (hno k (by omega) h0) (N5 hu (Am hm) h0),fun t ht=>hin.2.1 _ (i2 t ht),fun y hy=>hin.2.2 _ (i3 y hy),fun q hq h9=>?_⟩
   by_cases e:q=k
   ·subst e;exact hin.1
   ·exact hin.2.1 _ (i4 q (by omega) h9)
  ·rename_i h0
   refine⟨i1,i2,i3,fun q hq h9=>?_⟩
   by_cases e:q=k
   ·subst e;exact absurd h9 h0
   ·exact i4 q (by omega) h9
theorem ace{d:Dg}{n:Nat}{nw:List Dg}(hg:∀x∈nw,Gd x/\Up d n x)(s:Ss)(hs:AQ d (n+1) s):∀i,i<=nw.length->P4 nw i->AQ d (n+1) (qG nw s i)/\(∀t∈s.1,t∈(qG nw s i).1)/\(∀y∈s.2,y∈(qG nw s i).2)/\∀q,q<i->∀m∈bP (ga nw q),(bR (ga nw q) m).2=0->iw (bR (ga nw q) m).1∈(qG nw s i).1:=by
 intro i
 induction i with
 |zero=>intro _ _;exact⟨hs,fun _ h=>h,fun _ h=>h,fun q hq=>absurd hq (Nat.not_lt_zero _)⟩
 |succ i ih=>
  intro hi hno
  obtain⟨i1,i2,i3,i4⟩:=ih (by omega) (fun q hq=>hno q (by omega))
  obtain⟨hx,hu⟩:=hg _ (cY (show i<nw.length by omega))
  obtain⟨k1,k2,k3,k4⟩:=acd hx hu _ i1 _ (Nat.le_refl _) (hno i (by omega))
  unfold qG
  refine⟨k1,fun t ht=>k2 _ (i2 t ht),fun y hy=>k3 _ (i3 y hy),fun q hq m hm h9=>?_⟩
  by_cases e:q=i
  ·subst e
   have vV:=Wn hm h9
   obtain⟨z,hz,rfl⟩:=List.mem_iff_getElem.1 vV
   rw[<-cZ hz]at h9 ⊢
   exact k4 z hz h9
  ·exact k2 _ (i4 q (by omega) m hm h9)
theorem Vd{d:Dg}(hd:Gd d)(n:Nat):∀x∈(iQ d n).2,Up d n x:=by
 induction n with
 |zero=>intro x hx;rw[iQ,List.mem_singleton]at hx;subst hx;intro j hj;rwa [Nat.zero_add]
 |succ n ih=>
  have hK:∀(x:Dg),Up d n x->∀(s:Ss),(∀y∈s.2,Up d (n+1) y)->∀k,k<=(dJ x).length->∀y∈(slK x (dJ x) s k).2,Up d (n+1) y:=by
   intro x hx s hs k
   induction k with
   |zero=>intro _;exact hs
   |succ k GV=>
    intro hk y hy
    unfold slK at hy
    split at hy
    ·rename_i h0
     unfold s7 at hy
     split at hy
     ·exact GV (by omega) y hy
     ·rcases List.mem_append.1 hy with hy|hy
      ·exact GV (by omega) y hy
      ·rw[List.mem_singleton]at hy
       subst hy
       exact N5 hx (Am (cY (by omega))) h0
    ·exact GV (by omega) y hy
  have hI:∀i,i<=(iQ d n).2.length->∀y∈(qG (iQ d n).2 ((iQ d n).1,[]) i).2,Up d (n+1) y:=by
   intro i
   induction i with
   |zero=>intro _ y hy;cases hy
   |succ i ihi=>
    intro hi y hy
    exact hK _ (ih _ (cY (by omega))) _ (ihi (by omega)) _ (Nat.le_refl _) y hy
  exact hI _ (Nat.le_refl _)
theorem Vb{d:Dg}(hd:Gd d)(hz:d.ae.length≠0):∀n,Kr d n->(∀k,k<=n->¬Rk k d)/\(∀k,n<=k->Rk k d->(∀j,j<k->¬Rk j d)->∃x∈(iQ d n).2,Rk (k-n) x)/\AQ d n (iQ d n):=by
 intro n
 induction n with
 |zero=>
  intro _
  refine⟨fun k hk h=>?_,fun k _ h _=>⟨d,by simp[iQ],h⟩,fun t ht=>?_⟩
  ·obtain rfl:k=0:=by omega
   exact hz h
  ·rw[iQ,List.mem_singleton]at ht
   exact⟨d,0,ht.symm,hd,hz,fun j hj=>by rwa [Nat.zero_add],.inr ⟨rfl,by simp[iQ]⟩⟩
 |succ n ih=>
  intro hno
  obtain⟨i1,i2,i3⟩:=ih (fun q hq=>hno q (by omega))
  have hni:=hno n (by omega)
  have hgd:=(Ve hd n).1
  have hup:=Vd hd n
  obtain⟨k1,_,_,k4⟩:=ace (nw:=(iQ d n).2) (fun x hx=>⟨hgd x hx,hup x hx⟩) ((iQ d n).1,[]) (fun t ht=>by
   obtain⟨y,m,h1,h2,h3,h4,h5⟩:=i3 t ht
   exact⟨y,m,h1,h2,h3,h4,.inl (by omega)⟩) _ (Nat.le_refl _) hni
  have hch:∀x∈(iQ d n).2,∀m∈bP x,(bR x m).2=0->(bR x m).1.ae.length≠0:=by
   intro x hx m hm h0
   obtain⟨q,hq,rfl⟩:=List.mem_iff_getElem.1 hx
   rw[<-cZ hq]at hm h0 ⊢
   have vV:=Wn hm h0
   obtain⟨z,DX,rfl⟩:=List.mem_iff_getElem.1 vV
   rw[<-cZ DX]at h0 ⊢
   exact hni q hq z DX h0
  have hA:∀k,n+1<=k->Rk k d->(∀j,j<k->¬Rk j d)->∃j,j+(n+1)=k/\∃x∈(iQ d n).2,∃m∈bP x,(bR x m).2=0/\Rk j (bR x m).1:=by
   intro k hk hR hm
   obtain⟨x,hx,hx2⟩:=i2 k (by omega) hR hm
   obtain⟨j,rfl⟩:∃j,k=j+(n+1):=⟨k-(n+1),by omega⟩
   rw[show j+(n+1) -n=j+1 from by omega]at hx2
   obtain⟨m,h1,h2,h3⟩:=hx2
   exact⟨j,rfl,x,hx,m,h1,h2,h3⟩
  refine⟨fun k hk h=>?_,fun k hk h hm=>?_,k1⟩
  ·by_cases e:k<=n
   ·exact i1 k e h
   ·obtain rfl:k=n+1:=by omega
    obtain⟨j,hj,x,hx,m,h1,h2,h3⟩:=hA _ (Nat.le_refl _) h (fun j hj=>i1 j (by omega))
    obtain rfl:j=0:=by omega
    exact hch x hx m h1 h2 h3
  ·obtain⟨j,hj,x,hx,m,h1,h2,h3⟩:=hA k hk h hm
   have DX:=hch x hx m h1 h2
   have Qn:=zT (hgd x hx) (IU _ h1) h2
   obtain⟨q,hq,e⟩:=List.mem_iff_getElem.1 hx
   have ht:iw (bR x m).1∈(iQ d (n+1)).1:=by
    have h1':=h1
    have h2':=h2
    rw[<-e,<-cZ hq]at h1' h2' ⊢
    exact k4 q hq m h1' h2'
   obtain⟨y,m',y1,y2,y3,y4,y5⟩:=k1 _ ht
   have hy:=Xi Qn y2 DX y3 y1.symm h3
   rcases y5 with y5|⟨_,y5⟩
   ·exact absurd (y4 j hy) (hm _ (by omega))
   ·exact⟨y,y5,by rwa [show k-(n+1)=j from by omega]⟩
theorem Ty{d:Dg}(hd:Gd d){dp:Nat}{r:Int}(h:Rl d dp r):(r=-1/\∀k,k<=dp->¬Rk k d)\/∃n:Nat,r=(n:Int)/\n<=dp/\Rk n d/\∀k,k<n->¬Rk k d:=by
 rcases h with⟨h1,h2⟩|⟨hz,⟨h1,h2⟩|⟨n,i,k,h1,h2,h3,h4,h5,h6,h7⟩⟩
 ·exact .inr ⟨0,h2,by omega,h1,fun k hk=>absurd hk (Nat.not_lt_zero _)⟩
 ·exact .inl ⟨h1,(Vb hd hz _ h2).1⟩
 ·refine .inr ⟨n+1,h1,by omega,?_,fun k hk=>(Vb hd hz _ h3).1 k (by omega)⟩
  exact Vd hd n _ (cY h4) 1 ⟨_,Am (cY h5),h6,h7⟩
end Go.Proofs.YtcohmplpgcddiaaGreatDoor
namespace Go.Proofs.YtcohmplpgcddiaaGreatDoor
open Go.ChangeShapes Go.WideShapes Go.ChangeAt Go.RowKit
inductive nR(d:Dg):List Mv->Dg->Prop
 |nil:nR d [] d
 |snoc {l:List Mv}{x:Dg}{m:Mv}:nR d l x->m∈bP x->(bR x m).2=0->nR d (l++[m]) (bR x m).1
theorem nR.up{d x:Dg}{l:List Mv}(h:nR d l x):Up d l.length x:=by
 induction h with
 |nil=>intro j hj;rwa [show([]:List Mv).length+j=j from Nat.zero_add j]
 |snoc h1 h2 h3 ih=>
  have:=N5 ih h2 h3
  rwa [List.length_append]
theorem nR.row{d x:Dg}{l:List Mv}(h:nR d l x):∀l2:List Mv,oz (l++l2) (l++l2).length 0 d=oz (l++l2) ((l++l2).length-l.length) l.length x:=by
 induction h with
 |nil=>intro l2;rfl
 |@snoc l x m h1 h2 h3 ih=>
  intro l2
  rw[List.append_assoc,ih]
  have hg:ga (l++([m]++l2)) l.length=m:=by
   rw[nC _ _ _ (Nat.le_refl _),Nat.sub_self];rfl
  rw[IL (by simp) (by rw[hg];exact h3),hg,show(l++[m]).length=l.length+1 from by simp]
theorem nR.jz{d x:Dg}{l:List Mv}(h:nR d l x)(hop:fD d=true)(hl:l.length<=200):jz d l=(x,l.length,0):=by
 unfold Go.Proofs.YtcohmplpgcddiaaGreatDoor.jz
 rw[if_neg (by rw[hop];decide),if_neg (by omega)]
 have:=h.row []
 rw[List.append_nil]at this
 rw[this,LP]
theorem TG{d:Dg}{x:jE}(h:nR d x.2 x.1){l:List Mv}(hl:∀m∈l,m∈bP x.1):∀k,k<=l.length->∀y∈qJ x l k,nR d y.2 y.1:=by
 intro k
 induction k with
 |zero=>intro _ y hy;cases hy
 |succ k ih=>
  intro hk y hy
  rw[qJ,List.mem_append]at hy
  rcases hy with hy|hy
  ·exact ih (by omega) y hy
  ·split at hy
   ·rename_i h0
    rw[List.mem_singleton]at hy
    subst hy
    exact nR.snoc h (hl _ (cY (by omega))) h0
   ·cases hy
theorem adG{x:jE}{l:List Mv}{k q:Nat}(hq:q<k)(h0:(bR x.1 (ga l q)).2=0):((bR x.1 (ga l q)).1,x.2++[ga l q])∈qJ x l k:=by
 induction k with
 |zero=>omega
 |succ k ih=>
  rw[qJ]
  by_cases e:q=k
  ·subst e;rw[if_pos h0];simp
  ·exact List.mem_append_left _ (ih (by omega))
theorem adF{x:jE}{m:Mv}(hm:m∈bP x.1)(h0:(bR x.1 m).2=0):∃y∈zA x,y.1=(bR x.1 m).1:=by
 obtain⟨q,hq,rfl⟩:=List.mem_iff_getElem.1 hm
 rw[<-cZ hq]at h0 ⊢
 exact⟨_,adG hq h0,rfl⟩
def W9(d:Dg)(i:Nat)(s:Ps):Prop:=∀t,(mg t s.1).getD false=true->∃y:jE,∃m,iw y.1=t/\Gd y.1/\y.1.ae.length≠0/\Up d m y.1/\(m<i\/m=i/\∀z∈zA y,z∈s.2)
theorem acv{d:Dg}{i:Nat}{lv:List jE}(hl:∀x∈lv,Gd x.1/\nR d x.2 x.1/\x.2.length=i)(s:Ps)(hs:W9 d i s)(hp:∀y∈s.2,nR d y.2 y.1):∀j,j<=lv.length->PY lv j->W9 d i (pkI true lv s j)/\(∀y∈(pkI true lv s j).2,nR d y.2 y.1)/\∀q,q<j->(mg (iw (ga lv q).1) (pkI true lv s j).1).getD false=true:=by
 intro j
 induction j with
 |zero=>intro _ _;exact⟨hs,hp,fun q hq=>absurd hq (Nat.not_lt_zero _)⟩
 |succ j ih=>
  intro hj hz
  obtain⟨i1,i2,i3⟩:=ih (by omega) (fun q hq=>hz q (by omega))
  obtain⟨hg,hP,hlen⟩:=hl _ (cY (show j<lv.length by omega))
  have hzj:=hz j (by omega)
  unfold pkI zw
  generalize pkI true lv s j=s' at i1 i2 i3 ⊢
  split
  ·rename_i h0
   refine⟨fun t ht=>?_,fun y hy=>?_,fun q hq=>?_⟩
   ·by_cases e:t=iw (ga lv j).1
    ·exact⟨ga lv j,i,e.symm,hg,hzj,by rw[<-hlen];exact hP.up,.inr ⟨rfl,fun z hz=>List.mem_append_right _ hz⟩⟩
    ·rw[yJ,if_neg e]at ht
     obtain⟨y,m,h1,h2,h3,h4,h5⟩:=i1 t ht
     exact⟨y,m,h1,h2,h3,h4,h5.imp id fun h=>⟨h.1,fun z hz=>List.mem_append_left _ (h.2 z hz)⟩⟩
   ·rcases List.mem_append.1 hy with hy|hy
    ·exact i2 y hy
    ·exact TG hP (fun _ h=>h) _ (Nat.le_refl _) y hy
   ·rw[yJ]
    split
    ·rfl
    ·rename_i e
     by_cases e2:q=j
     ·subst e2;exact absurd rfl e
     ·exact i3 q (by omega)
  ·rename_i h0
   refine⟨i1,i2,fun q hq=>?_⟩
   by_cases e2:q=j
   ·subst e2
    cases hb:(mg (iw (ga lv q).1) s'.1).getD false with
    |true=>rfl
    |false=>exact absurd ⟨rfl,hb⟩ h0
   ·exact i3 q (by omega)
theorem TE{d:Dg}(hd:Gd d)(dp:Nat):∀i,i<=dp->BX d dp i->∀x∈(ji d dp i).2,Gd x.1/\nR d x.2 x.1/\x.2.length=i:=by
 intro i hi hz x hx
 have h9:=(Mq hd dp i).1 x hx
 refine⟨h9.1,?_,h9.2.1⟩
 clear h9
 induction i generalizing x with
 |zero=>rw[ji,List.mem_singleton]at hx;subst hx;exact nR.nil
 |succ i ih=>
  have hz2:BX d dp i:=fun q hq=>hz q (by omega)
  unfold ji at hx
  rw[decide_eq_true (show i<dp by omega)]at hx
  have hK:∀j,j<=(ji d dp i).2.length->∀y∈(pkI true (ji d dp i).2 ((ji d dp i).1,[]) j).2,nR d y.2 y.1:=by
   intro j
   induction j with
   |zero=>intro _ y hy;cases hy
   |succ j ihj=>
    intro hj y hy
    unfold pkI zw at hy
    split at hy
    ·rcases List.mem_append.1 hy with hy|hy
     ·exact ihj (by omega) y hy
     ·exact TG (ih (by omega) hz2 _ (cY (by omega))) (fun _ h=>h) _ (Nat.le_refl _) y hy
    ·exact ihj (by omega) y hy
  exact hK _ (Nat.le_refl _) x hx
theorem Vj{d:Dg}(hd:Gd d){dp:Nat}:∀i,i<=dp->BX d dp i->(∀k,k<i->¬Rk k d)/\(∀k,i<=k->Rk k d->(∀j,j<k->¬Rk j d)->∃x∈(ji d dp i).2,Rk (k-i) x.1)/\∀t,(mg t (ji d dp i).1).getD false=true->∃y:jE,∃m,iw y.1=t/\Gd y.1/\y.1.ae.length≠0/\Up d m y.1/\m<i:=by
 intro i
 induction i with
 |zero=>
  intro _ _
  exact⟨fun k hk=>absurd hk (Nat.not_lt_zero _),fun k _ h _=>⟨(d,[]),by simp[ji],h⟩,fun t ht=>by simp[ji,mg]at ht⟩
 |succ i ih=>
  intro hi hz
  have hz2:BX d dp i:=fun q hq=>hz q (by omega)
  obtain⟨i1,i2,i3⟩:=ih (by omega) hz2
  have P7:=hz i (by omega)
  have hpl:=TE hd dp i (by omega) hz2
  obtain⟨k1,k2,k3⟩:=acv hpl ((ji d dp i).1,[]) (fun t ht=>by
   obtain⟨y,m,h1,h2,h3,h4,h5⟩:=i3 t ht
   exact⟨y,m,h1,h2,h3,h4,.inl h5⟩) (fun y hy=>absurd hy List.not_mem_nil) _ (Nat.le_refl _) P7
  have hN:ji d dp (i+1)=pkI true (ji d dp i).2 ((ji d dp i).1,[]) (ji d dp i).2.length:=by
   rw[ji,decide_eq_true (show i<dp by omega)]
  rw[<-hN]at k1 k2 k3
  have hni:¬Rk i d\/True:=.inr trivial
  have ajo:∀k,Rk k d->(∀j,j<k->¬Rk j d)->i<=k->i<k:=by
   intro k hk hm hik
   by_cases e:k=i
   ·subst e
    obtain⟨x,hx,hx2⟩:=i2 k (Nat.le_refl _) hk hm
    rw[Nat.sub_self]at hx2
    obtain⟨q,hq,rfl⟩:=List.mem_iff_getElem.1 hx
    rw[<-cZ hq]at hx2
    exact absurd hx2 (P7 q hq)
   ·omega
  refine⟨fun k hk h=>?_,fun k hk h hm=>?_,fun t ht=>?_⟩
  ·by_cases e:k<i
   ·exact i1 k e h
   ·have:=ajo k h (fun j hj=>i1 j (by omega)) (by omega)
    omega
  ·obtain⟨x,hx,hx2⟩:=i2 k (by omega) h hm
   obtain⟨j,rfl⟩:∃j,k=j+(i+1):=⟨k-(i+1),by omega⟩
   obtain⟨q,hq,rfl⟩:=List.mem_iff_getElem.1 hx
   rw[<-cZ hq]at hx2
   have P5:=P7 q hq
   obtain⟨y,m',y1,y2,y3,y4,y5⟩:=k1 _ (k3 q hq)
   obtain⟨g1,_,_⟩:=hpl _ (cY hq)
   have hy:=Xi g1 y2 P5 y3 y1.symm hx2
   rcases y5 with y5|⟨_,y5⟩
   ·exact absurd (y4 _ hy) (hm _ (by omega))
   ·rw[show j+(i+1) -i=j+1 from by omega]at hy
    obtain⟨m,h1,h2,h3⟩:=hy
    obtain⟨z,DX,e⟩:=adF h1 h2
    exact⟨z,y5 z DX,by rw[e,show j+(i+1) -(i+1)=j from by omega];exact h3⟩
  ·obtain⟨y,m,h1,h2,h3,h4,h5⟩:=k1 t ht
   exact⟨y,m,h1,h2,h3,h4,by rcases h5 with h|h<;>omega⟩
theorem ack{d:Dg}{dp:Nat}{l:List Mv}{e r:Int}(hop:fD d=true)(hn:d.ae.length<=8)(hd5:dp<=5)(hs:Rm d dp l e)(hl:Rl d dp r):(r=-1/\l=[]/\e=8)\/(0<=r/\r=(l.length:Int)/\e=0/\(∀m∈l,qN m)/\∃D,jz d l=(D,l.length,0)/\D.ae=[]):=by
 obtain⟨_,hab,hlo⟩:=EG hop
 have hd:Gd d:=⟨hn,hlo.1,hlo.2,hab⟩
 rcases hs with⟨i,j,h1,h2,h3,h4,rfl,rfl⟩|⟨h1,rfl,rfl⟩
 ·obtain⟨p1,p2,p3⟩:=TE hd dp i h1 h2 _ (cY h3)
  obtain⟨l1,_,_⟩:=Vj hd i h1 h2
  have hR:Rk i d:=by
   have:=p2.up 0 h4
   rwa [p3]at this
  rcases Ty hd hl with⟨_,h9⟩|⟨n,h5,h6,h7,h8⟩
  ·exact absurd hR (h9 i h1)
  ·have e:n=i:=by
    by_cases e1:n<i
    ·exact absurd h7 (l1 n e1)
    ·by_cases e2:i<n
     ·exact absurd hR (h8 i e2)
     ·omega
   subst e
   refine .inr ⟨by omega,by rw[h5,p3],rfl,((Mq hd dp n).1 _ (cY h3)).2.2,_,p2.jz hop (by omega),List.eq_nil_of_length_eq_zero h4⟩
 ·obtain⟨l1,l2,_⟩:=Vj hd dp (Nat.le_refl _) (fun q hq=>h1 q (by omega))
  rcases Ty hd hl with⟨h9,_⟩|⟨n,h5,h6,h7,h8⟩
  ·exact .inl ⟨h9,rfl,rfl⟩
  ·exfalso
   by_cases e:n<dp
   ·exact l1 n e h7
   ·obtain rfl:n=dp:=by omega
    obtain⟨x,hx,hx2⟩:=l2 n (Nat.le_refl _) h7 h8
    rw[Nat.sub_self]at hx2
    obtain⟨q,hq,rfl⟩:=List.mem_iff_getElem.1 hx
    rw[<-cZ hq]at hx2
    exact h1 n (by omega) q hq hx2
end Go.Proofs.YtcohmplpgcddiaaGreatDoor
