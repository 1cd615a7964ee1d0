/- Part 7 of the proof of the law TableSeeks: the walks through its functions and the plain laws that they need. -/
import Derived.Test.YtcohmplpgcddiaaGreatDoorSmZ6
set_option linter.unusedSimpArgs false
set_option linter.unusedVariables false
noncomputable section
namespace Go.Proofs.YtcohmplpgcddiaaGreatDoor
open Go.ChangeShapes Go.WideShapes Go.ChangeAt Go.RowKit
theorem aat(gs:List Nat)(c:Nat):(gs.map fun x:Nat=>(x:Int)).contains (c:Int)=cG gs c:=by
 rw[Bool.eq_iff_iff,List.contains_iff_mem,CI,List.mem_map]
 constructor
 ·rintro⟨x,hx,e⟩
  obtain rfl:x=c:=by omega
  exact hx
 ·exact fun h=>⟨c,h,rfl⟩
theorem agm{d:Dg}{gs:List Nat}{i k:Nat}(hk:k<2):rK d gs (2*i+k)=(aL d (ga gs i) k).toNat/\rJ d gs (2*i+k)=(aL d (ga gs i) (k+2)).toNat:=by
 unfold rK rJ
 rw[show(2*i+k)/2=i by omega,show(2*i+k)%2=k by omega]
 exact⟨rfl,rfl⟩
theorem abP(x:Int)(n:Nat):x+((n:Nat):Int)+1=x+((n+1:Nat):Int):=by omega
noncomputable def Z33:=Tryz.f69.body.getD .skip
set_option maxRecDepth 10000 in
theorem Tk{w:World}{M:Hp}{X:Fr}(l:List Int){lA:Option Addr}{lc:Nat}(x:Int)(hl:aJ aQ (M.un X.h) lA lc l)(S:SH w M X []):Cq Tryz.prog 69 [.slice lA l.length lc,.int .i64 x] w M X (fun u=>u=.bool (l.contains x)):=by
 unfold Cq
 have Xk:l.length*8<=140737488355328:=hl.room
 refine cw (b:=Z33) Tryz.func69 rfl Tryz.ntmps69 rfl (fun C hC=>(cB [0,1] rfl (ar (af 1 rfl (bM [0,1] rfl (ar (af 1 rfl (aB (bK ?_)))))))))
 refine bg ?_
 refine ck (fun aZ au aR=>∃(i:Nat),aZ=l.length-i/\Env 18 [(0,.slice lA l.length lc),(1,.int .i64 x),(5,.int .i64 (i:Int))] au/\SH aR M X []/\i<=l.length/\(∀j,j<i->ga l j≠x)) rfl ?_ ?_
 ·intro au aq
  refine⟨_,⟨0,rfl,aq.su rfl,S.pick [] [] (by decide) trivial,?dh,?dC⟩⟩
  case dh=>omega
  case dC=>(intro j hj;omega)
 ·rintro m1 a1 w1 ⟨i,rfl,bN,S1,hi,hno⟩
  clear S
  refine cy bN ?_
  clear bN a1
  refine cJ (ar (af 2 rfl (ag rfl (cK rfl dm) (af 1 rfl (ax [0,1,5,9] rfl ?_)))))
  refine bp rfl (fun oH=>?_) (fun oH=>?_)
  ·refine aV (bC [0,1,5] rfl (bg (ar (af 2 rfl (ag rfl (cN i rfl bt hl) (ag rfl (aw rfl aG (hl.cell S1.um (i:=i) (by first|omega|(simp only[ls];omega)) 0 rfl rfl)) ?_))))))
   refine af 2 rfl (ax [0,1,5,17] rfl ?_)
   refine bp rfl (fun nI=>?_) (fun nI=>?_)
   ·refine ar (af 1 rfl (ax [4] rfl (bU hC rfl ?_)))
    exact⟨_,rfl,(S1.pick [] [] (by decide) trivial),(by show Value.bool _=_;refine congrArg Value.bool ?_;symm;first|(rw[List.contains_iff_mem];exact(by assumption:ga l i=x)▸cY (by omega))|(rw[Bool.eq_false_iff,Ne,List.contains_iff_mem];intro hm;obtain⟨j,hj,e⟩:=List.mem_iff_getElem.1 hm;exact hno j (by omega) (by rw[cZ hj];exact e)))⟩
   ·refine aV (bE (aW [0,1,5] rfl (aH (af 1 rfl (ag rfl (bj rfl) (af 1 rfl (aB (br ?_))))))))
    intro au aq
    refine⟨_,?fK,⟨i+1,rfl,aq.su rfl,S1.pick [] [] (by decide) trivial,?dv,?dL⟩⟩
    case dv=>omega
    case dL=>(intro j hj;by_cases e:j=i;(subst e;assumption);exact hno j (by omega))
    case fK=>omega
  ·refine bX rfl (cP [] rfl (af 1 rfl (aB (bK (bU hC rfl ?_)))))
   exact⟨_,rfl,(S1.pick [] [] (by decide) trivial),(by show Value.bool _=_;refine congrArg Value.bool ?_;symm;first|(rw[List.contains_iff_mem];exact(by assumption:ga l i=x)▸cY (by omega))|(rw[Bool.eq_false_iff,Ne,List.contains_iff_mem];intro hm;obtain⟨j,hj,e⟩:=List.mem_iff_getElem.1 hm;exact hno j (by omega) (by rw[cZ hj];exact e)))⟩
noncomputable def Z34:=Tryz.f44.body.getD .skip
set_option maxHeartbeats 4000000 in
set_option maxRecDepth 10000 in
theorem RM{w:World}{M:Hp}{X:Fr}(d:Dg){bz:Option Addr}{bw:Nat}(gone:List Int){mh:Option Addr}{mf:Nat}(aC:aJ bu (M.un X.h) bz bw d.ae)(kW:aJ aQ (M.un X.h) mh mf gone){gs:List Nat}(vU:gone=gs.map fun x:Nat=>(x:Int))(DZ:∀x∈gs,x<d.ae.length)(hn:d.ae.length<=16)(hab:aO d=true)(hlo0:0<=d.loops/\d.loops<=1000)(S:SH w M X []):Ct Tryz.prog 44 [.agg [.slice bz d.ae.length bw,.int .i64 d.loops].toArray,.slice mh gone.length mf] w M X (fun u N=>∃A c,u=.agg [.slice A (ik d (cG gs)).ae.length c,.int .i64 (ik d (cG gs)).loops].toArray/\aJ bu N A c (ik d (cG gs)).ae):=by
 unfold Ct
 have iL:d.ae.length*40<=140737488355328:=aC.room
 have Us:gone.length*8<=140737488355328:=kW.room
 have G9:∀c:Nat,gone.contains (c:Int)=cG gs c:=fun c=>by rw[vU];exact aat gs c
 have hgl:gone.length=gs.length:=by rw[vU,List.length_map]
 have hgo:∀q,q<gs.length->ga gone q=((ga gs q:Nat):Int):=fun q hq=>by rw[vU,om _ _ _ hq]
 clear vU
 refine cw (b:=Z34) Tryz.func44 rfl Tryz.ntmps44 rfl (fun C hC=>(cB [0,1] rfl (ar (aj rfl (dx (l:=[_,_]) rfl rfl rfl rfl rfl S ?_)))))
 intro aP w1 S1;clear S
 refine aj rfl (bW (l:=[_,_]) rfl rfl rfl jo rfl S1 ?_)
 intro bJ w2 S2;clear S1
 refine bL [1,2,4] rfl (ag rfl (az rfl aM rfl dN dM) (ag rfl (aw rfl cE (S2.bc 1 rfl rfl)) (ag rfl (cK rfl cE) (ag rfl (zV rfl rfl rfl (by first|omega|(simp only[ls];omega))) ?_))))
 refine af 1 rfl (bL [1,2,4,5] rfl (af 1 rfl (ag rfl (bj rfl) (aj rfl (sP (C:=aQ) ((2*(d.ae.length:Int)).toNat+1) rfl rfl rfl rfl rfl bt (by first|rfl|omega) (by show _*8<=_;first|omega|(simp only[ls];omega)) S2 ?_)))))
 intro s6 w3 S3;clear S2
 refine af 1 rfl (bM [1,2,4,5,6] rfl (ar (af 1 rfl (aB (bK (bg ?_))))))
 refine ck (fun aZ au aR=>∃(i:Nat) (ws:List Int) (pV:Value),aZ=2*d.ae.length+1-i/\Env 185 [(1,.slice mh gone.length mf),(2,.pointer (some ⟨aP,0,none⟩)),(4,.pointer (some ⟨bJ,0,none⟩)),(5,.int .i64 (2*(d.ae.length:Int))),(6,pV),(7,.int .i64 (i:Int))] au/\SH aR M X [Rs.row aQ pV ws,Rs.box bJ 24 [.slice none 0 0,.int .i64 0],Rs.box aP 24 [.slice bz d.ae.length bw,.int .i64 d.loops]]/\i<=2*d.ae.length+1/\ws=iniW (2*d.ae.length+1) i) rfl ?_ ?_
 ·intro au aq
  refine⟨_,⟨0,_,_,rfl,aq.su rfl,S3.pick [0,1,2] [_,_,_] (by decide) ⟨rfl,rfl,rfl,trivial⟩,?dh,?dC⟩⟩
  case dh=>omega
  case dC=>rfl
 ·rintro m1 a1 w4 ⟨i,ws,pV,rfl,bN,S4,hi,hw⟩
  clear S3
  refine cy bN ?_
  clear bN a1
  have DY:ws.length=2*d.ae.length+1:=by rw[hw,zi]
  refine cJ (ar (af 3 rfl (ax [1,2,4,5,6,7,29] rfl ?_)))
  refine bp rfl (fun sI=>?_) (fun sI=>?_)
  ·refine aV (bC [1,2,4,5,6,7] rfl (bg (aH (af 3 rfl (ag rfl (bS (i:=0) i rfl bt S4 rfl) (aj rfl (iE (C:=aQ) (i:=0) (e:=i) (j:=0) (us:=[_]) (H':=[_,_,_]) (i:Int) rfl rfl S4 rfl (by first|omega|(simp only[ls];omega)) rfl rfl rfl gp rfl rfl rfl rfl ?_)))))))
   intro w5 S5;clear S4
   refine aB (bE (aW [1,2,4,5,6,7] rfl (aH (af 1 rfl (ag rfl (bj rfl) (af 1 rfl (aB (br ?_))))))))
   intro au aq
   refine⟨_,?fK,⟨i+1,_,_,rfl,aq.su rfl,S5.pick [0,1,2] [_,_,_] (by decide) ⟨rfl,rfl,rfl,trivial⟩,?dv,?dL⟩⟩
   case dv=>omega
   case dL=>(rw[hw];rfl)
   case fK=>omega
  ·refine bX rfl (bC [1,2,4,5,6] rfl (ar (af 1 rfl (aB (bK (bg ?_))))))
   refine ck (fun aZ au aR=>∃(r:Nat) (iF:List Int) (pG:Value),aZ=2*d.ae.length+1-r/\Env 185 [(1,.slice mh gone.length mf),(2,.pointer (some ⟨aP,0,none⟩)),(4,.pointer (some ⟨bJ,0,none⟩)),(5,.int .i64 (2*(d.ae.length:Int))),(6,pG),(8,.int .i64 (r:Int))] au/\SH aR M X [Rs.row aQ pG iF,Rs.box bJ 24 [.slice none 0 0,.int .i64 0],Rs.box aP 24 [.slice bz d.ae.length bw,.int .i64 d.loops]]/\r<=2*d.ae.length+1/\iF=AW (rK d gs) (rJ d gs) (2*d.ae.length+1) (2*gs.length) r) rfl ?_ ?_
   ·intro au aq
    refine⟨_,⟨0,_,_,rfl,aq.su rfl,S4.pick [0,1,2] [_,_,_] (by decide) ⟨rfl,rfl,rfl,trivial⟩,?fg,?fR⟩⟩
    case fg=>omega
    case fR=>(obtain rfl:i=2*d.ae.length+1:=(by omega);exact hw)
   ·rintro m2 a2 w6 ⟨r,iF,pG,rfl,cU,S6,hr,hw2⟩
    clear S4
    refine cy cU ?_
    clear cU a2
    have hl2:iF.length=2*d.ae.length+1:=by rw[hw2,H6]
    refine cJ (ar (af 3 rfl (ax [1,2,4,5,6,8,38] rfl ?_)))
    refine bp rfl (fun Bk=>?_) (fun Bk=>?_)
    ·refine aV (bC [1,2,4,5,6,8] rfl (bg (ar (af 1 rfl (aB (bK (bg ?_)))))))
     refine ck (fun aZ au aR=>∃(i3:Nat) (vM:List Int) (AR:Value),aZ=gs.length-i3/\Env 185 [(1,.slice mh gone.length mf),(2,.pointer (some ⟨aP,0,none⟩)),(4,.pointer (some ⟨bJ,0,none⟩)),(5,.int .i64 (2*(d.ae.length:Int))),(6,AR),(8,.int .i64 (r:Int)),(9,.int .i64 (i3:Int))] au/\SH aR M X [Rs.row aQ AR vM,Rs.box bJ 24 [.slice none 0 0,.int .i64 0],Rs.box aP 24 [.slice bz d.ae.length bw,.int .i64 d.loops]]/\i3<=gs.length/\vM=qE (rK d gs) (rJ d gs) iF (2*i3)) rfl ?_ ?_
     ·intro au aq
      refine⟨_,⟨0,_,_,rfl,aq.su rfl,S6.pick [0,1,2] [_,_,_] (by decide) ⟨rfl,rfl,rfl,trivial⟩,?fJ,?fZ⟩⟩
      case fJ=>omega
      case fZ=>rfl
     ·rintro m3 a3 w7 ⟨i3,vM,AR,rfl,fB,S7,Ql,hw3⟩
      clear S6
      refine cy fB ?_
      clear fB a3
      have KA:=fun(h:i3<gs.length)=>DZ _ (cY h)
      have hgm:=fun(h:i3<gs.length)=>hgo i3 h
      refine cJ (ar (af 2 rfl (ag rfl (cK rfl dm) (af 1 rfl (ax [1,2,4,5,6,8,9,44] rfl ?_)))))
      refine bp rfl (fun Bj=>?_) (fun Bj=>?_)
      ·refine aV (bC [1,2,4,5,6,8,9] rfl (bg (ar (af 1 rfl (aB (bK (bg ?_)))))))
       refine ck (fun aZ au aR=>∃(k4:Nat) (Kf:List Int) (JE:Value),aZ=2-k4/\Env 185 [(1,.slice mh gone.length mf),(2,.pointer (some ⟨aP,0,none⟩)),(4,.pointer (some ⟨bJ,0,none⟩)),(5,.int .i64 (2*(d.ae.length:Int))),(6,JE),(8,.int .i64 (r:Int)),(9,.int .i64 (i3:Int)),(10,.int .i64 (k4:Int))] au/\SH aR M X [Rs.row aQ JE Kf,Rs.box bJ 24 [.slice none 0 0,.int .i64 0],Rs.box aP 24 [.slice bz d.ae.length bw,.int .i64 d.loops]]/\k4<=2/\Kf=qE (rK d gs) (rJ d gs) iF (2*i3+k4)) rfl ?_ ?_
       ·intro au aq
        refine⟨_,⟨0,_,_,rfl,aq.su rfl,S7.pick [0,1,2] [_,_,_] (by decide) ⟨rfl,rfl,rfl,trivial⟩,?fI,?fY⟩⟩
        case fI=>omega
        case fY=>exact hw3
       ·rintro m4 a4 w8 ⟨k4,Kf,JE,rfl,iT,S8,hk4,hw4⟩
        clear S7
        refine cy iT ?_
        clear iT a4
        have hl4:Kf.length=2*d.ae.length+1:=by rw[hw4,RR];exact hl2
        refine cJ (ar (af 2 rfl (ax [1,2,4,5,6,8,9,10,48] rfl ?_)))
        refine bp rfl (fun hb48=>?_) (fun hb48=>?_)
        ·have XM:=KA (by omega)
         have XL:=hgm (by omega)
         have anG:=ey hab XM (k:=k4) (by omega)
         have anF:=ey hab XM (k:=k4+2) (by omega)
         refine aV (bC [1,2,4,5,6,8,9,10] rfl (bg (dH S8 19 ?_)))
         clear S8
         refine aK 18 [0] rfl (ay 1 rfl (fun ah Sz=>aU [_,_] rfl aM aN (Sz.suf.bs 2 rfl rfl)) (aK 15 [2,3] rfl (ay 4 rfl (fun ah Sz=>cN i3 rfl bt (kW.mono (Hp.aD ah Sz.mx))) (ay 5 rfl (fun ah Sz=>aw rfl aG ((kW.mono (Hp.aD ah Sz.mx)).cell Sz.um (i:=i3) (by first|omega|(simp only[ls];omega)) 0 rfl rfl)) ?_))))
         refine tN 56 (.int .i64 ((ga gs i3:Nat):Int)) rfl (int_eq XL) (aK 12 [6] rfl (ay 7 rfl (fun ah Sz=>run_build (l:=[_,_]) rfl rfl rq rfl rfl) (dQ 8 rfl (fun ah Sz=>dZ rfl rfl rfl rfl rfl ux Sz (uB d (ga gs i3) k4 ((aC.mono (Hp.aD ah Sz.mx)).mono Sz.bn) (by omega) (by omega) Sz.aT)) ?_)))
         refine ay 9 rfl (fun ah Sz=>aU [_,_] rfl aM aN (Sz.suf.bs 2 rfl rfl)) (aK 7 [10,11] rfl (ay 12 rfl (fun ah Sz=>cN i3 rfl bt (kW.mono (Hp.aD ah Sz.mx))) (ay 13 rfl (fun ah Sz=>aw rfl aG ((kW.mono (Hp.aD ah Sz.mx)).cell Sz.um (i:=i3) (by first|omega|(simp only[ls];omega)) 0 rfl rfl)) ?_)))
         refine tN 64 (.int .i64 ((ga gs i3:Nat):Int)) rfl (int_eq XL) (aK 4 [14] rfl (aS 15 rfl (bj rfl) (tN 66 (.int .i64 ((k4+2:Nat):Int)) rfl (int_eq (by omega)) ?_)))
         refine ay 16 rfl (fun ah Sz=>run_build (l:=[_,_]) rfl rfl rq rfl rfl) (dQ 17 rfl (fun ah Sz=>dZ rfl rfl rfl rfl rfl ux Sz (uB d (ga gs i3) (k4+2) ((aC.mono (Hp.aD ah Sz.mx)).mono Sz.bn) (by omega) (by omega) Sz.aT)) ?_)
         refine cm 18 rfl (fun sY fG=>((r9 rfl rfl rfl rfl rfl rfl rfl aj6 fG (i:=0) rfl (adQ JE _ (aL d (ga gs i3) k4) (aL d (ga gs i3) (k4+2)) (by omega) (by omega) (fG.mH (i:=0) rfl)) ?_)))
         rintro amt vN _ _-gH ⟨rfl,rfl,rfl⟩;clear fG
         change SH _ _ _ [_,_,_]at gH
         refine ij gH ?_;clear gH
         change WA _ _ _ _ _ _ _ _ _ _ _ _ [_,_,_]
         refine cD (fun BM kj=>(bE (aW [1,2,4,5,6,8,9,10] rfl (aH (af 1 rfl (ag rfl (bj rfl) (af 1 rfl (aB (br ?_)))))))))
         intro au aq
         refine⟨_,?kq,⟨k4+1,_,_,rfl,aq.su rfl,kj.pick [0,1,2] [_,_,_] (by decide) ⟨rfl,rfl,rfl,trivial⟩,?iB,?iW⟩⟩
         case iB=>omega
         case iW=>(show _=nD (qE (rK d gs) (rJ d gs) iF (2*i3+k4)) (rK d gs (2*i3+k4)) (rJ d gs (2*i3+k4));obtain⟨u1,u2⟩:=agm (d:=d) (gs:=gs) (i:=i3) (k:=k4) (by omega);rw[<-hw4,u1,u2])
         case kq=>omega
        ·refine bX rfl (bE (aW [1,2,4,5,6,8,9] rfl (aH (af 1 rfl (ag rfl (bj rfl) (af 1 rfl (aB (br ?_))))))))
         intro au aq
         refine⟨_,?mO,⟨i3+1,_,_,rfl,aq.su rfl,S8.pick [0,1,2] [_,_,_] (by decide) ⟨rfl,rfl,rfl,trivial⟩,?jN,?jM⟩⟩
         case jN=>omega
         case jM=>(obtain rfl:k4=2:=(by omega);exact hw4)
         case mO=>omega
      ·refine bX rfl (bE (aW [1,2,4,5,6,8] rfl (aH (af 1 rfl (ag rfl (bj rfl) (af 1 rfl (aB (br ?_))))))))
       intro au aq
       refine⟨_,?lZ,⟨r+1,_,_,rfl,aq.su rfl,S7.pick [0,1,2] [_,_,_] (by decide) ⟨rfl,rfl,rfl,trivial⟩,?jL,?jK⟩⟩
       case jL=>omega
       case jK=>(obtain rfl:i3=gs.length:=(by omega);rw[hw3,hw2];rfl)
       case lZ=>omega
    ·refine bX rfl (bC [1,2,4,5,6] rfl ?_)
     obtain rfl:r=2*d.ae.length+1:=by omega
     have qw:iF=tC d (cG gs):=by rw[hw2];exact aeB hab DZ
     have hok:∀x,x<2*d.ae.length+1->0<=ga iF x/\ga iF x<=x/\ga iF (ga iF x).toNat=ga iF x:=by rw[qw];exact(CL hab (cG gs) _ (Nat.le_refl _)).2
     have hl2:iF.length=2*d.ae.length+1:=by rw[qw];exact LL _ _ _
     clear hw2
     obtain⟨cl,rfl⟩:∃cl,cl=iF:=⟨_,rfl⟩
     obtain⟨oc,sG⟩:∃oc,oc=tR d (cG gs):=⟨_,rfl⟩
     refine aH (af 1 rfl (ag rfl (bj rfl) (aj rfl (sP (C:=lF) ((2*(d.ae.length:Int)).toNat+1) rfl rfl rfl rfl rfl pI (by first|rfl|omega) (by show _*1<=_;first|omega|(simp only[ls];omega)) S6 ?_))))
     intro vQ BL gM;clear S6
     refine af 1 rfl (bL [1,2,4,5,6,11] rfl (ag rfl (az rfl aM rfl aY aX) (ag rfl (aw rfl aG (gM.bc 3 rfl rfl)) (dz 74 (.int .i64 (d.loops+(cn (iD cl oc) (0+1):Int))) rfl (int_eq (by rw[show cn (iD cl oc) (0+1)=0 from rfl];omega)) ?_))))
     refine ag rfl (run_build (l:=[_,_]) rfl rfl iC rfl rfl) (aj rfl (bW (l:=[_,_]) rfl rfl rfl jo rfl gM ?_))
     intro dE PJ pj;clear gM
     refine aj rfl (bH 0 [_,_] [_,_] [_,_,_,_,_] rfl pj rfl rfl aN rfl rfl ?_)
     intro zt jd;clear pj
     refine bM [1,2,4,5,6,11,12] rfl (ar (af 1 rfl (aB (bK (bg ?_)))))
     refine ck (fun aZ au aR=>∃(i2:Nat) (th:List Bool) (GM:Value),aZ=d.ae.length-i2/\Env 185 [(1,.slice mh gone.length mf),(2,.pointer (some ⟨aP,0,none⟩)),(4,.pointer (some ⟨bJ,0,none⟩)),(5,.int .i64 (2*(d.ae.length:Int))),(6,pG),(11,GM),(12,.pointer (some ⟨dE,0,none⟩)),(13,.int .i64 (i2:Int))] au/\SH aR M X [Rs.box dE 24 [.slice none 0 0,.int .i64 (d.loops+(cn (iD cl oc) (0+1):Int))],Rs.row lF GM th,Rs.row aQ pG cl,Rs.box bJ 24 [.slice none 0 0,.int .i64 0],Rs.box aP 24 [.slice bz d.ae.length bw,.int .i64 d.loops]]/\i2<=d.ae.length/\th.length=2*d.ae.length+1/\(∀x,x<2*d.ae.length+1->ga th x=nk cl (tRN d (cG gs) i2) (x:Int))) rfl ?_ ?_
     ·intro au aq
      refine⟨_,⟨0,_,_,rfl,aq.su rfl,jd.pick [0,1,2,3,4] [_,_,_,_,_] (by decide) ⟨rfl,rfl,rfl,rfl,rfl,trivial⟩,?lU,?lT,?tQ⟩⟩
      case lU=>omega
      case lT=>(rw[List.length_replicate];omega)
      case tQ=>(intro x hx;rw[rZ _ _ _ (by omega)];rfl)
     ·rintro m5 a5 xR ⟨i2,th,GM,rfl,uU,gu,hi2,htl,uS⟩
      clear jd
      refine cy uU ?_
      clear uU a5
      have JQ:=G9 i2
      refine cJ (ar (af 1 rfl (ag rfl (az rfl aM rfl dN dM) (ag rfl (aw rfl cE (gu.bc 4 rfl rfl)) (ag rfl (cK rfl cE) (af 1 rfl (ax [1,2,4,5,6,11,12,13,80] rfl ?_)))))))
      refine bp rfl (fun ajy=>?_) (fun ajy=>?_)
      ·refine aV (bC [1,2,4,5,6,11,12,13] rfl (bg (ar (af 2 rfl (aj rfl (dU rfl rfl rfl rfl rfl rfl rfl Yj gu (Tk gone (i2:Int) (kW.mono gu.bn) gu.aT) ?_))))))
       rintro _ GL ki rfl;clear gu
       refine af 1 rfl (ax [1,2,4,5,6,11,12,13,86] rfl ?_)
       refine gB rfl (fun Bc=>?_) (fun Bc=>?_)
       ·simp only[Bool.and_eq_true,Bool.or_eq_true,Bool.and_eq_false_iff,Bool.or_eq_false_iff,decide_eq_true_eq,decide_eq_false_iff_not,Bool.not_eq_true',Bool.not_eq_false']at Bc
        refine ar (af 1 rfl (ax [1,2,4,5,6,11,12,13,14] rfl (bg ?_)))
        refine ck (fun aZ au aR=>∃(s3:Nat) (tc:List Bool) (Oa:Value),aZ=4-s3/\Env 185 [(1,.slice mh gone.length mf),(2,.pointer (some ⟨aP,0,none⟩)),(4,.pointer (some ⟨bJ,0,none⟩)),(5,.int .i64 (2*(d.ae.length:Int))),(6,pG),(11,Oa),(12,.pointer (some ⟨dE,0,none⟩)),(13,.int .i64 (i2:Int)),(14,.int .i64 (s3:Int))] au/\SH aR M X [Rs.box dE 24 [.slice none 0 0,.int .i64 (d.loops+(cn (iD cl oc) (0+1):Int))],Rs.row lF Oa tc,Rs.row aQ pG cl,Rs.box bJ 24 [.slice none 0 0,.int .i64 0],Rs.box aP 24 [.slice bz d.ae.length bw,.int .i64 d.loops]]/\s3<=4/\tc.length=2*d.ae.length+1/\(∀x,x<2*d.ae.length+1->ga tc x=(nk cl (tRN d (cG gs) i2) (x:Int)||lf1 cl (ga d.ae i2) s3 (x:Int)))) rfl ?_ ?_
        ·intro au aq
         refine⟨_,⟨0,_,_,rfl,aq.su rfl,ki.pick [0,1,2,3,4] [_,_,_,_,_] (by decide) ⟨rfl,rfl,rfl,rfl,rfl,trivial⟩,?qW,?qV,?wK⟩⟩
         case qW=>omega
         case qV=>exact htl
         case wK=>(intro x hx;rw[lf1,Bool.or_false];exact uS x hx)
        ·rintro m6 a6 zr ⟨s3,tc,Oa,rfl,zE,jH,hs3,aiA,Qe⟩
         clear ki
         refine cy zE ?_
         clear zE a6
         have ajM:=fun h=>ey hab (i:=i2) (by omega) (k:=s3) h
         refine cJ (ar (af 2 rfl (ax [1,2,4,5,6,11,12,13,14,88] rfl ?_)))
         refine bp rfl (fun ajx=>?_) (fun ajx=>?_)
         ·refine aV (bC [1,2,4,5,6,11,12,13,14] rfl (bg ?_))
          have alg:=ajM (by omega)
          have nH:=hok (aL d i2 s3).toNat (by omega)
          refine aH (af 2 rfl (ag rfl (aU [_,_] rfl aM aN (jH.bs 4 rfl rfl)) (af 2 rfl (ag rfl (run_build (l:=[_,_]) rfl rfl rq rfl rfl) (aj rfl (dU rfl rfl rfl rfl rfl rfl rfl ux jH (uB d i2 s3 (aC.mono jH.bn) (by omega) (by omega) jH.aT) ?_))))))
          rintro _ GK lq rfl;clear jH
          refine ag rfl (bS (i:=2) ((aL d i2 s3).toNat) rfl bt lq rfl) (ag rfl (aw rfl aG (lq.dS (i:=2) (e:=(aL d i2 s3).toNat) (j:=0) rfl (by first|omega|(simp only[ls];omega)) rfl rfl)) ?_)
          refine ag rfl (bS (i:=1) ((ga cl ((aL d i2 s3).toNat)).toNat) rfl pI lq rfl) (aj rfl (iE (C:=lF) (i:=1) (e:=(ga cl ((aL d i2 s3).toNat)).toNat) (j:=0) (us:=[_]) (H':=[_,_,_,_,_]) true rfl rfl lq rfl (by first|omega|(simp only[ls];omega)) rfl rfl rfl BR rfl rfl rfl rfl ?_))
          intro w38 wA;clear lq
          refine aB (bE (aW [1,2,4,5,6,11,12,13,14] rfl (aH (af 1 rfl (ag rfl (bj rfl) (af 1 rfl (aB (br ?_))))))))
          intro au aq
          refine⟨_,?AF,⟨s3+1,_,_,rfl,aq.su rfl,wA.pick [0,1,2,3,4] [_,_,_,_,_] (by decide) ⟨rfl,rfl,rfl,rfl,rfl,trivial⟩,?wJ,?wI,?EZ⟩⟩
          case wJ=>omega
          case wI=>simpa using aiA
          case EZ=>(intro x hx;have hq:=Qe x hx;rw[eX _ _ _ _ (by omega),lf1];by_cases e9:(x:Int)=ga cl (dw (ga d.ae i2) s3).toNat;(rw[if_pos (show(ga cl (aL d i2 s3).toNat).toNat=x by unfold aL;omega)];simp[e9]);(rw[if_neg (show¬(ga cl (aL d i2 s3).toNat).toNat=x by(unfold aL at*;omega)),hq];simp[e9]))
          case AF=>omega
         ·refine bX rfl (bE (aW [1,2,4,5,6,11,12,13] rfl (aH (af 1 rfl (ag rfl (bj rfl) (af 1 rfl (aB (br ?_))))))))
          intro au aq
          refine⟨_,?Fy,⟨i2+1,_,_,rfl,aq.su rfl,jH.pick [0,1,2,3,4] [_,_,_,_,_] (by decide) ⟨rfl,rfl,rfl,rfl,rfl,trivial⟩,?Af,?Ae,?MI⟩⟩
          case Af=>omega
          case Ae=>assumption
          case MI=>first|(intro x hx;rw[tRN,if_pos (by rw[<-JQ];simpa using Bc)];exact uS x hx)|(intro x hx;rw[tRN,if_neg (by rw[<-JQ];simpa using Bc),LA,Qe x hx,show s3=4 by omega])
          case Fy=>omega
       ·simp only[Bool.and_eq_true,Bool.or_eq_true,Bool.and_eq_false_iff,Bool.or_eq_false_iff,decide_eq_true_eq,decide_eq_false_iff_not,Bool.not_eq_true',Bool.not_eq_false']at Bc
        refine aV (bE (aW [1,2,4,5,6,11,12,13] rfl (aH (af 1 rfl (ag rfl (bj rfl) (af 1 rfl (aB (br ?_))))))))
        intro au aq
        refine⟨_,?AE,⟨i2+1,_,_,rfl,aq.su rfl,ki.pick [0,1,2,3,4] [_,_,_,_,_] (by decide) ⟨rfl,rfl,rfl,rfl,rfl,trivial⟩,?Ad,?Ac,?MH⟩⟩
        case Ad=>omega
        case Ac=>assumption
        case MH=>first|(intro x hx;rw[tRN,if_pos (by rw[<-JQ];simpa using Bc)];exact uS x hx)|(intro x hx;rw[tRN,if_neg (by rw[<-JQ];simpa using Bc),LA,Qe x hx,show s3=4 by omega])
        case AE=>omega
      ·refine bX rfl (bC [1,2,4,5,6,11,12] rfl ?_)
       obtain rfl:i2=d.ae.length:=by omega
       have hlf:∀x,x<2*d.ae.length+1->ga th x=nk cl oc (x:Int):=fun x hx=>by rw[sG];exact uS x hx
       clear uS
       refine aH (af 1 rfl (ag rfl (bj rfl) (aj rfl (sP (C:=aQ) ((2*(d.ae.length:Int)).toNat+1) rfl rfl rfl rfl rfl bt (by first|rfl|omega) (by show _*8<=_;first|omega|(simp only[ls];omega)) gu ?_))))
       intro Km GJ iJ;clear gu
       refine af 1 rfl (bL [1,2,4,5,6,11,12,15] rfl (af 1 rfl (aB (di (ar (af 1 rfl (aB (bK ?_))))))))
       refine bg ?_
       refine ck (fun aZ au aR=>∃(x6:Nat) (nu:List Int) (kB:Value),aZ=2*d.ae.length-x6/\Env 185 [(1,.slice mh gone.length mf),(2,.pointer (some ⟨aP,0,none⟩)),(4,.pointer (some ⟨bJ,0,none⟩)),(5,.int .i64 (2*(d.ae.length:Int))),(6,pG),(11,GM),(12,.pointer (some ⟨dE,0,none⟩)),(15,kB),(16,.int .i64 ((cn (gQ cl oc) (x6+1)+1:Nat):Int)),(17,.int .i64 ((x6+1:Nat):Int))] au/\SH aR M X [Rs.row aQ kB nu,Rs.box dE 24 [.slice none 0 0,.int .i64 (d.loops+(cn (iD cl oc) (x6+1):Int))],Rs.row lF GM th,Rs.row aQ pG cl,Rs.box bJ 24 [.slice none 0 0,.int .i64 0],Rs.box aP 24 [.slice bz d.ae.length bw,.int .i64 d.loops]]/\x6<=2*d.ae.length/\nu.length=2*d.ae.length+1/\(∀x,x<x6+1->gQ cl oc x=true->ga nu x=(cn (gQ cl oc) (x+1):Int))) rfl ?_ ?_
       ·intro au aq
        refine⟨_,⟨0,_,_,rfl,aq.su rfl,iJ.pick [0,1,2,3,4,5] [_,_,_,_,_,_] (by decide) ⟨rfl,rfl,rfl,rfl,rfl,rfl,trivial⟩,?EY,?EX,?afl⟩⟩
        case EY=>omega
        case EX=>(rw[List.length_replicate];omega)
        case afl=>(intro x hx h9;obtain rfl:x=0:=(by omega);cases h9)
       ·rintro m7 a7 DN ⟨x6,nu,kB,rfl,G8,jc,ha6,hnl,nr⟩
        clear iJ
        refine cy G8 ?_
        clear G8 a7
        have ajs:=yQ (gQ cl oc) (x6+1)
        have ajr:=yQ (iD cl oc) (x6+1)
        have aiP:=fun h=>hok (x6+1) h
        refine cJ (ar (af 3 rfl (ax [1,2,4,5,6,11,12,15,16,17,106] rfl ?_)))
        refine bp rfl (fun ahc=>?_) (fun ahc=>?_)
        ·refine aV (bC [1,2,4,5,6,11,12,15,16,17] rfl (bg (ar (af 2 rfl (ag rfl (bS (i:=2) (x6+1) rfl pI jc rfl) (ag rfl (aw rfl gY (jc.dS (i:=2) (e:=x6+1) (j:=0) rfl (by first|omega|(simp only[ls];omega)) rfl rfl)) ?_))))))
         refine ax [1,2,4,5,6,11,12,15,16,17,112] rfl ?_
         refine gB rfl (fun wU=>?_) (fun wU=>?_)
         ·have hlx:=hlf (x6+1) (by omega)
          obtain⟨hq1,hq2,Cg⟩:=ab1 hab (gn:=cG gs) (x:=x6+1) (by rw[<-qw,<-sG,<-hlx];exact wU)
          rw[<-qw]at Cg
          have hrt:gQ cl oc (x6+1)=true:=by unfold gQ;rw[decide_eq_true Cg,<-hlx];simp;exact wU
          have hlo:iD cl oc (x6+1)=false:=by unfold iD;rw[<-hlx];simp;intro _;exact wU
          refine ar (af 3 rfl (ag rfl (bS (i:=0) (x6+1) rfl bt jc rfl) (aj rfl (iE (C:=aQ) (i:=0) (e:=x6+1) (j:=0) (us:=[_]) (H':=[_,_,_,_,_,_]) ((cn (gQ cl oc) (x6+1)+1:Nat):Int) rfl rfl jc rfl (by first|omega|(simp only[ls];omega)) rfl rfl rfl gp rfl rfl rfl rfl ?_))))
          intro GI oJ;clear jc
          refine ax [1,2,4,5,6,11,12,15,16,17] rfl (aH (af 1 rfl (ag rfl (bj rfl) (af 1 rfl (aB (bE (aW [1,2,4,5,6,11,12,15,16,17] rfl (iZ 16 (.int .i64 ((cn (gQ cl oc) (x6+1+1)+1:Nat):Int)) rfl (int_eq (by rw[vp hrt];omega)) ?_))))))))
          rw[<-yP hlo]at oJ
          refine aH (af 1 rfl (ag rfl (bj rfl) (af 1 rfl (aB (br ?_)))))
          intro au aq
          refine⟨_,?agS,⟨x6+1,_,_,rfl,aq.su rfl,oJ.pick [0,1,2,3,4,5] [_,_,_,_,_,_] (by decide) ⟨rfl,rfl,rfl,rfl,rfl,rfl,trivial⟩,?EW,?EU,?MG⟩⟩
          case EW=>omega
          case EU=>first|assumption|simpa using hnl
          case MG=>first|(intro x hx h9;by_cases e:x=x6+1;(subst e;rw[eX _ _ _ _ (by omega),if_pos rfl,vp h9]);(rw[eX _ _ _ _ (by omega),if_neg (fun h=>e h.symm)];exact nr x (by omega) h9))|(intro x hx h9;by_cases e:x=x6+1;(subst e;rw[hrt]at h9;cases h9);exact nr x (by omega) h9)
          case agS=>omega
         ·refine ar (af 2 rfl (ag rfl (bS (i:=3) (x6+1) rfl bt jc rfl) (ag rfl (aw rfl aG (jc.dS (i:=3) (e:=x6+1) (j:=0) rfl (by first|omega|(simp only[ls];omega)) rfl rfl)) ?_)))
          refine af 2 rfl (ax [1,2,4,5,6,11,12,15,16,17,124] rfl ?_)
          refine bp rfl (fun FC=>?_) (fun FC=>?_)
          ·have hlx:=hlf (x6+1) (by omega)
           have hrt:gQ cl oc (x6+1)=false:=by unfold gQ;rw[<-hlx];simp;intro _;exact wU
           have hlo:iD cl oc (x6+1)=true:=by unfold iD;rw[decide_eq_true (show ga cl (x6+1)=((x6+1:Nat):Int)from FC),<-hlx];simp;exact wU
           refine aH (ag rfl (az rfl aM rfl aY aX) (ag rfl (aw rfl aG (jc.bc 1 rfl rfl)) (ag rfl (bj rfl) (ag rfl (az rfl aM rfl aY aX) (aj rfl (bH 1 [_] [_,_] [_,_,_,_,_,_] rfl jc rfl rfl gp rfl rfl ?_))))))
           intro DM iU;clear jc
           refine aB (bE (aW [1,2,4,5,6,11,12,15,16,17] rfl (iZ 16 (.int .i64 ((cn (gQ cl oc) (x6+1+1)+1:Nat):Int)) rfl (int_eq (by rw[yP hrt])) ?_)))
           rw[abP,<-vp hlo]at iU
           refine aH (af 1 rfl (ag rfl (bj rfl) (af 1 rfl (aB (br ?_)))))
           intro au aq
           refine⟨_,?NF,⟨x6+1,_,_,rfl,aq.su rfl,iU.pick [0,1,2,3,4,5] [_,_,_,_,_,_] (by decide) ⟨rfl,rfl,rfl,rfl,rfl,rfl,trivial⟩,?ET,?ES,?ER⟩⟩
           case ET=>omega
           case ES=>first|assumption|simpa using hnl
           case ER=>first|(intro x hx h9;by_cases e:x=x6+1;(subst e;rw[eX _ _ _ _ (by omega),if_pos rfl,vp h9]);(rw[eX _ _ _ _ (by omega),if_neg (fun h=>e h.symm)];exact nr x (by omega) h9))|(intro x hx h9;by_cases e:x=x6+1;(subst e;rw[hrt]at h9;cases h9);exact nr x (by omega) h9)
           case NF=>omega
          ·have hlx:=hlf (x6+1) (by omega)
           have hrt:gQ cl oc (x6+1)=false:=by unfold gQ;rw[<-hlx];simp;intro _;exact wU
           have hlo:iD cl oc (x6+1)=false:=by unfold iD;rw[decide_eq_false (show¬ga cl (x6+1)=((x6+1:Nat):Int)from FC)];simp
           refine aV (bE (aW [1,2,4,5,6,11,12,15,16,17] rfl (iZ 16 (.int .i64 ((cn (gQ cl oc) (x6+1+1)+1:Nat):Int)) rfl (int_eq (by rw[yP hrt])) ?_)))
           rw[<-yP hlo]at jc
           refine aH (af 1 rfl (ag rfl (bj rfl) (af 1 rfl (aB (br ?_)))))
           intro au aq
           refine⟨_,?Fx,⟨x6+1,_,_,rfl,aq.su rfl,jc.pick [0,1,2,3,4,5] [_,_,_,_,_,_] (by decide) ⟨rfl,rfl,rfl,rfl,rfl,rfl,trivial⟩,?EP,?EO,?EN⟩⟩
           case EP=>omega
           case EO=>first|assumption|simpa using hnl
           case EN=>first|(intro x hx h9;by_cases e:x=x6+1;(subst e;rw[eX _ _ _ _ (by omega),if_pos rfl,vp h9]);(rw[eX _ _ _ _ (by omega),if_neg (fun h=>e h.symm)];exact nr x (by omega) h9))|(intro x hx h9;by_cases e:x=x6+1;(subst e;rw[hrt]at h9;cases h9);exact nr x (by omega) h9)
           case Fx=>omega
        ·refine bX rfl (bC [1,2,4,6,12,15] rfl (cJ ?_))
         obtain rfl:x6=2*d.ae.length:=by omega
         refine aH (af 1 rfl (aB (bK (bg ?_))))
         have nQ:=jc.jI bu;clear jc
         refine ck (fun aZ au aR=>∃(i5:Nat) (c5:List Cr) (Kl:Value),aZ=d.ae.length-i5/\Env 185 [(1,.slice mh gone.length mf),(2,.pointer (some ⟨aP,0,none⟩)),(4,.pointer (some ⟨bJ,0,none⟩)),(6,pG),(12,.pointer (some ⟨dE,0,none⟩)),(15,kB),(18,.int .i64 (i5:Int))] au/\SH aR M X [Rs.row bu Kl c5,Rs.row aQ kB nu,Rs.box dE 24 [Kl,.int .i64 (d.loops+(cn (iD cl oc) (2*d.ae.length+1):Int))],Rs.row aQ pG cl,Rs.box bJ 24 [.slice none 0 0,.int .i64 0],Rs.box aP 24 [.slice bz d.ae.length bw,.int .i64 d.loops]]/\i5<=d.ae.length/\c5=(tRN d (cG gs) i5).map (BZ cl oc)) rfl ?_ ?_
         ·intro au aq
          refine⟨_,⟨0,_,_,rfl,aq.su rfl,nQ.pick [0,1,2,4,5,6] [_,_,_,_,_,_] (by decide) ⟨rfl,rfl,rfl,rfl,rfl,rfl,trivial⟩,?EM,?EL⟩⟩
          case EM=>omega
          case EL=>rfl
         ·rintro m8 a8 xQ ⟨i5,c5,Kl,rfl,D3,kL,hi5,D4⟩
          clear nQ
          refine cy D3 ?_
          clear D3 a8
          have anB:c5.length<=i5:=by rw[D4,List.length_map];exact LK _ _ _
          have FZ:=G9 i5
          refine cJ (ar (af 1 rfl (ag rfl (az rfl aM rfl dN dM) (ag rfl (aw rfl cE (kL.bc 5 rfl rfl)) (ag rfl (cK rfl cE) (af 1 rfl (ax [1,2,4,6,12,15,18,133] rfl ?_)))))))
          refine bp rfl (fun ag8=>?_) (fun ag8=>?_)
          ·refine aV (bC [1,2,4,6,12,15,18] rfl (bg (cJ (ar (af 2 rfl (aj rfl (dU rfl rfl rfl rfl rfl rfl rfl Yj kL (Tk gone (i5:Int) (kW.mono kL.bn) kL.aT) ?_)))))))
           rintro _ PI jV rfl;clear kL
           refine ax [1,2,4,6,12,15,18,138] rfl ?_
           refine gB rfl (fun C3=>?_) (fun C3=>?_)
           ·refine bX rfl (aW [1,2,4,6,12,15,18] rfl (aH (af 1 rfl (ag rfl (bj rfl) (af 1 rfl (aB (br ?_)))))))
            intro au aq
            refine⟨_,?NC,⟨i5+1,_,_,rfl,aq.su rfl,jV.pick [0,1,2,3,4,5] [_,_,_,_,_,_] (by decide) ⟨rfl,rfl,rfl,rfl,rfl,rfl,trivial⟩,?EK,?EJ⟩⟩
            case EK=>omega
            case EJ=>first|(rw[tRN,if_pos (by rw[<-FZ];simpa using C3)];exact D4)|(rw[tRN,if_neg (by rw[<-FZ];simpa using C3),List.map_append,<-D4];refine congrArg _ ?_;show[(⟨ga nu (ga cl (dw (ga d.ae i5) 0).toNat).toNat,ga nu (ga cl (dw (ga d.ae i5) 1).toNat).toNat,ga nu (ga cl (dw (ga d.ae i5) 2).toNat).toNat,ga nu (ga cl (dw (ga d.ae i5) 3).toNat).toNat,(ga d.ae i5).plus⟩:Cr)]=_;rw[rO 0 (by omega),rO 1 (by omega),rO 2 (by omega),rO 3 (by omega)];rfl)
            case NC=>omega
           ·have tW:ga d.ae i5∈tR d (cG gs):=Ng (by omega) (by rw[<-FZ];simpa using C3)
            have afg:1<=(ga d.ae i5).a/\(ga d.ae i5).a<=2*(d.ae.length:Int):=tK hab (Nat.le_refl _) tW (s:=0) (by omega)
            obtain⟨aiO,aiK,_⟩:=hok (ga d.ae i5).a.toNat (by omega)
            have aff:1<=(ga d.ae i5).b/\(ga d.ae i5).b<=2*(d.ae.length:Int):=tK hab (Nat.le_refl _) tW (s:=1) (by omega)
            obtain⟨aiN,aiJ,_⟩:=hok (ga d.ae i5).b.toNat (by omega)
            have afe:1<=(ga d.ae i5).c/\(ga d.ae i5).c<=2*(d.ae.length:Int):=tK hab (Nat.le_refl _) tW (s:=2) (by omega)
            obtain⟨aiM,aiI,_⟩:=hok (ga d.ae i5).c.toNat (by omega)
            have afd:1<=(ga d.ae i5).d/\(ga d.ae i5).d<=2*(d.ae.length:Int):=tK hab (Nat.le_refl _) tW (s:=3) (by omega)
            obtain⟨aiL,aiH,_⟩:=hok (ga d.ae i5).d.toNat (by omega)
            have rO:∀s,s<4->ga nu (ga cl (dw (ga d.ae i5) s).toNat).toNat=vR cl oc (dw (ga d.ae i5) s):=fun s hs=>by
             have:=V8 hab (nu:=nu) (by rw[<-qw,<-sG];exact nr) tW hs
             rw[<-qw,<-sG]at this
             exact this
            refine aV (cP [1,2,4,6,12,15,18] rfl (ag rfl (az rfl aM rfl dN dM) (ag rfl (aw rfl cE (jV.bc 5 rfl rfl)) (af 1 rfl (ag rfl (cN i5 rfl fX aC) (ag rfl (aU [_,_,_,_,_] rfl b6 fN (aC.j6 jV.um (e:=i5) (by first|omega|(simp only[ls];omega)) (j:=0) ⟨rfl,rfl,rfl,rfl,rfl,trivial⟩)) ?_))))))
            refine aj rfl (bW (l:=[_,_,_,_,_]) rfl rfl rfl vt rfl jV ?_)
            intro lK xP ma;clear jV
            refine aj rfl (bH 0 [_,_,_,_,_] [_,_,_,_,_] [_,_,_,_,_,_,_] rfl ma rfl rfl fN rfl rfl ?_)
            intro GH tH;clear ma
            refine ax [1,2,4,6,12,15,18,19] rfl (dH tH 41 ?_)
            clear tH
            refine aS 0 rfl (az rfl aM rfl dN dM) (ay 1 rfl (fun ah Sz=>aw rfl cE (Sz.suf.bc 3 rfl rfl)) (aK 37 [2,3] rfl (aS 4 rfl (az rfl b6 rfl aY aX) (ay 5 rfl (fun ah Sz=>aw rfl aG (Sz.suf.bc 0 rfl rfl)) (ay 6 rfl (fun ah Sz=>bS (i:=4) (((ga d.ae i5).a).toNat) rfl bt Sz.suf rfl) (ay 7 rfl (fun ah Sz=>aw rfl aG (Sz.suf.dS (i:=4) (e:=((ga d.ae i5).a).toNat) (j:=0) rfl (by first|omega|(simp only[ls];omega)) rfl rfl)) ?_))))))
            refine ay 8 rfl (fun ah Sz=>bS (i:=2) ((ga cl (((ga d.ae i5).a).toNat)).toNat) rfl bt Sz.suf rfl) (ay 9 rfl (fun ah Sz=>aw rfl aG (Sz.suf.dS (i:=2) (e:=(ga cl (((ga d.ae i5).a).toNat)).toNat) (j:=0) rfl (by first|omega|(simp only[ls];omega)) rfl rfl)) ?_)
            refine aK 29 [10,11] rfl (aS 12 rfl (az rfl b6 rfl aY aX) (ay 13 rfl (fun ah Sz=>aw rfl aG (Sz.suf.bc 0 rfl rfl)) (ay 14 rfl (fun ah Sz=>bS (i:=4) (((ga d.ae i5).b).toNat) rfl bt Sz.suf rfl) (ay 15 rfl (fun ah Sz=>aw rfl aG (Sz.suf.dS (i:=4) (e:=((ga d.ae i5).b).toNat) (j:=0) rfl (by first|omega|(simp only[ls];omega)) rfl rfl)) ?_))))
            refine ay 16 rfl (fun ah Sz=>bS (i:=2) ((ga cl (((ga d.ae i5).b).toNat)).toNat) rfl bt Sz.suf rfl) (ay 17 rfl (fun ah Sz=>aw rfl aG (Sz.suf.dS (i:=2) (e:=(ga cl (((ga d.ae i5).b).toNat)).toNat) (j:=0) rfl (by first|omega|(simp only[ls];omega)) rfl rfl)) ?_)
            refine aK 21 [18,19] rfl (aS 20 rfl (az rfl b6 rfl aY aX) (ay 21 rfl (fun ah Sz=>aw rfl aG (Sz.suf.bc 0 rfl rfl)) (ay 22 rfl (fun ah Sz=>bS (i:=4) (((ga d.ae i5).c).toNat) rfl bt Sz.suf rfl) (ay 23 rfl (fun ah Sz=>aw rfl aG (Sz.suf.dS (i:=4) (e:=((ga d.ae i5).c).toNat) (j:=0) rfl (by first|omega|(simp only[ls];omega)) rfl rfl)) ?_))))
            refine ay 24 rfl (fun ah Sz=>bS (i:=2) ((ga cl (((ga d.ae i5).c).toNat)).toNat) rfl bt Sz.suf rfl) (ay 25 rfl (fun ah Sz=>aw rfl aG (Sz.suf.dS (i:=2) (e:=(ga cl (((ga d.ae i5).c).toNat)).toNat) (j:=0) rfl (by first|omega|(simp only[ls];omega)) rfl rfl)) ?_)
            refine aK 13 [26,27] rfl (aS 28 rfl (az rfl b6 rfl aY aX) (ay 29 rfl (fun ah Sz=>aw rfl aG (Sz.suf.bc 0 rfl rfl)) (ay 30 rfl (fun ah Sz=>bS (i:=4) (((ga d.ae i5).d).toNat) rfl bt Sz.suf rfl) (ay 31 rfl (fun ah Sz=>aw rfl aG (Sz.suf.dS (i:=4) (e:=((ga d.ae i5).d).toNat) (j:=0) rfl (by first|omega|(simp only[ls];omega)) rfl rfl)) ?_))))
            refine ay 32 rfl (fun ah Sz=>bS (i:=2) ((ga cl (((ga d.ae i5).d).toNat)).toNat) rfl bt Sz.suf rfl) (ay 33 rfl (fun ah Sz=>aw rfl aG (Sz.suf.dS (i:=2) (e:=(ga cl (((ga d.ae i5).d).toNat)).toNat) (j:=0) rfl (by first|omega|(simp only[ls];omega)) rfl rfl)) ?_)
            refine aS 34 rfl (az rfl b6 rfl lM lJ) (ay 35 rfl (fun ah Sz=>aw rfl gY (Sz.suf.bc 0 rfl rfl)) (ay 36 rfl (fun ah Sz=>run_build (l:=[_,_,_,_,_]) rfl rfl JH rfl rfl) (cm 37 rfl (fun ZW yn=>((eQ (C:=bu) (l:=[_,_,_,_,_]) rfl rfl rfl rfl fX rfl rfl rfl rfl yn ?_))))))
            intro iI ZV Ht;clear yn
            refine dB [_] [_,_,_,_,_,_,_,_] rfl Ht ?_;clear Ht
            refine cm 38 rfl (fun w88 zM=>((gw (C:=bu) (i:=2) (q:=0) (⟨ga nu ((ga cl (((ga d.ae i5).a).toNat)).toNat),ga nu ((ga cl (((ga d.ae i5).b).toNat)).toNat),ga nu ((ga cl (((ga d.ae i5).c).toNat)).toNat),ga nu ((ga cl (((ga d.ae i5).d).toNat)).toNat),(ga d.ae i5).plus⟩:Cr) rfl rfl rfl rfl rfl rfl rfl rfl fX zM rfl rfl rfl (by show(_+1)*40<=_;first|omega|(simp only[ls];omega)) ?_)))
            intro Kl w89 S90;clear zM
            have wu:=S90.pick [1,2,3,4,5,6,7] [_,_,_,_,_,_,_] (by decide) ⟨rfl,rfl,rfl,rfl,rfl,rfl,rfl,trivial⟩;clear S90
            refine ij wu ?_;clear wu
            change WA _ _ _ _ _ _ _ _ _ _ _ _ [_,_,_,_,_,_,_]
            refine aS 39 rfl (az rfl aM rfl dN dM) (cm 40 rfl (fun w92 Cu=>((gJ (i:=3) (us:=[_]) (l':=[_,_]) (H':=[_,_,_,_,_,_,_]) rfl rfl Cu rfl rfl rfl (Cu.nS (i:=1) rfl) Dc rfl (iq (Cu.one (i:=1) rfl) rfl) rfl rfl ?_))))
            intro w93 Ed;clear Cu
            refine ij Ed ?_;clear Ed
            change WA _ _ _ _ _ _ _ _ _ _ _ _ [_,_,_,_,_,_,_]
            refine cD (fun w94 Ec=>(bE (aW [1,2,4,6,12,15,18] rfl (aH (af 1 rfl (ag rfl (bj rfl) (af 1 rfl (aB (br ?_)))))))))
            intro au aq
            refine⟨_,?Fw,⟨i5+1,_,_,rfl,aq.su rfl,Ec.pick [1,2,3,4,5,6] [_,_,_,_,_,_] (by decide) ⟨rfl,rfl,rfl,rfl,rfl,rfl,trivial⟩,?EI,?EH⟩⟩
            case EI=>omega
            case EH=>first|(rw[tRN,if_pos (by rw[<-FZ];simpa using C3)];exact D4)|(rw[tRN,if_neg (by rw[<-FZ];simpa using C3),List.map_append,<-D4];refine congrArg _ ?_;show[(⟨ga nu (ga cl (dw (ga d.ae i5) 0).toNat).toNat,ga nu (ga cl (dw (ga d.ae i5) 1).toNat).toNat,ga nu (ga cl (dw (ga d.ae i5) 2).toNat).toNat,ga nu (ga cl (dw (ga d.ae i5) 3).toNat).toNat,(ga d.ae i5).plus⟩:Cr)]=_;rw[rO 0 (by omega),rO 1 (by omega),rO 2 (by omega),rO 3 (by omega)];rfl)
            case Fw=>omega
          ·refine bX rfl (cP [4,12] rfl (ag rfl (aU [_,_] rfl aM aN (kL.bs 2 rfl rfl)) (aj rfl (gJ (i:=4) (us:=[_,_]) (l':=[_,_]) (H':=[_,_,_,_,_,_]) rfl rfl kL rfl rfl rfl rfl aN rfl (iq (kL.one (i:=0) rfl) (iq rfl rfl)) rfl rfl ?_))))
           intro w95 Hn;clear kL
           refine ax [4] rfl ?_
           obtain⟨M61,NH,rU,⟨A1,c1,e1,hr1⟩⟩:=Hn.gP (i:=0) (H':=[_,_,_,_,_,_]) rfl rfl (by show _*40<=_;first|omega|(simp only[ls];omega))
           clear Hn;subst e1
           replace aC:=aC.mono (Hp.aD NH rU.mx)
           replace kW:=kW.mono (Hp.aD NH rU.mx)
           refine dI hC [_] rfl rfl ⟨⟨_,rfl,dK (us:=[_,_]) aM rfl aN (rU.bs 4 rfl rfl)⟩,trivial⟩ ?_
           refine⟨_,rfl,_,NH,(rU.pick [] [] (by decide) trivial),?_⟩
           obtain rfl:i5=d.ae.length:=by omega
           have e9:(ik d (cG gs)).ae=c5:=by rw[D4,qw,sG];rfl
           have e8:(ik d (cG gs)).loops=d.loops+(cn (iD cl oc) (2*d.ae.length+1):Int):=by rw[qw,sG];rfl
           rw[e9,e8]
           exact⟨_,_,rfl,hr1⟩
end Go.Proofs.YtcohmplpgcddiaaGreatDoor
namespace Go.Proofs.YtcohmplpgcddiaaGreatDoor
open Go.ChangeShapes Go.WideShapes Go.ChangeAt Go.RowKit
section
variable {P : Program} {n : Nat} {C : Ctx} {c : Code} {s : List K} {L : List (Nat × Value)} {w : World} {M Mb : Hp} {X : Fr} {H Hb N : List Rs} {o : Oper} {l : Array Bool} {f : Nat} {ch : List PanicEntry}
theorem sO:∀{s:List K}{a:Act}{w:World},a.defers=[]->C.R (.panicked ch) w->post P C s (.panic ch) a w
 |[],_,_,h,hR=>⟨h,hR⟩
 |.thn c::s,_,_,h,hR=>sO (s:=s) h hR
 |.lp I::s,_,_,h,hR=>sO (s:=s) h hR
 |.jmp _ _::s,_,_,h,hR=>sO (s:=s) h hR
 |.blk i::s,_,_,h,hR=>sO (s:=s) h hR
theorem lG{k k' d:Nat}(E:Bool)(L2:List (Nat×Value))(hs:Sub L L2)(h:WL P n C c k' s ((d,.bool E)::L2) w->WL P n C c k s L w)(hJ:WL P n C c k' s ((d,.bool E)::L2) w):WL P n C c k s L w:=h hJ
theorem Tj{dP:FuncId}{vs:List Value}{ca:Call}{fo:Operand}{xs:List Operand}{a:Act}(ha:Env n L a)(hop:o.op=.call ca)(eG:ca.callee=.value fo)(hfo:oev L fo=some (.func (.func dP) #[] #[]))
  (hxs:ca.args=xs.toArray)(hvs:oevs L xs=some vs)(hen:∀args w,(callFunc dP args).run P w=.ok (.enter dP args) w)(S:SH w M X H)
  (hcall:Calls P dP vs.toArray w fun e w'=>e=.panicked ch/\∃M',M.le M'/\SH w' M' (XH w X H) [])(h:∀w' M',M.le M'->SH w' M' X H->C.R (.panicked ch) w')(next:Act->World->Prop):o.wp P a w next (post P C s):=by
 have hr:(execOp a.eval o).run P w=.ok (.enter dP vs.toArray) w:=by
  unfold execOp
  simp only[hop,resolve,eG,ha.eval hfo,hxs,List.map_toArray,ha.pE hvs,Deferred.ofValue,Sem.run_bind,Sem.run_pure,Result.andThen_ok,invoke,Array.empty_append,Array.append_empty]
  exact hen _ _
 unfold Oper.wp
 rw[hr,Oper.upon_enter]
 refine hcall.mono ?_
 rintro e w' ⟨rfl,M',h1,h2⟩
 exact sO ha.df (h w' M' h1 (S.back h2))
theorem vK{k:Nat}{dP:FuncId}{vs:List Value}{ca:Call}{fo:Operand}{xs:List Operand}(ho:op c k=some o)(hg:o.guard=none)(hop:o.op=.call ca)(eG:ca.callee=.value fo)(hfo:oev L fo=some (.func (.func dP) #[] #[]))
  (hxs:ca.args=xs.toArray)(hvs:oevs L xs=some vs)(hen:∀args w,(callFunc dP args).run P w=.ok (.enter dP args) w)(S:SH w M X H)
  (hcall:Calls P dP vs.toArray w fun e w'=>e=.panicked ch/\∃M',M.le M'/\SH w' M' (XH w X H) [])(h:∀w' M',M.le M'->SH w' M' X H->C.R (.panicked ch) w'):WL P n C c k s L w:=by
 intro a ha
 rw[vH ho]
 exact wpList_plain hg fun K _=>Tj ha hop eG hfo hxs hvs hen S hcall h K
theorem Tp{i:Nat}{dP:FuncId}{vs:List Value}{ca:Call}{fo:Operand}{xs:List Operand}(f:Nat)(ho:op c i=some o)(hr:Region.ready .any (rg c) l=[i])(hg:Wanted c L o.guard true)(hs:mJ c o n=true)(hop:o.op=.call ca)(eG:ca.callee=.value fo)(hfo:oev L fo=some (.func (.func dP) #[] #[]))
  (hxs:ca.args=xs.toArray)(hvs:oevs L xs=some vs)(hen:∀args w,(callFunc dP args).run P w=.ok (.enter dP args) w)
  (h:∀w,SH w M X H->Calls P dP vs.toArray w fun e w'=>e=.panicked ch/\∃M',M.le M'/\SH w' M' (XH w X H) [])(h2:∀w' M',M.le M'->SH w' M' X H->C.R (.panicked ch) w'):WA P n C c s X (f+1) l L Mb Hb M H:=by
 intro _ a ha w S hd
 refine⟨fun h0=>(by rw[hr]at h0;cases h0),fun k hk=>?_⟩
 rw[hr,List.mem_singleton]at hk
 subst hk
 unfold Go.wpOp
 simp only[yC ho]
 rw[if_pos (Bx ha hg (Bz hs))]
 exact .inl (Tj ha hop eG hfo hxs hvs hen S (h w S) h2 _)
theorem abZ{k:Nat}{x:Operand}{T:TypeId}{v:Value}(ho:op c k=some o)(hg:o.guard=none)(hop:o.op=.panic x)(hx:oev L x=some (.iface T v))(h:C.R (.panicked [{v:=.iface T v,recovered:=false}]) w):WL P n C c k s L w:=by
 intro a ha
 rw[vH ho]
 refine wpList_plain hg fun K _=>?_
 have hr:(execOp a.eval o).run P w=.halt (.panic (.iface T v)) w:=by
  unfold execOp
  simp only[hop,ha.eval hx]
  rfl
 unfold Oper.wp
 rw[hr,Oper.upon_panic]
 exact sO ha.df h
theorem aaB{T:TypeId}{x:Operand}{v:Value}{fs:Array Field}(hop:o.op=.makeInterface T x)(hx:oev L x=some v)(hT:P.underlying T=some (.struct fs)):Run P o L w (.iface T v) w:=by
 intro n a ha
 unfold execOp
 simp only[hop,ha.eval hx,Instr.makeInterface,Sem.run_bind,run_underlying hT,Result.andThen_ok,Sem.run_pure]
theorem SH.oh{i g:Nat}{E:TypeId}{l l':List Value}(S:SH w M X (N++H))(hi:nth H i=some (Rs.box g E l))(e:l=l'):fW (M.un (XH w X (N++H)).h) g E l':=by
 subst e
 exact S.wW hi
theorem SH.vA{α:Type}{Cc:Cd α}{i c:Nat}{v:Value}{A:Option Addr}{xs:List α}(S:SH w M X (N++H))(hi:nth H i=some (Rs.row Cc v xs))(e:v=.slice A xs.length c)(hr:xs.length*Cc.u8<=140737488355328):aJ Cc (M.un (XH w X (N++H)).h) A c xs:=by
 obtain⟨A',c',e',h⟩:=S.IY (i:=N.length+i) (by rw[UE];exact hi) hr
 rw[e]at e'
 injection e' with e1 _ e2
 subst e1
 subst e2
 exact h
end
end Go.Proofs.YtcohmplpgcddiaaGreatDoor
namespace Go.Proofs.YtcohmplpgcddiaaGreatDoor
open Go.ChangeShapes Go.WideShapes Go.ChangeAt Go.RowKit
structure Mv where
 kd:Int
 at_:Int
 dG:Int
 ua:Int
 ub:Bool
 va:Int
 vb:Bool
 ov:Bool
def Dh(e:Int):List PanicEntry:=[{v:=.iface 101 (.agg [Value.int .i64 e].toArray),recovered:=false}]
def Cm(f:FuncId)(vs:List Value)(w:World)(M:Hp)(X:Fr)(err:Int)(R:Value->Hp->Rs->Prop):Prop:=
 Calls Tryz.prog f vs.toArray w fun e w'=>(err=0/\∃v,e=.returned v/\∃M' r',M.le M'/\SH w' M' X [r']/\R v M' r')\/(err≠0/\e=.panicked (Dh err)/\∃M',M.le M'/\SH w' M' X [])
section
variable {f : FuncId} {vs : List Value} {w : World} {M : Hp} {X : Fr} {err : Int} {R : Value → Hp → Rs → Prop}
theorem Cm.ok(h:Cm f vs w M X err R)(he:err=0):C1 Tryz.prog f vs w M X R:=by
 refine Calls.mono h ?_
 rintro e w' (⟨_,h⟩|⟨h,_⟩)
 ·exact h
 ·exact absurd he h
theorem Cm.no(h:Cm f vs w M X err R)(he:¬err=0):Calls Tryz.prog f vs.toArray w fun e w'=>e=.panicked (Dh err)/\∃M',M.le M'/\SH w' M' X []:=by
 refine Calls.mono h ?_
 rintro e w' (⟨h,_⟩|⟨_,h⟩)
 ·exact absurd h he
 ·exact h
end
def vB(x:Cr)(k:Nat)(a:Int):Cr:=if k=0 then⟨a,x.b,x.c,x.d,x.plus⟩else if k=1 then⟨x.a,a,x.c,x.d,x.plus⟩else if k=2 then⟨x.a,x.b,a,x.d,x.plus⟩else⟨x.a,x.b,x.c,a,x.plus⟩
def eB(xs:List Cr)(c k:Nat)(a:Int):List Cr:=xs.set c (vB (ga xs c) k a)
theorem pR(xs:List Cr)(c k:Nat)(a:Int):(eB xs c k a).length=xs.length:=List.length_set
theorem Jx{p q p' q':Bool}(h:p=p')(h':q=q'):Value.tuple [.bool p,.bool q].toArray=.tuple [.bool p',.bool q'].toArray:=by rw[h,h']
def hgt(d:Dg)(a:Int):Nat:=(aF d a false).2%2+(aF d a true).2%2
noncomputable def Z35:=Tryz.f92.body.getD .skip
set_option maxRecDepth 10000 in
theorem zY{w:World}{M:Hp}{X:Fr}(e:Int)(S:SH w M X []):Cq Tryz.prog 92 [.bool true,.int .i64 e] w M X (fun u=>u=.tuple [].toArray):=by
 unfold Cq
 refine cw (b:=Z35) Tryz.func92 rfl Tryz.ntmps92 rfl (fun C hC=>(cB [0,1] rfl (ar (af 2 rfl (ax [1,5] rfl (sD (aV (l8 hC [] rfl trivial ?_))))))))
 exact⟨_,rfl,(S.pick [] [] (by decide) trivial),rfl⟩
noncomputable def Z36:=Tryz.f92.body.getD .skip
set_option maxRecDepth 10000 in
theorem vJ{w:World}{M:Hp}{X:Fr}(e:Int)(S:SH w M X []):Calls Tryz.prog 92 [.bool false,.int .i64 e].toArray w (fun e9 w9=>e9=.panicked (Dh e)/\∃M',M.le M'/\SH w9 M' X []):=by
 refine cw (b:=Z36) Tryz.func92 rfl Tryz.ntmps92 rfl (fun C hC=>(cB [0,1] rfl (ar (af 2 rfl (ax [1,5] rfl (kP (aH (af 1 rfl (ag rfl (run_build (l:=[_]) rfl rfl ags rfl rfl) ?_)))))))))
 refine ag rfl (aaB rfl rfl Jk) (abZ (k:=3) rfl rfl rfl rfl ?_)
 subst hC
 exact⟨rfl,M,Hp.le_refl _,S.pick [] [] (by decide) trivial⟩
noncomputable def Z37:=Tryz.f96.body.getD .skip
set_option maxRecDepth 10000 in
theorem Ll{w:World}{M:Hp}{X:Fr}(d:Dg){cI:Nat}{cA iA oA:Option Addr}{cc ic oc:Nat}{dO:Nat}{fV:Value}(a:Int)(hbb:fW (M.un X.h) dO 63 [.pointer (some ⟨cI,0,none⟩),fV])(bI:fW (M.un X.h) cI 66 [.slice cA d.ae.length cc,.int .i64 d.loops,.slice iA (aI d false (4*d.ae.length)).length ic,.slice oA (aI d true (4*d.ae.length)).length oc])(hsc:aJ bu (M.un X.h) cA cc d.ae)(hsi:aJ cQ (M.un X.h) iA ic (aI d false (4*d.ae.length)))(bq:aJ cQ (M.un X.h) oA oc (aI d true (4*d.ae.length)))(hn:d.ae.length<=16)(S:SH w M X []):Cq Tryz.prog 96 [.pointer (some ⟨dO,0,none⟩),.int .i64 a] w M X (fun u=>u=.bool (decide (0<=a/\a<(d.ae.length:Int)))):=by
 unfold Cq
 refine cw (b:=Z37) Tryz.func96 rfl Tryz.ntmps96 rfl (fun C hC=>(cB [0,1] rfl (ar (af 1 rfl (bL [0,1] rfl (af 3 rfl ?_))))))
 refine eN (t:=7) rfl (fun Qo=>?_) (fun Qo=>?_)
 ·refine af 3 rfl (b8 rfl (az rfl kX rfl mW mN) (b8 rfl (aw rfl lB (hbb.cell S.um rfl)) (af 1 rfl (b8 rfl (az rfl jy rfl jZ jX) (b8 rfl (az rfl aM rfl dN dM) (b8 rfl (aw rfl cE (bI.cell S.um rfl)) (b8 rfl (cK rfl cE) (af 3 rfl ?_))))))))
  refine ax [4] rfl (bU hC rfl ?_)
  exact⟨_,rfl,(S.pick [] [] (by decide) trivial),(by show Value.bool _=_;refine congrArg Value.bool ?_;first|(refine decide_eq_decide.2 ?_;omega)|(symm;rw[decide_eq_false_iff_not];omega))⟩
 ·refine af 6 rfl (af 6 rfl (af 1 rfl (ax [4] rfl (bU hC rfl ?_))))
  exact⟨_,rfl,(S.pick [] [] (by decide) trivial),(by show Value.bool _=_;refine congrArg Value.bool ?_;first|(refine decide_eq_decide.2 ?_;omega)|(symm;rw[decide_eq_false_iff_not];omega))⟩
noncomputable def Z38:=Tryz.f106.body.getD .skip
set_option maxRecDepth 10000 in
theorem MW{w:World}{M:Hp}{X:Fr}(d:Dg){cI:Nat}{cA iA oA:Option Addr}{cc ic oc:Nat}(x:Da)(bI:fW (M.un X.h) cI 66 [.slice cA d.ae.length cc,.int .i64 d.loops,.slice iA (aI d false (4*d.ae.length)).length ic,.slice oA (aI d true (4*d.ae.length)).length oc])(hsc:aJ bu (M.un X.h) cA cc d.ae)(hsi:aJ cQ (M.un X.h) iA ic (aI d false (4*d.ae.length)))(bq:aJ cQ (M.un X.h) oA oc (aI d true (4*d.ae.length)))(hn:d.ae.length<=16)(hab:aO d=true)(hx:okD d x)(S:SH w M X []):Cq Tryz.prog 106 [.pointer (some ⟨cI,0,none⟩),.agg [.int .i64 x.a,.bool x.b].toArray] w M X (fun u=>u=.agg [.int .i64 ((aF d x.a (!x.b)).1:Int),.int .i64 ((aF d x.a (!x.b)).2:Int)].toArray):=by
 unfold Cq
 refine cw (b:=Z38) Tryz.func106 rfl Tryz.ntmps106 rfl (fun C hC=>(cB [0,1] rfl (ar (aj rfl (dx (l:=[_,_]) rfl rfl rfl rfl rfl S ?_)))))
 intro aP w1 S1;clear S
 refine aj rfl (bW (l:=[_,_]) rfl rfl rfl qX rfl S1 ?_)
 intro bJ w2 S2;clear S1
 refine bL [0,3,4] rfl (af 1 rfl (ag rfl (az rfl eA rfl aY aX) (ag rfl (aw rfl aG (S2.bc 1 rfl rfl)) (ag rfl (az rfl eA rfl lM lJ) (ag rfl (aw rfl gY (S2.bc 1 rfl rfl)) (af 1 rfl (ag rfl (run_build (l:=[_,_]) rfl rfl FH rfl rfl) ?_)))))))
 have hx2:okD d (⟨x.a,!x.b⟩:Da):=hx
 refine aj rfl (dU rfl rfl rfl rfl rfl rfl rfl Pn S2 (MX d (⟨x.a,!x.b⟩:Da) (bI.mono S2.bn) (hsc.mono S2.bn) (hsi.mono S2.bn) (bq.mono S2.bn) (by first|assumption|omega) hab (by first|assumption|omega) S2.aT) ?_)
 rintro _ w3 S3 rfl;clear S2
 refine aj rfl (bH 0 [_,_] [_,_] [_,_] rfl S3 rfl rfl gX rfl rfl ?_)
 intro w4 S4;clear S3
 refine ax [4] rfl (dI hC [_] rfl rfl ⟨⟨_,rfl,dK (us:=[_,_]) dX rfl gX (S4.bs 0 rfl rfl)⟩,trivial⟩ ?_)
 exact⟨_,rfl,(S4.pick [] [] (by decide) trivial),rfl⟩
noncomputable def Z39:=Tryz.f107.body.getD .skip
set_option maxRecDepth 10000 in
theorem Mt{w:World}{M:Hp}{X:Fr}(d:Dg){cI:Nat}{cA iA oA:Option Addr}{cc ic oc:Nat}{dO:Nat}{fV:Value}(a:Int)(hbb:fW (M.un X.h) dO 63 [.pointer (some ⟨cI,0,none⟩),fV])(bI:fW (M.un X.h) cI 66 [.slice cA d.ae.length cc,.int .i64 d.loops,.slice iA (aI d false (4*d.ae.length)).length ic,.slice oA (aI d true (4*d.ae.length)).length oc])(hsc:aJ bu (M.un X.h) cA cc d.ae)(hsi:aJ cQ (M.un X.h) iA ic (aI d false (4*d.ae.length)))(bq:aJ cQ (M.un X.h) oA oc (aI d true (4*d.ae.length)))(hn:d.ae.length<=16)(hab:aO d=true)(ha:1<=a/\a<=2*(d.ae.length:Int))(S:SH w M X []):Cq Tryz.prog 107 [.pointer (some ⟨dO,0,none⟩),.int .i64 a] w M X (fun u=>u=.tuple [.bool (decide (hgt d a=2)),.bool (decide (hgt d a=0))].toArray):=by
 unfold Cq
 have hti:=jR d false (4*d.ae.length)
 have hto:=jR d true (4*d.ae.length)
 obtain⟨_,_,JP,_⟩:=fO hab ha false
 obtain⟨_,_,JO,_⟩:=fO hab ha true
 refine cw (b:=Z39) Tryz.func107 rfl Tryz.ntmps107 rfl (fun C hC=>(cB [0,1] rfl (ar (af 2 rfl (bM [0,1] rfl (dH S 28 ?_))))))
 clear S
 refine aK 26 [0,1] rfl (aS 2 rfl (az rfl kX rfl mW mN) (ay 3 rfl (fun ah Sz=>aw rfl lB ((hbb.mono (Hp.aD ah Sz.mx)).cell Sz.um rfl)) (aK 23 [4] rfl (aS 5 rfl (az rfl jy rfl zb yY) (ay 6 rfl (fun ah Sz=>aw rfl vw ((bI.mono (Hp.aD ah Sz.mx)).cell Sz.um rfl)) (aK 20 [7] rfl (ay 8 rfl (fun ah Sz=>cN a.toNat rfl yU (hsi.mono (Hp.aD ah Sz.mx))) (aS 9 rfl (az rfl dX rfl aY aX) ?_))))))))
 refine ay 10 rfl (fun ah Sz=>aw rfl aG ((hsi.mono (Hp.aD ah Sz.mx)).cell Sz.um (i:=a.toNat) (by first|omega|(simp only[ls];omega)) 1 rfl rfl)) ?_
 refine aS 11 rfl (rF rfl rfl rfl (by first|omega|(simp only[ls];omega))) ?_
 refine aK 13 [12,13,14] rfl (aS 15 rfl (az rfl kX rfl mW mN) (ay 16 rfl (fun ah Sz=>aw rfl lB ((hbb.mono (Hp.aD ah Sz.mx)).cell Sz.um rfl)) (aK 10 [17] rfl (aS 18 rfl (az rfl jy rfl zb yY) (ay 19 rfl (fun ah Sz=>aw rfl vw ((bI.mono (Hp.aD ah Sz.mx)).cell Sz.um rfl)) (aK 7 [20] rfl (ay 21 rfl (fun ah Sz=>cN a.toNat rfl yU (bq.mono (Hp.aD ah Sz.mx))) (aS 22 rfl (az rfl dX rfl aY aX) ?_))))))))
 refine ay 23 rfl (fun ah Sz=>aw rfl aG ((bq.mono (Hp.aD ah Sz.mx)).cell Sz.um (i:=a.toNat) (by first|omega|(simp only[ls];omega)) 1 rfl rfl)) ?_
 refine aS 24 rfl (rF rfl rfl rfl (by first|omega|(simp only[ls];omega))) ?_
 refine aK 0 [25,26,27] rfl (cD (fun vN gH=>(cP [6,7] rfl (af 2 rfl ?_))))
 refine eN (t:=35) rfl (fun ajf=>?_) (fun ajf=>?_)
 ·refine af 5 rfl ?_
  refine uE (t:=40) rfl (fun AZ=>?_) (fun AZ=>?_)
  ·simp only[Bool.and_eq_true,Bool.or_eq_true,Bool.and_eq_false_iff,Bool.or_eq_false_iff,decide_eq_true_eq,decide_eq_false_iff_not,Bool.not_eq_true',Bool.not_eq_false']at AZ
   refine af 5 rfl (ax [4,5] rfl (bU hC rfl ?_))
   exact⟨_,rfl,(gH.pick [] [] (by decide) trivial),(by show Value.tuple [_,_].toArray=_;unfold hgt;rw[<-JP,<-JO];refine Jx ?_ ?_<;>first|(refine decide_eq_decide.2 ?_;omega)|(symm;rw[decide_eq_false_iff_not];omega)|(symm;rw[decide_eq_true_iff];omega)|(rw[Bool.eq_iff_iff];simp;omega))⟩
  ·simp only[Bool.and_eq_true,Bool.or_eq_true,Bool.and_eq_false_iff,Bool.or_eq_false_iff,decide_eq_true_eq,decide_eq_false_iff_not,Bool.not_eq_true',Bool.not_eq_false']at AZ
   refine af 5 rfl (ax [4,5] rfl (bU hC rfl ?_))
   exact⟨_,rfl,(gH.pick [] [] (by decide) trivial),(by show Value.tuple [_,_].toArray=_;unfold hgt;rw[<-JP,<-JO];refine Jx ?_ ?_<;>first|(refine decide_eq_decide.2 ?_;omega)|(symm;rw[decide_eq_false_iff_not];omega)|(symm;rw[decide_eq_true_iff];omega)|(rw[Bool.eq_iff_iff];simp;omega))⟩
 ·refine af 5 rfl ?_
  refine uE (t:=40) rfl (fun AZ=>?_) (fun AZ=>?_)
  ·simp only[Bool.and_eq_true,Bool.or_eq_true,Bool.and_eq_false_iff,Bool.or_eq_false_iff,decide_eq_true_eq,decide_eq_false_iff_not,Bool.not_eq_true',Bool.not_eq_false']at AZ
   refine af 5 rfl (ax [4,5] rfl (bU hC rfl ?_))
   exact⟨_,rfl,(gH.pick [] [] (by decide) trivial),(by show Value.tuple [_,_].toArray=_;unfold hgt;rw[<-JP,<-JO];refine Jx ?_ ?_<;>first|(refine decide_eq_decide.2 ?_;omega)|(symm;rw[decide_eq_false_iff_not];omega)|(symm;rw[decide_eq_true_iff];omega)|(rw[Bool.eq_iff_iff];simp;omega))⟩
  ·simp only[Bool.and_eq_true,Bool.or_eq_true,Bool.and_eq_false_iff,Bool.or_eq_false_iff,decide_eq_true_eq,decide_eq_false_iff_not,Bool.not_eq_true',Bool.not_eq_false']at AZ
   refine af 5 rfl (ax [4,5] rfl (bU hC rfl ?_))
   exact⟨_,rfl,(gH.pick [] [] (by decide) trivial),(by show Value.tuple [_,_].toArray=_;unfold hgt;rw[<-JP,<-JO];refine Jx ?_ ?_<;>first|(refine decide_eq_decide.2 ?_;omega)|(symm;rw[decide_eq_false_iff_not];omega)|(symm;rw[decide_eq_true_iff];omega)|(rw[Bool.eq_iff_iff];simp;omega))⟩
noncomputable def Z3a:=Tryz.f94.body.getD .skip
set_option maxRecDepth 10000 in
theorem afJ{w:World}{M:Hp}{X:Fr}{dO ggs:Nat}{dY fV lV iV oV:Value}(xs:List Cr)(c:Nat)(a:Int)(hc:c<xs.length)(S:SH w M X [Rs.cV [Rs.box dO 63 [.pointer (some ⟨ggs,0,none⟩),fV],Rs.box ggs 66 [dY,lV,iV,oV],Rs.row bu dY xs]]):C1 Tryz.prog 94 [.pointer (some ⟨dO,0,none⟩),.agg [.int .i64 (c:Int),.int .i64 0].toArray,.int .i64 a] w M X (fun u M' r'=>u=.tuple [].toArray/\M'=M/\r'=Rs.cV [Rs.box dO 63 [.pointer (some ⟨ggs,0,none⟩),fV],Rs.box ggs 66 [dY,lV,iV,oV],Rs.row bu dY (eB xs c 0 a)]):=by
 unfold C1
 replace S:=S.se
 refine cw (b:=Z3a) Tryz.func94 rfl Tryz.ntmps94 rfl (fun C hC=>(cB [0,1,2] rfl (ar (aj rfl (dx (l:=[_,_]) rfl rfl rfl rfl rfl S ?_)))))
 intro aP w1 S1;clear S
 refine bM [0,2,4] rfl (dH S1 12 ?_)
 clear S1
 refine aK 10 [0,1] rfl (aS 2 rfl (az rfl kX rfl mW mN) (ay 3 rfl (fun ah Sz=>aw rfl lB (Sz.suf.bc 1 rfl rfl)) (aK 7 [4] rfl (aS 5 rfl (az rfl jy rfl jZ jX) (aS 6 rfl (az rfl aM rfl dN dM) (ay 7 rfl (fun ah Sz=>aw rfl cE (Sz.suf.bc 2 rfl rfl)) (aS 8 rfl (az rfl dX rfl aY aX) (ay 9 rfl (fun ah Sz=>aw rfl aG (Sz.suf.bc 0 rfl rfl)) ?_))))))))
 refine ay 10 rfl (fun ah Sz=>bS (i:=3) c rfl fX Sz.suf rfl) (aK 0 [11] rfl (cD (fun lH ct=>(aW [2,4,6] rfl (dH ct 19 ?_)))))
 clear ct
 refine aK 17 [0,1] rfl (aS 2 rfl (az rfl b6 rfl aY aX) (aK 14 [3,4] rfl (aS 5 rfl (az rfl b6 rfl aY aX) (aK 11 [6,7] rfl (aS 8 rfl (az rfl b6 rfl aY aX) (aK 8 [9,10] rfl (aS 11 rfl (az rfl b6 rfl aY aX) (ay 12 rfl (fun ah Sz=>vL (l:=[_,_,_,_]) (pl:=[(0,1),(1,1),(2,1),(3,1)]) rfl rfl yH Jh yI rfl rfl rfl) ?_))))))))
 refine aS 13 rfl (az rfl dX rfl aY aX) (ay 14 rfl (fun ah Sz=>aw rfl aG (Sz.suf.bc 0 rfl rfl)) (ay 15 rfl (fun ah Sz=>DK (e:=0) rfl rfl rfl yH Fe rfl yI (by first|rfl|omega) (by first|omega|(simp only[ls];omega)) rfl) ?_))
 refine aK 1 [16,17] rfl (cm 18 rfl (fun xR gu=>((iE (C:=bu) (i:=3) (e:=c) (j:=0) (us:=[_]) (H':=[_,_,_,_]) (⟨a,(ga xs c).b,(ga xs c).c,(ga xs c).d,(ga xs c).plus⟩:Cr) rfl rfl gu rfl (by first|omega|(simp only[ls];omega)) rfl rfl rfl gp rfl rfl rfl rfl ?_))))
 intro GL ki;clear gu
 refine ij ki ?_;clear ki
 change WA _ _ _ _ _ _ _ _ _ _ _ _ [_,_,_,_]
 refine cD (fun zr jH=>(l8 hC [] rfl trivial ?_))
 refine⟨_,rfl,_,_,Hp.le_refl _,(jH.pick [1,2,3] [_,_,_] (by decide) ⟨rfl,rfl,rfl,trivial⟩).cV,?_⟩
 exact⟨rfl,rfl,rfl⟩
noncomputable def Z3b:=Tryz.f94.body.getD .skip
set_option maxRecDepth 10000 in
theorem afI{w:World}{M:Hp}{X:Fr}{dO ggs:Nat}{dY fV lV iV oV:Value}(xs:List Cr)(c:Nat)(a:Int)(hc:c<xs.length)(S:SH w M X [Rs.cV [Rs.box dO 63 [.pointer (some ⟨ggs,0,none⟩),fV],Rs.box ggs 66 [dY,lV,iV,oV],Rs.row bu dY xs]]):C1 Tryz.prog 94 [.pointer (some ⟨dO,0,none⟩),.agg [.int .i64 (c:Int),.int .i64 1].toArray,.int .i64 a] w M X (fun u M' r'=>u=.tuple [].toArray/\M'=M/\r'=Rs.cV [Rs.box dO 63 [.pointer (some ⟨ggs,0,none⟩),fV],Rs.box ggs 66 [dY,lV,iV,oV],Rs.row bu dY (eB xs c 1 a)]):=by
 unfold C1
 replace S:=S.se
 refine cw (b:=Z3b) Tryz.func94 rfl Tryz.ntmps94 rfl (fun C hC=>(cB [0,1,2] rfl (ar (aj rfl (dx (l:=[_,_]) rfl rfl rfl rfl rfl S ?_)))))
 intro aP w1 S1;clear S
 refine bM [0,2,4] rfl (dH S1 12 ?_)
 clear S1
 refine aK 10 [0,1] rfl (aS 2 rfl (az rfl kX rfl mW mN) (ay 3 rfl (fun ah Sz=>aw rfl lB (Sz.suf.bc 1 rfl rfl)) (aK 7 [4] rfl (aS 5 rfl (az rfl jy rfl jZ jX) (aS 6 rfl (az rfl aM rfl dN dM) (ay 7 rfl (fun ah Sz=>aw rfl cE (Sz.suf.bc 2 rfl rfl)) (aS 8 rfl (az rfl dX rfl aY aX) (ay 9 rfl (fun ah Sz=>aw rfl aG (Sz.suf.bc 0 rfl rfl)) ?_))))))))
 refine ay 10 rfl (fun ah Sz=>bS (i:=3) c rfl fX Sz.suf rfl) (aK 0 [11] rfl (cD (fun lH ct=>(aW [2,4,6] rfl (dH ct 19 ?_)))))
 clear ct
 refine aK 17 [0,1] rfl (aS 2 rfl (az rfl b6 rfl aY aX) (aK 14 [3,4] rfl (aS 5 rfl (az rfl b6 rfl aY aX) (aK 11 [6,7] rfl (aS 8 rfl (az rfl b6 rfl aY aX) (aK 8 [9,10] rfl (aS 11 rfl (az rfl b6 rfl aY aX) (ay 12 rfl (fun ah Sz=>vL (l:=[_,_,_,_]) (pl:=[(0,1),(1,1),(2,1),(3,1)]) rfl rfl yH Jh yI rfl rfl rfl) ?_))))))))
 refine aS 13 rfl (az rfl dX rfl aY aX) (ay 14 rfl (fun ah Sz=>aw rfl aG (Sz.suf.bc 0 rfl rfl)) (ay 15 rfl (fun ah Sz=>DK (e:=1) rfl rfl rfl yH Fe rfl yI (by first|rfl|omega) (by first|omega|(simp only[ls];omega)) rfl) ?_))
 refine aK 1 [16,17] rfl (cm 18 rfl (fun xR gu=>((iE (C:=bu) (i:=3) (e:=c) (j:=1) (us:=[_]) (H':=[_,_,_,_]) (⟨(ga xs c).a,a,(ga xs c).c,(ga xs c).d,(ga xs c).plus⟩:Cr) rfl rfl gu rfl (by first|omega|(simp only[ls];omega)) rfl rfl rfl gp rfl rfl rfl rfl ?_))))
 intro GL ki;clear gu
 refine ij ki ?_;clear ki
 change WA _ _ _ _ _ _ _ _ _ _ _ _ [_,_,_,_]
 refine cD (fun zr jH=>(l8 hC [] rfl trivial ?_))
 refine⟨_,rfl,_,_,Hp.le_refl _,(jH.pick [1,2,3] [_,_,_] (by decide) ⟨rfl,rfl,rfl,trivial⟩).cV,?_⟩
 exact⟨rfl,rfl,rfl⟩
noncomputable def Z3c:=Tryz.f94.body.getD .skip
set_option maxRecDepth 10000 in
theorem afH{w:World}{M:Hp}{X:Fr}{dO ggs:Nat}{dY fV lV iV oV:Value}(xs:List Cr)(c:Nat)(a:Int)(hc:c<xs.length)(S:SH w M X [Rs.cV [Rs.box dO 63 [.pointer (some ⟨ggs,0,none⟩),fV],Rs.box ggs 66 [dY,lV,iV,oV],Rs.row bu dY xs]]):C1 Tryz.prog 94 [.pointer (some ⟨dO,0,none⟩),.agg [.int .i64 (c:Int),.int .i64 2].toArray,.int .i64 a] w M X (fun u M' r'=>u=.tuple [].toArray/\M'=M/\r'=Rs.cV [Rs.box dO 63 [.pointer (some ⟨ggs,0,none⟩),fV],Rs.box ggs 66 [dY,lV,iV,oV],Rs.row bu dY (eB xs c 2 a)]):=by
 unfold C1
 replace S:=S.se
 refine cw (b:=Z3c) Tryz.func94 rfl Tryz.ntmps94 rfl (fun C hC=>(cB [0,1,2] rfl (ar (aj rfl (dx (l:=[_,_]) rfl rfl rfl rfl rfl S ?_)))))
 intro aP w1 S1;clear S
 refine bM [0,2,4] rfl (dH S1 12 ?_)
 clear S1
 refine aK 10 [0,1] rfl (aS 2 rfl (az rfl kX rfl mW mN) (ay 3 rfl (fun ah Sz=>aw rfl lB (Sz.suf.bc 1 rfl rfl)) (aK 7 [4] rfl (aS 5 rfl (az rfl jy rfl jZ jX) (aS 6 rfl (az rfl aM rfl dN dM) (ay 7 rfl (fun ah Sz=>aw rfl cE (Sz.suf.bc 2 rfl rfl)) (aS 8 rfl (az rfl dX rfl aY aX) (ay 9 rfl (fun ah Sz=>aw rfl aG (Sz.suf.bc 0 rfl rfl)) ?_))))))))
 refine ay 10 rfl (fun ah Sz=>bS (i:=3) c rfl fX Sz.suf rfl) (aK 0 [11] rfl (cD (fun lH ct=>(aW [2,4,6] rfl (dH ct 19 ?_)))))
 clear ct
 refine aK 17 [0,1] rfl (aS 2 rfl (az rfl b6 rfl aY aX) (aK 14 [3,4] rfl (aS 5 rfl (az rfl b6 rfl aY aX) (aK 11 [6,7] rfl (aS 8 rfl (az rfl b6 rfl aY aX) (aK 8 [9,10] rfl (aS 11 rfl (az rfl b6 rfl aY aX) (ay 12 rfl (fun ah Sz=>vL (l:=[_,_,_,_]) (pl:=[(0,1),(1,1),(2,1),(3,1)]) rfl rfl yH Jh yI rfl rfl rfl) ?_))))))))
 refine aS 13 rfl (az rfl dX rfl aY aX) (ay 14 rfl (fun ah Sz=>aw rfl aG (Sz.suf.bc 0 rfl rfl)) (ay 15 rfl (fun ah Sz=>DK (e:=2) rfl rfl rfl yH Fe rfl yI (by first|rfl|omega) (by first|omega|(simp only[ls];omega)) rfl) ?_))
 refine aK 1 [16,17] rfl (cm 18 rfl (fun xR gu=>((iE (C:=bu) (i:=3) (e:=c) (j:=2) (us:=[_]) (H':=[_,_,_,_]) (⟨(ga xs c).a,(ga xs c).b,a,(ga xs c).d,(ga xs c).plus⟩:Cr) rfl rfl gu rfl (by first|omega|(simp only[ls];omega)) rfl rfl rfl gp rfl rfl rfl rfl ?_))))
 intro GL ki;clear gu
 refine ij ki ?_;clear ki
 change WA _ _ _ _ _ _ _ _ _ _ _ _ [_,_,_,_]
 refine cD (fun zr jH=>(l8 hC [] rfl trivial ?_))
 refine⟨_,rfl,_,_,Hp.le_refl _,(jH.pick [1,2,3] [_,_,_] (by decide) ⟨rfl,rfl,rfl,trivial⟩).cV,?_⟩
 exact⟨rfl,rfl,rfl⟩
noncomputable def Z3d:=Tryz.f94.body.getD .skip
set_option maxRecDepth 10000 in
theorem afG{w:World}{M:Hp}{X:Fr}{dO ggs:Nat}{dY fV lV iV oV:Value}(xs:List Cr)(c:Nat)(a:Int)(hc:c<xs.length)(S:SH w M X [Rs.cV [Rs.box dO 63 [.pointer (some ⟨ggs,0,none⟩),fV],Rs.box ggs 66 [dY,lV,iV,oV],Rs.row bu dY xs]]):C1 Tryz.prog 94 [.pointer (some ⟨dO,0,none⟩),.agg [.int .i64 (c:Int),.int .i64 3].toArray,.int .i64 a] w M X (fun u M' r'=>u=.tuple [].toArray/\M'=M/\r'=Rs.cV [Rs.box dO 63 [.pointer (some ⟨ggs,0,none⟩),fV],Rs.box ggs 66 [dY,lV,iV,oV],Rs.row bu dY (eB xs c 3 a)]):=by
 unfold C1
 replace S:=S.se
 refine cw (b:=Z3d) Tryz.func94 rfl Tryz.ntmps94 rfl (fun C hC=>(cB [0,1,2] rfl (ar (aj rfl (dx (l:=[_,_]) rfl rfl rfl rfl rfl S ?_)))))
 intro aP w1 S1;clear S
 refine bM [0,2,4] rfl (dH S1 12 ?_)
 clear S1
 refine aK 10 [0,1] rfl (aS 2 rfl (az rfl kX rfl mW mN) (ay 3 rfl (fun ah Sz=>aw rfl lB (Sz.suf.bc 1 rfl rfl)) (aK 7 [4] rfl (aS 5 rfl (az rfl jy rfl jZ jX) (aS 6 rfl (az rfl aM rfl dN dM) (ay 7 rfl (fun ah Sz=>aw rfl cE (Sz.suf.bc 2 rfl rfl)) (aS 8 rfl (az rfl dX rfl aY aX) (ay 9 rfl (fun ah Sz=>aw rfl aG (Sz.suf.bc 0 rfl rfl)) ?_))))))))
 refine ay 10 rfl (fun ah Sz=>bS (i:=3) c rfl fX Sz.suf rfl) (aK 0 [11] rfl (cD (fun lH ct=>(aW [2,4,6] rfl (dH ct 19 ?_)))))
 clear ct
 refine aK 17 [0,1] rfl (aS 2 rfl (az rfl b6 rfl aY aX) (aK 14 [3,4] rfl (aS 5 rfl (az rfl b6 rfl aY aX) (aK 11 [6,7] rfl (aS 8 rfl (az rfl b6 rfl aY aX) (aK 8 [9,10] rfl (aS 11 rfl (az rfl b6 rfl aY aX) (ay 12 rfl (fun ah Sz=>vL (l:=[_,_,_,_]) (pl:=[(0,1),(1,1),(2,1),(3,1)]) rfl rfl yH Jh yI rfl rfl rfl) ?_))))))))
 refine aS 13 rfl (az rfl dX rfl aY aX) (ay 14 rfl (fun ah Sz=>aw rfl aG (Sz.suf.bc 0 rfl rfl)) (ay 15 rfl (fun ah Sz=>DK (e:=3) rfl rfl rfl yH Fe rfl yI (by first|rfl|omega) (by first|omega|(simp only[ls];omega)) rfl) ?_))
 refine aK 1 [16,17] rfl (cm 18 rfl (fun xR gu=>((iE (C:=bu) (i:=3) (e:=c) (j:=3) (us:=[_]) (H':=[_,_,_,_]) (⟨(ga xs c).a,(ga xs c).b,(ga xs c).c,a,(ga xs c).plus⟩:Cr) rfl rfl gu rfl (by first|omega|(simp only[ls];omega)) rfl rfl rfl gp rfl rfl rfl rfl ?_))))
 intro GL ki;clear gu
 refine ij ki ?_;clear ki
 change WA _ _ _ _ _ _ _ _ _ _ _ _ [_,_,_,_]
 refine cD (fun zr jH=>(l8 hC [] rfl trivial ?_))
 refine⟨_,rfl,_,_,Hp.le_refl _,(jH.pick [1,2,3] [_,_,_] (by decide) ⟨rfl,rfl,rfl,trivial⟩).cV,?_⟩
 exact⟨rfl,rfl,rfl⟩
theorem ahN{w:World}{M:Hp}{X:Fr}{dO ggs:Nat}{dY fV lV iV oV:Value}(xs:List Cr)(c k:Nat)(a:Int)(hc:c<xs.length)(hk:k<4)(S:SH w M X [Rs.cV [Rs.box dO 63 [.pointer (some ⟨ggs,0,none⟩),fV],Rs.box ggs 66 [dY,lV,iV,oV],Rs.row bu dY xs]]):C1 Tryz.prog 94 [.pointer (some ⟨dO,0,none⟩),.agg [.int .i64 (c:Int),.int .i64 (k:Int)].toArray,.int .i64 a] w M X (fun u M' r'=>u=.tuple [].toArray/\M'=M/\r'=Rs.cV [Rs.box dO 63 [.pointer (some ⟨ggs,0,none⟩),fV],Rs.box ggs 66 [dY,lV,iV,oV],Rs.row bu dY (eB xs c k a)]):=by
 obtain rfl|rfl|rfl|rfl:k=0\/k=1\/k=2\/k=3:=by omega
 ·exact afJ xs c a hc S
 ·exact afI xs c a hc S
 ·exact afH xs c a hc S
 ·exact afG xs c a hc S
end Go.Proofs.YtcohmplpgcddiaaGreatDoor
namespace Go.Proofs.YtcohmplpgcddiaaGreatDoor
open Go.ChangeShapes Go.WideShapes Go.ChangeAt Go.RowKit
def akF(d:Dg)(v:Value)(N:Hp)(Nl:List Rs):Prop:=
 (fp d=false/\v=.tuple [.pointer none,.bool false].toArray/\Nl=[])\/
 (fp d=true/\∃g vc iA oA ic oc,v=.tuple [.pointer (some ⟨g,0,none⟩),.bool true].toArray/\Nl=[Rs.box g 66 [vc,.int .i64 d.loops,.slice iA (aI d false (4*d.ae.length)).length ic,.slice oA (aI d true (4*d.ae.length)).length oc],Rs.row bu vc d.ae]/\aJ cQ N iA ic (aI d false (4*d.ae.length))/\aJ cQ N oA oc (aI d true (4*d.ae.length)))
theorem ahQ{w:World}{M:Hp}{X:Fr}(d:Dg){A:Option Addr}{c:Nat}(h:aJ bu (M.un X.h) A c d.ae)(S:SH w M X []):KV Tryz.prog 23 [.agg [.slice A d.ae.length c,.int .i64 d.loops].toArray] w M X (akF d):=by
 refine(Xa d h S).mono ?_
 rintro e w' ⟨v,rfl,N,S1,⟨hm,rfl,rfl⟩|⟨hm,g,vc,vi,vo,rfl,rfl,hv⟩⟩
 ·exact⟨_,rfl,M,_,Hp.le_refl _,S1,.inl ⟨hm,rfl,rfl⟩⟩
 ·obtain⟨hn,_⟩:=qq hm
  have t1:=jR d false (4*d.ae.length)
  have t2:=jR d true (4*d.ae.length)
  clear hv
  obtain⟨M2,l2,S3,⟨iA,ic,rfl,r2⟩⟩:=S1.gP (C:=cQ) (xs:=aI d false (4*d.ae.length)) (i:=2) rfl rfl (by show _*16<=_;omega)
  obtain⟨M3,l3,S4,⟨oA,oc,rfl,r3⟩⟩:=S3.gP (C:=cQ) (xs:=aI d true (4*d.ae.length)) (i:=3) rfl rfl (by show _*16<=_;omega)
  exact⟨_,rfl,M3,_,l2.trans l3,S4.pick [0,1] [_,_] (by decide) ⟨rfl,rfl,trivial⟩,.inr ⟨hm,g,vc,iA,oA,ic,oc,rfl,rfl,r2.mono l3,r3⟩⟩
def fD(d:Dg):Bool:=fp d&&ml d
def bnL(d:Dg)(gb gs:Nat)(dY:Value)(iA oA fA:Option Addr)(ic oc fc:Nat)(fv:List ei):List Rs:=[Rs.box gb 63 [.pointer (some ⟨gs,0,none⟩),.slice fA fv.length fc],Rs.box gs 66 [dY,.int .i64 d.loops,.slice iA (aI d false (4*d.ae.length)).length ic,.slice oA (aI d true (4*d.ae.length)).length oc],Rs.row bu dY d.ae]
def bnF(d:Dg)(N:Hp)(iA oA fA:Option Addr)(ic oc fc:Nat)(fv:List ei):Prop:=aJ cQ N iA ic (aI d false (4*d.ae.length))/\aJ cQ N oA oc (aI d true (4*d.ae.length))/\aJ (eZ 87) N fA fc fv/\ia ib N fv (ai d)
def ahP(d:Dg)(v:Value)(N:Hp)(Nl:List Rs):Prop:=
 (fD d=false/\v=.tuple [.pointer none,.bool false].toArray/\Nl=[])\/
 (fD d=true/\∃gb gs dY iA oA fA ic oc fc fv,v=.tuple [.pointer (some ⟨gb,0,none⟩),.bool true].toArray/\Nl=bnL d gb gs dY iA oA fA ic oc fc fv/\bnF d N iA oA fA ic oc fc fv)
noncomputable def Z3e:=Tryz.f21.body.getD .skip
set_option maxRecDepth 10000 in
theorem U4{w:World}{M:Hp}{X:Fr}(d:Dg){bz:Option Addr}{bw:Nat}(aC:aJ bu (M.un X.h) bz bw d.ae)(S:SH w M X []):KV Tryz.prog 21 [.agg [.slice bz d.ae.length bw,.int .i64 d.loops].toArray] w M X (ahP d):=by
 unfold KV
 have iL:d.ae.length*40<=140737488355328:=aC.room
 refine cw (b:=Z3e) Tryz.func21 rfl Tryz.ntmps21 rfl (fun C hC=>(cB [0] rfl (ar (aj rfl (dx (l:=[_,_]) rfl rfl rfl rfl rfl S ?_)))))
 intro aP w1 S1;clear S
 refine af 2 rfl (bL [1] rfl (ag rfl (aU [_,_] rfl aM aN (S1.bs 0 rfl rfl)) (aj rfl (Mk rfl rfl rfl rfl rfl rfl rfl Gi S1 (ahQ d (aC.mono S1.bn) S1.aT) ?_))))
 intro sZ w2 M1 Nw2 bh S2 kY;clear S1
 replace aC:=aC.mono (Hp.aD bh S2.mx)
 rcases kY with⟨kN,rfl,rfl⟩|⟨kN,ggs,dY,iA,oA,ic,oc,rfl,rfl,hsi,bq⟩
 ·have S3:SH _ _ _ [_]:=S2;clear S2
  refine af 5 rfl (bM [4,5] rfl (ar (af 6 rfl (af 1 rfl (ax [4,17] rfl (kP (ar (af 2 rfl ?_))))))))
  refine ax [2,3] rfl (bU hC rfl ?_)
  refine⟨_,rfl,_,_,bh,S3.pick [] [] (by decide) trivial,?_⟩
  exact .inl ⟨by unfold fD;rw[kN];first|rfl|(rw[hpl];rfl),rfl,rfl⟩
 ·have S4:SH _ _ _ [_,_,_]:=S2;clear S2
  obtain⟨hn,hab,hlo0,hlo1⟩:=qq kN
  obtain⟨cA,cc,kU,_⟩:=S4.sl (i:=1) rfl
  refine af 5 rfl (bM [4,5] rfl (ar (af 4 rfl (zq 4 5 rfl rfl rfl rfl rfl rfl rfl rfl (eo rfl rfl rfl rfl rfl rfl rfl Yz S4 (T7 d (SH.oh (N:=[]) (i:=0) S4 rfl (by rw[kU])) (SH.vA (N:=[]) (i:=1) S4 rfl kU (by show _*40<=_;omega)) (hsi.mono (Hp.cM _ _)) (bq.mono (Hp.cM _ _)) hn hab S4.aT) ?_)))))
  intro xV w3 M2 hle2 S5 mV;clear S4
  replace aC:=aC.mono (Hp.aD hle2 S5.mx)
  replace hsi:=hsi.mono hle2
  replace bq:=bq.mono hle2
  obtain rfl:=mV
  refine af 2 rfl (ax [4,17] rfl ?_)
  refine gB rfl (fun nI=>?_) (fun nI=>?_)
  ·simp only[Bool.and_eq_true,Bool.or_eq_true,Bool.and_eq_false_iff,Bool.or_eq_false_iff,decide_eq_true_eq,decide_eq_false_iff_not,Bool.not_eq_true',Bool.not_eq_false']at nI
   have hpl:ml d=false:=by simpa using nI
   refine ar (af 2 rfl (ax [2,3] rfl (bU hC rfl ?_)))
   refine⟨_,rfl,_,_,bh.trans hle2,S5.pick [] [] (by decide) trivial,?_⟩
   exact .inl ⟨by unfold fD;rw[kN];first|rfl|(rw[hpl];rfl),rfl,rfl⟩
  ·simp only[Bool.and_eq_true,Bool.or_eq_true,Bool.and_eq_false_iff,Bool.or_eq_false_iff,decide_eq_true_eq,decide_eq_false_iff_not,Bool.not_eq_true',Bool.not_eq_false']at nI
   have hpl:ml d=true:=by simpa using nI
   refine aV (cP [4] rfl (af 2 rfl (aj rfl (eo rfl rfl rfl rfl rfl rfl rfl Po S5 (InF.Me d (SH.oh (N:=[]) (i:=0) S5 rfl (by rw[kU])) (SH.vA (N:=[]) (i:=1) S5 rfl kU (by show _*40<=_;omega)) (hsi.mono (Hp.cM _ _)) (bq.mono (Hp.cM _ _)) hn hab S5.aT) ?_))))
   intro vw4 w4 M3 bZ S6 Pc;clear S5
   replace aC:=aC.mono (Hp.aD bZ S6.mx)
   replace hsi:=hsi.mono bZ
   replace bq:=bq.mono bZ
   obtain⟨A1,c1,vs1,rfl,hr1,hd1⟩:=Pc
   have RZ:=hd1.1
   refine ag rfl (run_build (l:=[_,_]) rfl rfl aij rfl rfl) (aj rfl (dx (l:=[_,_]) rfl rfl rfl rfl rfl S6 ?_))
   intro bJ w5 S7;clear S6
   refine af 2 rfl (ax [2,3] rfl (bU hC rfl ?_))
   refine⟨_,rfl,_,_,(bh.trans hle2).trans bZ,S7.pick [0,1,2] [_,_,_] (by decide) ⟨rfl,rfl,rfl,trivial⟩,?_⟩
   exact .inr ⟨by unfold fD;rw[kN,hpl];rfl,_,_,_,_,_,_,_,_,_,_,rfl,rfl,hsi,bq,hr1,hd1⟩
end Go.Proofs.YtcohmplpgcddiaaGreatDoor
namespace Go.Proofs.YtcohmplpgcddiaaGreatDoor
open Go.ChangeShapes Go.WideShapes Go.ChangeAt Go.RowKit
def HA(gb gs:Nat)(fV iV oV:Value)(D:Dg)(u:Value)(N:Hp)(r:Rs):Prop:=u=.tuple [].toArray/\∃A c,r=Rs.cV [Rs.box gb 63 [.pointer (some ⟨gs,0,none⟩),fV],Rs.box gs 66 [.slice A D.ae.length c,.int .i64 D.loops,iV,oV]]/\aJ bu N A c D.ae
def mL(d:Dg)(gs:List Nat):Int:=if(ik d (cG gs)).loops<=16 then 0 else 2
def curlN(x:Cr):Nat->Bool
 |0=>false
 |k+1=>curlN x k||decide (dw x k=dw x ((k+1)%4))
def jW(d:Dg)(m:Mv):Int:=if 0<=m.at_/\m.at_<(d.ae.length:Int)then(if curlN (ga d.ae m.at_.toNat) 4=true then mL d [m.at_.toNat]else 8)else 3
def C9(d:Dg)(m:Mv):Dg:=ik d (cG [m.at_.toNat])
noncomputable def Z3f:=Tryz.f97.body.getD .skip
set_option maxHeartbeats 1000000 in
set_option maxRecDepth 10000 in
theorem I8{w:World}{M:Hp}{X:Fr}(d:Dg){dO ggs:Nat}{dY:Value}{iA oA fA:Option Addr}{ic oc fc:Nat}{fv:List ei}(gone:List Int){mh:Option Addr}{mf:Nat}(hsi:aJ cQ M iA ic (aI d false (4*d.ae.length)))(bq:aJ cQ M oA oc (aI d true (4*d.ae.length)))(gZ:aJ (eZ 87) M fA fc fv)(il:ia ib M fv (ai d))(kW:aJ aQ (M.un X.h) mh mf gone){gs:List Nat}(vU:gone=gs.map fun x:Nat=>(x:Int))(hn:d.ae.length<=16)(hab:aO d=true)(hlo:0<=d.loops/\d.loops<=16)(S:SH w M X [Rs.cV [Rs.box dO 63 [.pointer (some ⟨ggs,0,none⟩),.slice fA fv.length fc],Rs.box ggs 66 [dY,.int .i64 d.loops,.slice iA (aI d false (4*d.ae.length)).length ic,.slice oA (aI d true (4*d.ae.length)).length oc],Rs.row bu dY d.ae]]):Cm 97 [.pointer (some ⟨dO,0,none⟩),.slice mh gone.length mf] w M X (mL d gs) (HA dO ggs (.slice fA fv.length fc) (.slice iA (aI d false (4*d.ae.length)).length ic) (.slice oA (aI d true (4*d.ae.length)).length oc) (ik d (cG gs))):=by
 unfold Cm
 replace S:=S.se
 have Us:gone.length*8<=140737488355328:=kW.room
 obtain⟨cA,cc,kU,_⟩:=S.sl (i:=2) rfl
 refine cw (b:=Z3f) Tryz.func97 rfl Tryz.ntmps97 rfl (fun C hC=>(cB [0,1] rfl (ar (af 2 rfl (ag rfl (az rfl kX rfl mW mN) (ag rfl (aw rfl lB (S.bc 0 rfl rfl)) (af 1 rfl (aj rfl (eo rfl rfl rfl rfl rfl rfl rfl ahF S (aa7 d gone (SH.oh (N:=[]) (i:=1) S rfl (by rw[kU])) (SH.vA (N:=[]) (i:=2) S rfl kU (by show _*40<=_;omega)) (hsi.mono (Hp.cM _ _)) (bq.mono (Hp.cM _ _)) (kW.mono S.bn) vU hn hab (by omega) S.aT) ?_)))))))))
 intro vw1 w1 M1 bh S1 ajP;clear S
 replace hsi:=hsi.mono bh
 replace bq:=bq.mono bh
 replace gZ:=gZ.mono bh
 replace il:=il.mono bh
 replace kW:=kW.mono (Hp.aD bh S1.mx)
 obtain⟨A1,c1,rfl,hr1⟩:=ajP
 refine aj rfl (bW (l:=[_,_]) rfl rfl rfl jo rfl S1 ?_)
 intro aP w2 S2;clear S1
 refine aj rfl (bH 0 [_,_] [_,_] [_,_,_,_] rfl S2 rfl rfl aN rfl rfl ?_)
 intro w3 S3;clear S2
 refine bL [0,4] rfl (ag rfl (az rfl aM rfl aY aX) (ag rfl (aw rfl aG (S3.bc 0 rfl rfl)) (af 1 rfl ?_)))
 refine eN (t:=13) rfl (fun OH=>?_) (fun OH=>?_)
 ·refine aj rfl (dU rfl rfl rfl rfl rfl rfl rfl og S3 (zY 2 S3.aT) ?_)
  rintro _ w4 S4 rfl;clear S3
  refine ax [0,4] rfl (dH S4 8 ?_)
  clear S4
  refine aK 6 [0,1] rfl (aS 2 rfl (az rfl kX rfl mW mN) (ay 3 rfl (fun ah Sz=>aw rfl lB (Sz.suf.bc 1 rfl rfl)) (ay 4 rfl (fun ah Sz=>aU [_,_] rfl aM aN (Sz.suf.bs 0 rfl rfl)) (aK 2 [5] rfl (aS 6 rfl (az rfl jy rfl jZ jX) (cm 7 rfl (fun ng cF=>((bH 2 [_,_] [_,_,_,_] [_,_,_,_] rfl cF rfl rfl aN rfl rfl ?_)))))))))
  intro lH ct;clear cF
  refine ij ct ?_;clear ct
  change WA _ _ _ _ _ _ _ _ _ _ _ _ [_,_,_,_]
  refine cD (fun ow cS=>(l8 hC [] rfl trivial ?_))
  have fS:mL d gs=0:=by unfold mL;rw[if_pos OH]
  refine .inl ⟨fS,_,rfl,_,_,bh,(cS.pick [1,2] [_,_] (by decide) ⟨rfl,rfl,trivial⟩).cV,?_⟩
  exact⟨rfl,_,_,rfl,hr1⟩
 ·have fS:mL d gs=2:=by unfold mL;rw[if_neg OH]
  refine vK (k:=3) rfl rfl rfl rfl rfl rfl rfl og S3 (vJ 2 S3.aT) ?_
  intro w9 M9 gU S9
  subst hC
  exact .inr ⟨by rw[fS];first|decide|assumption,by rw[fS],M9,(bh).trans gU,S9.pick [] [] (by decide) trivial⟩
noncomputable def Z3g:=Tryz.f76.body.getD .skip
set_option maxHeartbeats 1000000 in
set_option maxRecDepth 10000 in
theorem acX{w:World}{M:Hp}{X:Fr}(d:Dg){dO ggs:Nat}{dY:Value}{iA oA fA:Option Addr}{ic oc fc:Nat}{fv:List ei}(m:Mv)(hsi:aJ cQ M iA ic (aI d false (4*d.ae.length)))(bq:aJ cQ M oA oc (aI d true (4*d.ae.length)))(gZ:aJ (eZ 87) M fA fc fv)(il:ia ib M fv (ai d))(hn:d.ae.length<=16)(hab:aO d=true)(hlo:0<=d.loops/\d.loops<=16)(S:SH w M X [Rs.cV [Rs.box dO 63 [.pointer (some ⟨ggs,0,none⟩),.slice fA fv.length fc],Rs.box ggs 66 [dY,.int .i64 d.loops,.slice iA (aI d false (4*d.ae.length)).length ic,.slice oA (aI d true (4*d.ae.length)).length oc],Rs.row bu dY d.ae]]):Cm 76 [.pointer (some ⟨dO,0,none⟩),.agg [.int .i64 m.kd,.int .i64 m.at_,.int .i64 m.dG,.int .i64 m.ua,.bool m.ub,.int .i64 m.va,.bool m.vb,.bool m.ov].toArray] w M X (jW d m) (HA dO ggs (.slice fA fv.length fc) (.slice iA (aI d false (4*d.ae.length)).length ic) (.slice oA (aI d true (4*d.ae.length)).length oc) (C9 d m)):=by
 unfold Cm
 replace S:=S.se
 obtain⟨cA,cc,kU,_⟩:=S.sl (i:=2) rfl
 refine cw (b:=Z3g) Tryz.func76 rfl Tryz.ntmps76 rfl (fun C hC=>(cB [0,1] rfl (ar (aj rfl (dx (l:=[_,_,_,_,_,_,_,_]) rfl rfl rfl rfl rfl S ?_)))))
 intro aP w1 S1;clear S
 refine bL [0,3] rfl (af 1 rfl (ag rfl (az rfl eT rfl aY aX) (ag rfl (aw rfl aG (S1.bc 0 rfl rfl)) (aj rfl (dU rfl rfl rfl rfl rfl rfl rfl Pj S1 (Ll d m.at_ (SH.oh (N:=[]) (i:=1) S1 rfl rfl) (SH.oh (N:=[]) (i:=2) S1 rfl (by rw[kU])) (SH.vA (N:=[]) (i:=3) S1 rfl kU (by show _*40<=_;omega)) (hsi.mono (Hp.cM _ _)) (bq.mono (Hp.cM _ _)) (by omega) S1.aT) ?_)))))
 rintro _ w2 S2 rfl;clear S1
 refine eN (t:=10) rfl (fun FQ=>?_) (fun FQ=>?_)
 ·refine aj rfl (dU rfl rfl rfl rfl rfl rfl rfl og S2 (zY 3 S2.aT) ?_)
  rintro _ w3 S3 rfl;clear S2
  refine bM [0,3] rfl (dH S3 14 ?_)
  clear S3
  refine aK 12 [0,1] rfl (aS 2 rfl (az rfl kX rfl mW mN) (ay 3 rfl (fun ah Sz=>aw rfl lB (Sz.suf.bc 1 rfl rfl)) (aK 9 [4] rfl (aS 5 rfl (az rfl jy rfl jZ jX) (aS 6 rfl (az rfl aM rfl dN dM) (ay 7 rfl (fun ah Sz=>aw rfl cE (Sz.suf.bc 2 rfl rfl)) (aS 8 rfl (az rfl eT rfl aY aX) (ay 9 rfl (fun ah Sz=>aw rfl aG (Sz.suf.bc 0 rfl rfl)) ?_))))))))
  refine tN 21 (.int .i64 ((m.at_.toNat:Nat):Int)) rfl (int_eq (by omega)) ?_
  refine ay 10 rfl (fun ah Sz=>bS (i:=3) m.at_.toNat rfl fX Sz.suf rfl) (ay 11 rfl (fun ah Sz=>aU [_,_,_,_,_] rfl b6 fN (Sz.suf.qY (i:=3) (e:=m.at_.toNat) (j:=0) rfl (by first|omega|(simp only[ls];omega)) ⟨rfl,rfl,rfl,rfl,rfl,trivial⟩)) ?_)
  refine cm 12 rfl (fun pU bY=>((bW (l:=[_,_,_,_,_]) rfl rfl rfl vt rfl bY ?_)))
  intro bJ vP dW;clear bY
  refine dB [_] [_,_,_,_,_] rfl dW ?_;clear dW
  refine cm 13 rfl (fun zu fM=>((bH 0 [_,_,_,_,_] [_,_,_,_,_] [_,_,_,_,_] rfl fM rfl rfl fN rfl rfl ?_)))
  intro vO eF;clear fM
  refine dB [_] [_,_,_,_,_] rfl eF ?_;clear eF
  refine cD (fun xU fx=>(cP [0,3,4] rfl (af 1 rfl (aB (di (ar (af 1 rfl (aB (bK ?_)))))))))
  refine bg ?_
  refine ck (fun aZ au aR=>∃(s9:Nat),aZ=4-s9/\Env 47 [(0,.pointer (some ⟨dO,0,none⟩)),(3,.pointer (some ⟨aP,0,none⟩)),(4,.pointer (some ⟨bJ,0,none⟩)),(5,.bool (curlN (ga d.ae m.at_.toNat) s9)),(24,.int .i64 (s9:Int))] au/\SH aR M X [Rs.box bJ 68 [.int .i64 ((ga d.ae m.at_.toNat).a),.int .i64 ((ga d.ae m.at_.toNat).b),.int .i64 ((ga d.ae m.at_.toNat).c),.int .i64 ((ga d.ae m.at_.toNat).d),.bool ((ga d.ae m.at_.toNat).plus)],Rs.box aP 35 [.int .i64 m.kd,.int .i64 m.at_,.int .i64 m.dG,.int .i64 m.ua,.bool m.ub,.int .i64 m.va,.bool m.vb,.bool m.ov],Rs.box dO 63 [.pointer (some ⟨ggs,0,none⟩),.slice fA fv.length fc],Rs.box ggs 66 [dY,.int .i64 d.loops,.slice iA (aI d false (4*d.ae.length)).length ic,.slice oA (aI d true (4*d.ae.length)).length oc],Rs.row bu dY d.ae]/\s9<=4) rfl ?_ ?_
  ·intro au aq
   refine⟨_,⟨0,rfl,aq.su rfl,fx.pick [0,1,2,3,4] [_,_,_,_,_] (by decide) ⟨rfl,rfl,rfl,rfl,rfl,trivial⟩,?dh⟩⟩
   case dh=>omega
  ·rintro m1 a1 DS ⟨s9,rfl,bN,jw,vV⟩
   clear fx
   refine cy bN ?_
   clear bN a1
   refine ar (af 1 rfl (aB (di ?_)))
   refine bp rfl (fun ajG=>?_) (fun ajG=>?_)
   ·refine aV (bC [0,3,4,5,24] rfl (bg (ar (af 2 rfl (ax [0,3,4,5,24,6] rfl (dH jw 13 ?_))))))
    clear jw
    refine aK 11 [0,1] rfl ?_
    refine Ls (t:=28) rfl (fun OY=>?_) (fun OY=>?_)
    ·refine aK 5 [2,3,4,5,6,7] rfl (aK 0 [8,9,10,11,12] rfl (cD (fun sY fG=>(bE (aW [0,3,4,5,24] rfl (iZ 5 (.bool (curlN (ga d.ae m.at_.toNat) (s9+1))) rfl (by show Value.bool _=Value.bool (curlN _ s9||_);rw[OY];rfl) ?_))))))
     refine aH (ag rfl (bj rfl) (af 1 rfl (aB (br ?_))))
     intro au aq
     refine⟨_,?fK,⟨s9+1,rfl,aq.su rfl,fG.pick [0,1,2,3,4] [_,_,_,_,_] (by decide) ⟨rfl,rfl,rfl,rfl,rfl,trivial⟩,?dv⟩⟩
     case dv=>omega
     case fK=>omega
    ·refine ay 2 rfl (fun ah Sz=>aU [_,_,_,_,_] rfl b6 fN (Sz.suf.bs 0 rfl rfl)) (aK 9 [3] rfl (dQ 4 rfl (fun ah Sz=>dZ rfl rfl rfl rfl rfl Dt Sz (C7 (ga d.ae m.at_.toNat) s9 (by omega) Sz.aT)) ?_))
     refine ay 5 rfl (fun ah Sz=>aU [_,_,_,_,_] rfl b6 fN (Sz.suf.bs 0 rfl rfl)) (aK 6 [6] rfl (aS 7 rfl (bj rfl) (aS 8 rfl (rF rfl rfl rfl (by first|omega|(simp only[ls];omega))) ?_)))
     refine tN 35 (.int .i64 (((s9+1)%4:Nat):Int)) rfl (int_eq (by omega)) ?_
     refine dQ 9 rfl (fun ah Sz=>dZ rfl rfl rfl rfl rfl Dt Sz (C7 (ga d.ae m.at_.toNat) ((s9+1)%4) (by omega) Sz.aT)) ?_
     refine aK 0 [10,11,12] rfl (cD (fun DN jc=>(bE (aW [0,3,4,5,24] rfl (iZ 5 (.bool (curlN (ga d.ae m.at_.toNat) (s9+1))) rfl (by show Value.bool _=Value.bool (curlN _ s9||_);rw[OY];rfl) ?_)))))
     refine aH (ag rfl (bj rfl) (af 1 rfl (aB (br ?_))))
     intro au aq
     refine⟨_,?kr,⟨s9+1,rfl,aq.su rfl,jc.pick [0,1,2,3,4] [_,_,_,_,_] (by decide) ⟨rfl,rfl,rfl,rfl,rfl,trivial⟩,?fg⟩⟩
     case fg=>omega
     case kr=>omega
   ·refine bX rfl (bC [0,3,5] rfl ?_)
    obtain rfl:s9=4:=by omega
    refine aH (af 1 rfl ?_)
    refine uE (t:=40) rfl (fun xe=>?_) (fun xe=>?_)
    ·refine aj rfl (dU rfl rfl rfl rfl rfl rfl rfl og jw (zY 8 jw.aT) ?_)
     rintro _ GI oJ rfl;clear jw
     refine ax [0,3] rfl (aH (af 1 rfl (ag rfl (az rfl eT rfl aY aX) (ag rfl (aw rfl aG (oJ.bc 1 rfl rfl)) (dz 44 (.int .i64 ((m.at_.toNat:Nat):Int)) rfl (int_eq (by omega)) ?_)))))
     refine aj rfl (eQ (C:=aQ) (l:=[_]) rfl rfl rfl rfl bt rfl rfl rfl rfl oJ ?_)
     intro dE DM iU;clear oJ
     by_cases LX:mL d [m.at_.toNat]=0
     ·have nQ:=iU.pick [3,4,5,0,1,2] [_,_,_,_,_,_] (by decide) ⟨rfl,rfl,rfl,rfl,rfl,rfl,trivial⟩;clear iU
      have kL:SH _ _ _ (Rs.cV [_,_,_]::[_,_,_]):=SH.qy (A:=[_,_,_]) (B:=[_,_,_]) nQ;clear nQ
      have jV:SH _ _ _ [_,_,_,_]:=kL.less (i:=0) rfl
      have hr1:=jV.LV (C:=aQ) (z:=((m.at_.toNat:Nat):Int)) (i:=1) rfl rfl (by decide)
      have pq:=I8 d ([((m.at_.toNat:Nat):Int)]) hsi bq gZ il hr1 (gs:=[m.at_.toNat]) rfl hn hab hlo (kL.mH (i:=0) rfl)
      clear jV
      refine aj rfl (r9 (i:=0) rfl rfl rfl rfl rfl rfl rfl JW kL rfl (pq.ok LX) ?_)
      intro amq xQ M30 amU nW ma uW;clear kL
      obtain⟨rfl,A1,c1,rfl,hr2⟩:=uW
      replace hsi:=hsi.mono nW
      replace bq:=bq.mono nW
      replace gZ:=gZ.mono nW
      replace il:=il.mono nW
      replace ma:SH _ _ _ (Rs.cV [_,_]::[_,_,_]):=ma
      have tH:SH _ _ _ [_,_,_,_,_]:=SH.rX (A:=[_,_]) (B:=[_,_,_]) ma;clear ma
      refine aB (l8 hC [] rfl trivial ?_)
      have fS:jW d m=0:=by unfold jW;rw[if_pos FQ,if_pos xe];exact LX
      refine .inl ⟨fS,_,rfl,_,_,nW,(tH.pick [0,1] [_,_] (by decide) ⟨rfl,rfl,trivial⟩).cV,?_⟩
      exact⟨rfl,_,_,rfl,hr2⟩
     ·have fS:jW d m=mL d [m.at_.toNat]:=by unfold jW;rw[if_pos FQ,if_pos xe]
      have pg:=iU.pick [3,4,5,0,1,2] [_,_,_,_,_,_] (by decide) ⟨rfl,rfl,rfl,rfl,rfl,rfl,trivial⟩;clear iU
      have jG:SH _ _ _ (Rs.cV [_,_,_]::[_,_,_]):=SH.qy (A:=[_,_,_]) (B:=[_,_,_]) pg;clear pg
      have kK:SH _ _ _ [_,_,_,_]:=jG.less (i:=0) rfl
      have hr3:=kK.LV (C:=aQ) (z:=((m.at_.toNat:Nat):Int)) (i:=1) rfl rfl (by decide)
      have tM:=I8 d ([((m.at_.toNat:Nat):Int)]) hsi bq gZ il hr3 (gs:=[m.at_.toNat]) rfl hn hab hlo (jG.mH (i:=0) rfl)
      refine vK (k:=4) rfl rfl rfl rfl rfl rfl rfl JW kK (tM.no LX) ?_
      intro w9 M9 gU S9
      subst hC
      exact .inr ⟨by rw[fS];first|decide|assumption,by rw[fS],M9,(Hp.le_refl _).trans gU,S9.pick [] [] (by decide) trivial⟩
    ·have fS:jW d m=8:=by unfold jW;rw[if_pos FQ,if_neg (by rw[xe];exact Bool.false_ne_true)]
     refine vK (k:=1) rfl rfl rfl rfl rfl rfl rfl og jw (vJ 8 jw.aT) ?_
     intro w9 M9 gU S9
     subst hC
     exact .inr ⟨by rw[fS];first|decide|assumption,by rw[fS],M9,(Hp.le_refl _).trans gU,S9.pick [] [] (by decide) trivial⟩
 ·have fS:jW d m=3:=by unfold jW;rw[if_neg FQ]
  refine vK (k:=4) rfl rfl rfl rfl rfl rfl rfl og S2 (vJ 3 S2.aT) ?_
  intro w9 M9 gU S9
  subst hC
  exact .inr ⟨by rw[fS];first|decide|assumption,by rw[fS],M9,(Hp.le_refl _).trans gU,S9.pick [] [] (by decide) trivial⟩
end Go.Proofs.YtcohmplpgcddiaaGreatDoor
namespace Go.Proofs.YtcohmplpgcddiaaGreatDoor
open Go.ChangeShapes Go.WideShapes Go.ChangeAt Go.RowKit
def upd{α:Type}(h:Nat->α)(e:Nat)(v:α)(k:Nat):α:=if k=e then v else h k
end Go.Proofs.YtcohmplpgcddiaaGreatDoor
namespace Go.Proofs.YtcohmplpgcddiaaGreatDoor
open Go.ChangeShapes Go.WideShapes Go.ChangeAt Go.RowKit
noncomputable def Z3h:=Tryz.f124.body.getD .skip
set_option maxRecDepth 10000 in
theorem aav{w:World}{M:Hp}{X:Fr}(s:List (List Da)){sA:Option Addr}{sc:Nat}{sv:List ei}(fv:FuncId)(cap:List Value)(p:List Da->Bool)(hs:aJ (eZ 87) (M.un X.h) sA sc sv)(hds:ia ib (M.un X.h) sv s)(hen:∀args w,(callFunc fv args).run Tryz.prog w=.ok (.enter fv args) w)(hf:∀(w:World) (Y:Fr),(M.un X.h).le (M.un Y.h)->SH w M Y []->∀(A:Option Addr) (c:Nat) (x:List Da),x∈s->aJ ib (M.un Y.h) A c x->Cq Tryz.prog fv ([.slice A x.length c]++cap) w M Y (fun u=>u=.bool (p x)))(S:SH w M X []):Cq Tryz.prog 124 [.slice sA sv.length sc,.func (.func fv) #[] cap.toArray] w M X (fun u=>u=.int .i64 (y8 p s)):=by
 unfold Cq
 have Df:sv.length*24<=140737488355328:=hs.room
 refine cw (b:=Z3h) Tryz.func124 rfl Tryz.ntmps124 rfl (fun C hC=>(cB [0,1] rfl (ar (af 1 rfl (bM [0,1] rfl (ar (af 1 rfl (ag rfl (cK rfl qo) (af 1 rfl ?_)))))))))
 refine ax [0,1,7,8] rfl (bg ?_)
 refine ck (fun aZ au aR=>∃(k:Nat),aZ=s.length-k/\Env 19 [(0,.slice sA sv.length sc),(1,.func (.func fv) #[] cap.toArray),(7,.int .i64 (sv.length:Int)),(8,.int .i64 (k:Int))] au/\SH aR M X []/\k<=s.length/\(∀j,j<k->p (ga s j)=false)) rfl ?_ ?_
 ·intro au aq
  refine⟨_,⟨0,rfl,aq.su rfl,S.pick [] [] (by decide) trivial,?dh,?dC⟩⟩
  case dh=>(have:=hds.1;omega)
  case dC=>(intro j hj;omega)
 ·rintro m1 a1 w1 ⟨k,rfl,bN,S1,hk,hno⟩
  clear S
  refine cy bN ?_
  clear bN a1
  have hsl:=hds.1
  refine ar (af 1 rfl (aB (di ?_)))
  refine bp rfl (fun oH=>?_) (fun oH=>?_)
  ·refine aV (bC [0,1,7,8] rfl (bg (ar (af 2 rfl (bL [0,1,7,8,5] rfl (af 3 rfl (ag rfl (cN k rfl qp hs) ?_)))))))
   obtain⟨kG,hr1⟩:=hds.2 k (by first|omega|(simp only[ls];omega))
   have Nq:(ga s k).length*16<=140737488355328:=hr1.room
   refine ag rfl (aw rfl nG (hs.cell S1.um (i:=k) (by first|omega|(simp only[ls];omega)) 0 rfl (congrArg (fun n=>some (Value.slice _ n _)) kG))) ?_
   refine aj rfl (aex rfl rfl rfl rfl rfl rfl rfl hen S1 (hf _ _ S1.bn S1.aT _ _ _ (cY (by omega)) (hr1.mono S1.bn)) ?_)
   rintro _ w2 S2 rfl;clear S1
   refine ax [0,1,7,8,5,16] rfl ?_
   refine gB rfl (fun uv=>?_) (fun uv=>?_)
   ·refine ar (af 2 rfl (ax [4] rfl (bU hC rfl ?_)))
    exact⟨_,rfl,(S2.pick [] [] (by decide) trivial),(by rw[TL (by omega) uv hno];rfl)⟩
   ·refine aV (bE (aW [0,1,7,8] rfl (aH (ag rfl (bj rfl) (af 1 rfl (aB (br ?_)))))))
    intro au aq
    refine⟨_,?fK,⟨k+1,rfl,aq.su rfl,S2.pick [] [] (by decide) trivial,?dv,?dL⟩⟩
    case dv=>omega
    case dL=>(intro j hj;by_cases h:j=k;(subst h;exact uv);exact hno j (by omega))
    case fK=>omega
  ·refine bX rfl (cP [] rfl (af 1 rfl (aB (bK (bU hC rfl ?_)))))
   exact⟨_,rfl,(S1.pick [] [] (by decide) trivial),(by rw[SJ (fun j hj=>hno j (by omega))];rfl)⟩
noncomputable def Z3i:=Tryz.f98.body.getD .skip
set_option maxRecDepth 10000 in
theorem aaf{w:World}{M:Hp}{X:Fr}(s:List (List Da)){sA:Option Addr}{sc:Nat}{sv:List ei}(fv:FuncId)(cap:List Value)(p:List Da->Bool)(hs:aJ (eZ 87) (M.un X.h) sA sc sv)(hds:ia ib (M.un X.h) sv s)(hen:∀args w,(callFunc fv args).run Tryz.prog w=.ok (.enter fv args) w)(hf:∀(w:World) (Y:Fr),(M.un X.h).le (M.un Y.h)->SH w M Y []->∀(A:Option Addr) (c:Nat) (x:List Da),x∈s->aJ ib (M.un Y.h) A c x->Cq Tryz.prog fv ([.slice A x.length c]++cap) w M Y (fun u=>u=.bool (p x)))(S:SH w M X []):Cq Tryz.prog 98 [.slice sA sv.length sc,.func (.func fv) #[] cap.toArray] w M X (fun u=>u=.bool (s.any p)):=by
 unfold Cq
 have Df:sv.length*24<=140737488355328:=hs.room
 refine cw (b:=Z3i) Tryz.func98 rfl Tryz.ntmps98 rfl (fun C hC=>(cB [0,1] rfl (ar (af 1 rfl (bL [0,1] rfl (af 2 rfl (aj rfl (dU rfl rfl rfl rfl rfl rfl rfl ahD S (aav s fv cap p (hs.mono S.bn) (hds.mono S.bn) hen (fun w Y hl S9=>hf w Y (S.bn.trans hl) S9) S.aT) ?_))))))))
 rintro _ w1 S1 rfl;clear S
 refine af 2 rfl (ax [4] rfl (bU hC rfl ?_))
 exact⟨_,rfl,(S1.pick [] [] (by decide) trivial),(by show Value.bool _=_;rw[<-TM])⟩
end Go.Proofs.YtcohmplpgcddiaaGreatDoor
