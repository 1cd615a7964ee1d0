/- Part 5 of the proof of the law TableSeeks: the walks through its functions and the plain laws that they need. -/
import Derived.Test.YtcohmplpgcddiaaGreatDoorSmZ4
import Derived.Test.YtcohmplpgcddiaaGreatDoorProg
set_option linter.unusedSimpArgs false
set_option linter.unusedVariables false
noncomputable section
namespace Go.Proofs.YtcohmplpgcddiaaGreatDoor
open Go.ChangeShapes Go.WideShapes Go.ChangeAt Go.RowKit
def nD(ws:List Int)(x y:Nat):List Int:=if ga ws x<ga ws y then ws.set y (ga ws x)else ws.set x (ga ws y)
def iniW(n:Nat):Nat->List Int
 |0=>List.replicate n 0
 |k+1=>(iniW n k).set k (k:Int)
def iX(d:Dg)(k:Nat)(b:Bool):Nat:=(aF d ((k+1:Nat):Int) b).1
def z8(d:Dg)(ws:List Int):Nat->List Int
 |0=>ws
 |k+1=>nD (z8 d ws k) (iX d k false) (iX d k true)
def Ap(d:Dg):Nat->List Int
 |0=>iniW d.ae.length d.ae.length
 |j+1=>z8 d (Ap d j) (2*d.ae.length)
def fC(d:Dg):List Int:=Ap d d.ae.length
theorem La(ws:List Int)(x y:Nat):(nD ws x y).length=ws.length:=by
 unfold nD
 split<;>rw[List.length_set]
theorem zi(n k:Nat):(iniW n k).length=n:=by
 induction k with
 |zero=>exact List.length_replicate
 |succ k ih=>rw[iniW,List.length_set,ih]
theorem RQ(d:Dg)(ws:List Int)(k:Nat):(z8 d ws k).length=ws.length:=by
 induction k with
 |zero=>rfl
 |succ k ih=>rw[z8,La,ih]
theorem Eg(d:Dg)(j:Nat):(Ap d j).length=d.ae.length:=by
 induction j with
 |zero=>exact zi _ _
 |succ j ih=>rw[Ap,RQ,ih]
theorem EB{d:Dg}(h:aO d=true){k:Nat}(hk:k<2*d.ae.length)(b:Bool):iX d k b<d.ae.length:=(fO h (a:=((k+1:Nat):Int)) (by omega) b).1
noncomputable def Z2m:=Tryz.f34.body.getD .skip
set_option maxHeartbeats 1000000 in
set_option maxRecDepth 10000 in
theorem R7{w:World}{M:Hp}{X:Fr}(d:Dg){bz:Option Addr}{bw:Nat}(aC:aJ bu (M.un X.h) bz bw d.ae)(hn:d.ae.length<=16)(hab:aO d=true)(S:SH w M X []):Ct Tryz.prog 34 [.agg [.slice bz d.ae.length bw,.int .i64 d.loops].toArray] w M X (fun u M=>∃A c,u=.slice A (fC d).length c/\aJ aQ M A c (fC d)):=by
 unfold Ct
 have iL:d.ae.length*40<=140737488355328:=aC.room
 refine cw (b:=Z2m) Tryz.func34 rfl Tryz.ntmps34 rfl (fun C hC=>(cB [0] rfl (ar (aj rfl (dx (l:=[_,_]) rfl rfl rfl rfl rfl S ?_)))))
 intro aP w1 S1;clear S
 refine af 1 rfl (bL [1] rfl (ag rfl (az rfl aM rfl dN dM) (ag rfl (aw rfl cE (S1.bc 0 rfl rfl)) (ag rfl (cK rfl cE) (af 1 rfl (bL [1,3] rfl (af 1 rfl (aj rfl (sP (C:=aQ) d.ae.length rfl rfl rfl rfl rfl bt (by first|rfl|omega) (by show _*8<=_;first|omega|(simp only[ls];omega)) S1 ?_)))))))))
 intro s6 w2 S2;clear S1
 refine af 1 rfl (bM [1,3,4] rfl (ar (af 1 rfl (aB (bK (bg ?_))))))
 refine ck (fun aZ au aR=>∃(i:Nat) (ws:List Int) (pV:Value),aZ=d.ae.length-i/\Env 67 [(1,.pointer (some ⟨aP,0,none⟩)),(3,.int .i64 (d.ae.length:Int)),(4,pV),(5,.int .i64 (i:Int))] au/\SH aR M X [Rs.row aQ pV ws,Rs.box aP 24 [.slice bz d.ae.length bw,.int .i64 d.loops]]/\i<=d.ae.length/\ws=iniW d.ae.length i) rfl ?_ ?_
 ·intro au aq
  refine⟨_,⟨0,_,_,rfl,aq.su rfl,S2.pick [0,1] [_,_] (by decide) ⟨rfl,rfl,trivial⟩,?dh,?dC⟩⟩
  case dh=>omega
  case dC=>rfl
 ·rintro m1 a1 w3 ⟨i,ws,pV,rfl,bN,S3,hi,hw⟩
  clear S2
  refine cy bN ?_
  clear bN a1
  have hl1:ws.length=d.ae.length:=by rw[hw,zi]
  refine cJ (ar (af 3 rfl (ax [1,3,4,5,17] rfl ?_)))
  refine bp rfl (fun nI=>?_) (fun nI=>?_)
  ·refine aV (bC [1,3,4,5] rfl (bg (aH (af 3 rfl (ag rfl (bS (i:=0) i rfl bt S3 rfl) (aj rfl (iE (C:=aQ) (i:=0) (e:=i) (j:=0) (us:=[_]) (H':=[_,_]) (i:Int) rfl rfl S3 rfl (by first|omega|(simp only[ls];omega)) rfl rfl rfl gp rfl rfl rfl rfl ?_)))))))
   intro w4 S4;clear S3
   refine aB (bE (aW [1,3,4,5] rfl (aH (af 1 rfl (ag rfl (bj rfl) (af 1 rfl (aB (br ?_))))))))
   intro au aq
   refine⟨_,?fK,⟨i+1,_,_,rfl,aq.su rfl,S4.pick [0,1] [_,_] (by decide) ⟨rfl,rfl,trivial⟩,?dv,?dL⟩⟩
   case dv=>omega
   case dL=>(rw[hw];rfl)
   case fK=>omega
  ·refine bX rfl (bC [1,3,4] rfl (ar (af 1 rfl (aB (bK (bg ?_))))))
   refine ck (fun aZ au aR=>∃(j:Nat) (iF:List Int) (pG:Value),aZ=d.ae.length-j/\Env 67 [(1,.pointer (some ⟨aP,0,none⟩)),(3,.int .i64 (d.ae.length:Int)),(4,pG),(6,.int .i64 (j:Int))] au/\SH aR M X [Rs.row aQ pG iF,Rs.box aP 24 [.slice bz d.ae.length bw,.int .i64 d.loops]]/\j<=d.ae.length/\iF=Ap d j) rfl ?_ ?_
   ·intro au aq
    refine⟨_,⟨0,_,_,rfl,aq.su rfl,S3.pick [0,1] [_,_] (by decide) ⟨rfl,rfl,trivial⟩,?fg,?fR⟩⟩
    case fg=>omega
    case fR=>(obtain rfl:i=d.ae.length:=(by omega);exact hw)
   ·rintro m2 a2 w5 ⟨j,iF,pG,rfl,cU,S5,hj,hw2⟩
    clear S3
    refine cy cU ?_
    clear cU a2
    have hl2:iF.length=d.ae.length:=by rw[hw2,Eg]
    refine cJ (ar (af 3 rfl (ax [1,3,4,6,26] rfl ?_)))
    refine bp rfl (fun O9=>?_) (fun O9=>?_)
    ·refine aV (bC [1,3,4,6] rfl (bg (ar (af 1 rfl (aB (bK (bg ?_)))))))
     refine ck (fun aZ au aR=>∃(k:Nat) (vM:List Int) (AR:Value),aZ=2*d.ae.length-k/\Env 67 [(1,.pointer (some ⟨aP,0,none⟩)),(3,.int .i64 (d.ae.length:Int)),(4,AR),(6,.int .i64 (j:Int)),(7,.int .i64 ((k+1:Nat):Int))] au/\SH aR M X [Rs.row aQ AR vM,Rs.box aP 24 [.slice bz d.ae.length bw,.int .i64 d.loops]]/\k<=2*d.ae.length/\vM=z8 d iF k) rfl ?_ ?_
     ·intro au aq
      refine⟨_,⟨0,_,_,rfl,aq.su rfl,S5.pick [0,1] [_,_] (by decide) ⟨rfl,rfl,trivial⟩,?fJ,?fZ⟩⟩
      case fJ=>omega
      case fZ=>rfl
     ·rintro m3 a3 w6 ⟨k,vM,AR,rfl,fB,S6,hk,hw3⟩
      clear S5
      refine cy fB ?_
      clear fB a3
      have hl3:vM.length=d.ae.length:=by rw[hw3,RQ,hw2,Eg]
      refine cJ (ar (af 2 rfl (ag rfl (zV rfl rfl rfl (by first|omega|(simp only[ls];omega))) ?_)))
      refine af 1 rfl (ax [1,3,4,6,7,32] rfl ?_)
      refine bp rfl (fun ajF=>?_) (fun ajF=>?_)
      ·have hx:=EB hab (k:=k) (by omega) false
       have hy:=EB hab (k:=k) (by omega) true
       refine aV (bC [1,3,4,6,7] rfl (bg (cJ (dH S6 10 ?_))))
       clear S6
       refine ay 0 rfl (fun ah Sz=>aU [_,_] rfl aM aN (Sz.suf.bs 1 rfl rfl)) (aK 8 [1] rfl (dQ 2 rfl (fun ah Sz=>dZ rfl rfl rfl rfl rfl sJ Sz (sN d ((k+1:Nat):Int) false ((aC.mono (Hp.aD ah Sz.mx)).mono Sz.bn) Sz.aT)) (aS 3 rfl (rH rfl rfl dR rfl aG rfl rfl) (ay 4 rfl (fun ah Sz=>aU [_,_] rfl aM aN (Sz.suf.bs 1 rfl rfl)) (aK 4 [5] rfl (dQ 6 rfl (fun ah Sz=>dZ rfl rfl rfl rfl rfl sJ Sz (sN d ((k+1:Nat):Int) true ((aC.mono (Hp.aD ah Sz.mx)).mono Sz.bn) Sz.aT)) (aS 7 rfl (rH rfl rfl dR rfl aG rfl rfl) (aK 0 [8,9] rfl ?_))))))))
       refine cD (fun pU bY=>(bC [1,3,4,6,7,8,9] rfl (iZ 8 (.int .i64 ((iX d k false:Nat):Int)) rfl (int_eq rfl) (iZ 9 (.int .i64 ((iX d k true:Nat):Int)) rfl (int_eq rfl) (dH bY 9 ?_)))))
       clear bY
       refine aK 7 [0,1] rfl (ay 2 rfl (fun ah Sz=>bS (i:=0) (iX d k false) rfl bt Sz.suf rfl) (ay 3 rfl (fun ah Sz=>aw rfl aG (Sz.suf.dS (i:=0) (e:=iX d k false) (j:=0) rfl (by first|omega|(simp only[ls];omega)) rfl rfl)) ?_))
       refine aK 3 [4,5] rfl (ay 6 rfl (fun ah Sz=>bS (i:=0) (iX d k true) rfl bt Sz.suf rfl) (ay 7 rfl (fun ah Sz=>aw rfl aG (Sz.suf.dS (i:=0) (e:=iX d k true) (j:=0) rfl (by first|omega|(simp only[ls];omega)) rfl rfl)) ?_))
       refine aK 0 [8] rfl (cD (fun DR fU=>(aW [1,3,4,6,7,8,9,51] rfl ?_)))
       refine bp rfl (fun ajC=>?_) (fun ajC=>?_)
       ·refine aH (af 4 rfl (ag rfl (bS (i:=0) (iX d k false) rfl bt fU rfl) (ag rfl (aw rfl aG (fU.dS (i:=0) (e:=iX d k false) (j:=0) rfl (by first|omega|(simp only[ls];omega)) rfl rfl)) ?_)))
        refine ag rfl (bS (i:=0) (iX d k true) rfl bt fU rfl) (aj rfl (iE (C:=aQ) (i:=0) (e:=iX d k true) (j:=0) (us:=[_]) (H':=[_,_]) (ga vM (iX d k false)) rfl rfl fU rfl (by first|omega|(simp only[ls];omega)) rfl rfl rfl gp rfl rfl rfl rfl ?_))
        intro sY fG;clear fU
        refine aB (bE (aW [1,3,4,6,7] rfl (aH (af 1 rfl (ag rfl (bj rfl) (af 1 rfl (aB (br ?_))))))))
        intro au aq
        refine⟨_,?jq,⟨k+1,_,_,rfl,aq.su rfl,fG.pick [0,1] [_,_] (by decide) ⟨rfl,rfl,trivial⟩,?fI,?fY⟩⟩
        case fI=>omega
        case fY=>(show _=nD _ _ _;rw[<-hw3];unfold nD;first|rw[if_pos (by omega)]|rw[if_neg (by omega)])
        case jq=>omega
       ·refine aH (af 4 rfl (ag rfl (bS (i:=0) (iX d k true) rfl bt fU rfl) (ag rfl (aw rfl aG (fU.dS (i:=0) (e:=iX d k true) (j:=0) rfl (by first|omega|(simp only[ls];omega)) rfl rfl)) ?_)))
        refine ag rfl (bS (i:=0) (iX d k false) rfl bt fU rfl) (aj rfl (iE (C:=aQ) (i:=0) (e:=iX d k false) (j:=0) (us:=[_]) (H':=[_,_]) (ga vM (iX d k true)) rfl rfl fU rfl (by first|omega|(simp only[ls];omega)) rfl rfl rfl gp rfl rfl rfl rfl ?_))
        intro vN gH;clear fU
        refine aB (bE (aW [1,3,4,6,7] rfl (aH (af 1 rfl (ag rfl (bj rfl) (af 1 rfl (aB (br ?_))))))))
        intro au aq
        refine⟨_,?kq,⟨k+1,_,_,rfl,aq.su rfl,gH.pick [0,1] [_,_] (by decide) ⟨rfl,rfl,trivial⟩,?iB,?iW⟩⟩
        case iB=>omega
        case iW=>(show _=nD _ _ _;rw[<-hw3];unfold nD;first|rw[if_pos (by omega)]|rw[if_neg (by omega)])
        case kq=>omega
      ·refine bX rfl (bE (aW [1,3,4,6] rfl (aH (af 1 rfl (ag rfl (bj rfl) (af 1 rfl (aB (br ?_))))))))
       intro au aq
       refine⟨_,?mO,⟨j+1,_,_,rfl,aq.su rfl,S6.pick [0,1] [_,_] (by decide) ⟨rfl,rfl,trivial⟩,?jN,?jM⟩⟩
       case jN=>omega
       case jM=>(obtain rfl:k=2*d.ae.length:=(by omega);rw[hw3,hw2];rfl)
       case mO=>omega
    ·refine bX rfl (cP [4] rfl (af 2 rfl (ax [2] rfl ?_)))
     obtain⟨M20,WG,kj,⟨A1,c1,e1,hr1⟩⟩:=S5.gP (i:=0) (H':=[_,_]) rfl rfl (by show _*8<=_;first|omega|(simp only[ls];omega))
     clear S5;subst e1
     replace aC:=aC.mono (Hp.aD WG kj.mx)
     refine bU hC rfl ?_
     refine⟨_,rfl,_,WG,(kj.pick [] [] (by decide) trivial),?_⟩
     obtain rfl:j=d.ae.length:=by omega
     subst hw2
     exact⟨_,_,rfl,hr1⟩
end Go.Proofs.YtcohmplpgcddiaaGreatDoor
namespace Go.Proofs.YtcohmplpgcddiaaGreatDoor
open Go.ChangeShapes Go.WideShapes Go.ChangeAt Go.RowKit
theorem abr(nx:Nat->Nat)(seen:List Bool)(x:Nat)(acc:List Int):∃t,(ju nx seen x acc).2=acc++t:=by
 induction hk:free seen using Nat.strongRecOn generalizing seen x acc with
 |_ k ih=>
  by_cases h:x<seen.length/\ga seen x=false
  ·rw[zj h.1 h.2]
   have:=sU h.1 h.2
   obtain⟨t,ht⟩:=ih (free (seen.set x true)) (by omega) (seen.set x true) (nx x) (acc++[(x:Int)]) rfl
   exact⟨(x:Int)::t,by rw[ht];simp⟩
  ·refine⟨[],?_⟩
   rw[ju]
   simp[h]
theorem aaG(d:Dg)(k:Nat)(hk:k<=4*d.ae.length):∀r∈(gG d k).2,∃(c:Nat) (t:List Int),r=(c:Int)::t/\2<=c/\c<4*d.ae.length+2:=by
 induction k with
 |zero=>intro r hr;simp[gG]at hr
 |succ k ih=>
  by_cases hg:ga (gG d k).1 (k+2)=true
  ·rw[xL rfl hg];exact ih (by omega)
  ·rw[xK rfl (by simpa using hg) rfl]
   intro r hr
   rcases List.mem_append.1 hr with hr|hr
   ·exact ih (by omega) r hr
   ·rw[List.mem_singleton]at hr
    subst hr
    have hl:=DJ d k
    rw[zj (by omega) (by simpa using hg)]
    obtain⟨t,ht⟩:=abr (fP d) ((gG d k).1.set (k+2) true) (fP d (k+2)) ([]++[((k+2:Nat):Int)])
    exact⟨k+2,t,by rw[ht];rfl,by omega,by omega⟩
def hd0(d:Dg)(k:Nat):Da:=ga (ga (ai d) k) 0
theorem E3{d:Dg}{k:Nat}(hk:k<(ai d).length):0<(ga (ai d) k).length/\okD d (hd0 d k):=by
 have hm:ga (ai d) k∈ai d:=by rw[cZ hk];exact List.getElem_mem hk
 unfold ai CN at hm
 rw[List.mem_map]at hm
 obtain⟨r,hr,e⟩:=hm
 obtain⟨c,t,rfl,h1,h2⟩:=aaG d _ (Nat.le_refl _) r hr
 have e':ga (ai d) k=dA c::jY t:=e.symm
 refine⟨by rw[e'];simp,?_⟩
 unfold hd0
 rw[e']
 exact nE ⟨h1,h2⟩
def kJ(d:Dg)(k:Nat):Nat:=(aF d (hd0 d k).a (hd0 d k).b).1
theorem MR{d:Dg}(h:aO d=true){k:Nat}(hk:k<(ai d).length):kJ d k<d.ae.length:=(fO h (E3 hk).2 (hd0 d k).b).1
def negW(ws:List Int)(p:Int):Nat->Int
 |0=>0
 |k+1=>if ga ws k=p then negW ws p k-1 else negW ws p k
def pN(d:Dg)(ws:List Int)(p:Int)(m:Int):Nat->Int
 |0=>m
 |k+1=>if ga ws (kJ d k)=p then pN d ws p m k+1 else pN d ws p m k
def wF(d:Dg)(p:Nat):Bool:=decide (ga (fC d) p≠(p:Int))||decide (pN d (fC d) p (negW (fC d) p d.ae.length) (ai d).length=2)
def yA(d:Dg):Bool:=(List.range d.ae.length).all (wF d)
theorem TD{d:Dg}(h:∀p,p<d.ae.length->wF d p=true):yA d=true:=by
 unfold yA
 rw[List.all_eq_true]
 intro p hp
 exact h p (List.mem_range.1 hp)
theorem acu{d:Dg}{p:Nat}(hp:p<d.ae.length)(h:wF d p=false):yA d=false:=by
 unfold yA
 rw[List.all_eq_false]
 exact⟨p,List.mem_range.2 hp,by rw[h];decide⟩
theorem UF(ws:List Int)(p:Int)(k:Nat):-(k:Int)<=negW ws p k/\negW ws p k<=0:=by
 induction k with
 |zero=>simp[negW]
 |succ k ih=>rw[negW];split<;>omega
theorem adZ(d:Dg)(ws:List Int)(p m:Int)(k:Nat):m<=pN d ws p m k/\pN d ws p m k<=m+k:=by
 induction k with
 |zero=>simp[pN]
 |succ k ih=>rw[pN];split<;>omega
theorem BF(d:Dg):(ai d).length<=4*d.ae.length:=by
 unfold ai CN
 rw[List.length_map]
 exact HB d _
noncomputable def Z2n:=Tryz.f16.body.getD .skip
set_option maxHeartbeats 1000000 in
set_option maxRecDepth 10000 in
theorem K8{w:World}{M:Hp}{X:Fr}(d:Dg){bz:Option Addr}{bw:Nat}(aC:aJ bu (M.un X.h) bz bw d.ae)(hn:d.ae.length<=16)(hab:aO d=true)(S:SH w M X []):Ct Tryz.prog 16 [.agg [.slice bz d.ae.length bw,.int .i64 d.loops].toArray] w M X (fun u _=>u=.bool (yA d)):=by
 unfold Ct
 have iL:d.ae.length*40<=140737488355328:=aC.room
 refine cw (b:=Z2n) Tryz.func16 rfl Tryz.ntmps16 rfl (fun C hC=>(cB [0] rfl (ar (aj rfl (dx (l:=[_,_]) rfl rfl rfl rfl rfl S ?_)))))
 intro aP w1 S1;clear S
 refine af 1 rfl (bL [1] rfl (ag rfl (aU [_,_] rfl aM aN (S1.bs 0 rfl rfl)) (aj rfl (eo rfl rfl rfl rfl rfl rfl rfl Yw S1 (R7 d (aC.mono S1.bn) (hn) (hab) S1.aT) ?_))))
 intro sZ w2 M1 bh S2 kY;clear S1
 replace aC:=aC.mono (Hp.aD bh S2.mx)
 obtain⟨A1,c1,rfl,hr1⟩:=kY
 refine af 1 rfl (bL [1,3] rfl (ag rfl (aU [_,_] rfl aM aN (S2.bs 0 rfl rfl)) (aj rfl (eo rfl rfl rfl rfl rfl rfl rfl J0 S2 (HV d (aC.mono S2.bn) (hn) (hab) S2.aT) ?_))))
 intro xV w3 M2 hle2 S3 mV;clear S2
 replace aC:=aC.mono (Hp.aD hle2 S3.mx)
 replace hr1:=hr1.mono hle2
 obtain⟨A2,c2,vs1,rfl,hr2,hd1⟩:=mV
 have hfl:=hd1.1
 refine af 1 rfl (bM [1,3,4] rfl (ar (af 1 rfl (aB (bK (bg ?_))))))
 refine ck (fun aZ au aR=>∃(p:Nat),aZ=d.ae.length-p/\Env 71 [(1,.pointer (some ⟨aP,0,none⟩)),(3,.slice A1 (fC d).length c1),(4,.slice A2 vs1.length c2),(5,.int .i64 (p:Int))] au/\SH aR M2 X [Rs.box aP 24 [.slice bz d.ae.length bw,.int .i64 d.loops]]/\p<=d.ae.length/\(∀q,q<p->wF d q=true)) rfl ?_ ?_
 ·intro au aq
  refine⟨_,⟨0,rfl,aq.su rfl,S3.pick [0] [_] (by decide) ⟨rfl,trivial⟩,?dh,?dC⟩⟩
  case dh=>omega
  case dC=>(intro q hq;omega)
 ·rintro m1 a1 w4 ⟨p,rfl,bN,S4,hp,hall⟩
  clear S3
  refine cy bN ?_
  clear bN a1
  have DY:=Eg d d.ae.length
  replace DY:(fC d).length=d.ae.length:=DY
  have zD:=BF d
  refine cJ (ar (af 2 rfl (ag rfl (cK rfl dm) (af 1 rfl (ax [1,3,4,5,16] rfl ?_)))))
  refine bp rfl (fun uv=>?_) (fun uv=>?_)
  ·refine aV (bC [1,3,4,5] rfl (bg (cJ (ar (af 2 rfl (ag rfl (cN p rfl bt hr1) (ag rfl (aw rfl aG (hr1.cell S4.m (i:=p) (by first|omega|(simp only[ls];omega)) 0 rfl rfl)) ?_)))))))
   refine af 2 rfl (ax [1,3,4,5,24] rfl ?_)
   refine bp rfl (fun rA=>?_) (fun rA=>?_)
   ·refine bX rfl (aW [1,3,4,5] rfl (aH (af 1 rfl (ag rfl (bj rfl) (af 1 rfl (aB (br ?_)))))))
    intro au aq
    refine⟨_,?fK,⟨p+1,rfl,aq.su rfl,S4.pick [0] [_] (by decide) ⟨rfl,trivial⟩,?dv,?dL⟩⟩
    case dv=>omega
    case dL=>(intro q hq;by_cases h:q=p;(subst h;unfold wF;rw[Bool.or_eq_true];first|(left;exact decide_eq_true (by omega))|(right;exact decide_eq_true (by omega)));exact hall q (by omega))
    case fK=>omega
   ·refine aV (cP [1,3,4,5] rfl (af 1 rfl (aB (di (ar (af 1 rfl (aB (bK ?_))))))))
    refine bg ?_
    refine ck (fun aZ au aR=>∃(i:Nat) (m:Int),aZ=d.ae.length-i/\Env 71 [(1,.pointer (some ⟨aP,0,none⟩)),(3,.slice A1 (fC d).length c1),(4,.slice A2 vs1.length c2),(5,.int .i64 (p:Int)),(6,.int .i64 m),(7,.int .i64 (i:Int))] au/\SH aR M2 X [Rs.box aP 24 [.slice bz d.ae.length bw,.int .i64 d.loops]]/\i<=d.ae.length/\m=negW (fC d) p i) rfl ?_ ?_
    ·intro au aq
     refine⟨_,⟨0,_,rfl,aq.su rfl,S4.pick [0] [_] (by decide) ⟨rfl,trivial⟩,?fg,?fR⟩⟩
     case fg=>omega
     case fR=>rfl
    ·rintro m2 a2 w5 ⟨i,m,rfl,cU,S5,hi,hm⟩
     clear S4
     refine cy cU ?_
     clear cU a2
     have hnb:=UF (fC d) p i
     refine cJ (ar (af 2 rfl (ag rfl (cK rfl dm) (af 1 rfl (ax [1,3,4,5,6,7,28] rfl ?_)))))
     refine bp rfl (fun mR=>?_) (fun mR=>?_)
     ·refine aV (bC [1,3,4,5,6,7] rfl (bg (ar (af 2 rfl (ag rfl (cN i rfl bt hr1) (ag rfl (aw rfl aG (hr1.cell S5.m (i:=i) (by first|omega|(simp only[ls];omega)) 0 rfl rfl)) ?_))))))
      refine af 2 rfl (ax [1,3,4,5,6,7,36] rfl ?_)
      refine bp rfl (fun oa=>?_) (fun oa=>?_)
      ·refine aH (af 1 rfl (ag rfl (zU rfl rfl rfl (by first|omega|(simp only[ls];omega))) ?_))
       refine af 1 rfl (aB (bE (aW [1,3,4,5,6,7] rfl (aH (af 1 rfl (ag rfl (bj rfl) (af 1 rfl (aB ?_))))))))
       refine br ?_
       intro au aq
       refine⟨_,?jr,⟨i+1,_,rfl,aq.su rfl,S5.pick [0] [_] (by decide) ⟨rfl,trivial⟩,?fJ,?fZ⟩⟩
       case fJ=>omega
       case fZ=>(rw[negW,hm];first|rw[if_pos (by omega)]|rw[if_neg (by omega)])
       case jr=>omega
      ·refine aV (bE (aW [1,3,4,5,6,7] rfl (aH (af 1 rfl (ag rfl (bj rfl) (af 1 rfl (aB (br ?_))))))))
       intro au aq
       refine⟨_,?jq,⟨i+1,_,rfl,aq.su rfl,S5.pick [0] [_] (by decide) ⟨rfl,trivial⟩,?fI,?fY⟩⟩
       case fI=>omega
       case fY=>(rw[negW,hm];first|rw[if_pos (by omega)]|rw[if_neg (by omega)])
       case jq=>omega
     ·refine bX rfl (bC [1,3,4,5,6] rfl (ar (af 1 rfl (aB (bK (bg ?_))))))
      refine ck (fun aZ au aR=>∃(k:Nat) (m2:Int),aZ=(ai d).length-k/\Env 71 [(1,.pointer (some ⟨aP,0,none⟩)),(3,.slice A1 (fC d).length c1),(4,.slice A2 vs1.length c2),(5,.int .i64 (p:Int)),(6,.int .i64 m2),(8,.int .i64 (k:Int))] au/\SH aR M2 X [Rs.box aP 24 [.slice bz d.ae.length bw,.int .i64 d.loops]]/\k<=(ai d).length/\m2=pN d (fC d) p (negW (fC d) p d.ae.length) k) rfl ?_ ?_
      ·intro au aq
       refine⟨_,⟨0,_,rfl,aq.su rfl,S5.pick [0] [_] (by decide) ⟨rfl,trivial⟩,?iB,?iW⟩⟩
       case iB=>omega
       case iW=>(rw[hm,show i=d.ae.length by omega];rfl)
      ·rintro m3 a3 w6 ⟨k,m2,rfl,fB,S6,hk,hm2⟩
       clear S5
       refine cy fB ?_
       clear fB a3
       have hnb:=UF (fC d) p d.ae.length
       have hfb:=adZ d (fC d) p (negW (fC d) p d.ae.length) k
       refine cJ (ar (af 2 rfl (ag rfl (cK rfl qo) (af 1 rfl (ax [1,3,4,5,6,8,42] rfl ?_)))))
       refine bp rfl (fun F7=>?_) (fun F7=>?_)
       ·have hhd:=E3 (d:=d) (k:=k) (by omega)
        have hfc:=MR hab (k:=k) (by omega)
        obtain⟨hh0,hok⟩:=hhd
        have Qp:kJ d k=(aF d (ga (ga (ai d) k) 0).a (ga (ga (ai d) k) 0).b).1:=rfl
        rw[Qp]at hfc
        refine aV (bC [1,3,4,5,6,8] rfl (bg (cJ (dH S6 22 ?_))))
        clear S6
        refine aK 21 [0] rfl (ay 1 rfl (fun ah Sz=>aU [_,_] rfl aM aN (Sz.suf.bs 0 rfl rfl)) (aK 18 [2,3] rfl (ay 4 rfl (fun ah Sz=>cN k rfl qp (hr2.mono ah)) ?_)))
        obtain⟨kG,hr3⟩:=hd1.2 k (by first|omega|(simp only[ls];omega))
        have Wh:(ga (ai d) k).length*16<=140737488355328:=hr3.room
        refine ay 5 rfl (fun ah Sz=>aw rfl nG ((hr2.mono ah).cell Sz.m (i:=k) (by first|omega|(simp only[ls];omega)) 0 rfl (congrArg (fun n=>some (Value.slice _ n _)) kG))) ?_
        refine ay 6 rfl (fun ah Sz=>cN 0 rfl mM (hr3.mono ah)) (aS 7 rfl (az rfl eA rfl aY aX) (ay 8 rfl (fun ah Sz=>aw rfl aG ((hr3.mono ah).cell Sz.m (i:=0) (by first|omega|(simp only[ls];omega)) 0 rfl rfl)) ?_))
        refine aK 11 [9,10] rfl (ay 11 rfl (fun ah Sz=>cN k rfl qp (hr2.mono ah)) ?_)
        obtain⟨mv,hr4⟩:=hd1.2 k (by first|omega|(simp only[ls];omega))
        have Fj:(ga (ai d) k).length*16<=140737488355328:=hr4.room
        refine ay 12 rfl (fun ah Sz=>aw rfl nG ((hr2.mono ah).cell Sz.m (i:=k) (by first|omega|(simp only[ls];omega)) 0 rfl (congrArg (fun n=>some (Value.slice _ n _)) mv))) ?_
        refine ay 13 rfl (fun ah Sz=>cN 0 rfl mM (hr4.mono ah)) (aS 14 rfl (az rfl eA rfl lM lJ) (ay 15 rfl (fun ah Sz=>aw rfl gY ((hr4.mono ah).cell Sz.m (i:=0) (by first|omega|(simp only[ls];omega)) 1 rfl rfl)) ?_))
        refine dQ 16 rfl (fun ah Sz=>dZ rfl rfl rfl rfl rfl sJ Sz (sN d ((ga (ga (ai d) k) 0).a) ((ga (ga (ai d) k) 0).b) ((aC.mono (Hp.aD ah Sz.mx)).mono Sz.bn) Sz.aT)) (aS 17 rfl (rH rfl rfl dR rfl aG rfl rfl) (ay 18 rfl (fun ah Sz=>cN ((aF d ((ga (ga (ai d) k) 0).a) ((ga (ga (ai d) k) 0).b)).1) rfl bt (hr1.mono ah)) (ay 19 rfl (fun ah Sz=>aw rfl aG ((hr1.mono ah).cell Sz.m (i:=(aF d ((ga (ga (ai d) k) 0).a) ((ga (ga (ai d) k) 0).b)).1) (by first|omega|(simp only[ls];omega)) 0 rfl rfl)) ?_)))
        refine aK 0 [20,21] rfl (cD (fun vN gH=>(aW [1,3,4,5,6,8,66] rfl ?_)))
        refine bp rfl (fun F6=>?_) (fun F6=>?_)
        ·refine aH (af 1 rfl (ag rfl (bj rfl) (af 1 rfl (aB (bE (aW [1,3,4,5,6,8] rfl (aH (af 1 rfl ?_))))))))
         refine ag rfl (bj rfl) (af 1 rfl (aB (br ?_)))
         intro au aq
         refine⟨_,?mO,⟨k+1,_,rfl,aq.su rfl,gH.pick [0] [_] (by decide) ⟨rfl,trivial⟩,?jN,?jM⟩⟩
         case jN=>omega
         case jM=>(rw[pN,hm2,Qp];first|rw[if_pos (by omega)]|rw[if_neg (by omega)])
         case mO=>omega
        ·refine aV (bE (aW [1,3,4,5,6,8] rfl (aH (af 1 rfl (ag rfl (bj rfl) (af 1 rfl (aB (br ?_))))))))
         intro au aq
         refine⟨_,?lZ,⟨k+1,_,rfl,aq.su rfl,gH.pick [0] [_] (by decide) ⟨rfl,trivial⟩,?jL,?jK⟩⟩
         case jL=>omega
         case jK=>(rw[pN,hm2,Qp];first|rw[if_pos (by omega)]|rw[if_neg (by omega)])
         case lZ=>omega
       ·have hm3:m2=pN d (fC d) p (negW (fC d) p d.ae.length) (ai d).length:=by rw[hm2,show k=(ai d).length by omega]
        refine bX rfl (cP [1,3,4,5,6] rfl (af 2 rfl (ax [1,3,4,5,70] rfl ?_)))
        refine bp rfl (fun ajA=>?_) (fun ajA=>?_)
        ·refine ar (af 1 rfl (ax [2] rfl (bU hC rfl ?_)))
         refine⟨_,rfl,_,bh.trans hle2,(S6.pick [] [] (by decide) trivial),?_⟩
         refine congrArg Value.bool (acu (p:=p) (by omega) ?_).symm
         unfold wF
         rw[Bool.or_eq_false_iff]
         exact⟨decide_eq_false (by omega),decide_eq_false (by omega)⟩
        ·refine aV (bE (aW [1,3,4,5] rfl (aH (af 1 rfl (ag rfl (bj rfl) (af 1 rfl (aB (br ?_))))))))
         intro au aq
         refine⟨_,?n7,⟨p+1,rfl,aq.su rfl,S6.pick [0] [_] (by decide) ⟨rfl,trivial⟩,?lU,?lT⟩⟩
         case lU=>omega
         case lT=>(intro q hq;by_cases h:q=p;(subst h;unfold wF;rw[Bool.or_eq_true];first|(left;exact decide_eq_true (by omega))|(right;exact decide_eq_true (by omega)));exact hall q (by omega))
         case n7=>omega
  ·refine bX rfl (cP [] rfl (af 1 rfl (aB (bK (bU hC rfl ?_)))))
   refine⟨_,rfl,_,bh.trans hle2,(S4.pick [] [] (by decide) trivial),?_⟩
   exact congrArg Value.bool (TD (fun q hq=>hall q (by omega))).symm
end Go.Proofs.YtcohmplpgcddiaaGreatDoor
namespace Go.Proofs.YtcohmplpgcddiaaGreatDoor
open Go.Shelf
def ab8:Go.Shelf.Ren:=⟨fun|189=>83|125=>112|257=>111|128=>137|129=>138|294=>128|295=>129|296=>130|297=>131|298=>132|299=>133|216=>134|300=>135|301=>136|328=>148|329=>149|330=>150|331=>151|332=>152|215=>113|343=>157|n=>n,fun|28=>83|3=>3|46=>177|0=>0|51=>205|53=>181|4=>4|183=>198|182=>197|131=>116|5=>5|9=>9|218=>211|222=>190|228=>217|229=>218|n=>n,fun|n=>n⟩
theorem aik:Go.Proofs.Lays.n189 Tryz.prog ab8:={
 mixed:=by kernel_rfl
 f125:=Tryz.func112.trans (congrArg some (by kernel_rfl))
 f128:=Tryz.func137.trans (congrArg some (by kernel_rfl))
 f129:=Tryz.func138.trans (congrArg some (by kernel_rfl))
 f189:=Tryz.func83.trans (congrArg some (by kernel_rfl))
 f215:=Tryz.func113.trans (congrArg some (by kernel_rfl))
 f216:=Tryz.func134.trans (congrArg some (by kernel_rfl))
 f257:=Tryz.func111.trans (congrArg some (by kernel_rfl))
 f294:=Tryz.func128.trans (congrArg some (by kernel_rfl))
 f295:=Tryz.func129.trans (congrArg some (by kernel_rfl))
 f296:=Tryz.func130.trans (congrArg some (by kernel_rfl))
 f297:=Tryz.func131.trans (congrArg some (by kernel_rfl))
 f298:=Tryz.func132.trans (congrArg some (by kernel_rfl))
 f299:=Tryz.func133.trans (congrArg some (by kernel_rfl))
 f300:=Tryz.func135.trans (congrArg some (by kernel_rfl))
 f301:=Tryz.func136.trans (congrArg some (by kernel_rfl))
 f328:=Tryz.func148.trans (congrArg some (by kernel_rfl))
 f329:=Tryz.func149.trans (congrArg some (by kernel_rfl))
 f330:=Tryz.func150.trans (congrArg some (by kernel_rfl))
 f331:=Tryz.func151.trans (congrArg some (by kernel_rfl))
 f332:=Tryz.func152.trans (congrArg some (by kernel_rfl))
 f343:=Tryz.func157.trans (congrArg some (by kernel_rfl))
 t0:=PW
 a0:=Tryz.isAgg0
 z0:=Tryz.sizeOf0
 v0:=Tryz.zeroValue0
 t3:=aG
 a3:=Tryz.isAgg3
 z3:=Tryz.sizeOf3
 v3:=Tryz.zeroValue3
 t4:=gY
 a4:=Tryz.isAgg4
 z4:=Tryz.sizeOf4
 v4:=Tryz.zeroValue4
 t5:=xZ
 a5:=Tryz.isAgg5
 z5:=Tryz.sizeOf5
 v5:=Tryz.zeroValue5
 t9:=xY
 a9:=Tryz.isAgg9
 z9:=Tryz.sizeOf9
 v9:=Tryz.zeroValue9
 t28:=dm
 a28:=Tryz.isAgg83
 z28:=Tryz.sizeOf83
 v28:=Tryz.zeroValue83
 t46:=VZ
 a46:=Tryz.isAgg177
 z46:=Tryz.sizeOf177
 v46:=Tryz.zeroValue177
 t51:=VX
 a51:=Tryz.isAgg205
 z51:=Tryz.sizeOf205
 v51:=Tryz.zeroValue205
 t53:=VY
 a53:=Tryz.isAgg181
 z53:=Tryz.sizeOf181
 v53:=Tryz.zeroValue181
 t131:=agk
 a131:=Tryz.isAgg116
 z131:=Tryz.sizeOf116
 v131:=Tryz.zeroValue116
 t182:=aga
 a182:=Tryz.isAgg197
 z182:=Tryz.sizeOf197
 v182:=Tryz.zeroValue197
 t183:=af9
 a183:=Tryz.isAgg198
 z183:=Tryz.sizeOf198
 v183:=Tryz.zeroValue198
 t218:=af6
 a218:=Tryz.isAgg211
 z218:=Tryz.sizeOf211
 v218:=Tryz.zeroValue211
 t222:=Fe
 a222:=Tryz.isAgg190
 z222:=Tryz.sizeOf190
 v222:=Tryz.zeroValue190
 t228:=af5
 a228:=Tryz.isAgg217
 z228:=Tryz.sizeOf217
 v228:=Tryz.zeroValue217
 t229:=af4
 a229:=Tryz.isAgg218
 z229:=Tryz.sizeOf218
 v229:=Tryz.zeroValue218}
theorem aeH{w:World}{M:Hp}{X:Fr}{v:Value}{xs:List Int}(hsz:xs.length<4611686018427387904)(S:SH w M X [Rs.row aQ v xs]):
 C1 Tryz.prog 83 [v] w M X fun u M' r'=>u=.tuple #[]/\M'=M/\r'=Rs.row aQ v (iy xs):=aef aik hsz S
end Go.Proofs.YtcohmplpgcddiaaGreatDoor
namespace Go.Proofs.YtcohmplpgcddiaaGreatDoor
open Go.ChangeShapes Go.WideShapes Go.ChangeAt Go.RowKit
def bB(d:Dg)(x k:Nat):Nat:=(aF d (aL d x k) (bO d x k)).1
def sL(s:List Bool×List Int)(y:Nat):List Bool×List Int:=if ga s.1 y=true then s else(s.1.set y true,s.2++[(y:Int)])
def bfsS(d:Dg)(x:Nat)(s:List Bool×List Int):Nat->List Bool×List Int
 |0=>s
 |k+1=>sL (bfsS d x s k) (bB d x k)
def bfsN(d:Dg):Nat->Nat->List Bool×List Int->List Bool×List Int
 |0,_,s=>s
 |f+1,i,s=>if i<s.2.length then bfsN d f (i+1) (bfsS d (ga s.2 i).toNat s 4)else s
def dV(d:Dg):Nat->List Bool×List (List Int)
 |0=>(List.replicate d.ae.length false,[])
 |c+1=>if ga (dV d c).1 c=true then dV d c else((bfsN d d.ae.length 0 ((dV d c).1.set c true,[(c:Int)])).1,(dV d c).2++[iy (bfsN d d.ae.length 0 ((dV d c).1.set c true,[(c:Int)])).2])
def bD(d:Dg):List (List Int):=(dV d d.ae.length).2
theorem Lp{d:Dg}{f i:Nat}{s:List Bool×List Int}(h:s.2.length<=i):bfsN d f i s=s:=by
 cases f with
 |zero=>rfl
 |succ f=>rw[bfsN,if_neg (by omega)]
theorem aej{d:Dg}{f i x:Nat}{s s':List Bool×List Int}(h:i<s.2.length)(hx:ga s.2 i=(x:Int))(hs:bfsS d x s 4=s'):bfsN d (f+1) i s=bfsN d f (i+1) s':=by
 rw[bfsN,if_pos h,hx,Int.toNat_natCast,hs]
theorem DF{d:Dg}{c:Nat}{s:List Bool×List (List Int)}(h:dV d c=s)(hg:ga s.1 c=true):dV d (c+1)=s:=by
 rw[dV,h,if_pos hg]
theorem Cz{d:Dg}{c:Nat}{s:List Bool×List (List Int)}{r:List Bool×List Int}(h:dV d c=s)(hg:ga s.1 c=false)(hr:bfsN d d.ae.length 0 (s.1.set c true,[(c:Int)])=r):dV d (c+1)=(r.1,s.2++[iy r.2]):=by
 rw[dV,h,if_neg (by rw[hg];exact Bool.false_ne_true),hr]
theorem acV(d:Dg)(f i:Nat)(s:List Bool×List Int):(bfsN d f i s).1.length=s.1.length:=by
 have h1:∀x s k,(bfsS d x s k).1.length=s.1.length:=fun x s k=>by
  induction k with
  |zero=>rfl
  |succ k ih=>rw[bfsS,sL];split<;>simp[ih]
 induction f generalizing i s with
 |zero=>rfl
 |succ f ih=>rw[bfsN];split<;>simp[ih,h1]
theorem TF(d:Dg)(c:Nat):(dV d c).1.length=d.ae.length:=by
 induction c with
 |zero=>simp[dV]
 |succ c ih=>rw[dV];split<;>simp[ih,acV]
theorem HL(d:Dg)(c:Nat):(dV d c).2.length<=c:=by
 induction c with
 |zero=>simp[dV]
 |succ c ih=>rw[dV];split;exact Nat.le_succ_of_le ih;rw[List.length_append];show _+1<=_;omega
theorem vk{d:Dg}(h:aO d=true){x k:Nat}(hx:x<d.ae.length)(hk:k<4):bB d x k<d.ae.length:=(fO h (ey h hx hk) _).1
noncomputable def Z2o:=Tryz.f51.body.getD .skip
set_option maxHeartbeats 1000000 in
set_option maxRecDepth 10000 in
theorem T8{w:World}{M:Hp}{X:Fr}(d:Dg){cI:Nat}{cA iA oA:Option Addr}{cc ic oc:Nat}(bI:fW (M.un X.h) cI 66 [.slice cA d.ae.length cc,.int .i64 d.loops,.slice iA (aI d false (4*d.ae.length)).length ic,.slice oA (aI d true (4*d.ae.length)).length oc])(hsc:aJ bu (M.un X.h) cA cc d.ae)(hsi:aJ cQ (M.un X.h) iA ic (aI d false (4*d.ae.length)))(bq:aJ cQ (M.un X.h) oA oc (aI d true (4*d.ae.length)))(hn:d.ae.length<=16)(hab:aO d=true)(S:SH w M X []):Ct Tryz.prog 51 [.pointer (some ⟨cI,0,none⟩)] w M X (fun u M=>∃A c vs,u=.slice A vs.length c/\aJ (eZ 83) M A c vs/\ia aQ M vs (bD d)):=by
 unfold Ct
 refine cw (b:=Z2o) Tryz.func51 rfl Tryz.ntmps51 rfl (fun C hC=>(cB [0] rfl (ar (af 1 rfl (bL [0] rfl (af 2 rfl (ag rfl (az rfl jy rfl jZ jX) (ag rfl (az rfl aM rfl dN dM) (ag rfl (aw rfl cE (bI.cell S.um rfl)) ?_)))))))))
 refine ag rfl (cK rfl cE) (aj rfl (sP (C:=lF) d.ae.length rfl rfl rfl rfl rfl pI (by first|rfl|omega) (by show _*1<=_;first|omega|(simp only[ls];omega)) S ?_))
 intro s6 w1 S1;clear S
 refine af 1 rfl (bL [0,3] rfl (af 1 rfl (aB (di (ar (af 2 rfl (ag rfl (az rfl jy rfl jZ jX) (ag rfl (az rfl aM rfl dN dM) ?_))))))))
 refine ag rfl (aw rfl cE (bI.cell S1.um rfl)) (ag rfl (cK rfl cE) (af 1 rfl (ax [0,3,4,22,23] rfl (bg ?_))))
 have S2:=S1.jI (eZ 83);clear S1
 refine ck (fun aZ au aR=>∃(c:Nat) (seen:List Bool) (vs:List ei) (dD:List (List Int)) (uJ:Value) (eV:Value) (M1:Hp),M.le M1/\aZ=d.ae.length-c/\Env 74 [(0,.pointer (some ⟨cI,0,none⟩)),(3,uJ),(4,eV),(22,.int .i64 (d.ae.length:Int)),(23,.int .i64 (c:Int))] au/\SH aR M1 X [Rs.row (eZ 83) eV vs,Rs.row lF uJ seen]/\c<=d.ae.length/\dV d c=(seen,dD)/\ia aQ M1 vs dD) rfl ?_ ?_
 ·intro au aq
  refine⟨_,⟨0,_,_,[],_,_,_,Hp.le_refl _,rfl,aq.su rfl,S2.pick [0,1] [_,_] (by decide) ⟨rfl,rfl,trivial⟩,?dh,?dC,?jm⟩⟩
  case dh=>omega
  case dC=>rfl
  case jm=>first|exact ia.eO|(rw[e9];exact ia.eO)
 ·rintro m1 a1 w2 ⟨c,seen,vs,dD,uJ,eV,M1,bh,rfl,bN,S3,hc,x8,jk⟩
  clear S2
  refine cy bN ?_
  clear bN a1
  replace bI:=bI.mono (Hp.aD bh S3.mx)
  replace hsc:=hsc.mono (Hp.aD bh S3.mx)
  replace hsi:=hsi.mono (Hp.aD bh S3.mx)
  replace bq:=bq.mono (Hp.aD bh S3.mx)
  have hvs:=jk.1
  have pz:=HL d c
  rw[x8]at pz
  replace pz:dD.length<=c:=pz
  have hsl:seen.length=d.ae.length:=by have h9:=TF d c;rw[x8]at h9;exact h9
  refine ar (af 1 rfl (aB (di ?_)))
  refine bp rfl (fun rA=>?_) (fun rA=>?_)
  ·refine aV (bC [0,3,4,22,23] rfl (bg (ar (af 2 rfl (bM [0,3,4,22,23,5] rfl (ar (af 2 rfl (ag rfl (bS (i:=1) c rfl pI S3 rfl) ?_))))))))
   refine ag rfl (aw rfl gY (S3.dS (i:=1) (e:=c) (j:=0) rfl (by first|omega|(simp only[ls];omega)) rfl rfl)) ?_
   refine ax [0,3,4,22,23,5,29] rfl ?_
   refine gB rfl (fun sI=>?_) (fun sI=>?_)
   ·refine bX rfl (aW [0,3,4,22,23] rfl (aH (ag rfl (bj rfl) (af 1 rfl (aB (br ?_))))))
    intro au aq
    refine⟨_,?fK,⟨c+1,_,_,dD,_,_,_,(bh),rfl,aq.su rfl,S3.pick [0,1] [_,_] (by decide) ⟨rfl,rfl,trivial⟩,?dv,?dL,?jl⟩⟩
    case dv=>omega
    case dL=>first|exact DF x8 sI|exact Cz x8 (by simpa using sI) (Qq.trans (Lp (by show l.length<=i;omega)))
    case jl=>first|exact jk|(rw[e9];exact jk)
    case fK=>omega
   ·refine aV (cP [0,3,4,22,23,5] rfl (af 2 rfl (ag rfl (bS (i:=1) c rfl pI S3 rfl) (aj rfl (iE (C:=lF) (i:=1) (e:=c) (j:=0) (us:=[_]) (H':=[_,_]) true rfl rfl S3 rfl (by first|omega|(simp only[ls];omega)) rfl rfl rfl BR rfl rfl rfl rfl ?_)))))
    intro w3 S4;clear S3
    refine bL [0,3,4,22,23,5] rfl (af 1 rfl (aj rfl (eQ (C:=aQ) (l:=[_]) rfl rfl rfl rfl bt rfl rfl rfl rfl S4 ?_)))
    intro aP w4 S5;clear S4
    refine af 1 rfl (bM [0,3,4,22,23,6] rfl (ar (af 1 rfl (aB (bK (bg ?_))))))
    have S6:=S5.qi (C:=aQ) [(c:Int)] (i:=0) (H':=[_,_,_]) rfl rfl (by simp) rfl;clear S5
    obtain⟨Km,er3⟩:∃v,v=Value.slice (some ⟨aP,0,none⟩) ([(c:Int)]).length ([(c:Int)]).length:=⟨_,rfl⟩
    rw[<-er3]at S6
    refine iZ 6 (Km) rfl er3.symm ?_
    refine ck (fun aZ au aR=>∃(i:Nat) (jJ:List Bool) (l:List Int) (ug:Value) (uK:Value),aZ=d.ae.length-i/\Env 74 [(0,.pointer (some ⟨cI,0,none⟩)),(3,ug),(4,eV),(22,.int .i64 (d.ae.length:Int)),(23,.int .i64 (c:Int)),(6,uK),(7,.int .i64 (i:Int))] au/\SH aR M1 X [Rs.row aQ uK l,Rs.row (eZ 83) eV vs,Rs.row lF ug jJ]/\bfsN d d.ae.length 0 (seen.set c true,[(c:Int)])=bfsN d (d.ae.length-i) i (jJ,l)/\i<=l.length/\l.length+free jJ<=d.ae.length/\(∀y,y∈l->0<=y/\y<(d.ae.length:Int))/\jJ.length=d.ae.length) rfl ?_ ?_
    ·intro au aq
     refine⟨_,⟨0,_,_,_,_,rfl,aq.su rfl,S6.pick [0,1,2] [_,_,_] (by decide) ⟨rfl,rfl,rfl,trivial⟩,?fg,?fR,?ko,?mI,?wO⟩⟩
     case fg=>rfl
     case fR=>(exact Nat.zero_le _)
     case ko=>(have h8:=sU (seen:=seen) (x:=c) (by omega) (by simpa using sI);have h9:free seen<=seen.length:=List.countP_le_length;show 1+_<=_;omega)
     case mI=>(intro y hy;rw[List.mem_singleton]at hy;subst hy;omega)
     case wO=>(rw[List.length_set];exact hsl)
    ·rintro m2 a2 w5 ⟨i,jJ,l,ug,uK,rfl,cU,S7,Qq,hi,G7,hin,hs2⟩
     clear S6
     refine cy cU ?_
     clear cU a2
     refine cJ (ar (af 2 rfl (ag rfl (kZ (i:=0) rfl bt S7 rfl) (af 1 rfl (ax [0,3,4,22,23,6,7,38] rfl ?_)))))
     refine bp rfl (fun Bk=>?_) (fun Bk=>?_)
     ·have hil:i<l.length:=by omega
      have np:=hin (ga l i) (by rw[cZ hil];exact List.getElem_mem hil)
      obtain⟨x,hx⟩:∃x:Nat,ga l i=(x:Int):=⟨(ga l i).toNat,by omega⟩
      have Qb:x<d.ae.length:=by omega
      refine aV (bC [0,3,4,22,23,6,7] rfl (bg (ar (af 1 rfl (aB (bK (bg ?_)))))))
      refine ck (fun aZ au aR=>∃(k:Nat) (Ao:List Bool) (l3:List Int) (uf:Value) (Oc:Value),aZ=4-k/\Env 74 [(0,.pointer (some ⟨cI,0,none⟩)),(3,uf),(4,eV),(22,.int .i64 (d.ae.length:Int)),(23,.int .i64 (c:Int)),(6,Oc),(7,.int .i64 (i:Int)),(41,.int .i64 (k:Int))] au/\SH aR M1 X [Rs.row aQ Oc l3,Rs.row (eZ 83) eV vs,Rs.row lF uf Ao]/\k<=4/\bfsS d x (jJ,l) k=(Ao,l3)/\l3.length+free Ao<=d.ae.length/\(∀y,y∈l3->0<=y/\y<(d.ae.length:Int))/\Ao.length=d.ae.length/\i<l3.length/\ga l3 i=(x:Int)) rfl ?_ ?_
      ·intro au aq
       refine⟨_,⟨0,_,_,_,_,rfl,aq.su rfl,S7.pick [0,1,2] [_,_,_] (by decide) ⟨rfl,rfl,rfl,trivial⟩,?fJ,?fZ,?lX,?nV,?tV,?wN,?Ny⟩⟩
       case fJ=>omega
       case fZ=>rfl
       case lX=>exact G7
       case nV=>exact hin
       case tV=>exact hs2
       case wN=>omega
       case Ny=>exact hx
      ·rintro m3 a3 w6 ⟨k,Ao,l3,uf,Oc,rfl,fB,S8,hk,hbs,XO,FT,hs3,Ql,hx3⟩
       clear S7
       refine cy fB ?_
       clear fB a3
       refine ar (af 1 rfl (aB (di ?_)))
       refine bp rfl (fun F7=>?_) (fun F7=>?_)
       ·refine aV (bC [0,3,4,22,23,6,7,41] rfl (bg (ar (af 2 rfl (bL [0,3,4,22,23,6,7,41,8] rfl (af 3 rfl (ag rfl (bS (i:=0) i rfl bt S8 rfl) (ag rfl (aw rfl aG (S8.dS (i:=0) (e:=i) (j:=0) rfl (by first|omega|(simp only[ls];omega)) rfl rfl)) ?_))))))))
        refine dz 48 (.int .i64 (x:Int)) rfl (int_eq hx3) ?_
        have hnb:=vk hab (k:=k) Qb (by omega)
        refine af 1 rfl (ag rfl (run_build (l:=[_,_]) rfl rfl Fi rfl rfl) (aj rfl (dU rfl rfl rfl rfl rfl rfl rfl Pk S8 (Mc d x k (bI.mono S8.bn) (hsc.mono S8.bn) (hsi.mono S8.bn) (bq.mono S8.bn) (by first|assumption|omega) hab (by omega) (by omega) S8.aT) ?_)))
        rintro _ w7 S9 rfl;clear S8
        refine ag rfl (rH rfl rfl dX rfl aG rfl rfl) (af 1 rfl (bM [0,3,4,22,23,6,7,41,9] rfl (iZ 9 (.int .i64 ((bB d x k:Nat):Int)) rfl (int_eq rfl) (aH (af 2 rfl (ag rfl (bS (i:=2) (bB d x k) rfl pI S9 rfl) (ag rfl (aw rfl gY (S9.dS (i:=2) (e:=bB d x k) (j:=0) rfl (by first|omega|(simp only[ls];omega)) rfl rfl)) ?_)))))))
        refine af 1 rfl (ax [0,3,4,22,23,6,7,41,9,57] rfl ?_)
        refine gB rfl (fun JR=>?_) (fun JR=>?_)
        ·simp only[Bool.and_eq_true,Bool.or_eq_true,Bool.and_eq_false_iff,Bool.or_eq_false_iff,decide_eq_true_eq,decide_eq_false_iff_not,Bool.not_eq_true',Bool.not_eq_false']at JR
         have yj:ga Ao (bB d x k)=false:=by simpa using JR
         have vY:=sU (seen:=Ao) (x:=bB d x k) (by omega) yj
         refine ar (af 2 rfl (ag rfl (bS (i:=2) (bB d x k) rfl pI S9 rfl) (aj rfl (iE (C:=lF) (i:=2) (e:=bB d x k) (j:=0) (us:=[_]) (H':=[_,_,_]) true rfl rfl S9 rfl (by first|omega|(simp only[ls];omega)) rfl rfl rfl BR rfl rfl rfl rfl ?_))))
         intro w8 bQ;clear S9
         refine ax [0,3,4,22,23,6,7,41,9] rfl (aH (af 2 rfl (aj rfl (eQ (C:=aQ) (l:=[_]) rfl rfl rfl rfl bt rfl rfl rfl rfl bQ ?_))))
         intro bJ w9 cz;clear bQ
         refine aj rfl (gw (C:=aQ) (i:=1) (q:=0) ((bB d x k:Nat):Int) rfl rfl rfl rfl rfl rfl rfl rfl bt cz rfl rfl rfl (by show(_+1)*8<=_;first|omega|(simp only[ls];omega)) ?_)
         intro Od ld cO;clear cz
         have cF:=cO.pick [1,2,3] [_,_,_] (by decide) ⟨rfl,rfl,rfl,trivial⟩;clear cO
         refine af 1 rfl (aB (bE (aW [0,3,4,22,23,6,7,41] rfl (aH (ag rfl (bj rfl) (af 1 rfl (aB (br ?_))))))))
         intro au aq
         refine⟨_,?jq,⟨k+1,_,_,_,_,rfl,aq.su rfl,cF.pick [0,1,2] [_,_,_] (by decide) ⟨rfl,rfl,rfl,trivial⟩,?fI,?fY,?lW,?qZ,?Ay,?Nx,?Nw⟩⟩
         case fI=>omega
         case fY=>(show sL _ _=_;rw[hbs,sL];first|rw[if_pos (by assumption)]|rw[if_neg (by rw[yj];exact Bool.false_ne_true)])
         case lW=>first|exact XO|(rw[List.length_append];show _+1+_<=_;omega)
         case qZ=>first|exact FT|(intro y hy;rcases List.mem_append.1 hy with hy|hy;exact FT y hy;rw[List.mem_singleton]at hy;subst hy;omega)
         case Ay=>first|exact hs3|(rw[List.length_set];exact hs3)
         case Nx=>first|exact Ql|(rw[List.length_append];omega)
         case Nw=>first|exact hx3|(rw[lS _ _ _ (by omega)];exact hx3)
         case jq=>omega
        ·simp only[Bool.and_eq_true,Bool.or_eq_true,Bool.and_eq_false_iff,Bool.or_eq_false_iff,decide_eq_true_eq,decide_eq_false_iff_not,Bool.not_eq_true',Bool.not_eq_false']at JR
         refine aV (bE (aW [0,3,4,22,23,6,7,41] rfl (aH (ag rfl (bj rfl) (af 1 rfl (aB (br ?_)))))))
         intro au aq
         refine⟨_,?kq,⟨k+1,_,_,_,_,rfl,aq.su rfl,S9.pick [0,1,2] [_,_,_] (by decide) ⟨rfl,rfl,rfl,trivial⟩,?iB,?iW,?px,?tU,?Fv,?Nv,?agQ⟩⟩
         case iB=>omega
         case iW=>(show sL _ _=_;rw[hbs,sL];first|rw[if_pos (by assumption)]|rw[if_neg (by rw[yj];exact Bool.false_ne_true)])
         case px=>first|exact XO|(rw[List.length_append];show _+1+_<=_;omega)
         case tU=>first|exact FT|(intro y hy;rcases List.mem_append.1 hy with hy|hy;exact FT y hy;rw[List.mem_singleton]at hy;subst hy;omega)
         case Fv=>first|exact hs3|(rw[List.length_set];exact hs3)
         case Nv=>first|exact Ql|(rw[List.length_append];omega)
         case agQ=>first|exact hx3|(rw[lS _ _ _ (by omega)];exact hx3)
         case kq=>omega
       ·refine bX rfl (bE (aW [0,3,4,22,23,6,7] rfl (aH (af 1 rfl (ag rfl (bj rfl) (af 1 rfl (aB (br ?_))))))))
        intro au aq
        refine⟨_,?mO,⟨i+1,_,_,_,_,rfl,aq.su rfl,S8.pick [0,1,2] [_,_,_] (by decide) ⟨rfl,rfl,rfl,trivial⟩,?jN,?jM,?tT,?Aw,?Nu⟩⟩
        case jN=>(rw[Qq,show d.ae.length-i=(d.ae.length-(i+1))+1 by omega];exact aej (by show i<l.length;omega) hx (hbs▸(by rw[show k=4 by omega])))
        case jM=>omega
        case tT=>omega
        case Aw=>exact FT
        case Nu=>exact hs3
        case mO=>omega
     ·have hsr:=Ue l
      refine bX rfl (cP [0,3,4,22,23,6] rfl (af 1 rfl (aj rfl (r9 rfl rfl rfl rfl rfl rfl rfl aj0 S7 (i:=0) rfl (aeH (by omega) (S7.mH (i:=0) rfl)) ?_))))
      rintro JB lI _ _-ct ⟨rfl,rfl,rfl⟩;clear S7
      change SH _ _ _ [_,_,_]at ct
      refine ax [0,3,4,22,23,6] rfl (aH (af 2 rfl ?_))
      obtain⟨M2,b7,cS,⟨A1,c1,e1,hr1⟩⟩:=ct.gP (i:=0) (H':=[_,_,_]) rfl rfl (by show _*8<=_;first|omega|(simp only[ls];omega))
      clear ct;subst e1
      replace bI:=bI.mono (Hp.aD b7 cS.mx)
      replace hsc:=hsc.mono (Hp.aD b7 cS.mx)
      replace hsi:=hsi.mono (Hp.aD b7 cS.mx)
      replace bq:=bq.mono (Hp.aD b7 cS.mx)
      replace jk:=jk.mono b7
      refine aj rfl (eQ (C:=(eZ 83)) (l:=[_]) rfl rfl rfl rfl oM rfl rfl rfl rfl cS ?_)
      intro dE nL cC;clear cS
      refine aj rfl (gw (C:=(eZ 83)) (i:=2) (q:=0) (⟨A1,(iy l).length,c1⟩:ei) rfl rfl rfl rfl rfl rfl rfl rfl oM cC rfl rfl rfl (by show(_+1)*24<=_;first|omega|(simp only[ls];omega)) ?_)
      intro AU ng bY;clear cC
      have dW:=bY.pick [1,2,3] [_,_,_] (by decide) ⟨rfl,rfl,rfl,trivial⟩;clear bY
      have hd1:=jk.snoc (c:=c1) hr1
      refine af 1 rfl (aB (bE (aW [0,3,4,22,23] rfl (aH (ag rfl (bj rfl) (af 1 rfl (aB (br ?_))))))))
      intro au aq
      refine⟨_,?lZ,⟨c+1,_,_,(dD++[iy l]),_,_,_,(bh.trans b7),rfl,aq.su rfl,dW.pick [1,2] [_,_] (by decide) ⟨rfl,rfl,trivial⟩,?jL,?jK,?tS⟩⟩
      case jL=>omega
      case jK=>first|exact DF x8 sI|exact Cz x8 (by simpa using sI) (Qq.trans (Lp (by show l.length<=i;omega)))
      case tS=>first|exact hd1|(rw[e9];exact hd1)
      case lZ=>omega
  ·refine bX rfl (cP [4] rfl (af 2 rfl (ax [2] rfl ?_)))
   obtain⟨M3,cH,ek,⟨A2,c2,e2,hr2⟩⟩:=S3.gP (i:=0) (H':=[_,_]) rfl rfl (by show _*24<=_;first|omega|(simp only[ls];omega))
   clear S3;subst e2
   replace bI:=bI.mono (Hp.aD cH ek.mx)
   replace hsc:=hsc.mono (Hp.aD cH ek.mx)
   replace hsi:=hsi.mono (Hp.aD cH ek.mx)
   replace bq:=bq.mono (Hp.aD cH ek.mx)
   replace jk:=jk.mono cH
   refine bU hC rfl ?_
   refine⟨_,rfl,_,bh.trans cH,(ek.pick [] [] (by decide) trivial),?_⟩
   obtain rfl:c=d.ae.length:=by omega
   have e2:bD d=dD:=by unfold bD;rw[x8]
   rw[e2]
   exact⟨_,_,_,rfl,hr2,jk⟩
end Go.Proofs.YtcohmplpgcddiaaGreatDoor
namespace Go.Proofs.YtcohmplpgcddiaaGreatDoor
open Go.ChangeShapes Go.WideShapes Go.ChangeAt Go.RowKit
theorem Ir{xs:List Bool}{i:Nat}{y:Bool}(h:i<xs.length):ga (xs.set i y) i=y:=by rw[eX _ _ _ _ h,if_pos rfl]
theorem NQ{xs:List Bool}{i j:Nat}{y:Bool}(h:i≠j):ga (xs.set i y) j=ga xs j:=by unfold ga;simp[List.getElem?_set,h]
inductive Rc(d:Dg):Nat->Nat->Prop
 |refl (x:Nat):Rc d x x
 |step {x y k:Nat}:Rc d x y->k<4->Rc d x (bB d y k)
structure BI(d:Dg)(n:Nat)(s0:List Bool)(c:Nat)(s:List Bool×List Int):Prop where
 len:s.1.length=n
 see:∀x,x<n->(ga s.1 x=true<->(ga s0 x=true\/(x:Int)∈s.2))
 td:s.2.Nodup
 el:∀y∈s.2,∃z:Nat,y=(z:Int)/\z<n/\ga s0 z=false/\Rc d c z
 room:s.2.length+free s.1<=n
theorem ael{d:Dg}{n:Nat}{s0:List Bool}{c:Nat}{s:List Bool×List Int}(h:BI d n s0 c s){y:Nat}(hy:y<n)(hr:Rc d c y):
  BI d n s0 c (sL s y)/\(∃t,(sL s y).2=s.2++t)/\ga (sL s y).1 y=true/\∀x,ga s.1 x=true->ga (sL s y).1 x=true:=by
 unfold sL
 by_cases hg:ga s.1 y=true
 ·rw[if_pos hg]
  exact⟨h,⟨[],by simp⟩,hg,fun x hx=>hx⟩
 ·rw[if_neg hg]
  have hlen:=h.len
  have hf:ga s.1 y=false:=by simpa using hg
  have hnot:¬(ga s0 y=true\/(y:Int)∈s.2):=fun hh=>hg ((h.see y hy).2 hh)
  have G7:=sU (seen:=s.1) (x:=y) (by omega) hf
  have hro:=h.room
  refine⟨⟨by simp[hlen],fun x hx=>?_,?_,fun z hz=>?_,?_⟩,⟨[(y:Int)],rfl⟩,?_,fun x hx=>?_⟩
  ·by_cases e:x=y
   ·subst e
    exact⟨fun _=>.inr (by simp),fun _=>Ir (by omega)⟩
   ·show ga (s.1.set y true) x=true<->_
    rw[NQ (show y≠x from fun e'=>e e'.symm)]
    rw[h.see x hx,List.mem_append,List.mem_singleton]
    constructor
    ·rintro(h1|h1)
     ·exact .inl h1
     ·exact .inr (.inl h1)
    ·rintro(h1|h1|h1)
     ·exact .inl h1
     ·exact .inr h1
     ·exact absurd (Int.ofNat.inj h1) e
  ·rw[List.nodup_append]
   refine⟨h.td,by simp,fun a ha b hb e=>?_⟩
   rw[List.mem_singleton]at hb
   subst hb;subst e
   exact hnot (.inr ha)
  ·rcases List.mem_append.1 hz with hz|hz
   ·exact h.el z hz
   ·rw[List.mem_singleton]at hz
    exact⟨y,hz,hy,by have:=fun e=>hnot (.inl e);simpa using this,hr⟩
  ·show(s.2++[(y:Int)]).length+free (s.1.set y true)<=n
   rw[List.length_append]
   show s.2.length+1+_<=n
   omega
  ·exact Ir (by omega)
  ·by_cases e:x=y
   ·subst e;exact Ir (by omega)
   ·show ga (s.1.set y true) x=true
    rw[NQ (show y≠x from fun e'=>e e'.symm)];exact hx
theorem aei{d:Dg}{s0:List Bool}{c x:Nat}{s:List Bool×List Int}(hab:aO d=true)(h:BI d d.ae.length s0 c s)(hx:x<d.ae.length)(hr:Rc d c x)(k:Nat)(hk:k<=4):
  BI d d.ae.length s0 c (bfsS d x s k)/\(∃t,(bfsS d x s k).2=s.2++t)/\(∀j,j<k->ga (bfsS d x s k).1 (bB d x j)=true)/\∀z,ga s.1 z=true->ga (bfsS d x s k).1 z=true:=by
 induction k with
 |zero=>exact⟨h,⟨[],by simp[bfsS]⟩,fun j hj=>by omega,fun z hz=>hz⟩
 |succ k ih=>
  obtain⟨h1,⟨t1,h2⟩,h3,h4⟩:=ih (by omega)
  obtain⟨g1,⟨t2,g2⟩,g3,g4⟩:=ael h1 (vk hab hx (show k<4 by omega)) (hr.step (show k<4 by omega))
  refine⟨g1,⟨t1++t2,?_⟩,fun j hj=>?_,fun z hz=>g4 z (h4 z hz)⟩
  ·show(sL _ _).2=_
   rw[g2,h2,List.append_assoc]
  ·by_cases e:j=k
   ·subst e;exact g3
   ·exact g4 _ (h3 j (by omega))
theorem aek{d:Dg}{s0:List Bool}{c:Nat}(hab:aO d=true):∀(f i:Nat) (s:List Bool×List Int),BI d d.ae.length s0 c s->d.ae.length<=i+f->i<=s.2.length->(∀j,j<i->∀k,k<4->ga s.1 (bB d (ga s.2 j).toNat k)=true)->
  BI d d.ae.length s0 c (bfsN d f i s)/\(∃t,(bfsN d f i s).2=s.2++t)/\∀j,j<(bfsN d f i s).2.length->∀k,k<4->ga (bfsN d f i s).1 (bB d (ga (bfsN d f i s).2 j).toNat k)=true:=by
 intro f
 induction f with
 |zero=>
  intro i s h hf hi hp
  have:=h.room
  exact⟨h,⟨[],by simp[bfsN]⟩,fun j hj=>hp j (by have hj':j<s.2.length:=hj;omega)⟩
 |succ f ih=>
  intro i s h hf hi hp
  by_cases hlt:i<s.2.length
  ·rw[bfsN,if_pos hlt]
   obtain⟨z,hz,Ce,_,hrz⟩:=h.el _ (cY hlt)
   rw[hz,Int.toNat_natCast]
   obtain⟨h1,⟨t,h2⟩,h3,h4⟩:=aei hab h Ce hrz 4 (Nat.le_refl _)
   obtain⟨g1,⟨t',g2⟩,g3⟩:=ih (i+1) (bfsS d z s 4) h1 (by omega) (by rw[h2,List.length_append];omega) (fun j hj k hk=>by
    rw[h2,lS _ _ _ (by omega)]
    by_cases e:j=i
    ·subst e;rw[hz,Int.toNat_natCast];exact h3 k hk
    ·exact h4 _ (hp j (by omega) k hk))
   exact⟨g1,⟨t++t',by rw[g2,h2,List.append_assoc]⟩,g3⟩
  ·rw[Lp (by omega)]
   exact⟨h,⟨[],by simp⟩,fun j hj=>hp j (by omega)⟩
structure Rp(d:Dg)(c:Nat)(s:List Bool×List (List Int)):Prop where
 see:∀x,x<d.ae.length->(ga s.1 x=true<->∃i,i<s.2.length/\(x:Int)∈ga s.2 i)
 D8:∀x,x<c->ga s.1 x=true
 el:∀i,i<s.2.length->(ga s.2 i).Nodup/\∃c0:Nat,c0<d.ae.length/\(c0:Int)∈ga s.2 i/\∀y∈ga s.2 i,∃z:Nat,y=(z:Int)/\z<d.ae.length/\Rc d c0 z
 Hk:∀i,i<s.2.length->∀z:Nat,(z:Int)∈ga s.2 i->∀k,k<4->((bB d z k:Nat):Int)∈ga s.2 i
 QB:∀i j,i<s.2.length->j<s.2.length->∀y,y∈ga s.2 i->y∈ga s.2 j->i=j
theorem LQ{d:Dg}(hab:aO d=true)(aiB:∀x k,x<d.ae.length->k<4->∃k',k'<4/\bB d (bB d x k) k'=x)(c:Nat)(hc:c<=d.ae.length):Rp d c (dV d c):=by
 induction c with
 |zero=>
  refine⟨fun x hx=>?_,fun x hx=>by omega,fun i hi=>?_,fun i hi=>?_,fun i j hi=>?_⟩
  ·simp only[dV]
   rw[rZ _ _ _ hx]
   constructor
   ·intro h;cases h
   ·rintro⟨i,hi,_⟩;exact absurd hi (Nat.not_lt_zero _)
  all_goals exact absurd hi (Nat.not_lt_zero _)
 |succ c ih=>
  have I:=ih (by omega)
  have hlen:=TF d c
  generalize hs:dV d c=s at I hlen
  obtain⟨seen,dD⟩:=s
  by_cases hg:ga seen c=true
  ·rw[DF hs hg]
   exact⟨I.see,fun x hx=>by by_cases e:x=c;(subst e;exact hg);exact I.D8 x (by omega),I.el,I.Hk,I.QB⟩
  ·have Qm:ga seen c=false:=by simpa using hg
   rw[Cz hs Qm rfl]
   have hlen':seen.length=d.ae.length:=hlen
   have B0:BI d d.ae.length seen c (seen.set c true,[(c:Int)]):=by
    have G7:=sU (seen:=seen) (x:=c) (by omega) Qm
    have hfl:free seen<=seen.length:=List.countP_le_length
    refine⟨by simp[hlen'],fun x hx=>?_,by simp,fun y hy=>?_,by show 1+free (seen.set c true)<=_;omega⟩
    ·by_cases e:x=c
     ·subst e;exact⟨fun _=>.inr (by simp),fun _=>Ir (by omega)⟩
     ·show ga (seen.set c true) x=true<->_
      rw[NQ (show c≠x from fun e'=>e e'.symm)]
      constructor
      ·exact .inl
      ·rintro(h1|h1)
       ·exact h1
       ·rw[List.mem_singleton]at h1;exact absurd (Int.ofNat.inj h1) e
    ·rw[List.mem_singleton]at hy;exact⟨c,hy,by omega,Qm,.refl c⟩
   obtain⟨B1,⟨t,B2⟩,B3⟩:=aek hab d.ae.length 0 _ B0 (by omega) (Nat.zero_le _) (fun j hj=>by omega)
   generalize hr:bfsN d d.ae.length 0 (seen.set c true,[(c:Int)])=r at B1 B2 B3 ⊢
   have hcm:(c:Int)∈r.2:=by rw[B2];simp
   have hnew:ga (dD++[iy r.2]) dD.length=iy r.2:=by rw[nC _ _ _ (Nat.le_refl _),Nat.sub_self];rfl
   have hold:∀i,i<dD.length->ga (dD++[iy r.2]) i=ga dD i:=fun i hi=>lS _ _ _ hi
   have hL:(dD++[iy r.2]).length=dD.length+1:=by simp
   have hcl:∀z:Nat,(z:Int)∈r.2->∀k,k<4->((bB d z k:Nat):Int)∈r.2:=fun z hz k hk=>by
    obtain⟨j,hj,ej⟩:=List.mem_iff_getElem.1 hz
    have h1:=B3 j hj k hk
    rw[cZ hj,ej,Int.toNat_natCast]at h1
    obtain⟨z',e',Ce,hz0,_⟩:=B1.el _ hz
    obtain rfl:z=z':=by omega
    have hnl:=vk hab Ce hk
    rcases(B1.see _ hnl).1 h1 with h2|h2
    ·exfalso
     obtain⟨i,hi,hm⟩:=(I.see _ hnl).1 h2
     obtain⟨k',hk',e2⟩:=aiB z k Ce hk
     have h3:=I.Hk i hi _ hm k' hk'
     rw[e2]at h3
     have h4:=(I.see z Ce).2 ⟨i,hi,h3⟩
     have h5:ga seen z=true:=h4
     rw[hz0]at h5;cases h5
    ·exact h2
   refine⟨fun x hx=>?_,fun x hx=>?_,fun i hi=>?_,fun i hi=>?_,fun i j hi hj y hy hy'=>?_⟩
   ·show ga r.1 x=true<->∃i,i<(dD++[iy r.2]).length/\(x:Int)∈ga (dD++[iy r.2]) i
    rw[B1.see x hx]
    have hI:ga seen x=true<->∃i,i<dD.length/\(x:Int)∈ga dD i:=I.see x hx
    rw[hI]
    constructor
    ·rintro(⟨i,hi,hm⟩|hm)
     ·exact⟨i,by omega,by rw[hold i hi];exact hm⟩
     ·exact⟨dD.length,by omega,by rw[hnew];exact yt.2 hm⟩
    ·rintro⟨i,hi,hm⟩
     by_cases e:i<dD.length
     ·rw[hold i e]at hm;exact .inl ⟨i,e,hm⟩
     ·obtain rfl:i=dD.length:=by omega
      rw[hnew]at hm;exact .inr (yt.1 hm)
   ·show ga r.1 x=true
    rw[B1.see x (by omega)]
    by_cases e:x=c
    ·subst e;exact .inr hcm
    ·exact .inl (I.D8 x (by omega))
   ·show(ga (dD++[iy r.2]) i).Nodup/\∃c0:Nat,c0<d.ae.length/\(c0:Int)∈ga (dD++[iy r.2]) i/\∀y∈ga (dD++[iy r.2]) i,_
    have hi':i<(dD++[iy r.2]).length:=hi
    by_cases e:i<dD.length
    ·rw[hold i e];exact I.el i e
    ·obtain rfl:i=dD.length:=by omega
     rw[hnew]
     refine⟨(Lt r.2).nodup_iff.2 B1.td,c,by omega,yt.2 hcm,fun y hy=>?_⟩
     obtain⟨z,h1,h2,_,h3⟩:=B1.el y (yt.1 hy)
     exact⟨z,h1,h2,h3⟩
   ·show∀z:Nat,(z:Int)∈ga (dD++[iy r.2]) i->∀k,k<4->((bB d z k:Nat):Int)∈ga (dD++[iy r.2]) i
    have hi':i<(dD++[iy r.2]).length:=hi
    by_cases e:i<dD.length
    ·rw[hold i e];exact I.Hk i e
    ·obtain rfl:i=dD.length:=by omega
     rw[hnew]
     intro z hz k hk
     exact yt.2 (hcl z (yt.1 hz) k hk)
   ·have hi':i<(dD++[iy r.2]).length:=hi
    have hj':j<(dD++[iy r.2]).length:=hj
    have hy1:y∈ga (dD++[iy r.2]) i:=hy
    have hy2:y∈ga (dD++[iy r.2]) j:=hy'
    have key:∀i,i<dD.length->y∈ga dD i->y∈r.2->False:=fun i hi h1 h2=>by
     obtain⟨z,rfl,Ce,hz0,_⟩:=B1.el y h2
     have h5:ga seen z=true:=(I.see z Ce).2 ⟨i,hi,h1⟩
     rw[hz0]at h5;cases h5
    by_cases e:i<dD.length
    ·rw[hold i e]at hy1
     by_cases e':j<dD.length
     ·rw[hold j e']at hy2;exact I.QB i j e e' y hy1 hy2
     ·obtain rfl:j=dD.length:=by omega
      rw[hnew]at hy2
      exact(key i e hy1 (yt.1 hy2)).elim
    ·obtain rfl:i=dD.length:=by omega
     rw[hnew]at hy1
     by_cases e':j<dD.length
     ·rw[hold j e']at hy2
      exact(key j e' hy2 (yt.1 hy1)).elim
     ·omega
end Go.Proofs.YtcohmplpgcddiaaGreatDoor
namespace Go.Proofs.YtcohmplpgcddiaaGreatDoor
open Go.ChangeShapes Go.WideShapes Go.ChangeAt Go.RowKit
theorem sW{d:Dg}(h:aO d=true){c k:Nat}{b:Bool}(hc:c<d.ae.length)(hk:k<4)(hin:bO d c k=!b):aF d (aL d c k) b=(c,k):=by
 have hr:=ey h hc hk
 have hcn:eU d ((aL d c k).toNat:Nat) b (4*d.ae.length)=1:=by
  have:=HT h (aL d c k).toNat (by omega) (by omega)
  cases b
  ·exact this.1
  ·exact this.2
 rw[show(((aL d c k).toNat:Nat):Int)=aL d c k by omega]at hcn
 obtain⟨j,j1,j2,j3,j4⟩:=Ie hcn
 have hme:jh d (aL d c k) b (4*c+k)=true:=by rw[yw hk];cases b<;>simp[hin]
 obtain rfl:=j3 (4*c+k) (by omega) hme
 have e:=Sy hcn
 rw[j4]at e
 rw[<-e]
 exact Prod.ext (by dsimp only;omega) (by dsimp only;omega)
theorem ot{d:Dg}(h:aO d=true){a:Int}(ha:1<=a/\a<=2*(d.ae.length:Int))(b:Bool):aL d (aF d a b).1 (aF d a b).2=a/\bO d (aF d a b).1 (aF d a b).2=!b:=by
 obtain⟨_,_,_,h4,h5⟩:=TS h (a:=a.toNat) (by omega) (by omega) b
 rw[show((a.toNat:Nat):Int)=a by omega]at h4 h5
 exact⟨h4,h5⟩
theorem IX{d:Dg}(h:aO d=true)(x k:Nat)(hx:x<d.ae.length)(hk:k<4):∃k',k'<4/\bB d (bB d x k) k'=x:=by
 have ha:=ey h hx hk
 obtain⟨h1,h2,_⟩:=fO h ha (bO d x k)
 obtain⟨h3,h4⟩:=ot h ha (bO d x k)
 refine⟨(aF d (aL d x k) (bO d x k)).2,h2,?_⟩
 show(aF d (aL d (aF d (aL d x k) (bO d x k)).1 (aF d (aL d x k) (bO d x k)).2) (bO d (aF d (aL d x k) (bO d x k)).1 (aF d (aL d x k) (bO d x k)).2)).1=x
 rw[h3,h4,sW h hx hk (by cases bO d x k<;>rfl)]
theorem oY{d:Dg}(h:aO d=true):Rp d d.ae.length (dV d d.ae.length):=LQ h (IX h) _ (Nat.le_refl _)
def putP(i:Nat)(p:List Int)(es:List (Int×Int)):Nat->List (Int×Int)
 |0=>es
 |k+1=>mp (ga p k) (i:Int) (putP i p es k)
def Ar(dD:List (List Int)):Nat->List (Int×Int)
 |0=>[]
 |i+1=>putP i (ga dD i) (Ar dD i) (ga dD i).length
theorem ads(i:Nat)(p:List Int)(es:List (Int×Int))(k:Nat)(hk:k<=p.length)(y:Int):(y∈p.take k->mg y (putP i p es k)=some (i:Int))/\(y∉p.take k->mg y (putP i p es k)=mg y es):=by
 induction k with
 |zero=>exact⟨fun h=>by simp at h,fun _=>rfl⟩
 |succ k ih=>
  have ih:=ih (by omega)
  rw[na _ _ (by omega),putP,yJ]
  constructor
  ·intro h
   by_cases e:y=ga p k
   ·rw[if_pos e]
   ·rw[if_neg e]
    rcases List.mem_append.1 h with h|h
    ·exact ih.1 h
    ·exact absurd (List.mem_singleton.1 h) e
  ·intro h
   rw[List.mem_append,List.mem_singleton]at h
   rw[if_neg (fun e=>h (.inr e))]
   exact ih.2 (fun e=>h (.inl e))
theorem acs{dD:List (List Int)}(hd:∀i j,i<dD.length->j<dD.length->∀y,y∈ga dD i->y∈ga dD j->i=j)(m:Nat)(hm:m<=dD.length){i:Nat}(hi:i<m){y:Int}(hy:y∈ga dD i):mg y (Ar dD m)=some (i:Int):=by
 induction m with
 |zero=>omega
 |succ m ih=>
  have h:=ads m (ga dD m) (Ar dD m) (ga dD m).length (Nat.le_refl _) y
  rw[List.take_length]at h
  rw[Ar]
  by_cases e:y∈ga dD m
  ·rw[h.1 e,hd i m (by omega) (by omega) y hy e]
  ·rw[h.2 e]
   exact ih (by omega) (by
    rcases Nat.lt_or_ge i m with h1|h1
    ·exact h1
    ·obtain rfl:i=m:=by omega
     exact absurd hy e)
def pmap(d:Dg):List (Int×Int):=Ar (bD d) (bD d).length
def cg(d:Dg)(x:Nat):Nat:=((mg (x:Int) (pmap d)).getD 0).toNat
theorem tL{d:Dg}(h:aO d=true){i x:Nat}(hi:i<(bD d).length)(hx:(x:Int)∈ga (bD d) i):mg (x:Int) (pmap d)=some (i:Int)/\cg d x=i:=by
 have e:=acs (oY h).QB _ (Nat.le_refl _) hi hx
 refine⟨e,?_⟩
 unfold cg
 unfold pmap
 rw[show mg (x:Int) (Ar (bD d) (bD d).length)=some (i:Int)from e]
 rfl
theorem mZ{d:Dg}(h:aO d=true){x:Nat}(hx:x<d.ae.length):cg d x<(bD d).length/\(x:Int)∈ga (bD d) (cg d x)/\(mg (x:Int) (pmap d)).getD 0=(cg d x:Int):=by
 obtain⟨i,hi,hm⟩:=((oY h).see x hx).1 ((oY h).D8 x hx)
 have hi':i<(bD d).length:=hi
 have hm':(x:Int)∈ga (bD d) i:=hm
 obtain⟨h1,h2⟩:=tL h hi' hm'
 rw[h2]
 exact⟨hi',hm',by rw[h1];rfl⟩
def nt(d:Dg):Nat->List Int
 |0=>List.replicate (bD d).length 0
 |k+1=>(nt d k).set (cg d (kJ d k)) (ga (nt d k) (cg d (kJ d k))+1)
theorem L4(d:Dg)(k:Nat):(nt d k).length=(bD d).length:=by
 induction k with
 |zero=>exact List.length_replicate
 |succ k ih=>rw[nt,List.length_set,ih]
theorem afv(d:Dg)(k j:Nat):0<=ga (nt d k) j/\ga (nt d k) j<=k:=by
 induction k generalizing j with
 |zero=>
  by_cases h:j<(bD d).length
  ·rw[nt,rZ _ _ _ h];simp
  ·rw[nt,show ga (List.replicate (bD d).length (0:Int)) j=0 from by unfold ga;simp[h]];exact⟨Int.le_refl _,Int.le_refl _⟩
 |succ k ih=>
  rw[nt]
  have h1:=ih j
  have h2:=ih (cg d (kJ d k))
  by_cases e:cg d (kJ d k)=j
  ·by_cases hl:j<(nt d k).length
   ·subst e;rw[eX _ _ _ _ hl,if_pos rfl];omega
   ·rw[List.set_eq_of_length_le (by omega)];omega
  ·rw[SK _ _ _ _ e];omega
theorem nK{α:Type}[DecidableEq α]{xs ys:List α}(h:xs.Nodup)(hs:∀y∈xs,y∈ys):xs.length<=ys.length:=by
 induction xs generalizing ys with
 |nil=>exact Nat.zero_le _
 |cons x xs ih=>
  rw[List.nodup_cons]at h
  have hx:=hs x (by simp)
  have h1:=ih h.2 (ys:=ys.erase x) (fun y hy=>(List.mem_erase_of_ne (fun(e:y=x)=>h.1 (by rw[<-e];exact hy))).2 (hs y (by simp[hy])))
  rw[List.length_erase_of_mem hx]at h1
  have:=List.length_pos_of_mem hx
  rw[List.length_cons]
  omega
def ml(d:Dg):Bool:=(List.range (bD d).length).all fun i=>decide (ga (nt d (ai d).length) i=((ga (bD d) i).length:Int)+2)
theorem Uu{d:Dg}(h:∀i,i<(bD d).length->ga (nt d (ai d).length) i=((ga (bD d) i).length:Int)+2):ml d=true:=by
 unfold ml
 rw[List.all_eq_true]
 intro p hp
 exact decide_eq_true (h p (List.mem_range.1 hp))
theorem adw{d:Dg}{i:Nat}(hi:i<(bD d).length)(h:¬ga (nt d (ai d).length) i=((ga (bD d) i).length:Int)+2):ml d=false:=by
 unfold ml
 rw[List.all_eq_false]
 exact⟨i,List.mem_range.2 hi,by simpa using h⟩
theorem Uv{d:Dg}(h:aO d=true){i:Nat}(hi:i<(bD d).length):(ga (bD d) i).length<=d.ae.length/\∀y∈ga (bD d) i,0<=y/\y<(d.ae.length:Int):=by
 obtain⟨h1,c0,_,_,h2⟩:=(oY h).el i hi
 have hb:∀y∈ga (bD d) i,0<=y/\y<(d.ae.length:Int):=fun y hy=>by obtain⟨z,rfl,hz,_⟩:=h2 y hy;omega
 refine⟨?_,hb⟩
 have h3:=nK (ys:=(List.range d.ae.length).map fun x:Nat=>(x:Int)) h1 (fun y hy=>by
  obtain⟨z,rfl,hz,_⟩:=h2 y hy
  exact List.mem_map.2 ⟨z,List.mem_range.2 hz,rfl⟩)
 rw[List.length_map,List.length_range]at h3
 exact h3
noncomputable def Z2p:=Tryz.f24.body.getD .skip
set_option maxHeartbeats 1000000 in
set_option maxRecDepth 10000 in
theorem T7{w:World}{M:Hp}{X:Fr}(d:Dg){cI:Nat}{cA iA oA:Option Addr}{cc ic oc:Nat}(bI:fW (M.un X.h) cI 66 [.slice cA d.ae.length cc,.int .i64 d.loops,.slice iA (aI d false (4*d.ae.length)).length ic,.slice oA (aI d true (4*d.ae.length)).length oc])(hsc:aJ bu (M.un X.h) cA cc d.ae)(hsi:aJ cQ (M.un X.h) iA ic (aI d false (4*d.ae.length)))(bq:aJ cQ (M.un X.h) oA oc (aI d true (4*d.ae.length)))(hn:d.ae.length<=16)(hab:aO d=true)(S:SH w M X []):Ct Tryz.prog 24 [.pointer (some ⟨cI,0,none⟩)] w M X (fun u _=>u=.bool (ml d)):=by
 unfold Ct
 refine cw (b:=Z2p) Tryz.func24 rfl Tryz.ntmps24 rfl (fun C hC=>(cB [0] rfl (ar (af 1 rfl (bL [0] rfl (aj rfl (xJ Int Int (Value.int .i64) (Value.int .i64) rfl rfl rfl S ?_)))))))
 intro iH w1 S1;clear S
 refine af 1 rfl (bL [0,3] rfl (af 1 rfl (aj rfl (eo rfl rfl rfl rfl rfl rfl rfl Yo S1 (T8 d (bI.mono S1.bn) (hsc.mono S1.bn) (hsi.mono S1.bn) (bq.mono S1.bn) hn hab S1.aT) ?_))))
 intro sZ w2 M1 bh S2 kY;clear S1
 replace bI:=bI.mono (Hp.aD bh S2.mx)
 replace hsc:=hsc.mono (Hp.aD bh S2.mx)
 replace hsi:=hsi.mono (Hp.aD bh S2.mx)
 replace bq:=bq.mono (Hp.aD bh S2.mx)
 obtain⟨A1,c1,vs1,rfl,hr1,hd1⟩:=kY
 have TN:=hd1.1
 refine af 1 rfl (bM [0,3,4] rfl (ar (af 1 rfl (ag rfl (cK rfl FF) (af 1 rfl (aB (bK (bg ?_))))))))
 refine ck (fun aZ au aR=>∃(i:Nat) (es:List (Int×Int)),aZ=(bD d).length-i/\Env 75 [(0,.pointer (some ⟨cI,0,none⟩)),(3,.map (some iH)),(4,.slice A1 vs1.length c1),(17,.slice A1 vs1.length c1),(18,.int .i64 (vs1.length:Int)),(19,.int .i64 (i:Int))] au/\SH aR M1 X [Rs.mp (Value.int .i64) (Value.int .i64) iH es]/\i<=(bD d).length/\es=Ar (bD d) i) rfl ?_ ?_
 ·intro au aq
  refine⟨_,⟨0,[],rfl,aq.su rfl,S2.pick [0] [_] (by decide) ⟨rfl,trivial⟩,?dh,?dC⟩⟩
  case dh=>omega
  case dC=>rfl
 ·rintro m2 a1 w3 ⟨i,es,rfl,bN,S3,hi,hes⟩
  clear S2
  refine cy bN ?_
  clear bN a1
  have hpl:=HL d d.ae.length
  replace hpl:(bD d).length<=d.ae.length:=hpl
  refine ar (af 1 rfl (aB (di ?_)))
  refine bp rfl (fun xw=>?_) (fun xw=>?_)
  ·refine aV (bC [0,3,4,17,18,19] rfl (bg (ar (af 1 rfl (ag rfl (cN i rfl oM hr1) ?_)))))
   obtain⟨kG,hr2⟩:=hd1.2 i (by first|omega|(simp only[ls];omega))
   have Aq:(ga (bD d) i).length*8<=140737488355328:=hr2.room
   refine ag rfl (aw rfl dm (hr1.cell S3.m (i:=i) (by first|omega|(simp only[ls];omega)) 0 rfl (congrArg (fun n=>some (Value.slice _ n _)) kG))) ?_
   refine af 2 rfl (bL [0,3,4,17,18,19,5,6] rfl (af 1 rfl (ag rfl (cK rfl dm) (af 1 rfl (ax [0,3,4,17,18,19,5,24,25,26] rfl (bg ?_))))))
   refine ck (fun aZ au aR=>∃(k:Nat) (iz:List (Int×Int)),aZ=(ga (bD d) i).length-k/\Env 75 [(0,.pointer (some ⟨cI,0,none⟩)),(3,.map (some iH)),(4,.slice A1 vs1.length c1),(17,.slice A1 vs1.length c1),(18,.int .i64 (vs1.length:Int)),(19,.int .i64 (i:Int)),(5,.int .i64 (i:Int)),(24,.slice ((ga vs1 i).A) (ga (bD d) i).length ((ga vs1 i).c)),(25,.int .i64 ((ga (bD d) i).length:Int)),(26,.int .i64 (k:Int))] au/\SH aR M1 X [Rs.mp (Value.int .i64) (Value.int .i64) iH iz]/\k<=(ga (bD d) i).length/\iz=putP i (ga (bD d) i) es k) rfl ?_ ?_
   ·intro au aq
    refine⟨_,⟨0,es,rfl,aq.su rfl,S3.pick [0] [_] (by decide) ⟨rfl,trivial⟩,?dv,?dL⟩⟩
    case dv=>omega
    case dL=>rfl
   ·rintro m3 a2 w4 ⟨k,iz,rfl,cU,S4,hk,oO⟩
    clear S3
    refine cy cU ?_
    clear cU a2
    have hpb:=Uv hab (i:=i) (by omega)
    refine ar (af 1 rfl (aB (di ?_)))
    refine bp rfl (fun F8=>?_) (fun F8=>?_)
    ·refine aV (bC [0,3,4,17,18,19,5,24,25,26] rfl (bg (ar (ag rfl (cN k rfl bt hr2) (ag rfl (aw rfl aG (hr2.cell S4.m (i:=k) (by first|omega|(simp only[ls];omega)) 0 rfl rfl)) ?_)))))
     refine af 1 rfl (ax [0,3,4,17,18,19,5,24,25,26,8] rfl (aH (af 3 rfl (aj rfl (ou (kc:=Value.int .i64) (vc:=Value.int .i64) (es:=iz) (k:=(ga (ga (bD d) i) k)) (e:=(i:Int)) (i:=0) (H':=[_]) (.inl rfl) rfl S4 rfl rfl rfl rfl nT mr rfl ?_)))))
     intro w5 S5;clear S4
     refine aB (bE (aW [0,3,4,17,18,19,5,24,25,26] rfl (aH (ag rfl (bj rfl) (af 1 rfl (aB (br ?_)))))))
     intro au aq
     refine⟨_,?kr,⟨k+1,_,rfl,aq.su rfl,S5.pick [0] [_] (by decide) ⟨rfl,trivial⟩,?fg,?fR⟩⟩
     case fg=>omega
     case fR=>(rw[oO];rfl)
     case kr=>omega
    ·refine bX rfl (bE (aW [0,3,4,17,18,19] rfl (aH (ag rfl (bj rfl) (af 1 rfl (aB (br ?_)))))))
     intro au aq
     refine⟨_,?jr,⟨i+1,_,rfl,aq.su rfl,S4.pick [0] [_] (by decide) ⟨rfl,trivial⟩,?fJ,?fZ⟩⟩
     case fJ=>omega
     case fZ=>(obtain rfl:k=(ga (bD d) i).length:=(by omega);rw[oO,hes];rfl)
     case jr=>omega
  ·have ajp:es=pmap d:=by rw[hes,show i=(bD d).length by omega];rfl
   have Xz:=HL d d.ae.length
   replace Xz:(bD d).length<=d.ae.length:=Xz
   refine bX rfl (cP [0,3,4] rfl (af 1 rfl (ag rfl (cK rfl FF) (aj rfl (sP (C:=aQ) vs1.length rfl rfl rfl rfl rfl bt (by first|rfl|omega) (by show _*8<=_;first|omega|(simp only[ls];omega)) S3 ?_)))))
   intro s6 w6 S6;clear S3
   refine af 1 rfl (bM [0,3,4,9] rfl (ar (af 1 rfl (aj rfl (eo rfl rfl rfl rfl rfl rfl rfl Po S6 (InF.Me d (bI.mono S6.bn) (hsc.mono S6.bn) (hsi.mono S6.bn) (bq.mono S6.bn) hn hab S6.aT) ?_)))))
   intro vw7 w7 M2 b7 S7 ajO;clear S6
   replace bI:=bI.mono (Hp.aD b7 S7.mx)
   replace hsc:=hsc.mono (Hp.aD b7 S7.mx)
   replace hsi:=hsi.mono (Hp.aD b7 S7.mx)
   replace bq:=bq.mono (Hp.aD b7 S7.mx)
   replace hr1:=hr1.mono b7
   replace hd1:=hd1.mono b7
   obtain⟨A2,c2,vs2,rfl,hr3,hd2⟩:=ajO
   have RZ:=hd2.1
   refine ag rfl (cK rfl qo) (af 1 rfl (ax [0,3,4,9,39,40,41] rfl (bg ?_)))
   refine ck (fun aZ au aR=>∃(k:Nat) (fs:List Int) (uL:Value),aZ=(ai d).length-k/\Env 75 [(0,.pointer (some ⟨cI,0,none⟩)),(3,.map (some iH)),(4,.slice A1 vs1.length c1),(9,uL),(39,.slice A2 vs2.length c2),(40,.int .i64 (vs2.length:Int)),(41,.int .i64 (k:Int))] au/\SH aR M2 X [Rs.row aQ uL fs,Rs.mp (Value.int .i64) (Value.int .i64) iH es]/\k<=(ai d).length/\fs=nt d k) rfl ?_ ?_
   ·intro au aq
    refine⟨_,⟨0,_,_,rfl,aq.su rfl,S7.pick [0,1] [_,_] (by decide) ⟨rfl,rfl,trivial⟩,?fI,?fY⟩⟩
    case fI=>omega
    case fY=>(rw[TN];rfl)
   ·rintro m4 a3 w8 ⟨k,fs,uL,rfl,fB,S8,hk,vY⟩
    clear S7
    refine cy fB ?_
    clear fB a3
    have zD:=BF d
    have ajn:fs.length=(bD d).length:=by rw[vY,L4]
    refine ar (af 1 rfl (aB (di ?_)))
    refine bp rfl (fun F7=>?_) (fun F7=>?_)
    ·obtain⟨hh0,hok⟩:=E3 (d:=d) (k:=k) (by omega)
     have hfc:=MR hab (k:=k) (by omega)
     have hpi:=mZ hab hfc
     obtain⟨ang,hpi2,XA⟩:=hpi
     rw[<-ajp]at XA
     have hfb:=afv d k (cg d (kJ d k))
     rw[<-vY]at hfb
     refine aV (bC [0,3,4,9,39,40,41] rfl (bg (ar (ag rfl (cN k rfl qp hr3) ?_))))
     obtain⟨mv,hr4⟩:=hd2.2 k (by first|omega|(simp only[ls];omega))
     have Fj:(ga (ai d) k).length*16<=140737488355328:=hr4.room
     refine ag rfl (aw rfl nG (hr3.cell S8.m (i:=k) (by first|omega|(simp only[ls];omega)) 0 rfl (congrArg (fun n=>some (Value.slice _ n _)) mv))) ?_
     refine af 1 rfl (ax [0,3,4,9,39,40,41,11] rfl (aH (af 4 rfl (ag rfl (cN 0 rfl mM hr4) (ag rfl (aU [_,_] rfl eA gD (hr4.j6 S8.m (e:=0) (by first|omega|(simp only[ls];omega)) (j:=0) ⟨rfl,rfl,trivial⟩)) ?_)))))
     refine aj rfl (dU rfl rfl rfl rfl rfl rfl rfl Pn S8 (MX d (ga (ga (ai d) k) 0) (bI.mono S8.bn) (hsc.mono S8.bn) (hsi.mono S8.bn) (bq.mono S8.bn) (by first|assumption|omega) hab (by first|assumption|omega) S8.aT) ?_)
     rintro _ w9 S9 rfl;clear S8
     refine ag rfl (rH rfl rfl dX rfl aG rfl rfl) (ag rfl (zn (kc:=Value.int .i64) (vc:=Value.int .i64) (es:=es) (k:=((aF d (ga (ga (ai d) k) 0).a (ga (ga (ai d) k) 0).b).1:Int)) (zv:=0) (i:=1) rfl rfl rfl nT mr BK S9 rfl) (dz 53 (.int .i64 (cg d (kJ d k):Int)) rfl (int_eq XA) (ag rfl (bS (i:=0) (cg d (kJ d k)) rfl bt S9 rfl) (ag rfl (aw rfl aG (S9.dS (i:=0) (e:=cg d (kJ d k)) (j:=0) rfl (by first|omega|(simp only[ls];omega)) rfl rfl)) ?_))))
     refine ag rfl (bj rfl) (ag rfl (bS (i:=0) (cg d (kJ d k)) rfl bt S9 rfl) (aj rfl (iE (C:=aQ) (i:=0) (e:=cg d (kJ d k)) (j:=0) (us:=[_]) (H':=[_,_]) ((ga fs (cg d (kJ d k)))+1) rfl rfl S9 rfl (by first|omega|(simp only[ls];omega)) rfl rfl rfl gp rfl rfl rfl rfl ?_)))
     intro ld bQ;clear S9
     refine aB (bE (aW [0,3,4,9,39,40,41] rfl (aH (ag rfl (bj rfl) (af 1 rfl (aB (br ?_)))))))
     intro au aq
     refine⟨_,?kq,⟨k+1,_,_,rfl,aq.su rfl,bQ.pick [0,1] [_,_] (by decide) ⟨rfl,rfl,trivial⟩,?iB,?iW⟩⟩
     case iB=>omega
     case iW=>(rw[vY];rfl)
     case kq=>omega
    ·have O0:fs=nt d (ai d).length:=by rw[vY,show k=(ai d).length by omega]
     refine bX rfl (bC [4,9] rfl (ar (af 1 rfl (ag rfl (cK rfl FF) (af 1 rfl (ax [9,59,60,61] rfl (bg ?_)))))))
     refine ck (fun aZ au aR=>∃(j:Nat),aZ=(bD d).length-j/\Env 75 [(9,uL),(59,.slice A1 vs1.length c1),(60,.int .i64 (vs1.length:Int)),(61,.int .i64 (j:Int))] au/\SH aR M2 X [Rs.row aQ uL fs]/\j<=(bD d).length/\(∀q,q<j->ga fs q=((ga (bD d) q).length:Int)+2)) rfl ?_ ?_
     ·intro au aq
      refine⟨_,⟨0,rfl,aq.su rfl,S8.pick [0] [_] (by decide) ⟨rfl,trivial⟩,?jN,?jM⟩⟩
      case jN=>omega
      case jM=>(intro q hq;omega)
     ·rintro m5 a4 lI ⟨j,rfl,iT,cz,hj,hall⟩
      clear S8
      refine cy iT ?_
      clear iT a4
      have hpl:=HL d d.ae.length
      replace hpl:(bD d).length<=d.ae.length:=hpl
      have ajn:fs.length=(bD d).length:=by rw[O0,L4]
      refine ar (af 1 rfl (aB (di ?_)))
      refine bp rfl (fun je=>?_) (fun je=>?_)
      ·have hpb:=Uv hab (i:=j) (by omega)
       refine aV (bC [9,59,60,61] rfl (bg (ar (af 1 rfl (ag rfl (cN j rfl oM hr1) ?_)))))
       obtain⟨yg,ja⟩:=hd1.2 j (by first|omega|(simp only[ls];omega))
       have agA:(ga (bD d) j).length*8<=140737488355328:=ja.room
       refine ag rfl (aw rfl dm (hr1.cell cz.m (i:=j) (by first|omega|(simp only[ls];omega)) 0 rfl (congrArg (fun n=>some (Value.slice _ n _)) yg))) ?_
       refine af 2 rfl (bL [9,59,60,61,12,13] rfl (af 2 rfl (ag rfl (bS (i:=0) j rfl bt cz rfl) (ag rfl (aw rfl aG (cz.dS (i:=0) (e:=j) (j:=0) rfl (by first|omega|(simp only[ls];omega)) rfl rfl)) ?_))))
       refine af 1 rfl (ag rfl (cK rfl dm) (ag rfl (bj rfl) (af 1 rfl (ax [9,59,60,61,73] rfl ?_))))
       refine bp rfl (fun F5=>?_) (fun F5=>?_)
       ·refine ar (af 1 rfl (ax [2] rfl (bU hC rfl ?_)))
        refine⟨_,rfl,_,bh.trans b7,(cz.pick [] [] (by decide) trivial),?_⟩
        refine congrArg Value.bool (adw (i:=j) (by omega) ?_).symm
        rw[<-O0];omega
       ·refine aV (bE (aW [9,59,60,61] rfl (aH (ag rfl (bj rfl) (af 1 rfl (aB (br ?_)))))))
        intro au aq
        refine⟨_,?lZ,⟨j+1,rfl,aq.su rfl,cz.pick [0] [_] (by decide) ⟨rfl,trivial⟩,?jL,?jK⟩⟩
        case jL=>omega
        case jK=>(intro q hq;by_cases h:q=j;(subst h;omega);exact hall q (by omega))
        case lZ=>omega
      ·refine bX rfl (cP [] rfl (af 1 rfl (aB (bK (bU hC rfl ?_)))))
       refine⟨_,rfl,_,bh.trans b7,(cz.pick [] [] (by decide) trivial),?_⟩
       exact congrArg Value.bool (Uu (d:=d) (fun q hq=>by rw[<-O0];exact hall q (by omega))).symm
end Go.Proofs.YtcohmplpgcddiaaGreatDoor
namespace Go.Proofs.YtcohmplpgcddiaaGreatDoor
open Go.ChangeShapes Go.WideShapes Go.ChangeAt Go.RowKit
def qE(e1 e2:Nat->Nat)(ws:List Int):Nat->List Int
 |0=>ws
 |k+1=>nD (qE e1 e2 ws k) (e1 k) (e2 k)
def cn(P:Nat->Bool):Nat->Nat
 |0=>0
 |k+1=>cn P k+(if P k=true then 1 else 0)
theorem yQ(P:Nat->Bool)(k:Nat):cn P k<=k:=by
 induction k with
 |zero=>exact Nat.le_refl _
 |succ k ih=>rw[cn];split<;>omega
theorem aea{P Q:Nat->Bool}(k:Nat)(h:∀x,x<k->P x=true->Q x=true):cn P k<=cn Q k:=by
 induction k with
 |zero=>exact Nat.le_refl _
 |succ k ih=>
  have:=ih (fun x hx=>h x (by omega))
  rw[cn,cn]
  by_cases hp:P k=true
  ·rw[if_pos hp,if_pos (h k (by omega) hp)];omega
  ·rw[if_neg hp];omega
theorem ahy{P Q:Nat->Bool}(k:Nat)(h:∀x,x<k->P x=true->Q x=true){x:Nat}(hx:x<k)(hq:Q x=true)(hp:P x=false):cn P k<cn Q k:=by
 induction k with
 |zero=>omega
 |succ k ih=>
  rw[cn,cn]
  by_cases e:x=k
  ·subst e
   have:=aea x (P:=P) (Q:=Q) (fun y hy=>h y (by omega))
   rw[if_pos hq,if_neg (by rw[hp];exact Bool.false_ne_true)];omega
  ·have:=ih (fun y hy=>h y (by omega)) (by omega)
   by_cases hp':P k=true
   ·rw[if_pos hp',if_pos (h k (by omega) hp')];omega
   ·rw[if_neg hp'];omega
theorem afB{P:Nat->Bool}(k:Nat)(h:k<=cn P k):∀x,x<k->P x=true:=by
 induction k with
 |zero=>intro x hx;omega
 |succ k ih=>
  rw[cn]at h
  have hl:=yQ P k
  by_cases hp:P k=true
  ·intro x hx
   by_cases e:x=k
   ·subst e;exact hp
   ·rw[if_pos hp]at h;exact ih (by omega) x (by omega)
  ·rw[if_neg hp]at h;omega
theorem least{P:Nat->Prop}(y:Nat)(h:P y):∃z,P z/\∀u,P u->z<=u:=by
 induction y using Nat.strongRecOn with
 |_ y ih=>
  by_cases hs:∃u,u<y/\P u
  ·obtain⟨u,hu,hp⟩:=hs
   exact ih u hu hp
  ·exact⟨y,h,fun u hu=>by
    rcases Nat.lt_or_ge u y with h1|h1
    ·exact absurd ⟨u,h1,hu⟩ hs
    ·exact h1⟩
def C5(N:Nat)(cl:Nat->Nat)(ws:List Int):Prop:=ws.length=N/\∀x,x<N->∃z:Nat,z<N/\ga ws x=(z:Int)/\cl z=cl x
theorem ab6{N:Nat}{cl:Nat->Nat}{ws:List Int}(h:C5 N cl ws){x y:Nat}(hx:x<N)(hy:y<N)(hc:cl x=cl y):C5 N cl (nD ws x y):=by
 refine⟨by rw[La];exact h.1,fun z hz=>?_⟩
 have hl:=h.1
 unfold nD
 split
 ·rw[eX _ _ _ _ (by omega)]
  split
  ·rename_i e;subst e
   obtain⟨u,h1,h2,h3⟩:=h.2 x hx
   exact⟨u,h1,h2,h3.trans hc⟩
  ·exact h.2 z hz
 ·rw[eX _ _ _ _ (by omega)]
  split
  ·rename_i e;subst e
   obtain⟨u,h1,h2,h3⟩:=h.2 y hy
   exact⟨u,h1,h2,h3.trans hc.symm⟩
  ·exact h.2 z hz
theorem aaM{N:Nat}{cl:Nat->Nat}{m:Nat->Nat}(hm:∀x,x<N->∀y,y<N->cl y=cl x->m x<=y)(G1:∀x y,x<N->y<N->cl x=cl y->m x=m y){ws:List Int}(h:C5 N cl ws){x y:Nat}(hx:x<N)(hy:y<N)(hc:cl x=cl y):
  (∀z,z<N->ga ws z=(m z:Int)->ga (nD ws x y) z=(m z:Int))/\(ga ws x=(m x:Int)\/ga ws y=(m y:Int)->ga (nD ws x y) x=(m x:Int)/\ga (nD ws x y) y=(m y:Int)):=by
 have hl:=h.1
 have hmm:=G1 x y hx hy hc
 obtain⟨u,u1,u2,u3⟩:=h.2 x hx
 obtain⟨v,v1,v2,v3⟩:=h.2 y hy
 have b1:=hm x hx u u1 u3
 have b2:=hm y hy v v1 v3
 unfold nD
 by_cases hlt:ga ws x<ga ws y
 ·rw[if_pos hlt]
  simp only[eX _ _ _ _ (show y<ws.length by omega)]
  refine⟨fun z hz hg=>?_,fun hg=>?_⟩
  ·split
   ·rename_i e;subst e;omega
   ·exact hg
  ·simp only[if_true,ite_self]
   have e0:ga ws x=(m x:Int):=by rcases hg with hg|hg<;>omega
   omega
 ·rw[if_neg hlt]
  simp only[eX _ _ _ _ (show x<ws.length by omega)]
  refine⟨fun z hz hg=>?_,fun hg=>?_⟩
  ·split
   ·rename_i e;subst e;omega
   ·exact hg
  ·simp only[if_true,ite_self]
   have e0:ga ws y=(m y:Int):=by rcases hg with hg|hg<;>omega
   omega
theorem labels{N K:Nat}(e1 e2:Nat->Nat)(he:∀k,k<K->e1 k<N/\e2 k<N)(cl:Nat->Nat)(hin:∀k,k<K->cl (e1 k)=cl (e2 k))
  (hcon:∀Z:Nat->Prop,(∀k,k<K->(Z (e1 k)<->Z (e2 k)))->∀x y,x<N->y<N->cl x=cl y->Z x->Z y)
  (ws:Nat->List Int)(hlen:(ws 0).length=N)(h0:∀x:Nat,x<N->ga (ws 0) x=(x:Int))(hs:∀j,ws (j+1)=qE e1 e2 (ws j) K):
  ∀x,x<N->∃z:Nat,z<N/\ga (ws N) x=(z:Int)/\cl z=cl x/\∀y,y<N->cl y=cl x->z<=y:=by
 have hex:∀x:Nat,∃z:Nat,x<N->(z<N/\cl z=cl x)/\∀u,u<N/\cl u=cl x->z<=u:=fun x=>by
  by_cases hx:x<N
  ·obtain⟨z,h1,h2⟩:=least (P:=fun z=>z<N/\cl z=cl x) x ⟨hx,rfl⟩
   exact⟨z,fun _=>⟨h1,h2⟩⟩
  ·exact⟨0,fun h=>absurd h hx⟩
 obtain⟨m,hm0⟩:=Classical.axiomOfChoice hex
 have hm:∀x,x<N->∀y,y<N->cl y=cl x->m x<=y:=fun x hx y hy e=>(hm0 x hx).2 y ⟨hy,e⟩
 have G1:∀x y,x<N->y<N->cl x=cl y->m x=m y:=fun x y hx hy e=>by
  have h1:=hm0 x hx
  have h2:=hm0 y hy
  have:=h1.2 (m y) ⟨h2.1.1,h2.1.2.trans e.symm⟩
  have:=h2.2 (m x) ⟨h1.1.1,h1.1.2.trans e⟩
  omega
 have ME:∀w,C5 N cl w->∀k,k<=K->C5 N cl (qE e1 e2 w k)/\(∀z,z<N->ga w z=(m z:Int)->ga (qE e1 e2 w k) z=(m z:Int))/\
   ∀j,j<k->(ga w (e1 j)=(m (e1 j):Int)\/ga w (e2 j)=(m (e2 j):Int))->ga (qE e1 e2 w k) (e1 j)=(m (e1 j):Int)/\ga (qE e1 e2 w k) (e2 j)=(m (e2 j):Int):=fun w hw k=>by
  induction k with
  |zero=>exact fun _=>⟨hw,fun z _ h=>h,fun j hj=>by omega⟩
  |succ k ih=>
   intro hk
   obtain⟨a1,a2,a3⟩:=ih (by omega)
   obtain⟨p1,p2⟩:=he k (by omega)
   have hc:=hin k (by omega)
   obtain⟨g1,g2⟩:=aaM hm G1 a1 p1 p2 hc
   refine⟨ab6 a1 p1 p2 hc,fun z hz h=>g1 z hz (a2 z hz h),fun j hj hg=>?_⟩
   obtain⟨q1,q2⟩:=he j (by omega)
   by_cases e:j=k
   ·subst e
    exact g2 (hg.elim (fun h=>.inl (a2 _ q1 h)) (fun h=>.inr (a2 _ q2 h)))
   ·obtain⟨r1,r2⟩:=a3 j (by omega) hg
    exact⟨g1 _ q1 r1,g1 _ q2 r2⟩
 have hok:∀j,C5 N cl (ws j):=fun j=>by
  induction j with
  |zero=>exact⟨hlen,fun x hx=>⟨x,hx,h0 x hx,rfl⟩⟩
  |succ j ih=>rw[hs];exact(ME _ ih K (Nat.le_refl _)).1
 have Jo:∀j z,z<N->ga (ws j) z=(m z:Int)->ga (ws (j+1)) z=(m z:Int):=fun j z hz h=>by rw[hs];exact(ME _ (hok j) K (Nat.le_refl _)).2.1 z hz h
 have hroot:∀j x,x<N->ga (ws j) (m x)=(m (m x):Int):=fun j x hx=>by
  have h1:=(hm0 x hx).1
  have e:m (m x)=m x:=G1 _ _ h1.1 hx h1.2
  induction j with
  |zero=>rw[h0 _ h1.1,e]
  |succ j ih=>exact Jo j _ h1.1 ih
 have hgrow:∀j,(∀x,x<N->ga (ws j) x=(m x:Int))\/j<=cn (fun x=>decide (ga (ws j) x=(m x:Int))) N:=fun j=>by
  induction j with
  |zero=>exact .inr (Nat.zero_le _)
  |succ j ih=>
   rcases ih with ih|ih
   ·exact .inl fun x hx=>Jo j x hx (ih x hx)
   ·by_cases hnew:∃x,x<N/\ga (ws (j+1)) x=(m x:Int)/\ga (ws j) x≠(m x:Int)
    ·obtain⟨x,hx,h1,h2⟩:=hnew
     right
     have:=ahy (P:=fun x=>decide (ga (ws j) x=(m x:Int))) (Q:=fun x=>decide (ga (ws (j+1)) x=(m x:Int))) N (fun z hz h=>decide_eq_true (Jo j z hz (of_decide_eq_true h))) hx (decide_eq_true h1) (decide_eq_false h2)
     omega
    ·left
     have hsame:∀x,x<N->ga (ws (j+1)) x=(m x:Int)->ga (ws j) x=(m x:Int):=fun x hx h=>Classical.byContradiction fun h'=>hnew ⟨x,hx,h,h'⟩
     have hcl:=hcon (fun x=>ga (ws j) x=(m x:Int)) (fun k hk=>by
      obtain⟨q1,q2⟩:=he k hk
      have h3:=(ME _ (hok j) K (Nat.le_refl _)).2.2 k hk
      rw[<-hs]at h3
      exact⟨fun h=>hsame _ q2 (h3 (.inl h)).2,fun h=>hsame _ q1 (h3 (.inr h)).1⟩)
     intro x hx
     have h1:=(hm0 x hx).1
     exact Jo j x hx (hcl (m x) x h1.1 hx h1.2 (hroot j x hx))
 intro x hx
 have hall:ga (ws N) x=(m x:Int):=by
  rcases hgrow N with h|h
  ·exact h x hx
  ·exact of_decide_eq_true (afB N h x hx)
 have h1:=hm0 x hx
 exact⟨m x,h1.1.1,hall,h1.1.2,fun y hy e=>h1.2 y ⟨hy,e⟩⟩
end Go.Proofs.YtcohmplpgcddiaaGreatDoor
namespace Go.Proofs.YtcohmplpgcddiaaGreatDoor
open Go.ChangeShapes Go.WideShapes Go.ChangeAt Go.RowKit
theorem ad3{d:Dg}(h:aO d=true){x s:Nat}(hx:x<d.ae.length)(hs:s<4):∃k,k<2*d.ae.length/\((iX d k false=x/\iX d k true=bB d x s)\/(iX d k true=x/\iX d k false=bB d x s)):=by
 have ha:=ey h hx hs
 have e:(((aL d x s).toNat-1+1:Nat):Int)=aL d x s:=by omega
 refine⟨(aL d x s).toNat-1,by omega,?_⟩
 unfold iX bB
 rw[e]
 cases hb:bO d x s
 ·right
  exact⟨by rw[sW h hx hs (b:=true) hb],rfl⟩
 ·left
  exact⟨by rw[sW h hx hs (b:=false) hb],rfl⟩
theorem adM{d:Dg}(h:aO d=true){k:Nat}(hk:k<2*d.ae.length):∃s,s<4/\bB d (iX d k false) s=iX d k true:=by
 have ha:1<=((k+1:Nat):Int)/\((k+1:Nat):Int)<=2*(d.ae.length:Int):=by omega
 obtain⟨_,h2,_⟩:=fO h ha false
 obtain⟨h3,h4⟩:=ot h ha false
 refine⟨(aF d ((k+1:Nat):Int) false).2,h2,?_⟩
 unfold bB iX
 rw[h3,h4]
 rfl
theorem Vl{d:Dg}(h:aO d=true){x s:Nat}(hx:x<d.ae.length)(hs:s<4):cg d (bB d x s)=cg d x:=by
 obtain⟨h1,h2,_⟩:=mZ h hx
 exact(tL h h1 ((oY h).Hk _ h1 _ h2 s hs)).2
theorem LW(n k:Nat)(hk:k<=n)(x:Nat)(hx:x<k):ga (iniW n k) x=(x:Int):=by
 induction k with
 |zero=>omega
 |succ k ih=>
  rw[iniW,eX _ _ _ _ (by rw[zi];omega)]
  split
  ·rename_i e;subst e;rfl
  ·exact ih (by omega) (by omega)
theorem acq(d:Dg)(ws:List Int)(k:Nat):z8 d ws k=qE (fun j=>iX d j false) (fun j=>iX d j true) ws k:=by
 induction k with
 |zero=>rfl
 |succ k ih=>rw[z8,qE,ih]
theorem agB{d:Dg}(h:aO d=true){x y:Nat}(hr:Rc d x y)(hx:x<d.ae.length):y<d.ae.length:=by
 induction hr with
 |refl=>exact hx
 |step _ hk ih=>exact vk h ih hk
theorem RD{d:Dg}(h:aO d=true)(Z:Nat->Prop)(hZ:∀x s,x<d.ae.length->s<4->(Z x<->Z (bB d x s))){x y:Nat}(hx:x<d.ae.length)(hy:y<d.ae.length)(e:cg d x=cg d y):Z x->Z y:=by
 have hrc:∀c z,c<d.ae.length->Rc d c z->(Z c<->Z z):=fun c z hc hr=>by
  induction hr with
  |refl=>exact Iff.rfl
  |step hr' hk ih=>exact ih.trans (hZ _ _ (agB h hr' hc) hk)
 obtain⟨h1,h2,_⟩:=mZ h hx
 obtain⟨_,h2',_⟩:=mZ h hy
 rw[<-e]at h2'
 obtain⟨_,c0,hc0,_,hel⟩:=(oY h).el _ h1
 obtain⟨u,eu,_,ru⟩:=hel _ h2
 obtain⟨v,ev,_,rv⟩:=hel _ h2'
 obtain rfl:x=u:=by omega
 obtain rfl:y=v:=by omega
 exact fun hz=>(hrc _ _ hc0 rv).1 ((hrc _ _ hc0 ru).2 hz)
theorem zQ{d:Dg}(h:aO d=true):∀x,x<d.ae.length->∃z:Nat,z<d.ae.length/\ga (fC d) x=(z:Int)/\cg d z=cg d x/\∀y,y<d.ae.length->cg d y=cg d x->z<=y:=
 labels (N:=d.ae.length) (K:=2*d.ae.length) (fun j=>iX d j false) (fun j=>iX d j true) (fun k hk=>⟨EB h hk false,EB h hk true⟩) (cg d)
  (fun k hk=>by
   obtain⟨s,hs,e⟩:=adM h hk
   rw[<-e,Vl h (EB h hk false) hs])
  (fun Z hZ x y hx hy e=>RD h Z (fun u s hu hs=>by
   obtain⟨k,hk,hh⟩:=ad3 h hu hs
   have:=hZ k hk
   rcases hh with⟨h1,h2⟩|⟨h1,h2⟩
   ·rw[h1,h2]at this;exact this
   ·rw[h1,h2]at this;exact this.symm) hx hy e)
  (Ap d) (Eg d 0) (fun x hx=>LW _ _ (Nat.le_refl _) x hx) (fun j=>by rw[Ap,acq])
theorem Tn{d:Dg}(h:aO d=true){x z:Nat}(hx:x<d.ae.length)(hz:ga (fC d) x=(z:Int)):z<d.ae.length/\cg d z=cg d x/\ga (fC d) z=(z:Int):=by
 obtain⟨u,h1,h2,h3,h4⟩:=zQ h x hx
 obtain rfl:z=u:=by omega
 obtain⟨v,g1,g2,g3,g4⟩:=zQ h z h1
 have a1:=g4 z h1 rfl
 have a2:=h4 v g1 (g3.trans h3)
 obtain rfl:v=z:=by omega
 exact⟨h1,h3,g2⟩
theorem Ii{d:Dg}(h:aO d=true){p:Nat}(hp:p<d.ae.length)(hr:ga (fC d) p=(p:Int)){x:Nat}(hx:x<d.ae.length):ga (fC d) x=(p:Int)<->cg d x=cg d p:=by
 constructor
 ·intro e
  exact(Tn h hx e).2.1.symm
 ·intro e
  obtain⟨u,h1,h2,h3,h4⟩:=zQ h x hx
  obtain⟨v,g1,g2,g3,g4⟩:=zQ h p hp
  obtain rfl:v=p:=by omega
  have a1:=h4 v hp e.symm
  have a2:=g4 u h1 (h3.trans e)
  rw[h2]
  omega
theorem TX{P Q:Nat->Bool}(k:Nat)(h:∀x,x<k->P x=Q x):cn P k=cn Q k:=by
 induction k with
 |zero=>rfl
 |succ k ih=>rw[cn,cn,ih (fun x hx=>h x (by omega)),h k (by omega)]
theorem Ei(P:Nat->Bool)(k:Nat):cn P k=((List.range k).filter P).length:=by
 induction k with
 |zero=>rfl
 |succ k ih=>
  rw[cn,ih,List.range_succ,List.filter_append,List.length_append]
  by_cases hp:P k=true<;>simp[hp]
theorem adL(ws:List Int)(p:Int)(k:Nat):negW ws p k=-(cn (fun x=>decide (ga ws x=p)) k:Int):=by
 induction k with
 |zero=>rfl
 |succ k ih=>
  rw[negW,cn,ih]
  by_cases e:ga ws k=p
  ·rw[if_pos e,if_pos (decide_eq_true e)];omega
  ·rw[if_neg e,if_neg (by simpa using e)];omega
theorem adY(d:Dg)(ws:List Int)(p m:Int)(k:Nat):pN d ws p m k=m+(cn (fun x=>decide (ga ws (kJ d x)=p)) k:Int):=by
 induction k with
 |zero=>rw[pN,cn];omega
 |succ k ih=>
  rw[pN,cn,ih]
  by_cases e:ga ws (kJ d k)=p
  ·rw[if_pos e,if_pos (decide_eq_true e)];omega
  ·rw[if_neg e,if_neg (by simpa using e)];omega
theorem MQ(d:Dg)(i:Nat)(hi:i<(bD d).length)(k:Nat):ga (nt d k) i=(cn (fun x=>decide (cg d (kJ d x)=i)) k:Int):=by
 induction k with
 |zero=>rw[nt,rZ _ _ _ hi];rfl
 |succ k ih=>
  rw[nt,cn]
  by_cases e:cg d (kJ d k)=i
  ·rw[if_pos (decide_eq_true e),e,eX _ _ _ _ (by rw[L4];exact hi),if_pos rfl,ih];omega
  ·rw[if_neg (by simpa using e),SK _ _ _ _ e,ih];omega
theorem acw{d:Dg}(h:aO d=true){i:Nat}(hi:i<(bD d).length):(ga (bD d) i).length=cn (fun x=>decide (cg d x=i)) d.ae.length:=by
 rw[Ei]
 obtain⟨h1,c0,_,_,h2⟩:=(oY h).el i hi
 have hn:((List.range d.ae.length).filter (fun x=>decide (cg d x=i))).Nodup:=List.Nodup.sublist (List.filter_sublist) List.nodup_range
 apply Nat.le_antisymm
 ·have h3:=nK (ys:=((List.range d.ae.length).filter (fun x=>decide (cg d x=i))).map fun x:Nat=>(x:Int)) h1 (fun y hy=>by
   obtain⟨z,rfl,hz,_⟩:=h2 y hy
   exact List.mem_map.2 ⟨z,List.mem_filter.2 ⟨List.mem_range.2 hz,decide_eq_true (tL h hi hy).2⟩,rfl⟩)
  rw[List.length_map]at h3
  exact h3
 ·have hn':(((List.range d.ae.length).filter (fun x=>decide (cg d x=i))).map fun x:Nat=>(x:Int)).Nodup:=by
   rw[List.nodup_iff_pairwise_ne,List.pairwise_map]
   exact List.Pairwise.imp (fun hab e=>hab (by omega)) hn
  have h3:=nK (ys:=ga (bD d) i) hn' (fun y hy=>by
   obtain⟨z,hz,rfl⟩:=List.mem_map.1 hy
   obtain⟨hz1,hz2⟩:=List.mem_filter.1 hz
   obtain⟨_,g2,_⟩:=mZ h (List.mem_range.1 hz1)
   rw[of_decide_eq_true hz2]at g2
   exact g2)
  rw[List.length_map]at h3
  exact h3
theorem RS{d:Dg}(h:aO d=true){p:Nat}(hp:p<d.ae.length)(hr:ga (fC d) p=(p:Int)):cg d p<(bD d).length/\
  (pN d (fC d) p (negW (fC d) p d.ae.length) (ai d).length=2<->ga (nt d (ai d).length) (cg d p)=((ga (bD d) (cg d p)).length:Int)+2):=by
 obtain⟨h1,_,_⟩:=mZ h hp
 refine⟨h1,?_⟩
 rw[adY,adL,MQ d _ h1,acw h h1]
 have e1:cn (fun x=>decide (ga (fC d) x=(p:Int))) d.ae.length=cn (fun x=>decide (cg d x=cg d p)) d.ae.length:=TX _ fun x hx=>decide_eq_decide.2 (Ii h hp hr hx)
 have e2:cn (fun x=>decide (ga (fC d) (kJ d x)=(p:Int))) (ai d).length=cn (fun x=>decide (cg d (kJ d x)=cg d p)) (ai d).length:=TX _ fun x hx=>decide_eq_decide.2 (Ii h hp hr (MR h hx))
 rw[e1,e2]
 omega
theorem HE{d:Dg}(h:aO d=true):yA d=ml d:=by
 rw[Bool.eq_iff_iff]
 constructor
 ·intro hp
  apply Uu
  intro i hi
  obtain⟨_,c0,hc0,hm,_⟩:=(oY h).el i hi
  have e0:=(tL h hi hm).2
  obtain⟨z,_,hz,_⟩:=zQ h c0 hc0
  obtain⟨r1,r2,r3⟩:=Tn h hc0 hz
  have hq:=List.all_eq_true.1 hp z (List.mem_range.2 r1)
  unfold wF at hq
  rw[Bool.or_eq_true]at hq
  rcases hq with hq|hq
  ·exact absurd r3 (of_decide_eq_true hq)
  ·have:=(RS h r1 r3).2.1 (of_decide_eq_true hq)
   rw[r2,e0]at this
   exact this
 ·intro hp
  apply TD
  intro p x8
  unfold wF
  rw[Bool.or_eq_true]
  by_cases hr:ga (fC d) p=(p:Int)
  ·right
   obtain⟨h1,h2⟩:=RS h x8 hr
   have hq:=List.all_eq_true.1 hp _ (List.mem_range.2 h1)
   exact decide_eq_true (h2.2 (of_decide_eq_true hq))
  ·left
   exact decide_eq_true hr
end Go.Proofs.YtcohmplpgcddiaaGreatDoor
namespace Go.Proofs.YtcohmplpgcddiaaGreatDoor
open Go.ChangeShapes Go.WideShapes Go.ChangeAt Go.RowKit
theorem SH.agC{w:World}{M:Hp}{X:Fr}{H H':List Rs}{i g:Nat}{T:TypeId}{l:List Value}(S:SH w M X H)(hi:nth H i=some (Rs.box g T l))(hH:H.set i Rs.emp=H'):∃M',M.le M'/\SH w M' X H'/\fW M' g T l:=by
 obtain⟨h1,h2,h3⟩:=S.Ko hi hH
 have h4:hp w g=some (.cells l.toArray T (0,0)):=S.get hi
 exact⟨_,h1,h2,(h3 g (by simp[Rs.box])).trans h4⟩
theorem qq{d:Dg}(h:fp d=true):d.ae.length<=16/\aO d=true/\0<=d.loops/\d.loops<=16:=by
 rw[Eh,Bool.and_eq_true,decide_eq_true_iff]at h
 exact⟨h.1.1,h.2,h.1.2.1,h.1.2.2.1⟩
def ShM(N:Hp)(d:Dg)(g:Nat)(cA iA oA:Option Addr)(cc ic oc:Nat):Prop:=fW N g 66 [.slice cA d.ae.length cc,.int .i64 d.loops,.slice iA (aI d false (4*d.ae.length)).length ic,.slice oA (aI d true (4*d.ae.length)).length oc]/\aJ bu N cA cc d.ae/\aJ cQ N iA ic (aI d false (4*d.ae.length))/\aJ cQ N oA oc (aI d true (4*d.ae.length))
def akD(d:Dg)(v:Value)(N:Hp):Prop:=
 (fp d=false/\v=.tuple [.pointer none,.bool false].toArray)\/
 (fp d=true/\∃g cA iA oA cc ic oc,v=.tuple [.pointer (some ⟨g,0,none⟩),.bool true].toArray/\ShM N d g cA iA oA cc ic oc)
theorem Jz{w:World}{M:Hp}{X:Fr}(d:Dg){A:Option Addr}{c:Nat}(h:aJ bu (M.un X.h) A c d.ae)(S:SH w M X []):Ct Tryz.prog 23 [.agg [.slice A d.ae.length c,.int .i64 d.loops].toArray] w M X (akD d):=by
 refine(Xa d h S).mono ?_
 rintro e w' ⟨v,rfl,N,S1,⟨hm,rfl,rfl⟩|⟨hm,g,vc,vi,vo,rfl,rfl,hv⟩⟩
 ·exact⟨_,rfl,M,Hp.le_refl _,S1,.inl ⟨hm,rfl⟩⟩
 ·obtain⟨hn,_⟩:=qq hm
  have t1:=jR d false (4*d.ae.length)
  have t2:=jR d true (4*d.ae.length)
  clear hv
  obtain⟨M1,l1,S2,⟨cA,cc,rfl,r1⟩⟩:=S1.gP (i:=1) rfl rfl (by show _*40<=_;omega)
  obtain⟨M2,l2,S3,⟨iA,ic,rfl,r2⟩⟩:=S2.gP (C:=cQ) (xs:=aI d false (4*d.ae.length)) (i:=2) rfl rfl (by show _*16<=_;omega)
  obtain⟨M3,l3,S4,⟨oA,oc,rfl,r3⟩⟩:=S3.gP (C:=cQ) (xs:=aI d true (4*d.ae.length)) (i:=3) rfl rfl (by show _*16<=_;omega)
  obtain⟨M4,l4,S5,b⟩:=S4.agC (i:=0) rfl rfl
  exact⟨_,rfl,M4,(l1.trans l2).trans (l3.trans l4),S5.pick [] [] (by decide) trivial,.inr ⟨hm,g,cA,iA,oA,cc,ic,oc,rfl,b,((r1.mono l2).mono l3).mono l4,(r2.mono l3).mono l4,r3.mono l4⟩⟩
def DgR(d:Dg)(u:Value)(M:Hp):Prop:=∃A c,u=.agg [.slice A d.ae.length c,.int .i64 d.loops].toArray/\aJ bu M A c d.ae
noncomputable def Z2q:=Tryz.f5.body.getD .skip
set_option maxRecDepth 10000 in
theorem RJ{w:World}{M:Hp}{X:Fr}(d:Dg){bz:Option Addr}{bw:Nat}(aC:aJ bu (M.un X.h) bz bw d.ae)(S:SH w M X []):Ct Tryz.prog 5 [.agg [.slice bz d.ae.length bw,.int .i64 d.loops].toArray] w M X (DgR d):=by
 unfold Ct
 have iL:d.ae.length*40<=140737488355328:=aC.room
 have hroom:d.ae.length*40<=140737488355328:=aC.room
 refine cw (b:=Z2q) Tryz.func5 rfl Tryz.ntmps5 rfl (fun C hC=>(cB [0] rfl (ar (aj rfl (dx (l:=[_,_]) rfl rfl rfl rfl rfl S ?_)))))
 intro aP w1 S1;clear S
 refine aj rfl (bW (l:=[_,_]) rfl rfl rfl jo rfl S1 ?_)
 intro bJ w2 S2;clear S1
 refine bL [1,2] rfl (ag rfl (az rfl aM rfl dN dM) (ag rfl (aw rfl cE (S2.bc 1 rfl rfl)) ?_))
 have S3:=S2.jI bu;clear S2
 refine aj rfl (sX (C:=bu) (i:=0) rfl rfl rfl rfl rfl rfl rfl rfl fX S3 rfl aC S3.um (by have h:_*40<=_:=aC.room;show(0+_)*40<=_;first|omega|(simp only[ls];omega)) ?_)
 intro vQ w3 S4;clear S3
 change SH _ _ _ [Rs.row bu vQ d.ae,_,_]at S4
 refine ag rfl (az rfl aM rfl dN dM) (aj rfl (gJ (i:=2) (us:=[_]) (l':=[_,_]) (H':=[_,_,_]) rfl rfl S4 rfl rfl rfl (S4.nS (i:=0) rfl) Dc rfl (iq (S4.one (i:=0) rfl) rfl) rfl rfl ?_))
 intro w4 S5;clear S4
 refine bL [1,2] rfl (ag rfl (aU [_,_] rfl aM aN (S5.bs 2 rfl rfl)) (aj rfl (gJ (i:=1) (us:=[_,_]) (l':=[_,_]) (H':=[_,_,_]) rfl rfl S5 rfl rfl rfl rfl aN rfl (iq (S5.one (i:=0) rfl) (iq rfl rfl)) rfl rfl ?_)))
 intro w5 S6;clear S5
 refine ax [2] rfl ?_
 obtain⟨M1,bh,S7,⟨A1,c1,e1,hr1⟩⟩:=S6.gP (i:=0) (H':=[_,_,_]) rfl rfl (by show _*40<=_;first|omega|(simp only[ls];omega))
 clear S6;subst e1
 replace aC:=aC.mono (Hp.aD bh S7.mx)
 refine dI hC [_] rfl rfl ⟨⟨_,rfl,dK (us:=[_,_]) aM rfl aN (S7.bs 1 rfl rfl)⟩,trivial⟩ ?_
 refine⟨_,rfl,_,bh,(S7.pick [] [] (by decide) trivial),?_⟩
 exact⟨_,_,rfl,hr1⟩
def rC(d:Dg):Int:=if fp d=true then 0 else 7
def Ah(d:Dg):List (List Da):=if fp d=true then ai d else[]
def Rt(d:Dg)(u:Value)(M:Hp):Prop:=∃A c vs,u=.tuple [.slice A vs.length c,.int .i64 (rC d)].toArray/\aJ (eZ 87) M A c vs/\ia ib M vs (Ah d)
noncomputable def Z2r:=Tryz.f30.body.getD .skip
set_option maxRecDepth 10000 in
theorem ac3{w:World}{M:Hp}{X:Fr}(d:Dg){bz:Option Addr}{bw:Nat}(aC:aJ bu (M.un X.h) bz bw d.ae)(S:SH w M X []):Ct Tryz.prog 30 [.agg [.slice bz d.ae.length bw,.int .i64 d.loops].toArray] w M X (Rt d):=by
 unfold Ct
 have iL:d.ae.length*40<=140737488355328:=aC.room
 refine cw (b:=Z2r) Tryz.func30 rfl Tryz.ntmps30 rfl (fun C hC=>(cB [0] rfl (ar (aj rfl (dx (l:=[_,_]) rfl rfl rfl rfl rfl S ?_)))))
 intro aP w1 S1;clear S
 refine af 2 rfl (bL [1] rfl (ag rfl (aU [_,_] rfl aM aN (S1.bs 0 rfl rfl)) (aj rfl (eo rfl rfl rfl rfl rfl rfl rfl Gi S1 (Jz d (aC.mono S1.bn) S1.aT) ?_))))
 intro sZ w2 M1 bh S2 kY;clear S1
 replace aC:=aC.mono (Hp.aD bh S2.mx)
 rcases kY with⟨kN,rfl⟩|⟨kN,g1,cA8,iA8,oA8,cc8,ic8,oc8,rfl,uq,uo,uk,uj⟩
 ·refine af 5 rfl (bM [4,5] rfl (ar (af 2 rfl (ax [4,12] rfl (kP (ar (af 2 rfl (ax [2,3] rfl ?_))))))))
  refine bU hC rfl ?_
  refine⟨_,rfl,_,bh,(S2.pick [] [] (by decide) trivial),?_⟩
  have e0:rC d=7:=by unfold rC;rw[if_neg (by rw[kN];exact Bool.false_ne_true)]
  have e1:Ah d=[]:=by unfold Ah;rw[if_neg (by rw[kN];exact Bool.false_ne_true)]
  unfold Rt
  rw[e0,e1]
  exact⟨none,0,[],rfl,aJ.eO,ia.eO⟩
 ·obtain⟨hn,hab,hlo0,hlo1⟩:=qq kN
  refine af 5 rfl (bM [4,5] rfl (ar (af 2 rfl (ax [4,12] rfl (sD (aV (cP [4] rfl (af 1 rfl ?_))))))))
  refine aj rfl (eo rfl rfl rfl rfl rfl rfl rfl Po S2 (InF.Me d (uq.mono (Hp.cM _ _)) (uo.mono (Hp.cM _ _)) (uk.mono (Hp.cM _ _)) (uj.mono (Hp.cM _ _)) hn hab S2.aT) ?_)
  intro xV w3 M2 hle2 S3 mV;clear S2
  replace aC:=aC.mono (Hp.aD hle2 S3.mx)
  replace uq:=uq.mono hle2
  replace uo:=uo.mono hle2
  replace uk:=uk.mono hle2
  replace uj:=uj.mono hle2
  obtain⟨A1,c1,vs1,rfl,hr1,hd1⟩:=mV
  have RZ:=hd1.1
  refine af 2 rfl (ax [2,3] rfl (bU hC rfl ?_))
  refine⟨_,rfl,_,bh.trans hle2,(S3.pick [] [] (by decide) trivial),?_⟩
  have e0:rC d=0:=by unfold rC;rw[if_pos kN]
  have e1:Ah d=ai d:=by unfold Ah;rw[if_pos kN]
  unfold Rt
  rw[e0,e1]
  exact⟨_,_,_,rfl,hr1,hd1⟩
noncomputable def Z2s:=Tryz.f11.body.getD .skip
set_option maxRecDepth 10000 in
theorem abT{w:World}{M:Hp}{X:Fr}(d:Dg){bz:Option Addr}{bw:Nat}(aC:aJ bu (M.un X.h) bz bw d.ae)(S:SH w M X []):Ct Tryz.prog 11 [.agg [.slice bz d.ae.length bw,.int .i64 d.loops].toArray] w M X (fun u _=>u=.tuple [.bool (fp d&&ml d),.int .i64 (rC d)].toArray):=by
 unfold Ct
 have iL:d.ae.length*40<=140737488355328:=aC.room
 refine cw (b:=Z2s) Tryz.func11 rfl Tryz.ntmps11 rfl (fun C hC=>(cB [0] rfl (ar (aj rfl (dx (l:=[_,_]) rfl rfl rfl rfl rfl S ?_)))))
 intro aP w1 S1;clear S
 refine af 2 rfl (bL [1] rfl (ag rfl (aU [_,_] rfl aM aN (S1.bs 0 rfl rfl)) (aj rfl (eo rfl rfl rfl rfl rfl rfl rfl Gi S1 (Jz d (aC.mono S1.bn) S1.aT) ?_))))
 intro sZ w2 M1 bh S2 kY;clear S1
 replace aC:=aC.mono (Hp.aD bh S2.mx)
 rcases kY with⟨kN,rfl⟩|⟨kN,g1,cA8,iA8,oA8,cc8,ic8,oc8,rfl,uq,uo,uk,uj⟩
 ·refine af 5 rfl (bM [4,5] rfl (ar (af 2 rfl (ax [4,12] rfl (kP (ar (af 2 rfl (ax [2,3] rfl ?_))))))))
  refine bU hC rfl ?_
  refine⟨_,rfl,_,bh,(S2.pick [] [] (by decide) trivial),?_⟩
  have e0:rC d=7:=by unfold rC;rw[if_neg (by rw[kN];exact Bool.false_ne_true)]
  rw[e0,kN]
  rfl
 ·obtain⟨hn,hab,hlo0,hlo1⟩:=qq kN
  refine af 5 rfl (bM [4,5] rfl (ar (af 2 rfl (ax [4,12] rfl (sD (aV (cP [4] rfl (af 1 rfl ?_))))))))
  refine aj rfl (eo rfl rfl rfl rfl rfl rfl rfl Yz S2 (T7 d (uq.mono (Hp.cM _ _)) (uo.mono (Hp.cM _ _)) (uk.mono (Hp.cM _ _)) (uj.mono (Hp.cM _ _)) hn hab S2.aT) ?_)
  intro xV w3 M2 hle2 S3 mV;clear S2
  replace aC:=aC.mono (Hp.aD hle2 S3.mx)
  replace uq:=uq.mono hle2
  replace uo:=uo.mono hle2
  replace uk:=uk.mono hle2
  replace uj:=uj.mono hle2
  obtain rfl:=mV
  refine af 2 rfl (ax [2,3] rfl (bU hC rfl ?_))
  refine⟨_,rfl,_,bh.trans hle2,(S3.pick [] [] (by decide) trivial),?_⟩
  have e0:rC d=0:=by unfold rC;rw[if_pos kN]
  rw[e0,kN]
  rfl
noncomputable def Z2t:=Tryz.f26.body.getD .skip
set_option maxRecDepth 10000 in
theorem afS{w:World}{M:Hp}{X:Fr}(d:Dg){bz:Option Addr}{bw:Nat}(aC:aJ bu (M.un X.h) bz bw d.ae)(S:SH w M X []):Ct Tryz.prog 26 [.agg [.slice bz d.ae.length bw,.int .i64 d.loops].toArray] w M X (fun u _=>u=.bool (fp d)):=by
 unfold Ct
 have iL:d.ae.length*40<=140737488355328:=aC.room
 refine cw (b:=Z2t) Tryz.func26 rfl Tryz.ntmps26 rfl (fun C hC=>(cB [0] rfl (ar (aj rfl (dx (l:=[_,_]) rfl rfl rfl rfl rfl S ?_)))))
 intro aP w1 S1;clear S
 refine af 1 rfl (bL [1] rfl (ag rfl (aU [_,_] rfl aM aN (S1.bs 0 rfl rfl)) (aj rfl (eo rfl rfl rfl rfl rfl rfl rfl Gi S1 (Jz d (aC.mono S1.bn) S1.aT) ?_))))
 intro sZ w2 M1 bh S2 kY;clear S1
 replace aC:=aC.mono (Hp.aD bh S2.mx)
 rcases kY with⟨Jp,rfl⟩|⟨Jp,g1,cA7,iA7,oA7,cc7,ic7,oc7,rfl,anb,ana,am9,am7⟩
 ·refine af 5 rfl (bL [4] rfl (af 2 rfl (ax [2] rfl (bU hC rfl ?_))))
  refine⟨_,rfl,_,bh,(S2.pick [] [] (by decide) trivial),?_⟩
  exact congrArg Value.bool Jp.symm
 ·obtain⟨hn,hab,hlo0,hlo1⟩:=qq Jp
  refine af 5 rfl (bL [4] rfl (af 2 rfl (ax [2] rfl (bU hC rfl ?_))))
  refine⟨_,rfl,_,bh,(S2.pick [] [] (by decide) trivial),?_⟩
  exact congrArg Value.bool Jp.symm
end Go.Proofs.YtcohmplpgcddiaaGreatDoor
namespace Go.Proofs.YtcohmplpgcddiaaGreatDoor
open Go.ChangeShapes Go.WideShapes Go.ChangeAt Go.RowKit
def vG(d:Dg):Int:=if fp d=true then(if ml d=true then 0 else 5)else 7
noncomputable def Z2u:=Tryz.f6.body.getD .skip
set_option maxRecDepth 10000 in
theorem aaJ{w:World}{M:Hp}{X:Fr}(d:Dg){bz:Option Addr}{bw:Nat}(aC:aJ bu (M.un X.h) bz bw d.ae)(S:SH w M X []):Ct Tryz.prog 6 [.agg [.slice bz d.ae.length bw,.int .i64 d.loops].toArray] w M X (fun u _=>u=.int .i64 (vG d)):=by
 unfold Ct
 have iL:d.ae.length*40<=140737488355328:=aC.room
 refine cw (b:=Z2u) Tryz.func6 rfl Tryz.ntmps6 rfl (fun C hC=>(cB [0] rfl (ar (aj rfl (dx (l:=[_,_]) rfl rfl rfl rfl rfl S ?_)))))
 intro aP w1 S1;clear S
 refine af 1 rfl (bM [1] rfl (ar (ag rfl (aU [_,_] rfl aM aN (S1.bs 0 rfl rfl)) (aj rfl (dU rfl rfl rfl rfl rfl rfl rfl Pt S1 (KZ d (aC.mono S1.bn) S1.aT) ?_)))))
 rintro _ w2 S2 rfl;clear S1
 refine af 1 rfl (ax [1,5] rfl ?_)
 refine gB rfl (fun KH=>?_) (fun KH=>?_)
 ·simp only[Bool.and_eq_true,Bool.or_eq_true,Bool.and_eq_false_iff,Bool.or_eq_false_iff,decide_eq_true_eq,decide_eq_false_iff_not,Bool.not_eq_true',Bool.not_eq_false']at KH
  refine ar (af 1 rfl (ax [2] rfl (bU hC rfl ?_)))
  refine⟨_,rfl,_,Hp.le_refl _,(S2.pick [] [] (by decide) trivial),?_⟩
  have e0:vG d=7:=by unfold vG;rw[if_neg (by simp_all)]
  rw[e0]
  rfl
 ·simp only[Bool.and_eq_true,Bool.or_eq_true,Bool.and_eq_false_iff,Bool.or_eq_false_iff,decide_eq_true_eq,decide_eq_false_iff_not,Bool.not_eq_true',Bool.not_eq_false']at KH
  have hm:fp d=true:=by simpa using KH
  obtain⟨hn,hab,_,_⟩:=qq hm
  refine aV (bC [1] rfl (ar (ag rfl (aU [_,_] rfl aM aN (S2.bs 0 rfl rfl)) (aj rfl (eo rfl rfl rfl rfl rfl rfl rfl Pr S2 (K8 d (aC.mono S2.bn) (hn) (hab) S2.aT) ?_)))))
  intro xV w3 M1 bh S3 mV;clear S2
  replace aC:=aC.mono (Hp.aD bh S3.mx)
  obtain rfl:=mV
  refine af 1 rfl (ax [8] rfl ?_)
  refine gB rfl (fun KG=>?_) (fun KG=>?_)
  ·simp only[Bool.and_eq_true,Bool.or_eq_true,Bool.and_eq_false_iff,Bool.or_eq_false_iff,decide_eq_true_eq,decide_eq_false_iff_not,Bool.not_eq_true',Bool.not_eq_false']at KG
   refine ar (af 1 rfl (ax [2] rfl (bU hC rfl ?_)))
   refine⟨_,rfl,_,bh,(S3.pick [] [] (by decide) trivial),?_⟩
   have e1:=HE hab
   have e0:vG d=5:=by unfold vG;rw[if_pos hm,if_neg (by rw[<-e1];simp[*])]
   rw[e0]
   rfl
  ·simp only[Bool.and_eq_true,Bool.or_eq_true,Bool.and_eq_false_iff,Bool.or_eq_false_iff,decide_eq_true_eq,decide_eq_false_iff_not,Bool.not_eq_true',Bool.not_eq_false']at KG
   refine aV (cP [] rfl (af 1 rfl (aB (bK (bU hC rfl ?_)))))
   refine⟨_,rfl,_,bh,(S3.pick [] [] (by decide) trivial),?_⟩
   have e1:=HE hab
   have e0:vG d=0:=by unfold vG;rw[if_pos hm,if_pos (by rw[<-e1];simpa using KG)]
   rw[e0]
   rfl
end Go.Proofs.YtcohmplpgcddiaaGreatDoor
