/- Part 7 of the proof of the law MovesRows: the walks through its functions and the plain laws that they need. -/
import Derived.Test.YthppkofceancjaaGreatMxZ6
set_option linter.unusedSimpArgs false
set_option linter.unusedVariables false
noncomputable section
namespace Go.Proofs.YthppkofceancjaaGreat
open Go.ChangeShapes Go.WideShapes Go.ChangeAt Go.RowKit
theorem af5(gs:List Nat)(c:Nat):(gs.map fun x:Nat=>(x:Int)).contains (c:Int)=bD gs c:=by
 rw[Bool.eq_iff_iff,List.contains_iff_mem,Aq,List.mem_map]
 constructor
 ·rintro⟨x,hx,e⟩
  obtain rfl:x=c:=by omega
  exact hx
 ·exact fun h=>⟨c,h,rfl⟩
theorem aj7{d:Dg}{gs:List Nat}{i k:Nat}(hk:k<2):mh d gs (2*i+k)=(bt d (ga gs i) k).toNat/\mf d gs (2*i+k)=(bt d (ga gs i) (k+2)).toNat:=by
 unfold mh mf
 rw[show(2*i+k)/2=i by omega,show(2*i+k)%2=k by omega]
 exact⟨rfl,rfl⟩
theorem ag5(x:Int)(n:Nat):x+((n:Nat):Int)+1=x+((n+1:Nat):Int):=by omega
noncomputable def SL:=Tryz.f77.body.getD .skip
def Zn8:=cL SL
def SK:=cR SL
def SJ:=cL SK
def SI:=cR SK
def Znc:=cL SJ
def Znd:=cR SJ
def Zne:=cL Znd
def SG:=cL Zne
def SF:=cL SG
def SE:=cR SG
def Zni:=cL SF
def SD:=cR SF
def Znk:=cL SD
def Znl:=cR SD
def Znm:=cL SE
def Znn:=cR SE
def SC:=cL Znm
def Znp:=cL SC
def SA:=cR SC
def Sy:=cL SA
def Zns:=cR SA
def Znt:=cL Sy
def Znu:=cR Sy
def Znv:=cL SI
def Znw:=cR SI
set_option maxRecDepth 10000 in
theorem aa1{w:World}{M:Hp}{X:Fr}(l:List Int){lA:Option Addr}{lc:Nat}(x:Int)(hl:aF Uv (M.un X.h) lA lc l)(S:SH w M X []):Cq Tryz.prog 77 [.slice lA l.length lc,.int .i64 x] w M X (fun u=>u=.bool (l.contains x)):=by
 unfold Cq
 have Gk:l.length*8<=140737488355328:=hl.room
 refine Up (b:=SL) Tryz.func77 rfl Tryz.ntmps77 rfl (fun C hC=>(bq [(0,_),(1,_)] ⟨rfl,rfl,trivial⟩ (U2 Zn8 SK rfl rfl rfl (U0 rfl (ag 0 1 rfl rfl (U5 rfl (ah [0,1] rfl (U3 (U2 SJ SI rfl rfl rfl ?_)))))))))
 refine U2 Znc Znd rfl rfl rfl (U0 rfl (ag 0 1 rfl rfl (U5 rfl (U3 (Uc Zne 0 rfl rfl rfl ?_)))))
 refine Uz (fun aS au aM=>∃(i:Nat),aS=l.length-i/\Env 18 [(0,.slice lA l.length lc),(1,.int .i64 x),(5,.int .i64 (i:Int))] au/\SH aM M X []/\i<=l.length/\(∀j,j<i->ga l j≠x)) rfl ?_ ?_
 ·intro au aq
  refine⟨_,⟨0,rfl,aq.sub ⟨rfl,rfl,rfl,trivial⟩,S.pick [] [] (by decide) trivial,?cd,?cT⟩⟩
  case cd=>omega
  case cT=>(intro j hj;omega)
 ·rintro m1 a1 w1 ⟨i,rfl,bh,S1,hi,hno⟩
  clear S
  refine b7 bh (c:=SG) rfl ?_
  clear bh a1
  refine U2 SF SE rfl rfl rfl (U2 Zni SD rfl rfl rfl (U0 rfl (ag 0 2 rfl rfl (af 2 rfl (cI rfl rfl rfl rfl rfl rfl dD) (af 3 rfl (bV rfl rfl rfl) (U5 rfl (ah [0,1,5,9] rfl (U3 ?_))))))))
  refine Ue Znk Znl rfl rfl rfl rfl (fun jb=>?_) (fun jb=>?_)
  ·refine Uf rfl (ah [0,1,5] rfl (U3 (U2 Znm Znn rfl rfl rfl (Uc SC 1 rfl rfl rfl (U2 Znp SA rfl rfl rfl (U0 rfl (ag 0 2 rfl rfl (af 2 rfl (Uk (C:=Uv) i rfl rfl rfl bw (by first|rfl|omega) hl (by first|omega|(simp only[ls];omega))) ?_))))))))
   refine af 3 rfl (U4 rfl rfl av rfl (hl.cell S1.um (i:=i) (by first|omega|(simp only[ls];omega)) 0 rfl rfl)) ?_
   refine ag 4 1 rfl rfl (af 5 rfl (bP rfl rfl rfl) (U5 rfl (ah [0,1,5,17] rfl (U3 ?_))))
   refine Ue Sy Zns rfl rfl rfl rfl (fun ij=>?_) (fun ij=>?_)
   ·refine U2 Znt Znu rfl rfl rfl (U0 rfl (ag 0 1 rfl rfl (U5 rfl (ah [4] rfl (U3 (Uj hC [_] rfl rfl ⟨rfl,trivial⟩ ?_))))))
    exact⟨_,rfl,(S1.pick [] [] (by decide) trivial),(by show Value.bool _=_;refine congrArg Value.bool ?_;symm;first|(rw[List.contains_iff_mem];exact(by assumption:ga l i=x)▸gZ (by omega))|(rw[Bool.eq_false_iff,Ne,List.contains_iff_mem];intro hm;obtain⟨j,hj,e⟩:=List.mem_iff_getElem.1 hm;exact hno j (by omega) (by rw[fJ hj];exact e)))⟩
   ·refine Uf rfl (bk (ah [0,1,5] rfl (U3 (U0 rfl (ag 0 1 rfl rfl (af 1 rfl (Ug rfl rfl rfl (by first|omega|(simp only[ls];omega))) ?_))))))
    refine ag 2 1 rfl rfl (U5 rfl (aP ?_))
    intro au aq
    refine⟨_,?dJ,⟨i+1,rfl,aq.sub ⟨rfl,rfl,rfl,trivial⟩,S1.pick [] [] (by decide) trivial,?cu,?cY⟩⟩
    case cu=>omega
    case cY=>(intro j hj;by_cases e:j=i;(subst e;assumption);exact hno j (by omega))
    case dJ=>omega
  ·refine bS rfl rfl (bL [] trivial (U3 (U2 Znv Znw rfl rfl rfl (U0 rfl (ag 0 1 rfl rfl (U5 rfl (U3 (Uj hC [_] rfl rfl ⟨rfl,trivial⟩ ?_))))))))
   exact⟨_,rfl,(S1.pick [] [] (by decide) trivial),(by show Value.bool _=_;refine congrArg Value.bool ?_;symm;first|(rw[List.contains_iff_mem];exact(by assumption:ga l i=x)▸gZ (by omega))|(rw[Bool.eq_false_iff,Ne,List.contains_iff_mem];intro hm;obtain⟨j,hj,e⟩:=List.mem_iff_getElem.1 hm;exact hno j (by omega) (by rw[fJ hj];exact e)))⟩
noncomputable def Sw:=Tryz.f36.body.getD .skip
def Zny:=cL Sw
def Sv:=cR Sw
def Zo0:=cL Sv
def Ss:=cR Sv
def Zo2:=cL Ss
def Sr:=cR Ss
def Sq:=cL Sr
def Sn:=cR Sr
def Zo6:=cL Sq
def Zo7:=cR Sq
def Zo8:=cL Zo7
def Sm:=cL Zo8
def Sk:=cL Sm
def Sj:=cR Sm
def Zoc:=cL Sk
def Si:=cR Sk
def Zoe:=cL Si
def Zof:=cR Si
def Zog:=cL Sj
def Zoh:=cR Sj
def Zoi:=cL Zog
def Sg:=cL Sn
def Sd:=cR Sn
def Zol:=cL Sg
def Zom:=cR Sg
def Zon:=cL Zom
def Sc:=cL Zon
def Sb:=cL Sc
def R9:=cR Sc
def Zor:=cL Sb
def R8:=cR Sb
def Zot:=cL R8
def Zou:=cR R8
def Zov:=cL R9
def Zow:=cR R9
def R7:=cL Zov
def Zoy:=cL R7
def Zoz:=cR R7
def Zp0:=cL Zoz
def R6:=cL Zp0
def R5:=cL R6
def R4:=cR R6
def Zp4:=cL R5
def R3:=cR R5
def Zp6:=cL R3
def Zp7:=cR R3
def Zp8:=cL R4
def Zp9:=cR R4
def RZ:=cL Zp8
def Zpb:=cL RZ
def Zpc:=cR RZ
def Zpd:=cL Zpc
def RY:=cL Zpd
def RX:=cL RY
def RV:=cR RY
def Zph:=cL RX
def RU:=cR RX
def Zpj:=cL RU
def Zpk:=cR RU
def Zpl:=cL RV
def Zpm:=cR RV
def Zpn:=cL Zpl
def Zpo:=cL Sd
def RT:=cR Sd
def Zpq:=cL RT
def RS:=cR RT
def RR:=cL RS
def RQ:=cR RS
def Zpu:=cL RR
def Zpv:=cR RR
def Zpw:=cL Zpv
def RP:=cL Zpw
def RO:=cL RP
def RN:=cR RP
def Zq0:=cL RO
def RM:=cR RO
def Zq2:=cL RM
def Zq3:=cR RM
def Zq4:=cL RN
def Zq5:=cR RN
def RL:=cL Zq4
def Zq7:=cL RL
def RJ:=cR RL
def RI:=cL RJ
def Zqa:=cR RJ
def Zqb:=cL RI
def Zqc:=cR RI
def Zqd:=cL Zqc
def RH:=cL Zqd
def RG:=cL RH
def RF:=cR RH
def Zqh:=cL RG
def RD:=cR RG
def Zqj:=cL RD
def Zqk:=cR RD
def Zql:=cL RF
def Zqm:=cR RF
def Zqn:=cL Zql
def Zqo:=cL RQ
def RB:=cR RQ
def Zqq:=cL RB
def RA:=cR RB
def Rz:=cL RA
def Ry:=cR RA
def Zqu:=cL Rz
def Zqv:=cR Rz
def Zqw:=cL Zqv
def Rx:=cL Zqw
def Rw:=cL Rx
def Ru:=cR Rx
def Zr0:=cL Rw
def Rt:=cR Rw
def Zr2:=cL Rt
def Zr3:=cR Rt
def Zr4:=cL Ru
def Zr5:=cR Ru
def Rq:=cL Zr4
def Zr7:=cL Rq
def Rp:=cR Rq
def Ro:=cL Rp
def Rn:=cR Rp
def Zrb:=cL Ro
def Zrc:=cR Ro
def Zrd:=cL Rn
def Rm:=cR Rn
def Zrf:=cL Rm
def Zrg:=cR Rm
def Rl:=cL Ry
def Rk:=cR Ry
def Zrj:=cL Rl
def Zrk:=cR Rl
def Zrl:=cL Zrk
def Rj:=cL Zrl
def Ri:=cL Rj
def Rh:=cR Rj
def Zrp:=cL Ri
def Rg:=cR Ri
def Zrr:=cL Rg
def Zrs:=cR Rg
def Zrt:=cL Rh
def Zru:=cR Rh
def Rf:=cL Zrt
def Re:=cL Rf
def Rb:=cR Rf
def Zry:=cL Re
def Ra:=cR Re
def Zs0:=cL Ra
def Zs1:=cR Ra
def Zs2:=cL Rb
def Zs3:=cR Rb
def Zs4:=cL Rk
def Zs5:=cR Rk
set_option maxHeartbeats 4000000 in
set_option maxRecDepth 10000 in
theorem aan{w:World}{M:Hp}{X:Fr}(d:Dg){aV:Option Addr}{aU:Nat}(gone:List Int){iM:Option Addr}{iL:Nat}(aC:aF aG (M.un X.h) aV aU d.ae)(gS:aF Uv (M.un X.h) iM iL gone){gs:List Nat}(ou:gone=gs.map fun x:Nat=>(x:Int))(vS:∀x∈gs,x<d.ae.length)(hn:d.ae.length<=16)(hab:aX d=true)(ads:0<=d.loops/\d.loops<=1000)(S:SH w M X []):Ct Tryz.prog 36 [.agg [.slice aV d.ae.length aU,.int .i64 d.loops].toArray,.slice iM gone.length iL] w M X (fun u N=>∃A c,u=.agg [.slice A (jo d (bD gs)).ae.length c,.int .i64 (jo d (bD gs)).loops].toArray/\aF aG N A c (jo d (bD gs)).ae):=by
 unfold Ct
 have gK:d.ae.length*40<=140737488355328:=aC.room
 have abB:gone.length*8<=140737488355328:=gS.room
 have hcg:∀c:Nat,gone.contains (c:Int)=bD gs c:=fun c=>by rw[ou];exact af5 gs c
 have hgl:gone.length=gs.length:=by rw[ou,List.length_map]
 have hgo:∀q,q<gs.length->ga gone q=((ga gs q:Nat):Int):=fun q hq=>by rw[ou,ajy _ _ _ hq]
 clear ou
 refine Up (b:=Sw) Tryz.func36 rfl Tryz.ntmps36 rfl (fun C hC=>(bq [(0,_),(1,_)] ⟨rfl,rfl,trivial⟩ (U2 Zny Sv rfl rfl rfl (U0 rfl (ak 0 1 rfl rfl rfl (bA (l:=[_,_]) rfl rfl rfl rfl rfl S ?_))))))
 intro aI w1 S1;clear S
 refine ak 1 2 rfl rfl rfl (Uh (l:=[_,_]) rfl rfl rfl fQ rfl S1 ?_)
 intro aQ w2 S2;clear S1
 refine U5 rfl (ah [1,2,4] rfl (U3 (U2 Zo0 Ss rfl rfl rfl (U0 rfl (af 0 rfl (U1 rfl rfl ay rfl (bK) (bJ)) (af 1 rfl (U4 rfl rfl bG rfl (S2.ar (i:=1) rfl rfl)) (af 2 rfl (cI rfl rfl rfl rfl rfl rfl bG) (af 3 rfl (iH rfl rfl rfl (by first|omega|(simp only[ls];omega))) ?_))))))))
 refine ag 4 1 rfl rfl (U5 rfl (ah [1,2,4,5] rfl (U3 (U2 Zo2 Sr rfl rfl rfl (U0 rfl (ag 0 1 rfl rfl (af 1 rfl (Ug rfl rfl rfl (by first|omega|(simp only[ls];omega))) ?_)))))))
 refine ak 2 3 rfl rfl rfl (oU (C:=Uv) ((2*(d.ae.length:Int)).toNat+1) rfl rfl rfl rfl rfl bw (by first|rfl|omega) (by show _*8<=_;first|omega|(simp only[ls];omega)) S2 ?_)
 intro yY w3 S3;clear S2
 refine ag 3 1 rfl rfl (U5 rfl (ah [1,2,4,5,6] rfl (U3 (U2 Sq Sn rfl rfl rfl (U2 Zo6 Zo7 rfl rfl rfl (U0 rfl (ag 0 1 rfl rfl (U5 rfl ?_))))))))
 refine U3 (Uc Zo8 0 rfl rfl rfl ?_)
 refine Uz (fun aS au aM=>∃(i:Nat) (ws:List Int) (nN:Value),aS=2*d.ae.length+1-i/\Env 185 [(1,.slice iM gone.length iL),(2,.pointer (some ⟨aI,0,none⟩)),(4,.pointer (some ⟨aQ,0,none⟩)),(5,.int .i64 (2*(d.ae.length:Int))),(6,nN),(7,.int .i64 (i:Int))] au/\SH aM M X [Rs.row Uv nN ws,Rs.box aQ 24 [.slice none 0 0,.int .i64 0],Rs.box aI 24 [.slice aV d.ae.length aU,.int .i64 d.loops]]/\i<=2*d.ae.length+1/\ws=iniW (2*d.ae.length+1) i) rfl ?_ ?_
 ·intro au aq
  refine⟨_,⟨0,_,_,rfl,aq.sub ⟨rfl,rfl,rfl,rfl,rfl,rfl,trivial⟩,S3.pick [0,1,2] [_,_,_] (by decide) ⟨rfl,rfl,rfl,trivial⟩,?cd,?cT⟩⟩
  case cd=>omega
  case cT=>rfl
 ·rintro m1 a1 w4 ⟨i,ws,nN,rfl,bh,S4,hi,hw⟩
  clear S3
  refine b7 bh (c:=Sm) rfl ?_
  clear bh a1
  have Dm:ws.length=2*d.ae.length+1:=by rw[hw,rO]
  refine U2 Sk Sj rfl rfl rfl (U2 Zoc Si rfl rfl rfl (U0 rfl (ag 0 2 rfl rfl (af 2 rfl (oI rfl rfl rfl) (U5 rfl (ah [1,2,4,5,6,7,29] rfl (U3 ?_)))))))
  refine Ue Zoe Zof rfl rfl rfl rfl (fun qX=>?_) (fun qX=>?_)
  ·refine Uf rfl (ah [1,2,4,5,6,7] rfl (U3 (U2 Zog Zoh rfl rfl rfl (Uc Zoi 1 rfl rfl rfl (U0 rfl (ag 0 3 rfl rfl (af 3 rfl (Ui (C:=Uv) (i:=0) i rfl rfl rfl bw S4 rfl (by first|rfl|omega) (by first|omega|(simp only[ls];omega))) ?_)))))))
   refine ak 4 5 rfl rfl rfl (gy (C:=Uv) (i:=0) (e:=i) (j:=0) (us:=[_]) (H':=[_,_,_]) (i:Int) rfl rfl S4 rfl (by first|omega|(simp only[ls];omega)) rfl rfl rfl aY rfl rfl rfl rfl ?_)
   intro w5 S5;clear S4
   refine U5 rfl (bk (ah [1,2,4,5,6,7] rfl (U3 (U0 rfl (ag 0 1 rfl rfl (af 1 rfl (Ug rfl rfl rfl (by first|omega|(simp only[ls];omega))) ?_))))))
   refine ag 2 1 rfl rfl (U5 rfl (aP ?_))
   intro au aq
   refine⟨_,?dJ,⟨i+1,_,_,rfl,aq.sub ⟨rfl,rfl,rfl,rfl,rfl,rfl,trivial⟩,S5.pick [0,1,2] [_,_,_] (by decide) ⟨rfl,rfl,rfl,trivial⟩,?cu,?cY⟩⟩
   case cu=>omega
   case cY=>(rw[hw];rfl)
   case dJ=>omega
  ·refine bS rfl rfl (ah [1,2,4,5,6] rfl (U3 (U2 Sg Sd rfl rfl rfl (U2 Zol Zom rfl rfl rfl (U0 rfl (ag 0 1 rfl rfl (U5 rfl (U3 ?_))))))))
   refine Uc Zon 2 rfl rfl rfl ?_
   refine Uz (fun aS au aM=>∃(r:Nat) (iF:List Int) (kA:Value),aS=2*d.ae.length+1-r/\Env 185 [(1,.slice iM gone.length iL),(2,.pointer (some ⟨aI,0,none⟩)),(4,.pointer (some ⟨aQ,0,none⟩)),(5,.int .i64 (2*(d.ae.length:Int))),(6,kA),(8,.int .i64 (r:Int))] au/\SH aM M X [Rs.row Uv kA iF,Rs.box aQ 24 [.slice none 0 0,.int .i64 0],Rs.box aI 24 [.slice aV d.ae.length aU,.int .i64 d.loops]]/\r<=2*d.ae.length+1/\iF=sV (mh d gs) (mf d gs) (2*d.ae.length+1) (2*gs.length) r) rfl ?_ ?_
   ·intro au aq
    refine⟨_,⟨0,_,_,rfl,aq.sub ⟨rfl,rfl,rfl,rfl,rfl,rfl,trivial⟩,S4.pick [0,1,2] [_,_,_] (by decide) ⟨rfl,rfl,rfl,trivial⟩,?dO,?gh⟩⟩
    case dO=>omega
    case gh=>(obtain rfl:i=2*d.ae.length+1:=(by omega);exact hw)
   ·rintro m2 a2 w6 ⟨r,iF,kA,rfl,cx,S6,hr,hw2⟩
    clear S4
    refine b7 cx (c:=Sc) rfl ?_
    clear cx a2
    have hl2:iF.length=2*d.ae.length+1:=by rw[hw2,Aa]
    refine U2 Sb R9 rfl rfl rfl (U2 Zor R8 rfl rfl rfl (U0 rfl (ag 0 2 rfl rfl (af 2 rfl (oI rfl rfl rfl) (U5 rfl (ah [1,2,4,5,6,8,38] rfl (U3 ?_)))))))
    refine Ue Zot Zou rfl rfl rfl rfl (fun tq=>?_) (fun tq=>?_)
    ·refine Uf rfl (ah [1,2,4,5,6,8] rfl (U3 (U2 Zov Zow rfl rfl rfl (Uc R7 3 rfl rfl rfl (U2 Zoy Zoz rfl rfl rfl (U0 rfl (ag 0 1 rfl rfl (U5 rfl ?_))))))))
     refine U3 (Uc Zp0 4 rfl rfl rfl ?_)
     refine Uz (fun aS au aM=>∃(i3:Nat) (om:List Int) (sO:Value),aS=gs.length-i3/\Env 185 [(1,.slice iM gone.length iL),(2,.pointer (some ⟨aI,0,none⟩)),(4,.pointer (some ⟨aQ,0,none⟩)),(5,.int .i64 (2*(d.ae.length:Int))),(6,sO),(8,.int .i64 (r:Int)),(9,.int .i64 (i3:Int))] au/\SH aM M X [Rs.row Uv sO om,Rs.box aQ 24 [.slice none 0 0,.int .i64 0],Rs.box aI 24 [.slice aV d.ae.length aU,.int .i64 d.loops]]/\i3<=gs.length/\om=lG (mh d gs) (mf d gs) iF (2*i3)) rfl ?_ ?_
     ·intro au aq
      refine⟨_,⟨0,_,_,rfl,aq.sub ⟨rfl,rfl,rfl,rfl,rfl,rfl,rfl,trivial⟩,S6.pick [0,1,2] [_,_,_] (by decide) ⟨rfl,rfl,rfl,trivial⟩,?eU,?gQ⟩⟩
      case eU=>omega
      case gQ=>rfl
     ·rintro m3 a3 w7 ⟨i3,om,sO,rfl,fU,S7,OJ,hw3⟩
      clear S6
      refine b7 fU (c:=R6) rfl ?_
      clear fU a3
      have hgi:=fun(h:i3<gs.length)=>vS _ (gZ h)
      have hgm:=fun(h:i3<gs.length)=>hgo i3 h
      refine U2 R5 R4 rfl rfl rfl (U2 Zp4 R3 rfl rfl rfl (U0 rfl (ag 0 2 rfl rfl (af 2 rfl (cI rfl rfl rfl rfl rfl rfl dD) (af 3 rfl (bV rfl rfl rfl) (U5 rfl (ah [1,2,4,5,6,8,9,44] rfl (U3 ?_))))))))
      refine Ue Zp6 Zp7 rfl rfl rfl rfl (fun s8=>?_) (fun s8=>?_)
      ·refine Uf rfl (ah [1,2,4,5,6,8,9] rfl (U3 (U2 Zp8 Zp9 rfl rfl rfl (Uc RZ 5 rfl rfl rfl (U2 Zpb Zpc rfl rfl rfl (U0 rfl (ag 0 1 rfl rfl (U5 rfl ?_))))))))
       refine U3 (Uc Zpd 6 rfl rfl rfl ?_)
       refine Uz (fun aS au aM=>∃(k4:Nat) (C8:List Int) (Bn:Value),aS=2-k4/\Env 185 [(1,.slice iM gone.length iL),(2,.pointer (some ⟨aI,0,none⟩)),(4,.pointer (some ⟨aQ,0,none⟩)),(5,.int .i64 (2*(d.ae.length:Int))),(6,Bn),(8,.int .i64 (r:Int)),(9,.int .i64 (i3:Int)),(10,.int .i64 (k4:Int))] au/\SH aM M X [Rs.row Uv Bn C8,Rs.box aQ 24 [.slice none 0 0,.int .i64 0],Rs.box aI 24 [.slice aV d.ae.length aU,.int .i64 d.loops]]/\k4<=2/\C8=lG (mh d gs) (mf d gs) iF (2*i3+k4)) rfl ?_ ?_
       ·intro au aq
        refine⟨_,⟨0,_,_,rfl,aq.sub ⟨rfl,rfl,rfl,rfl,rfl,rfl,rfl,rfl,trivial⟩,S7.pick [0,1,2] [_,_,_] (by decide) ⟨rfl,rfl,rfl,trivial⟩,?fB,?gP⟩⟩
        case fB=>omega
        case gP=>exact hw3
       ·rintro m4 a4 w8 ⟨k4,C8,Bn,rfl,lC,S8,hk4,hw4⟩
        clear S7
        refine b7 lC (c:=RY) rfl ?_
        clear lC a4
        have hl4:C8.length=2*d.ae.length+1:=by rw[hw4,aar];exact hl2
        refine U2 RX RV rfl rfl rfl (U2 Zph RU rfl rfl rfl (U0 rfl (ag 0 1 rfl rfl (af 1 rfl (bV rfl rfl rfl) (U5 rfl (ah [1,2,4,5,6,8,9,10,48] rfl (U3 ?_)))))))
        refine Ue Zpj Zpk rfl rfl rfl rfl (fun hb48=>?_) (fun hb48=>?_)
        ·have adw:=hgi (by omega)
         have adv:=hgm (by omega)
         have av0:=kg hab adw (k:=k4) (by omega)
         have avZ:=kg hab adw (k:=k4+2) (by omega)
         refine Uf rfl (ah [1,2,4,5,6,8,9,10] rfl (U3 (U2 Zpl Zpm rfl rfl rfl (Uc Zpn 7 rfl rfl rfl (Ux rfl (by kernel_rfl) S8 19 rfl ?_)))))
         clear S8
         refine ai 0 18 rfl (by kernel_rfl) (fun _=>run_move rfl rfl) ?_
         refine aj 1 17 rfl (by kernel_rfl) (fun _ _ _ hz Sz=>.inl (U8 (us:=[_,_]) rfl rfl ay rfl az (Sz.suf.ax (i:=2) rfl ⟨rfl,rfl,trivial⟩))) ?_
         refine ai 2 16 rfl (by kernel_rfl) (fun _=>run_move rfl rfl) ?_
         refine ai 3 15 rfl (by kernel_rfl) (fun _=>run_move rfl rfl) ?_
         refine aj 4 14 rfl (by kernel_rfl) (fun _ _ _ hz Sz=>.inl (Uk (C:=Uv) i3 rfl rfl rfl bw (by first|rfl|omega) (gS.mono (Hp.Ua hz Sz.mx)) (by first|omega|(simp only[ls];omega)))) ?_
         refine aj 5 13 rfl (by kernel_rfl) (fun _ _ _ hz Sz=>.inl (U4 rfl rfl av rfl ((gS.mono (Hp.Ua hz Sz.mx)).cell Sz.um (i:=i3) (by first|omega|(simp only[ls];omega)) 0 rfl rfl))) ?_
         refine jz 56 (.int .i64 ((ga gs i3:Nat):Int)) rfl (int_eq adv) (ai 6 12 rfl (by kernel_rfl) (fun _=>run_move rfl rfl) ?_)
         refine aj 7 11 rfl (by kernel_rfl) (fun _ _ _ hz Sz=>.inl (run_build (l:=[_,_]) rfl rfl oa rfl rfl)) ?_
         refine aj 8 10 rfl (by kernel_rfl) (fun _ _ _ hz Sz=>Uq rfl rfl rfl rfl rfl pN Sz (oY d (ga gs i3) k4 ((aC.mono (Hp.Ua hz Sz.mx)).mono Sz.Uw) (by omega) (by omega) Sz.aD)) ?_
         refine aj 9 9 rfl (by kernel_rfl) (fun _ _ _ hz Sz=>.inl (U8 (us:=[_,_]) rfl rfl ay rfl az (Sz.suf.ax (i:=2) rfl ⟨rfl,rfl,trivial⟩))) ?_
         refine ai 10 8 rfl (by kernel_rfl) (fun _=>run_move rfl rfl) ?_
         refine ai 11 7 rfl (by kernel_rfl) (fun _=>run_move rfl rfl) ?_
         refine aj 12 6 rfl (by kernel_rfl) (fun _ _ _ hz Sz=>.inl (Uk (C:=Uv) i3 rfl rfl rfl bw (by first|rfl|omega) (gS.mono (Hp.Ua hz Sz.mx)) (by first|omega|(simp only[ls];omega)))) ?_
         refine aj 13 5 rfl (by kernel_rfl) (fun _ _ _ hz Sz=>.inl (U4 rfl rfl av rfl ((gS.mono (Hp.Ua hz Sz.mx)).cell Sz.um (i:=i3) (by first|omega|(simp only[ls];omega)) 0 rfl rfl))) ?_
         refine jz 64 (.int .i64 ((ga gs i3:Nat):Int)) rfl (int_eq adv) (ai 14 4 rfl (by kernel_rfl) (fun _=>run_move rfl rfl) ?_)
         refine ai 15 3 rfl (by kernel_rfl) (fun _=>Ug rfl rfl rfl (by first|omega|(simp only[ls];omega))) ?_
         refine jz 66 (.int .i64 ((k4+2:Nat):Int)) rfl (int_eq (by omega)) ?_
         refine aj 16 2 rfl (by kernel_rfl) (fun _ _ _ hz Sz=>.inl (run_build (l:=[_,_]) rfl rfl oa rfl rfl)) ?_
         refine aj 17 1 rfl (by kernel_rfl) (fun _ _ _ hz Sz=>Uq rfl rfl rfl rfl rfl pN Sz (oY d (ga gs i3) (k4+2) ((aC.mono (Hp.Ua hz Sz.mx)).mono Sz.Uw) (by omega) (by omega) Sz.aD)) ?_
         refine Un (i:=18) 0 rfl (by kernel_rfl) rfl rfl (fun l9 cy=>?_)
         refine(jk rfl rfl rfl rfl rfl rfl rfl anr cy (i:=0) rfl (aiu Bn _ (bt d (ga gs i3) k4) (bt d (ga gs i3) (k4+2)) (by omega) (by omega) (cy.gN (i:=0) rfl)) ?_)
         rintro al0 pX _ _-dL ⟨rfl,rfl,rfl⟩;clear cy
         change SH _ _ _ [_,_,_]at dL
         refine aN.turn (by kernel_rfl) dL ?_;clear dL
         change WA _ _ _ _ _ _ _ _ _ _ _ _ [_,_,_]
         refine Uu (by kernel_rfl) (fun tP kW=>?_)
         refine bk (ah [1,2,4,5,6,8,9,10] rfl (U3 (U0 rfl (ag 0 1 rfl rfl (af 1 rfl (Ug rfl rfl rfl (by first|omega|(simp only[ls];omega))) ?_)))))
         refine ag 2 1 rfl rfl (U5 rfl (aP ?_))
         intro au aq
         refine⟨_,?lZ,⟨k4+1,_,_,rfl,aq.sub ⟨rfl,rfl,rfl,rfl,rfl,rfl,rfl,rfl,trivial⟩,kW.pick [0,1,2] [_,_,_] (by decide) ⟨rfl,rfl,rfl,trivial⟩,?iz,?jB⟩⟩
         case iz=>omega
         case jB=>(show _=jl (lG (mh d gs) (mf d gs) iF (2*i3+k4)) (mh d gs (2*i3+k4)) (mf d gs (2*i3+k4));obtain⟨u1,u2⟩:=aj7 (d:=d) (gs:=gs) (i:=i3) (k:=k4) (by omega);rw[<-hw4,u1,u2])
         case lZ=>omega
        ·refine bS rfl rfl (bk (ah [1,2,4,5,6,8,9] rfl (U3 (U0 rfl (ag 0 1 rfl rfl (af 1 rfl (Ug rfl rfl rfl (by first|omega|(simp only[ls];omega))) ?_))))))
         refine ag 2 1 rfl rfl (U5 rfl (aP ?_))
         intro au aq
         refine⟨_,?lY,⟨i3+1,_,_,rfl,aq.sub ⟨rfl,rfl,rfl,rfl,rfl,rfl,rfl,trivial⟩,S8.pick [0,1,2] [_,_,_] (by decide) ⟨rfl,rfl,rfl,trivial⟩,?iX,?kr⟩⟩
         case iX=>omega
         case kr=>(obtain rfl:k4=2:=(by omega);exact hw4)
         case lY=>omega
      ·refine bS rfl rfl (bk (ah [1,2,4,5,6,8] rfl (U3 (U0 rfl (ag 0 1 rfl rfl (af 1 rfl (Ug rfl rfl rfl (by first|omega|(simp only[ls];omega))) ?_))))))
       refine ag 2 1 rfl rfl (U5 rfl (aP ?_))
       intro au aq
       refine⟨_,?lX,⟨r+1,_,_,rfl,aq.sub ⟨rfl,rfl,rfl,rfl,rfl,rfl,trivial⟩,S7.pick [0,1,2] [_,_,_] (by decide) ⟨rfl,rfl,rfl,trivial⟩,?jA,?lR⟩⟩
       case jA=>omega
       case lR=>(obtain rfl:i3=gs.length:=(by omega);rw[hw3,hw2];rfl)
       case lX=>omega
    ·refine bS rfl rfl (ah [1,2,4,5,6] rfl (U3 (U2 Zpo RT rfl rfl rfl ?_)))
     obtain rfl:r=2*d.ae.length+1:=by omega
     have lg:iF=tC d (bD gs):=by rw[hw2];exact ai3 hab vS
     have hok:∀x,x<2*d.ae.length+1->0<=ga iF x/\ga iF x<=x/\ga iF (ga iF x).toNat=ga iF x:=by rw[lg];exact(wY hab (bD gs) _ (Nat.le_refl _)).2
     have hl2:iF.length=2*d.ae.length+1:=by rw[lg];exact EB _ _ _
     clear hw2
     obtain⟨cl,rfl⟩:∃cl,cl=iF:=⟨_,rfl⟩
     obtain⟨oc,mK⟩:∃oc,oc=tR d (bD gs):=⟨_,rfl⟩
     refine U0 rfl (ag 0 1 rfl rfl (af 1 rfl (Ug rfl rfl rfl (by first|omega|(simp only[ls];omega))) ?_))
     refine ak 2 3 rfl rfl rfl (oU (C:=gw) ((2*(d.ae.length:Int)).toNat+1) rfl rfl rfl rfl rfl mE (by first|rfl|omega) (by show _*1<=_;first|omega|(simp only[ls];omega)) S6 ?_)
     intro vP vL fu;clear S6
     refine ag 3 1 rfl rfl (U5 rfl (ah [1,2,4,5,6,11] rfl (U3 (U2 Zpq RS rfl rfl rfl (U0 rfl (af 0 rfl (U1 rfl rfl ay rfl (aB) (aA)) (af 1 rfl (U4 rfl rfl av rfl (fu.ar (i:=3) rfl rfl)) (b6 74 (.int .i64 (d.loops+(cn (fD cl oc) (0+1):Int))) rfl (int_eq (by rw[show cn (fD cl oc) (0+1)=0 from rfl];omega)) ?_))))))))
     refine af 2 rfl (run_build (l:=[_,_]) rfl rfl cJ rfl rfl) (ak 3 4 rfl rfl rfl (Uh (l:=[_,_]) rfl rfl rfl fQ rfl fu ?_))
     intro bE Oo nj;clear fu
     refine ak 4 5 rfl rfl rfl (U7 (i:=0) (us:=[_,_]) (l':=[_,_]) (H':=[_,_,_,_,_]) rfl rfl nj rfl rfl rfl rfl az rfl rfl rfl rfl ?_)
     intro tO gB;clear nj
     refine U5 rfl (ah [1,2,4,5,6,11,12] rfl (U3 (U2 RR RQ rfl rfl rfl (U2 Zpu Zpv rfl rfl rfl (U0 rfl (ag 0 1 rfl rfl (U5 rfl (U3 ?_))))))))
     refine Uc Zpw 8 rfl rfl rfl ?_
     refine Uz (fun aS au aM=>∃(i2:Nat) (th:List Bool) (yV:Value),aS=d.ae.length-i2/\Env 185 [(1,.slice iM gone.length iL),(2,.pointer (some ⟨aI,0,none⟩)),(4,.pointer (some ⟨aQ,0,none⟩)),(5,.int .i64 (2*(d.ae.length:Int))),(6,kA),(11,yV),(12,.pointer (some ⟨bE,0,none⟩)),(13,.int .i64 (i2:Int))] au/\SH aM M X [Rs.box bE 24 [.slice none 0 0,.int .i64 (d.loops+(cn (fD cl oc) (0+1):Int))],Rs.row gw yV th,Rs.row Uv kA cl,Rs.box aQ 24 [.slice none 0 0,.int .i64 0],Rs.box aI 24 [.slice aV d.ae.length aU,.int .i64 d.loops]]/\i2<=d.ae.length/\th.length=2*d.ae.length+1/\(∀x,x<2*d.ae.length+1->ga th x=kM cl (tRN d (bD gs) i2) (x:Int))) rfl ?_ ?_
     ·intro au aq
      refine⟨_,⟨0,_,_,rfl,aq.sub ⟨rfl,rfl,rfl,rfl,rfl,rfl,rfl,rfl,trivial⟩,gB.pick [0,1,2,3,4] [_,_,_,_,_] (by decide) ⟨rfl,rfl,rfl,rfl,rfl,trivial⟩,?sI,?xE,?akh⟩⟩
      case sI=>omega
      case xE=>(rw[List.length_replicate];omega)
      case akh=>(intro x hx;rw[uL _ _ _ (by omega)];rfl)
     ·rintro m5 a5 oo ⟨i2,th,yV,rfl,zu,dm,hi2,htl,zb⟩
      clear gB
      refine b7 zu (c:=RP) rfl ?_
      clear zu a5
      have BD:=hcg i2
      refine U2 RO RN rfl rfl rfl (U2 Zq0 RM rfl rfl rfl (U0 rfl (ag 0 1 rfl rfl (af 1 rfl (U1 rfl rfl ay rfl (bK) (bJ)) (af 2 rfl (U4 rfl rfl bG rfl (dm.ar (i:=4) rfl rfl)) (af 3 rfl (cI rfl rfl rfl rfl rfl rfl bG) (af 4 rfl (bV rfl rfl rfl) (U5 rfl ?_))))))))
      refine ah [1,2,4,5,6,11,12,13,80] rfl (U3 ?_)
      refine Ue Zq2 Zq3 rfl rfl rfl rfl (fun am0=>?_) (fun am0=>?_)
      ·refine Uf rfl (ah [1,2,4,5,6,11,12,13] rfl (U3 (U2 Zq4 Zq5 rfl rfl rfl (Uc RL 9 rfl rfl rfl (U2 Zq7 RJ rfl rfl rfl (U0 rfl (ag 0 2 rfl rfl (ak 2 3 rfl rfl rfl (cC rfl rfl rfl rfl rfl rfl rfl adX dm (aa1 gone (i2:Int) (gS.mono dm.Uw) dm.aD) ?_)))))))))
       rintro _ vK ib rfl;clear dm
       refine af 3 rfl (dE rfl rfl) (U5 rfl (ah [1,2,4,5,6,11,12,13,86] rfl (U3 ?_)))
       refine cS RI Zqa rfl rfl rfl rfl (fun sZ=>?_) (fun sZ=>?_)
       ·simp only[Bool.and_eq_true,Bool.or_eq_true,Bool.and_eq_false_iff,Bool.or_eq_false_iff,decide_eq_true_eq,decide_eq_false_iff_not,Bool.not_eq_true',Bool.not_eq_false']at sZ
        refine U2 Zqb Zqc rfl rfl rfl (U0 rfl (ag 0 1 rfl rfl (U5 rfl (ah [1,2,4,5,6,11,12,13,14] rfl (U3 (Uc Zqd 10 rfl rfl rfl ?_))))))
        refine Uz (fun aS au aM=>∃(s3:Nat) (tc:List Bool) (Gf:Value),aS=4-s3/\Env 185 [(1,.slice iM gone.length iL),(2,.pointer (some ⟨aI,0,none⟩)),(4,.pointer (some ⟨aQ,0,none⟩)),(5,.int .i64 (2*(d.ae.length:Int))),(6,kA),(11,Gf),(12,.pointer (some ⟨bE,0,none⟩)),(13,.int .i64 (i2:Int)),(14,.int .i64 (s3:Int))] au/\SH aM M X [Rs.box bE 24 [.slice none 0 0,.int .i64 (d.loops+(cn (fD cl oc) (0+1):Int))],Rs.row gw Gf tc,Rs.row Uv kA cl,Rs.box aQ 24 [.slice none 0 0,.int .i64 0],Rs.box aI 24 [.slice aV d.ae.length aU,.int .i64 d.loops]]/\s3<=4/\tc.length=2*d.ae.length+1/\(∀x,x<2*d.ae.length+1->ga tc x=(kM cl (tRN d (bD gs) i2) (x:Int)||lf1 cl (ga d.ae i2) s3 (x:Int)))) rfl ?_ ?_
        ·intro au aq
         refine⟨_,⟨0,_,_,rfl,aq.sub ⟨rfl,rfl,rfl,rfl,rfl,rfl,rfl,rfl,rfl,trivial⟩,ib.pick [0,1,2,3,4] [_,_,_,_,_] (by decide) ⟨rfl,rfl,rfl,rfl,rfl,trivial⟩,?xm,?Fj,?Fi⟩⟩
         case xm=>omega
         case Fj=>exact htl
         case Fi=>(intro x hx;rw[lf1,Bool.or_false];exact zb x hx)
        ·rintro m6 a6 tN ⟨s3,tc,Gf,rfl,zt,ji,hs3,amq,OE⟩
         clear ib
         refine b7 zt (c:=RH) rfl ?_
         clear zt a6
         have ang:=fun h=>kg hab (i:=i2) (by omega) (k:=s3) h
         refine U2 RG RF rfl rfl rfl (U2 Zqh RD rfl rfl rfl (U0 rfl (ag 0 1 rfl rfl (af 1 rfl (bV rfl rfl rfl) (U5 rfl (ah [1,2,4,5,6,11,12,13,14,88] rfl (U3 ?_)))))))
         refine Ue Zqj Zqk rfl rfl rfl rfl (fun amZ=>?_) (fun amZ=>?_)
         ·refine Uf rfl (ah [1,2,4,5,6,11,12,13,14] rfl (U3 (U2 Zql Zqm rfl rfl rfl (Uc Zqn 11 rfl rfl rfl ?_))))
          have auo:=ang (by omega)
          have fR:=hok (bt d i2 s3).toNat (by omega)
          refine U0 rfl (ag 0 2 rfl rfl (af 2 rfl (U8 (us:=[_,_]) rfl rfl ay rfl az (ji.ax (i:=4) rfl ⟨rfl,rfl,trivial⟩)) (ag 3 2 rfl rfl (af 5 rfl (run_build (l:=[_,_]) rfl rfl oa rfl rfl) (ak 6 7 rfl rfl rfl (cC rfl rfl rfl rfl rfl rfl rfl pN ji (oY d i2 s3 (aC.mono ji.Uw) (by omega) (by omega) ji.aD) ?_))))))
          rintro _ Om lM rfl;clear ji
          refine af 7 rfl (Ui (C:=Uv) (i:=2) ((bt d i2 s3).toNat) rfl rfl rfl bw lM rfl (by first|rfl|omega) (by first|omega|(simp only[ls];omega))) ?_
          refine af 8 rfl (U4 rfl rfl av rfl (lM.dv (i:=2) (e:=(bt d i2 s3).toNat) (j:=0) rfl (by first|omega|(simp only[ls];omega)) rfl rfl)) ?_
          refine af 9 rfl (Ui (C:=gw) (i:=1) ((ga cl ((bt d i2 s3).toNat)).toNat) rfl rfl rfl mE lM rfl (by first|rfl|omega) (by first|omega|(simp only[ls];omega))) ?_
          refine ak 10 11 rfl rfl rfl (gy (C:=gw) (i:=1) (e:=(ga cl ((bt d i2 s3).toNat)).toNat) (j:=0) (us:=[_]) (H':=[_,_,_,_,_]) true rfl rfl lM rfl (by first|omega|(simp only[ls];omega)) rfl rfl rfl vQ rfl rfl rfl rfl ?_)
          intro Ol uy;clear lM
          refine U5 rfl (bk (ah [1,2,4,5,6,11,12,13,14] rfl (U3 (U0 rfl (ag 0 1 rfl rfl (af 1 rfl (Ug rfl rfl rfl (by first|omega|(simp only[ls];omega))) ?_))))))
          refine ag 2 1 rfl rfl (U5 rfl (aP ?_))
          intro au aq
          refine⟨_,?akG,⟨s3+1,_,_,rfl,aq.sub ⟨rfl,rfl,rfl,rfl,rfl,rfl,rfl,rfl,rfl,trivial⟩,uy.pick [0,1,2,3,4] [_,_,_,_,_] (by decide) ⟨rfl,rfl,rfl,rfl,rfl,trivial⟩,?xk,?Fh,?ajs⟩⟩
          case xk=>omega
          case Fh=>simpa using amq
          case ajs=>(intro x hx;have hq:=OE x hx;rw[dV _ _ _ _ (by omega),lf1];by_cases e9:(x:Int)=ga cl (cD (ga d.ae i2) s3).toNat;(rw[if_pos (show(ga cl (bt d i2 s3).toNat).toNat=x by unfold bt;omega)];simp[e9]);(rw[if_neg (show¬(ga cl (bt d i2 s3).toNat).toNat=x by(unfold bt at*;omega)),hq];simp[e9]))
          case akG=>omega
         ·refine bS rfl rfl (bk (ah [1,2,4,5,6,11,12,13] rfl (U3 (U0 rfl (ag 0 1 rfl rfl (af 1 rfl (Ug rfl rfl rfl (by first|omega|(simp only[ls];omega))) ?_))))))
          refine ag 2 1 rfl rfl (U5 rfl (aP ?_))
          intro au aq
          refine⟨_,?akF,⟨i2+1,_,_,rfl,aq.sub ⟨rfl,rfl,rfl,rfl,rfl,rfl,rfl,rfl,trivial⟩,ji.pick [0,1,2,3,4] [_,_,_,_,_] (by decide) ⟨rfl,rfl,rfl,rfl,rfl,trivial⟩,?xj,?Fg,?ajr⟩⟩
          case xj=>omega
          case Fg=>assumption
          case ajr=>first|(intro x hx;rw[tRN,if_pos (by rw[<-BD];simpa using sZ)];exact zb x hx)|(intro x hx;rw[tRN,if_neg (by rw[<-BD];simpa using sZ),Eo,OE x hx,show s3=4 by omega])
          case akF=>omega
       ·simp only[Bool.and_eq_true,Bool.or_eq_true,Bool.and_eq_false_iff,Bool.or_eq_false_iff,decide_eq_true_eq,decide_eq_false_iff_not,Bool.not_eq_true',Bool.not_eq_false']at sZ
        refine Uf rfl (bk (ah [1,2,4,5,6,11,12,13] rfl (U3 (U0 rfl (ag 0 1 rfl rfl (af 1 rfl (Ug rfl rfl rfl (by first|omega|(simp only[ls];omega))) ?_))))))
        refine ag 2 1 rfl rfl (U5 rfl (aP ?_))
        intro au aq
        refine⟨_,?FV,⟨i2+1,_,_,rfl,aq.sub ⟨rfl,rfl,rfl,rfl,rfl,rfl,rfl,rfl,trivial⟩,ib.pick [0,1,2,3,4] [_,_,_,_,_] (by decide) ⟨rfl,rfl,rfl,rfl,rfl,trivial⟩,?xh,?Ff,?ajq⟩⟩
        case xh=>omega
        case Ff=>assumption
        case ajq=>first|(intro x hx;rw[tRN,if_pos (by rw[<-BD];simpa using sZ)];exact zb x hx)|(intro x hx;rw[tRN,if_neg (by rw[<-BD];simpa using sZ),Eo,OE x hx,show s3=4 by omega])
        case FV=>omega
      ·refine bS rfl rfl (ah [1,2,4,5,6,11,12] rfl (U3 (U2 Zqo RB rfl rfl rfl ?_)))
       obtain rfl:i2=d.ae.length:=by omega
       have hlf:∀x,x<2*d.ae.length+1->ga th x=kM cl oc (x:Int):=fun x hx=>by rw[mK];exact zb x hx
       clear zb
       refine U0 rfl (ag 0 1 rfl rfl (af 1 rfl (Ug rfl rfl rfl (by first|omega|(simp only[ls];omega))) ?_))
       refine ak 2 3 rfl rfl rfl (oU (C:=Uv) ((2*(d.ae.length:Int)).toNat+1) rfl rfl rfl rfl rfl bw (by first|rfl|omega) (by show _*8<=_;first|omega|(simp only[ls];omega)) dm ?_)
       intro Oz vJ kV;clear dm
       refine ag 3 1 rfl rfl (U5 rfl (ah [1,2,4,5,6,11,12,15] rfl (U3 (U2 Zqq RA rfl rfl rfl (U0 rfl (ag 0 1 rfl rfl (U5 rfl (U3 ?_))))))))
       refine U2 Rz Ry rfl rfl rfl (U2 Zqu Zqv rfl rfl rfl (U0 rfl (ag 0 1 rfl rfl (U5 rfl (U3 (Uc Zqw 12 rfl rfl rfl ?_))))))
       refine Uz (fun aS au aM=>∃(x6:Nat) (nu:List Int) (pY:Value),aS=2*d.ae.length-x6/\Env 185 [(1,.slice iM gone.length iL),(2,.pointer (some ⟨aI,0,none⟩)),(4,.pointer (some ⟨aQ,0,none⟩)),(5,.int .i64 (2*(d.ae.length:Int))),(6,kA),(11,yV),(12,.pointer (some ⟨bE,0,none⟩)),(15,pY),(16,.int .i64 ((cn (dY cl oc) (x6+1)+1:Nat):Int)),(17,.int .i64 ((x6+1:Nat):Int))] au/\SH aM M X [Rs.row Uv pY nu,Rs.box bE 24 [.slice none 0 0,.int .i64 (d.loops+(cn (fD cl oc) (x6+1):Int))],Rs.row gw yV th,Rs.row Uv kA cl,Rs.box aQ 24 [.slice none 0 0,.int .i64 0],Rs.box aI 24 [.slice aV d.ae.length aU,.int .i64 d.loops]]/\x6<=2*d.ae.length/\nu.length=2*d.ae.length+1/\(∀x,x<x6+1->dY cl oc x=true->ga nu x=(cn (dY cl oc) (x+1):Int))) rfl ?_ ?_
       ·intro au aq
        refine⟨_,⟨0,_,_,rfl,aq.sub ⟨rfl,rfl,rfl,rfl,rfl,rfl,rfl,rfl,rfl,rfl,trivial⟩,kV.pick [0,1,2,3,4,5] [_,_,_,_,_,_] (by decide) ⟨rfl,rfl,rfl,rfl,rfl,rfl,trivial⟩,?xg,?Fe,?ajp⟩⟩
        case xg=>omega
        case Fe=>(rw[List.length_replicate];omega)
        case ajp=>(intro x hx h9;obtain rfl:x=0:=(by omega);cases h9)
       ·rintro m7 a7 tM ⟨x6,nu,pY,rfl,zr,dG,ha6,hnl,jK⟩
        clear kV
        refine b7 zr (c:=Rx) rfl ?_
        clear zr a7
        have amY:=xN (dY cl oc) (x6+1)
        have amX:=xN (fD cl oc) (x6+1)
        have amE:=fun h=>hok (x6+1) h
        refine U2 Rw Ru rfl rfl rfl (U2 Zr0 Rt rfl rfl rfl (U0 rfl (ag 0 2 rfl rfl (af 2 rfl (oI rfl rfl rfl) (U5 rfl (ah [1,2,4,5,6,11,12,15,16,17,106] rfl (U3 ?_)))))))
        refine Ue Zr2 Zr3 rfl rfl rfl rfl (fun akW=>?_) (fun akW=>?_)
        ·refine Uf rfl (ah [1,2,4,5,6,11,12,15,16,17] rfl (U3 (U2 Zr4 Zr5 rfl rfl rfl (Uc Rq 13 rfl rfl rfl (U2 Zr7 Rp rfl rfl rfl (U0 rfl (ag 0 2 rfl rfl (af 2 rfl (Ui (C:=gw) (i:=2) (x6+1) rfl rfl rfl mE dG rfl (by first|rfl|omega) (by first|omega|(simp only[ls];omega))) ?_))))))))
         refine af 3 rfl (U4 rfl rfl dh rfl (dG.dv (i:=2) (e:=x6+1) (j:=0) rfl (by first|omega|(simp only[ls];omega)) rfl rfl)) ?_
         refine U5 rfl (ah [1,2,4,5,6,11,12,15,16,17,112] rfl (U3 ?_))
         refine cS Ro Rn rfl rfl rfl rfl (fun pd=>?_) (fun pd=>?_)
         ·have hlx:=hlf (x6+1) (by omega)
          obtain⟨hq1,hq2,zf⟩:=ahj hab (gn:=bD gs) (x:=x6+1) (by rw[<-lg,<-mK,<-hlx];exact pd)
          rw[<-lg]at zf
          have hrt:dY cl oc (x6+1)=true:=by unfold dY;rw[decide_eq_true zf,<-hlx];simp;exact pd
          have hlo:fD cl oc (x6+1)=false:=by unfold fD;rw[<-hlx];simp;intro _;exact pd
          refine U2 Zrb Zrc rfl rfl rfl (U0 rfl (ag 0 3 rfl rfl (af 3 rfl (Ui (C:=Uv) (i:=0) (x6+1) rfl rfl rfl bw dG rfl (by first|rfl|omega) (by first|omega|(simp only[ls];omega))) ?_)))
          refine ak 4 5 rfl rfl rfl (gy (C:=Uv) (i:=0) (e:=x6+1) (j:=0) (us:=[_]) (H':=[_,_,_,_,_,_]) ((cn (dY cl oc) (x6+1)+1:Nat):Int) rfl rfl dG rfl (by first|omega|(simp only[ls];omega)) rfl rfl rfl aY rfl rfl rfl rfl ?_)
          intro vI gA;clear dG
          refine U5 rfl (ah [1,2,4,5,6,11,12,15,16,17] rfl (U3 (U0 rfl (ag 0 1 rfl rfl (af 1 rfl (Ug rfl rfl rfl (by first|omega|(simp only[ls];omega))) ?_)))))
          refine ag 2 1 rfl rfl (U5 rfl (bk (ah [1,2,4,5,6,11,12,15,16,17] rfl (U3 (jy 16 (.int .i64 ((cn (dY cl oc) (x6+1+1)+1:Nat):Int)) rfl (int_eq (by rw[si hrt];omega)) ?_)))))
          rw[<-qM hlo]at gA
          refine U0 rfl (ag 0 1 rfl rfl (af 1 rfl (Ug rfl rfl rfl (by first|omega|(simp only[ls];omega))) ?_))
          refine ag 2 1 rfl rfl (U5 rfl (aP ?_))
          intro au aq
          refine⟨_,?akD,⟨x6+1,_,_,rfl,aq.sub ⟨rfl,rfl,rfl,rfl,rfl,rfl,rfl,rfl,rfl,rfl,trivial⟩,gA.pick [0,1,2,3,4,5] [_,_,_,_,_,_] (by decide) ⟨rfl,rfl,rfl,rfl,rfl,rfl,trivial⟩,?xe,?Fb,?Fa⟩⟩
          case xe=>omega
          case Fb=>first|assumption|simpa using hnl
          case Fa=>first|(intro x hx h9;by_cases e:x=x6+1;(subst e;rw[dV _ _ _ _ (by omega),if_pos rfl,si h9]);(rw[dV _ _ _ _ (by omega),if_neg (fun h=>e h.symm)];exact jK x (by omega) h9))|(intro x hx h9;by_cases e:x=x6+1;(subst e;rw[hrt]at h9;cases h9);exact jK x (by omega) h9)
          case akD=>omega
         ·refine U2 Zrd Rm rfl rfl rfl (U0 rfl (ag 0 2 rfl rfl (af 2 rfl (Ui (C:=Uv) (i:=3) (x6+1) rfl rfl rfl bw dG rfl (by first|rfl|omega) (by first|omega|(simp only[ls];omega))) ?_)))
          refine af 3 rfl (U4 rfl rfl av rfl (dG.dv (i:=3) (e:=x6+1) (j:=0) rfl (by first|omega|(simp only[ls];omega)) rfl rfl)) ?_
          refine ag 4 1 rfl rfl (af 5 rfl (bP rfl rfl rfl) (U5 rfl (ah [1,2,4,5,6,11,12,15,16,17,124] rfl (U3 ?_))))
          refine Ue Zrf Zrg rfl rfl rfl rfl (fun FY=>?_) (fun FY=>?_)
          ·have hlx:=hlf (x6+1) (by omega)
           have hrt:dY cl oc (x6+1)=false:=by unfold dY;rw[<-hlx];simp;intro _;exact pd
           have hlo:fD cl oc (x6+1)=true:=by unfold fD;rw[decide_eq_true (show ga cl (x6+1)=((x6+1:Nat):Int)from FY),<-hlx];simp;exact pd
           refine U0 rfl (af 0 rfl (U1 rfl rfl ay rfl (aB) (aA)) (af 1 rfl (U4 rfl rfl av rfl (dG.ar (i:=1) rfl rfl)) (af 2 rfl (Ug rfl rfl rfl (by first|omega|(simp only[ls];omega))) ?_)))
           refine af 3 rfl (U1 rfl rfl ay rfl (aB) (aA)) (ak 4 5 rfl rfl rfl (U7 (i:=1) (us:=[_]) (l':=[_,_]) (H':=[_,_,_,_,_,_]) rfl rfl dG rfl rfl rfl rfl aY rfl rfl rfl rfl ?_))
           intro tL fO;clear dG
           refine U5 rfl (bk (ah [1,2,4,5,6,11,12,15,16,17] rfl (U3 (jy 16 (.int .i64 ((cn (dY cl oc) (x6+1+1)+1:Nat):Int)) rfl (int_eq (by rw[qM hrt])) ?_))))
           rw[ag5,<-si hlo]at fO
           refine U0 rfl (ag 0 1 rfl rfl (af 1 rfl (Ug rfl rfl rfl (by first|omega|(simp only[ls];omega))) ?_))
           refine ag 2 1 rfl rfl (U5 rfl (aP ?_))
           intro au aq
           refine⟨_,?FU,⟨x6+1,_,_,rfl,aq.sub ⟨rfl,rfl,rfl,rfl,rfl,rfl,rfl,rfl,rfl,rfl,trivial⟩,fO.pick [0,1,2,3,4,5] [_,_,_,_,_,_] (by decide) ⟨rfl,rfl,rfl,rfl,rfl,rfl,trivial⟩,?wZ,?E9,?E8⟩⟩
           case wZ=>omega
           case E9=>first|assumption|simpa using hnl
           case E8=>first|(intro x hx h9;by_cases e:x=x6+1;(subst e;rw[dV _ _ _ _ (by omega),if_pos rfl,si h9]);(rw[dV _ _ _ _ (by omega),if_neg (fun h=>e h.symm)];exact jK x (by omega) h9))|(intro x hx h9;by_cases e:x=x6+1;(subst e;rw[hrt]at h9;cases h9);exact jK x (by omega) h9)
           case FU=>omega
          ·have hlx:=hlf (x6+1) (by omega)
           have hrt:dY cl oc (x6+1)=false:=by unfold dY;rw[<-hlx];simp;intro _;exact pd
           have hlo:fD cl oc (x6+1)=false:=by unfold fD;rw[decide_eq_false (show¬ga cl (x6+1)=((x6+1:Nat):Int)from FY)];simp
           refine Uf rfl (bk (ah [1,2,4,5,6,11,12,15,16,17] rfl (U3 (jy 16 (.int .i64 ((cn (dY cl oc) (x6+1+1)+1:Nat):Int)) rfl (int_eq (by rw[qM hrt])) ?_))))
           rw[<-qM hlo]at dG
           refine U0 rfl (ag 0 1 rfl rfl (af 1 rfl (Ug rfl rfl rfl (by first|omega|(simp only[ls];omega))) ?_))
           refine ag 2 1 rfl rfl (U5 rfl (aP ?_))
           intro au aq
           refine⟨_,?FT,⟨x6+1,_,_,rfl,aq.sub ⟨rfl,rfl,rfl,rfl,rfl,rfl,rfl,rfl,rfl,rfl,trivial⟩,dG.pick [0,1,2,3,4,5] [_,_,_,_,_,_] (by decide) ⟨rfl,rfl,rfl,rfl,rfl,rfl,trivial⟩,?E7,?E6,?E5⟩⟩
           case E7=>omega
           case E6=>first|assumption|simpa using hnl
           case E5=>first|(intro x hx h9;by_cases e:x=x6+1;(subst e;rw[dV _ _ _ _ (by omega),if_pos rfl,si h9]);(rw[dV _ _ _ _ (by omega),if_neg (fun h=>e h.symm)];exact jK x (by omega) h9))|(intro x hx h9;by_cases e:x=x6+1;(subst e;rw[hrt]at h9;cases h9);exact jK x (by omega) h9)
           case FT=>omega
        ·refine bS rfl rfl (ah [1,2,4,6,12,15] rfl (U3 (U2 Rl Rk rfl rfl rfl (U2 Zrj Zrk rfl rfl rfl ?_))))
         obtain rfl:x6=2*d.ae.length:=by omega
         refine U0 rfl (ag 0 1 rfl rfl (U5 rfl (U3 (Uc Zrl 14 rfl rfl rfl ?_))))
         have lL:=dG.np aG;clear dG
         refine Uz (fun aS au aM=>∃(i5:Nat) (c5:List Cr) (Di:Value),aS=d.ae.length-i5/\Env 185 [(1,.slice iM gone.length iL),(2,.pointer (some ⟨aI,0,none⟩)),(4,.pointer (some ⟨aQ,0,none⟩)),(6,kA),(12,.pointer (some ⟨bE,0,none⟩)),(15,pY),(18,.int .i64 (i5:Int))] au/\SH aM M X [Rs.row aG Di c5,Rs.row Uv pY nu,Rs.box bE 24 [Di,.int .i64 (d.loops+(cn (fD cl oc) (2*d.ae.length+1):Int))],Rs.row Uv kA cl,Rs.box aQ 24 [.slice none 0 0,.int .i64 0],Rs.box aI 24 [.slice aV d.ae.length aU,.int .i64 d.loops]]/\i5<=d.ae.length/\c5=(tRN d (bD gs) i5).map (OB cl oc)) rfl ?_ ?_
         ·intro au aq
          refine⟨_,⟨0,_,_,rfl,aq.sub ⟨rfl,rfl,rfl,rfl,rfl,rfl,rfl,trivial⟩,lL.pick [0,1,2,4,5,6] [_,_,_,_,_,_] (by decide) ⟨rfl,rfl,rfl,rfl,rfl,rfl,trivial⟩,?E4,?E3⟩⟩
          case E4=>omega
          case E3=>rfl
         ·rintro m8 a8 vH ⟨i5,c5,Di,rfl,zq,fN,hi5,vU⟩
          clear lL
          refine b7 zq (c:=Rj) rfl ?_
          clear zq a8
          have avV:c5.length<=i5:=by rw[vU,List.length_map];exact abx _ _ _
          have ya:=hcg i5
          refine U2 Ri Rh rfl rfl rfl (U2 Zrp Rg rfl rfl rfl (U0 rfl (ag 0 1 rfl rfl (af 1 rfl (U1 rfl rfl ay rfl (bK) (bJ)) (af 2 rfl (U4 rfl rfl bG rfl (fN.ar (i:=5) rfl rfl)) (af 3 rfl (cI rfl rfl rfl rfl rfl rfl bG) (af 4 rfl (bV rfl rfl rfl) (U5 rfl ?_))))))))
          refine ah [1,2,4,6,12,15,18,133] rfl (U3 ?_)
          refine Ue Zrr Zrs rfl rfl rfl rfl (fun akT=>?_) (fun akT=>?_)
          ·refine Uf rfl (ah [1,2,4,6,12,15,18] rfl (U3 (U2 Zrt Zru rfl rfl rfl (Uc Rf 15 rfl rfl rfl (U2 Re Rb rfl rfl rfl (U2 Zry Ra rfl rfl rfl (U0 rfl (ag 0 2 rfl rfl ?_))))))))
           refine ak 2 3 rfl rfl rfl (cC rfl rfl rfl rfl rfl rfl rfl adX fN (aa1 gone (i5:Int) (gS.mono fN.Uw) fN.aD) ?_)
           rintro _ yT eN rfl;clear fN
           refine U5 rfl (ah [1,2,4,6,12,15,18,138] rfl (U3 ?_))
           refine cS Zs0 Zs1 rfl rfl rfl rfl (fun uU=>?_) (fun uU=>?_)
           ·refine bS rfl rfl (ah [1,2,4,6,12,15,18] rfl (U3 (U0 rfl (ag 0 1 rfl rfl (af 1 rfl (Ug rfl rfl rfl (by first|omega|(simp only[ls];omega))) ?_)))))
            refine ag 2 1 rfl rfl (U5 rfl (aP ?_))
            intro au aq
            refine⟨_,?akB,⟨i5+1,_,_,rfl,aq.sub ⟨rfl,rfl,rfl,rfl,rfl,rfl,rfl,trivial⟩,eN.pick [0,1,2,3,4,5] [_,_,_,_,_,_] (by decide) ⟨rfl,rfl,rfl,rfl,rfl,rfl,trivial⟩,?E2,?EZ⟩⟩
            case E2=>omega
            case EZ=>first|(rw[tRN,if_pos (by rw[<-ya];simpa using uU)];exact vU)|(rw[tRN,if_neg (by rw[<-ya];simpa using uU),List.map_append,<-vU];refine congrArg _ ?_;show[(⟨ga nu (ga cl (cD (ga d.ae i5) 0).toNat).toNat,ga nu (ga cl (cD (ga d.ae i5) 1).toNat).toNat,ga nu (ga cl (cD (ga d.ae i5) 2).toNat).toNat,ga nu (ga cl (cD (ga d.ae i5) 3).toNat).toNat,(ga d.ae i5).plus⟩:Cr)]=_;rw[ml 0 (by omega),ml 1 (by omega),ml 2 (by omega),ml 3 (by omega)];rfl)
            case akB=>omega
           ·have nz:ga d.ae i5∈tR d (bD gs):=aj8 (by omega) (by rw[<-ya];simpa using uU)
            have ajn:1<=(ga d.ae i5).a/\(ga d.ae i5).a<=2*(d.ae.length:Int):=nk hab (Nat.le_refl _) nz (s:=0) (by omega)
            obtain⟨amC,amy,_⟩:=hok (ga d.ae i5).a.toNat (by omega)
            have ajm:1<=(ga d.ae i5).b/\(ga d.ae i5).b<=2*(d.ae.length:Int):=nk hab (Nat.le_refl _) nz (s:=1) (by omega)
            obtain⟨amB,amx,_⟩:=hok (ga d.ae i5).b.toNat (by omega)
            have ajl:1<=(ga d.ae i5).c/\(ga d.ae i5).c<=2*(d.ae.length:Int):=nk hab (Nat.le_refl _) nz (s:=2) (by omega)
            obtain⟨amA,amw,_⟩:=hok (ga d.ae i5).c.toNat (by omega)
            have ajk:1<=(ga d.ae i5).d/\(ga d.ae i5).d<=2*(d.ae.length:Int):=nk hab (Nat.le_refl _) nz (s:=3) (by omega)
            obtain⟨amz,amv,_⟩:=hok (ga d.ae i5).d.toNat (by omega)
            have ml:∀s,s<4->ga nu (ga cl (cD (ga d.ae i5) s).toNat).toNat=tV cl oc (cD (ga d.ae i5) s):=fun s hs=>by
             have:=acx hab (nu:=nu) (by rw[<-lg,<-mK];exact jK) nz hs
             rw[<-lg,<-mK]at this
             exact this
            refine Uf rfl (ah [1,2,4,6,12,15,18] rfl (U3 (U2 Zs2 Zs3 rfl rfl rfl (U0 rfl (af 0 rfl (U1 rfl rfl ay rfl (bK) (bJ)) (af 1 rfl (U4 rfl rfl bG rfl (eN.ar (i:=5) rfl rfl)) (ag 2 1 rfl rfl (af 3 rfl (Uk (C:=aG) i5 rfl rfl rfl b8 (by first|rfl|omega) aC (by first|omega|(simp only[ls];omega))) ?_))))))))
            refine af 4 rfl (U8 (us:=[_,_,_,_,_]) rfl rfl aT rfl bT (aC.fq eN.um (e:=i5) (by first|omega|(simp only[ls];omega)) (j:=0) ⟨rfl,rfl,rfl,rfl,rfl,trivial⟩)) ?_
            refine ak 5 6 rfl rfl rfl (Uh (l:=[_,_,_,_,_]) rfl rfl rfl kz rfl eN ?_)
            intro gY tK iK;clear eN
            refine ak 6 7 rfl rfl rfl (U7 (i:=0) (us:=[_,_,_,_,_]) (l':=[_,_,_,_,_]) (H':=[_,_,_,_,_,_,_]) rfl rfl iK rfl rfl rfl rfl bT rfl rfl rfl rfl ?_)
            intro Oj jQ;clear iK
            refine U5 rfl (ah [1,2,4,6,12,15,18,19] rfl (U3 (Ux rfl (by kernel_rfl) jQ 41 rfl ?_)))
            clear jQ
            refine ai 0 40 rfl (by kernel_rfl) (fun _=>U1 rfl rfl ay rfl (bK) (bJ)) ?_
            refine aj 1 39 rfl (by kernel_rfl) (fun _ _ _ hz Sz=>.inl (U4 rfl rfl bG rfl (Sz.suf.ar (i:=3) rfl rfl))) ?_
            refine ai 2 38 rfl (by kernel_rfl) (fun _=>run_move rfl rfl) ?_
            refine ai 3 37 rfl (by kernel_rfl) (fun _=>run_move rfl rfl) ?_
            refine ai 4 36 rfl (by kernel_rfl) (fun _=>U1 rfl rfl aT rfl (aB) (aA)) ?_
            refine aj 5 35 rfl (by kernel_rfl) (fun _ _ _ hz Sz=>.inl (U4 rfl rfl av rfl (Sz.suf.ar (i:=0) rfl rfl))) ?_
            refine aj 6 34 rfl (by kernel_rfl) (fun _ _ _ hz Sz=>.inl (Ui (C:=Uv) (i:=4) (((ga d.ae i5).a).toNat) rfl rfl rfl bw Sz.suf rfl (by first|rfl|omega) (by first|omega|(simp only[ls];omega)))) ?_
            refine aj 7 33 rfl (by kernel_rfl) (fun _ _ _ hz Sz=>.inl (U4 rfl rfl av rfl (Sz.suf.dv (i:=4) (e:=((ga d.ae i5).a).toNat) (j:=0) rfl (by first|omega|(simp only[ls];omega)) rfl rfl))) ?_
            refine aj 8 32 rfl (by kernel_rfl) (fun _ _ _ hz Sz=>.inl (Ui (C:=Uv) (i:=2) ((ga cl (((ga d.ae i5).a).toNat)).toNat) rfl rfl rfl bw Sz.suf rfl (by first|rfl|omega) (by first|omega|(simp only[ls];omega)))) ?_
            refine aj 9 31 rfl (by kernel_rfl) (fun _ _ _ hz Sz=>.inl (U4 rfl rfl av rfl (Sz.suf.dv (i:=2) (e:=(ga cl (((ga d.ae i5).a).toNat)).toNat) (j:=0) rfl (by first|omega|(simp only[ls];omega)) rfl rfl))) ?_
            refine ai 10 30 rfl (by kernel_rfl) (fun _=>run_move rfl rfl) ?_
            refine ai 11 29 rfl (by kernel_rfl) (fun _=>run_move rfl rfl) ?_
            refine ai 12 28 rfl (by kernel_rfl) (fun _=>U1 rfl rfl aT rfl (aB) (aA)) ?_
            refine aj 13 27 rfl (by kernel_rfl) (fun _ _ _ hz Sz=>.inl (U4 rfl rfl av rfl (Sz.suf.ar (i:=0) rfl rfl))) ?_
            refine aj 14 26 rfl (by kernel_rfl) (fun _ _ _ hz Sz=>.inl (Ui (C:=Uv) (i:=4) (((ga d.ae i5).b).toNat) rfl rfl rfl bw Sz.suf rfl (by first|rfl|omega) (by first|omega|(simp only[ls];omega)))) ?_
            refine aj 15 25 rfl (by kernel_rfl) (fun _ _ _ hz Sz=>.inl (U4 rfl rfl av rfl (Sz.suf.dv (i:=4) (e:=((ga d.ae i5).b).toNat) (j:=0) rfl (by first|omega|(simp only[ls];omega)) rfl rfl))) ?_
            refine aj 16 24 rfl (by kernel_rfl) (fun _ _ _ hz Sz=>.inl (Ui (C:=Uv) (i:=2) ((ga cl (((ga d.ae i5).b).toNat)).toNat) rfl rfl rfl bw Sz.suf rfl (by first|rfl|omega) (by first|omega|(simp only[ls];omega)))) ?_
            refine aj 17 23 rfl (by kernel_rfl) (fun _ _ _ hz Sz=>.inl (U4 rfl rfl av rfl (Sz.suf.dv (i:=2) (e:=(ga cl (((ga d.ae i5).b).toNat)).toNat) (j:=0) rfl (by first|omega|(simp only[ls];omega)) rfl rfl))) ?_
            refine ai 18 22 rfl (by kernel_rfl) (fun _=>run_move rfl rfl) ?_
            refine ai 19 21 rfl (by kernel_rfl) (fun _=>run_move rfl rfl) ?_
            refine ai 20 20 rfl (by kernel_rfl) (fun _=>U1 rfl rfl aT rfl (aB) (aA)) ?_
            refine aj 21 19 rfl (by kernel_rfl) (fun _ _ _ hz Sz=>.inl (U4 rfl rfl av rfl (Sz.suf.ar (i:=0) rfl rfl))) ?_
            refine aj 22 18 rfl (by kernel_rfl) (fun _ _ _ hz Sz=>.inl (Ui (C:=Uv) (i:=4) (((ga d.ae i5).c).toNat) rfl rfl rfl bw Sz.suf rfl (by first|rfl|omega) (by first|omega|(simp only[ls];omega)))) ?_
            refine aj 23 17 rfl (by kernel_rfl) (fun _ _ _ hz Sz=>.inl (U4 rfl rfl av rfl (Sz.suf.dv (i:=4) (e:=((ga d.ae i5).c).toNat) (j:=0) rfl (by first|omega|(simp only[ls];omega)) rfl rfl))) ?_
            refine aj 24 16 rfl (by kernel_rfl) (fun _ _ _ hz Sz=>.inl (Ui (C:=Uv) (i:=2) ((ga cl (((ga d.ae i5).c).toNat)).toNat) rfl rfl rfl bw Sz.suf rfl (by first|rfl|omega) (by first|omega|(simp only[ls];omega)))) ?_
            refine aj 25 15 rfl (by kernel_rfl) (fun _ _ _ hz Sz=>.inl (U4 rfl rfl av rfl (Sz.suf.dv (i:=2) (e:=(ga cl (((ga d.ae i5).c).toNat)).toNat) (j:=0) rfl (by first|omega|(simp only[ls];omega)) rfl rfl))) ?_
            refine ai 26 14 rfl (by kernel_rfl) (fun _=>run_move rfl rfl) ?_
            refine ai 27 13 rfl (by kernel_rfl) (fun _=>run_move rfl rfl) ?_
            refine ai 28 12 rfl (by kernel_rfl) (fun _=>U1 rfl rfl aT rfl (aB) (aA)) ?_
            refine aj 29 11 rfl (by kernel_rfl) (fun _ _ _ hz Sz=>.inl (U4 rfl rfl av rfl (Sz.suf.ar (i:=0) rfl rfl))) ?_
            refine aj 30 10 rfl (by kernel_rfl) (fun _ _ _ hz Sz=>.inl (Ui (C:=Uv) (i:=4) (((ga d.ae i5).d).toNat) rfl rfl rfl bw Sz.suf rfl (by first|rfl|omega) (by first|omega|(simp only[ls];omega)))) ?_
            refine aj 31 9 rfl (by kernel_rfl) (fun _ _ _ hz Sz=>.inl (U4 rfl rfl av rfl (Sz.suf.dv (i:=4) (e:=((ga d.ae i5).d).toNat) (j:=0) rfl (by first|omega|(simp only[ls];omega)) rfl rfl))) ?_
            refine aj 32 8 rfl (by kernel_rfl) (fun _ _ _ hz Sz=>.inl (Ui (C:=Uv) (i:=2) ((ga cl (((ga d.ae i5).d).toNat)).toNat) rfl rfl rfl bw Sz.suf rfl (by first|rfl|omega) (by first|omega|(simp only[ls];omega)))) ?_
            refine aj 33 7 rfl (by kernel_rfl) (fun _ _ _ hz Sz=>.inl (U4 rfl rfl av rfl (Sz.suf.dv (i:=2) (e:=(ga cl (((ga d.ae i5).d).toNat)).toNat) (j:=0) rfl (by first|omega|(simp only[ls];omega)) rfl rfl))) ?_
            refine ai 34 6 rfl (by kernel_rfl) (fun _=>U1 rfl rfl aT rfl (fI) (fH)) ?_
            refine aj 35 5 rfl (by kernel_rfl) (fun _ _ _ hz Sz=>.inl (U4 rfl rfl dh rfl (Sz.suf.ar (i:=0) rfl rfl))) ?_
            refine aj 36 4 rfl (by kernel_rfl) (fun _ _ _ hz Sz=>.inl (run_build (l:=[_,_,_,_,_]) rfl rfl lW rfl rfl)) ?_
            refine Un (i:=37) 3 rfl (by kernel_rfl) rfl rfl (fun w85 ko=>?_)
            refine(iy (C:=aG) (l:=[_,_,_,_,_]) rfl rfl rfl rfl b8 rfl rfl rfl rfl ko ?_)
            intro iq w86 zI;clear ko
            refine aN.grow [_] (Hp.le_refl _) zI ?_;clear zI
            change WA _ _ _ _ _ _ _ _ _ _ _ _ [_,_,_,_,_,_,_,_]
            refine Un (i:=38) 2 rfl (by kernel_rfl) rfl rfl (fun w88 na=>?_)
            refine(jg (C:=aG) (i:=2) (q:=0) (⟨ga nu ((ga cl (((ga d.ae i5).a).toNat)).toNat),ga nu ((ga cl (((ga d.ae i5).b).toNat)).toNat),ga nu ((ga cl (((ga d.ae i5).c).toNat)).toNat),ga nu ((ga cl (((ga d.ae i5).d).toNat)).toNat),(ga d.ae i5).plus⟩:Cr) rfl rfl rfl rfl rfl rfl rfl rfl b8 na rfl rfl rfl (by show(_+1)*40<=_;first|omega|(simp only[ls];omega)) ?_)
            intro Di w89 uw;clear na
            have wE:=uw.pick [1,2,3,4,5,6,7] [_,_,_,_,_,_,_] (by decide) ⟨rfl,rfl,rfl,rfl,rfl,rfl,rfl,trivial⟩;clear uw
            refine aN.turn (by kernel_rfl) wE ?_;clear wE
            change WA _ _ _ _ _ _ _ _ _ _ _ _ [_,_,_,_,_,_,_]
            refine ai 39 1 rfl (by kernel_rfl) (fun _=>U1 rfl rfl ay rfl (bK) (bJ)) ?_
            refine Un (i:=40) 0 rfl (by kernel_rfl) rfl rfl (fun w92 rU=>?_)
            refine(U7 (i:=3) (us:=[_]) (l':=[_,_]) (H':=[_,_,_,_,_,_,_]) rfl rfl rU rfl rfl rfl (rU.jx (i:=1) rfl) kZ rfl (Uy (rU.one (i:=1) rfl) rfl) rfl rfl ?_)
            intro w93 zH;clear rU
            refine aN.turn (by kernel_rfl) zH ?_;clear zH
            change WA _ _ _ _ _ _ _ _ _ _ _ _ [_,_,_,_,_,_,_]
            refine Uu (by kernel_rfl) (fun w94 S96=>?_)
            refine bk (ah [1,2,4,6,12,15,18] rfl (U3 (U0 rfl (ag 0 1 rfl rfl (af 1 rfl (Ug rfl rfl rfl (by first|omega|(simp only[ls];omega))) ?_)))))
            refine ag 2 1 rfl rfl (U5 rfl (aP ?_))
            intro au aq
            refine⟨_,?FQ,⟨i5+1,_,_,rfl,aq.sub ⟨rfl,rfl,rfl,rfl,rfl,rfl,rfl,trivial⟩,S96.pick [1,2,3,4,5,6] [_,_,_,_,_,_] (by decide) ⟨rfl,rfl,rfl,rfl,rfl,rfl,trivial⟩,?EY,?EX⟩⟩
            case EY=>omega
            case EX=>first|(rw[tRN,if_pos (by rw[<-ya];simpa using uU)];exact vU)|(rw[tRN,if_neg (by rw[<-ya];simpa using uU),List.map_append,<-vU];refine congrArg _ ?_;show[(⟨ga nu (ga cl (cD (ga d.ae i5) 0).toNat).toNat,ga nu (ga cl (cD (ga d.ae i5) 1).toNat).toNat,ga nu (ga cl (cD (ga d.ae i5) 2).toNat).toNat,ga nu (ga cl (cD (ga d.ae i5) 3).toNat).toNat,(ga d.ae i5).plus⟩:Cr)]=_;rw[ml 0 (by omega),ml 1 (by omega),ml 2 (by omega),ml 3 (by omega)];rfl)
            case FQ=>omega
          ·refine bS rfl rfl (ah [4,12] rfl (U3 (U2 Zs4 Zs5 rfl rfl rfl (U0 rfl (af 0 rfl (U8 (us:=[_,_]) rfl rfl ay rfl az (fN.ax (i:=2) rfl ⟨rfl,rfl,trivial⟩)) (ak 1 2 rfl rfl rfl (U7 (i:=4) (us:=[_,_]) (l':=[_,_]) (H':=[_,_,_,_,_,_]) rfl rfl fN rfl rfl rfl rfl az rfl (Uy (fN.one (i:=0) rfl) (Uy rfl rfl)) rfl rfl ?_)))))))
           intro w95 zG;clear fN
           refine U5 rfl (ah [4] rfl (U3 ?_))
           obtain⟨M61,FW,oL,⟨A1,c1,e1,hr1⟩⟩:=zG.fZ (i:=0) (H':=[_,_,_,_,_,_]) rfl rfl (by show _*40<=_;first|omega|(simp only[ls];omega))
           clear zG;subst e1
           replace aC:=aC.mono (Hp.Ua FW oL.mx)
           replace gS:=gS.mono (Hp.Ua FW oL.mx)
           refine Uj hC [_] rfl rfl ⟨⟨_,rfl,Um (us:=[_,_]) ay rfl az (oL.ax (i:=4) rfl ⟨rfl,rfl,trivial⟩)⟩,trivial⟩ ?_
           refine⟨_,rfl,_,FW,(oL.pick [] [] (by decide) trivial),?_⟩
           obtain rfl:i5=d.ae.length:=by omega
           have e9:(jo d (bD gs)).ae=c5:=by rw[vU,lg,mK];rfl
           have e8:(jo d (bD gs)).loops=d.loops+(cn (fD cl oc) (2*d.ae.length+1):Int):=by rw[lg,mK];rfl
           rw[e9,e8]
           exact⟨_,_,rfl,hr1⟩
end Go.Proofs.YthppkofceancjaaGreat
namespace Go.Proofs.YthppkofceancjaaGreat
open Go.ChangeShapes Go.WideShapes Go.ChangeAt Go.RowKit
section
variable {P : Program} {n : Nat} {C : Ctx} {c : Code} {s : List K} {L : List (Nat × Value)} {w : World} {M Mb : Hp} {X : Fr} {H Hb N : List Rs} {o : Oper} {l : Array Bool} {f : Nat} {ch : List PanicEntry}
theorem oH:∀{s:List K}{a:Act}{w:World},a.defers=[]->C.R (.panicked ch) w->post P C s (.panic ch) a w
 |[],_,_,h,hR=>⟨h,hR⟩
 |.thn c::s,_,_,h,hR=>oH (s:=s) h hR
 |.lp I::s,_,_,h,hR=>oH (s:=s) h hR
 |.blk i::s,_,_,h,hR=>oH (s:=s) h hR
theorem jt{k k' d:Nat}(E:Bool)(L2:List (Nat×Value))(hs:Sub L L2)(h:WL P n C c k' s ((d,.bool E)::L2) w->WL P n C c k s L w)(hJ:WL P n C c k' s ((d,.bool E)::L2) w):WL P n C c k s L w:=h hJ
theorem aa0{bU:FuncId}{vs:List Value}{ca:Call}{fo:Operand}{xs:List Operand}{a:Act}(ha:Env n L a)(hop:o.op=.call ca)(cm:ca.callee=.value fo)(hfo:oev L fo=some (.func (.func bU) #[] #[]))
  (hxs:ca.args=xs.toArray)(hvs:oevs L xs=some vs)(hen:∀args w,(callFunc bU args).run P w=.ok (.enter bU args) w)(S:SH w M X H)
  (hcall:Calls P bU vs.toArray w fun e w'=>e=.panicked ch/\∃M',M.le M'/\SH w' M' (XH w X H) [])(h:∀w' M',M.le M'->SH w' M' X H->C.R (.panicked ch) w')(next:Act->World->Prop):o.wp P a w next (post P C s):=by
 have hr:(execOp a.eval o).run P w=.ok (.enter bU vs.toArray) w:=by
  unfold execOp
  simp only[hop,resolve,cm,ha.eval hfo,hxs,List.map_toArray,ha.kx hvs,Deferred.ofValue,Sem.run_bind,Sem.run_pure,Result.andThen_ok,invoke,Array.empty_append,Array.append_empty]
  exact hen _ _
 unfold Oper.wp
 rw[hr,Oper.upon_enter]
 refine hcall.mono ?_
 rintro e w' ⟨rfl,M',h1,h2⟩
 exact oH ha.df (h w' M' h1 (S.back h2))
theorem kS{k:Nat}{bU:FuncId}{vs:List Value}{ca:Call}{fo:Operand}{xs:List Operand}(ho:op c k=some o)(hg:o.guard=none)(hop:o.op=.call ca)(cm:ca.callee=.value fo)(hfo:oev L fo=some (.func (.func bU) #[] #[]))
  (hxs:ca.args=xs.toArray)(hvs:oevs L xs=some vs)(hen:∀args w,(callFunc bU args).run P w=.ok (.enter bU args) w)(S:SH w M X H)
  (hcall:Calls P bU vs.toArray w fun e w'=>e=.panicked ch/\∃M',M.le M'/\SH w' M' (XH w X H) [])(h:∀w' M',M.le M'->SH w' M' X H->C.R (.panicked ch) w'):WL P n C c k s L w:=by
 intro a ha
 rw[oG ho]
 exact wpList_plain hg fun K _=>aa0 ha hop cm hfo hxs hvs hen S hcall h K
theorem oK{i:Nat}{bU:FuncId}{vs:List Value}{ca:Call}{fo:Operand}{xs:List Operand}(f:Nat)(ho:op c i=some o)(hr:Region.ready .any (rg c) l=[i])(hg:Wanted c L o.guard true)(hs:jC c o n=true)(hop:o.op=.call ca)(cm:ca.callee=.value fo)(hfo:oev L fo=some (.func (.func bU) #[] #[]))
  (hxs:ca.args=xs.toArray)(hvs:oevs L xs=some vs)(hen:∀args w,(callFunc bU args).run P w=.ok (.enter bU args) w)
  (h:∀w,SH w M X H->Calls P bU vs.toArray w fun e w'=>e=.panicked ch/\∃M',M.le M'/\SH w' M' (XH w X H) [])(h2:∀w' M',M.le M'->SH w' M' X H->C.R (.panicked ch) w'):WA P n C c s X (f+1) l L Mb Hb M H:=by
 intro _ a ha w S hd
 refine⟨fun h0=>(by rw[hr]at h0;cases h0),fun k hk=>?_⟩
 rw[hr,List.mem_singleton]at hk
 subst hk
 unfold Go.wpOp
 simp only[qA ho]
 rw[if_pos (uo ha hg (uq hs))]
 exact .inl (aa0 ha hop cm hfo hxs hvs hen S (h w S) h2 _)
theorem ahh{k:Nat}{x:Operand}{T:TypeId}{v:Value}(ho:op c k=some o)(hg:o.guard=none)(hop:o.op=.panic x)(hx:oev L x=some (.iface T v))(h:C.R (.panicked [{v:=.iface T v,recovered:=false}]) w):WL P n C c k s L w:=by
 intro a ha
 rw[oG ho]
 refine wpList_plain hg fun K _=>?_
 have hr:(execOp a.eval o).run P w=.halt (.panic (.iface T v)) w:=by
  unfold execOp
  simp only[hop,ha.eval hx]
  rfl
 unfold Oper.wp
 rw[hr,Oper.upon_panic]
 exact oH ha.df h
theorem agb{T:TypeId}{x:Operand}{v:Value}{fs:Array Field}(hop:o.op=.makeInterface T x)(hx:oev L x=some v)(hT:P.underlying T=some (.struct fs)):Run P o L w (.iface T v) w:=by
 intro n a ha
 unfold execOp
 simp only[hop,ha.eval hx,Instr.makeInterface,Sem.run_bind,run_underlying hT,Result.andThen_ok,Sem.run_pure]
theorem af1{T E:TypeId}{x:Operand}{m k g:Nat}(hop:o.op=.slice T x none none none)(hx:oev L x=some (.pointer (some ⟨g,0,none⟩)))(hu:P.underlying T=some (.array m E))(hk:(P.info? E).map (·.size)=some k)(hm:0<m):Run P o L w (.slice (some ⟨g,0,none⟩) m m) w:=by
 intro n a ha
 unfold execOp
 have h0:¬m=0:=by omega
 simp only[hop,ha.eval hx,Option.map_none,Instr.sliceAt,Instr.sureAddr,Instr.sliceBounds,Sem.run_bind,run_underlying hu,Result.andThen_ok,Sem.run_pure,run_sizeOf hk,h0,if_false,Nat.zero_mul,Nat.sub_zero,Addr.add,if_true]
theorem SH.eG{i g:Nat}{E:TypeId}{l l':List Value}(S:SH w M X (N++H))(hi:nth H i=some (Rs.box g E l))(e:l=l'):cM (M.un (XH w X (N++H)).h) g E l':=by
 subst e
 exact S.jE hi
theorem SH.iY{α:Type}{Cc:Cd α}{i c:Nat}{v:Value}{A:Option Addr}{xs:List α}(S:SH w M X (N++H))(hi:nth H i=some (Rs.row Cc v xs))(e:v=.slice A xs.length c)(hr:xs.length*Cc.u8<=140737488355328):aF Cc (M.un (XH w X (N++H)).h) A c xs:=by
 obtain⟨A',c',e',h⟩:=S.ace (i:=N.length+i) (by rw[abI];exact hi) hr
 rw[e]at e'
 injection e' with e1 _ e2
 subst e1
 subst e2
 exact h
end
end Go.Proofs.YthppkofceancjaaGreat
namespace Go.Proofs.YthppkofceancjaaGreat
open Go.ChangeShapes Go.WideShapes Go.ChangeAt Go.RowKit
structure Mv where
 kd:Int
 at_:Int
 aJ:Int
 ua:Int
 ub:Bool
 va:Int
 vb:Bool
 ov:Bool
def uY(e:Int):List PanicEntry:=[{v:=.iface 62 (.agg [Value.int .i64 e].toArray),recovered:=false}]
def Cm(f:FuncId)(vs:List Value)(w:World)(M:Hp)(X:Fr)(err:Int)(R:Value->Hp->Rs->Prop):Prop:=
 Calls Tryz.prog f vs.toArray w fun e w'=>(err=0/\∃v,e=.returned v/\∃M' r',M.le M'/\SH w' M' X [r']/\R v M' r')\/(err≠0/\e=.panicked (uY err)/\∃M',M.le M'/\SH w' M' X [])
section
variable {f : FuncId} {vs : List Value} {w : World} {M : Hp} {X : Fr} {err : Int} {R : Value → Hp → Rs → Prop}
theorem Cm.ok(h:Cm f vs w M X err R)(he:err=0):C1 Tryz.prog f vs w M X R:=by
 refine Calls.mono h ?_
 rintro e w' (⟨_,h⟩|⟨h,_⟩)
 ·exact h
 ·exact absurd he h
theorem Cm.no(h:Cm f vs w M X err R)(he:¬err=0):Calls Tryz.prog f vs.toArray w fun e w'=>e=.panicked (uY err)/\∃M',M.le M'/\SH w' M' X []:=by
 refine Calls.mono h ?_
 rintro e w' (⟨h,_⟩|⟨_,h⟩)
 ·exact absurd h he
 ·exact h
end
def pn(x:Cr)(k:Nat)(a:Int):Cr:=if k=0 then⟨a,x.b,x.c,x.d,x.plus⟩else if k=1 then⟨x.a,a,x.c,x.d,x.plus⟩else if k=2 then⟨x.a,x.b,a,x.d,x.plus⟩else⟨x.a,x.b,x.c,a,x.plus⟩
def bg(xs:List Cr)(c k:Nat)(a:Int):List Cr:=xs.set c (pn (ga xs c) k a)
theorem iw(xs:List Cr)(c k:Nat)(a:Int):(bg xs c k a).length=xs.length:=List.length_set
theorem Bi{p q p' q':Bool}(h:p=p')(h':q=q'):Value.tuple [.bool p,.bool q].toArray=.tuple [.bool p',.bool q'].toArray:=by rw[h,h']
def hgt(d:Dg)(a:Int):Nat:=(Ud d a false).2%2+(Ud d a true).2%2
noncomputable def Q9:=Tryz.f109.body.getD .skip
def Zs7:=cL Q9
def Zs8:=cR Q9
def Zs9:=cR Zs8
set_option maxRecDepth 10000 in
theorem lI{w:World}{M:Hp}{X:Fr}(e:Int)(S:SH w M X []):Cq Tryz.prog 109 [.bool true,.int .i64 e] w M X (fun u=>u=.tuple [].toArray):=by
 unfold Cq
 refine Up (b:=Q9) Tryz.func109 rfl Tryz.ntmps109 rfl (fun C hC=>(bq [(0,_),(1,_)] ⟨rfl,rfl,trivial⟩ (U2 Zs7 Zs8 rfl rfl rfl (U0 rfl (ag 0 1 rfl rfl (af 1 rfl (dE rfl rfl) (U5 rfl (ah [1,5] rfl (U3 ?_)))))))))
 refine lK Zs9 rfl rfl rfl (Uf rfl (gI hC [] rfl trivial ?_))
 exact⟨_,rfl,(S.pick [] [] (by decide) trivial),rfl⟩
noncomputable def Q8:=Tryz.f109.body.getD .skip
def Zsb:=cL Q8
def Zsc:=cR Q8
def Zsd:=cL Zsc
set_option maxRecDepth 10000 in
theorem ia{w:World}{M:Hp}{X:Fr}(e:Int)(S:SH w M X []):Calls Tryz.prog 109 [.bool false,.int .i64 e].toArray w (fun e9 w9=>e9=.panicked (uY e)/\∃M',M.le M'/\SH w9 M' X []):=by
 refine Up (b:=Q8) Tryz.func109 rfl Tryz.ntmps109 rfl (fun C hC=>(bq [(0,_),(1,_)] ⟨rfl,rfl,trivial⟩ (U2 Zsb Zsc rfl rfl rfl (U0 rfl (ag 0 1 rfl rfl (af 1 rfl (dE rfl rfl) (U5 rfl (ah [1,5] rfl (U3 ?_)))))))))
 refine fM Zsd rfl rfl rfl (U0 rfl (ag 0 1 rfl rfl (af 1 rfl (run_build (l:=[_]) rfl rfl amc rfl rfl) (af 2 rfl (agb rfl rfl Bp) (ahh (k:=3) rfl rfl rfl rfl ?_)))))
 subst hC
 exact⟨rfl,M,Hp.le_refl _,S.pick [] [] (by decide) trivial⟩
noncomputable def Q7:=Tryz.f110.body.getD .skip
def Zsf:=cL Q7
def Q6:=cR Q7
def Zsh:=cL Q6
def Zsi:=cR Q6
set_option maxRecDepth 10000 in
theorem Ai{w:World}{M:Hp}{X:Fr}(d:Dg){bH:Nat}{cA iA oA:Option Addr}{cc ic oc:Nat}(a:Int)(br:cM (M.un X.h) bH 70 [.slice cA d.ae.length cc,.int .i64 d.loops,.slice iA (aw d false (4*d.ae.length)).length ic,.slice oA (aw d true (4*d.ae.length)).length oc])(hsc:aF aG (M.un X.h) cA cc d.ae)(hsi:aF bp (M.un X.h) iA ic (aw d false (4*d.ae.length)))(aK:aF bp (M.un X.h) oA oc (aw d true (4*d.ae.length)))(hn:d.ae.length<=16)(S:SH w M X []):Cq Tryz.prog 110 [.pointer (some ⟨bH,0,none⟩),.int .i64 a] w M X (fun u=>u=.bool (decide (1<=a/\a<=2*(d.ae.length:Int)))):=by
 unfold Cq
 refine Up (b:=Q7) Tryz.func110 rfl Tryz.ntmps110 rfl (fun C hC=>(bq [(0,_),(1,_)] ⟨rfl,rfl,trivial⟩ (U2 Zsf Q6 rfl rfl rfl (U0 rfl (ag 0 1 rfl rfl (U5 rfl (ah [0,1] rfl (U3 (U2 Zsh Zsi rfl rfl rfl ?_)))))))))
 refine U0 rfl (ag 0 1 rfl rfl (af 1 rfl (kf rfl rfl rfl) (ag 2 1 rfl rfl ?_)))
 refine Ut (t:=7) rfl (fun zn=>?_) (fun zn=>?_)
 ·refine ag 3 2 rfl rfl (aH 5 6 rfl rfl rfl rfl rfl rfl rfl rfl (cC rfl rfl rfl rfl rfl rfl rfl qO S (qD d (br.mono S.Uw) (hsc.mono S.Uw) (hsi.mono S.Uw) (aK.mono S.Uw) (by omega) S.aD) ?_))
  rintro _ w1 S1 rfl;clear S
  refine aH 6 7 rfl rfl rfl rfl rfl rfl rfl rfl (Ub rfl rfl (oI rfl rfl rfl) (ag 7 2 rfl rfl (U5 rfl (ah [4] rfl (U3 (Uj hC [_] rfl rfl ⟨rfl,trivial⟩ ?_))))))
  exact⟨_,rfl,(S1.pick [] [] (by decide) trivial),(by show Value.bool _=_;refine congrArg Value.bool ?_;first|(refine decide_eq_decide.2 ?_;omega)|(symm;rw[decide_eq_false_iff_not];omega))⟩
 ·refine ag 3 6 rfl rfl (U5 rfl (ah [4] rfl (U3 (Uj hC [_] rfl rfl ⟨rfl,trivial⟩ ?_))))
  exact⟨_,rfl,(S.pick [] [] (by decide) trivial),(by show Value.bool _=_;refine congrArg Value.bool ?_;first|(refine decide_eq_decide.2 ?_;omega)|(symm;rw[decide_eq_false_iff_not];omega))⟩
noncomputable def Q5:=Tryz.f114.body.getD .skip
def Zsk:=cL Q5
def Q0:=cR Q5
def Zsm:=cL Q0
def Zsn:=cR Q0
set_option maxRecDepth 10000 in
theorem Ef{w:World}{M:Hp}{X:Fr}(d:Dg){bH:Nat}{cA iA oA:Option Addr}{cc ic oc:Nat}{bu:Nat}{fV:Value}(a:Int)(hbb:cM (M.un X.h) bu 67 [.pointer (some ⟨bH,0,none⟩),fV])(br:cM (M.un X.h) bH 70 [.slice cA d.ae.length cc,.int .i64 d.loops,.slice iA (aw d false (4*d.ae.length)).length ic,.slice oA (aw d true (4*d.ae.length)).length oc])(hsc:aF aG (M.un X.h) cA cc d.ae)(hsi:aF bp (M.un X.h) iA ic (aw d false (4*d.ae.length)))(aK:aF bp (M.un X.h) oA oc (aw d true (4*d.ae.length)))(hn:d.ae.length<=16)(S:SH w M X []):Cq Tryz.prog 114 [.pointer (some ⟨bu,0,none⟩),.int .i64 a] w M X (fun u=>u=.bool (decide (0<=a/\a<(d.ae.length:Int)))):=by
 unfold Cq
 refine Up (b:=Q5) Tryz.func114 rfl Tryz.ntmps114 rfl (fun C hC=>(bq [(0,_),(1,_)] ⟨rfl,rfl,trivial⟩ (U2 Zsk Q0 rfl rfl rfl (U0 rfl (ag 0 1 rfl rfl (U5 rfl (ah [0,1] rfl (U3 (U2 Zsm Zsn rfl rfl rfl ?_)))))))))
 refine U0 rfl (ag 0 1 rfl rfl (af 1 rfl (kf rfl rfl rfl) (ag 2 1 rfl rfl ?_)))
 refine Ut (t:=7) rfl (fun zn=>?_) (fun zn=>?_)
 ·refine ag 3 2 rfl rfl (aH 5 6 rfl rfl rfl rfl rfl rfl rfl rfl (Ub rfl rfl (U9 rfl rfl) (aH 6 7 rfl rfl rfl rfl rfl rfl rfl rfl (Ub rfl rfl (U1 rfl rfl cz rfl (cP) (cO)) (aH 7 8 rfl rfl rfl rfl rfl rfl rfl rfl (Ub rfl rfl (U4 rfl rfl cE rfl (hbb.cell S.um rfl)) (aH 8 9 rfl rfl rfl rfl rfl rfl rfl rfl (Ub rfl rfl (U9 rfl rfl) (aH 9 10 rfl rfl rfl rfl rfl rfl rfl rfl (Ub rfl rfl (U1 rfl rfl cU rfl (eF) (eB)) (aH 10 11 rfl rfl rfl rfl rfl rfl rfl rfl (Ub rfl rfl (U1 rfl rfl ay rfl (bK) (bJ)) (aH 11 12 rfl rfl rfl rfl rfl rfl rfl rfl (Ub rfl rfl (U4 rfl rfl bG rfl (br.cell S.um rfl)) (aH 12 13 rfl rfl rfl rfl rfl rfl rfl rfl (Ub rfl rfl (cI rfl rfl rfl rfl rfl rfl bG) ?_))))))))))))))))
  refine aH 13 14 rfl rfl rfl rfl rfl rfl rfl rfl (Ub rfl rfl (bV rfl rfl rfl) (ag 14 2 rfl rfl (U5 rfl (ah [4] rfl (U3 (Uj hC [_] rfl rfl ⟨rfl,trivial⟩ ?_))))))
  exact⟨_,rfl,(S.pick [] [] (by decide) trivial),(by show Value.bool _=_;refine congrArg Value.bool ?_;first|(refine decide_eq_decide.2 ?_;omega)|(symm;rw[decide_eq_false_iff_not];omega))⟩
 ·refine ag 3 6 rfl rfl (ag 9 6 rfl rfl (ag 15 1 rfl rfl (U5 rfl (ah [4] rfl (U3 (Uj hC [_] rfl rfl ⟨rfl,trivial⟩ ?_))))))
  exact⟨_,rfl,(S.pick [] [] (by decide) trivial),(by show Value.bool _=_;refine congrArg Value.bool ?_;first|(refine decide_eq_decide.2 ?_;omega)|(symm;rw[decide_eq_false_iff_not];omega))⟩
noncomputable def QZ:=Tryz.f125.body.getD .skip
def Zsp:=cL QZ
def QY:=cR QZ
def Zsr:=cL QY
def Zss:=cR QY
set_option maxRecDepth 10000 in
theorem Fv{w:World}{M:Hp}{X:Fr}(d:Dg){bH:Nat}{cA iA oA:Option Addr}{cc ic oc:Nat}(x:Da)(br:cM (M.un X.h) bH 70 [.slice cA d.ae.length cc,.int .i64 d.loops,.slice iA (aw d false (4*d.ae.length)).length ic,.slice oA (aw d true (4*d.ae.length)).length oc])(hsc:aF aG (M.un X.h) cA cc d.ae)(hsi:aF bp (M.un X.h) iA ic (aw d false (4*d.ae.length)))(aK:aF bp (M.un X.h) oA oc (aw d true (4*d.ae.length)))(hn:d.ae.length<=16)(hab:aX d=true)(hx:okD d x)(S:SH w M X []):Cq Tryz.prog 125 [.pointer (some ⟨bH,0,none⟩),.agg [.int .i64 x.a,.bool x.b].toArray] w M X (fun u=>u=.agg [.int .i64 ((Ud d x.a (!x.b)).1:Int),.int .i64 ((Ud d x.a (!x.b)).2:Int)].toArray):=by
 unfold Cq
 refine Up (b:=QZ) Tryz.func125 rfl Tryz.ntmps125 rfl (fun C hC=>(bq [(0,_),(1,_)] ⟨rfl,rfl,trivial⟩ (U2 Zsp QY rfl rfl rfl (U0 rfl (ak 0 1 rfl rfl rfl (bA (l:=[_,_]) rfl rfl rfl rfl rfl S ?_))))))
 intro aI w1 S1;clear S
 refine ak 1 2 rfl rfl rfl (Uh (l:=[_,_]) rfl rfl rfl nr rfl S1 ?_)
 intro aQ w2 S2;clear S1
 refine U5 rfl (ah [0,3,4] rfl (U3 (U2 Zsr Zss rfl rfl rfl (U0 rfl (ag 0 1 rfl rfl (af 1 rfl (U1 rfl rfl aZ rfl (aB) (aA)) (af 2 rfl (U4 rfl rfl av rfl (S2.ar (i:=1) rfl rfl)) (af 3 rfl (U1 rfl rfl aZ rfl (fI) (fH)) ?_))))))))
 refine af 4 rfl (U4 rfl rfl dh rfl (S2.ar (i:=1) rfl rfl)) (af 5 rfl (dE rfl rfl) (af 6 rfl (run_build (l:=[_,_]) rfl rfl xQ rfl rfl) ?_))
 have hx2:okD d (⟨x.a,!x.b⟩:Da):=hx
 refine ak 7 8 rfl rfl rfl (cC rfl rfl rfl rfl rfl rfl rfl Gb S2 (Fw d (⟨x.a,!x.b⟩:Da) (br.mono S2.Uw) (hsc.mono S2.Uw) (hsi.mono S2.Uw) (aK.mono S2.Uw) (by first|assumption|omega) hab (by first|assumption|omega) S2.aD) ?_)
 rintro _ w3 S3 rfl;clear S2
 refine ak 8 9 rfl rfl rfl (U7 (i:=0) (us:=[_,_]) (l':=[_,_]) (H':=[_,_]) rfl rfl S3 rfl rfl rfl rfl dH rfl rfl rfl rfl ?_)
 intro w4 S4;clear S3
 refine U5 rfl (ah [4] rfl (U3 (Uj hC [_] rfl rfl ⟨⟨_,rfl,Um (us:=[_,_]) ct rfl dH (S4.ax (i:=0) rfl ⟨rfl,rfl,trivial⟩)⟩,trivial⟩ ?_)))
 exact⟨_,rfl,(S4.pick [] [] (by decide) trivial),rfl⟩
noncomputable def QX:=Tryz.f126.body.getD .skip
def Zsu:=cL QX
def QW:=cR QX
def Zsw:=cL QW
def QV:=cR QW
def Zsy:=cL QV
def Zsz:=cR QV
set_option maxRecDepth 10000 in
theorem EP{w:World}{M:Hp}{X:Fr}(d:Dg){bH:Nat}{cA iA oA:Option Addr}{cc ic oc:Nat}{bu:Nat}{fV:Value}(a:Int)(hbb:cM (M.un X.h) bu 67 [.pointer (some ⟨bH,0,none⟩),fV])(br:cM (M.un X.h) bH 70 [.slice cA d.ae.length cc,.int .i64 d.loops,.slice iA (aw d false (4*d.ae.length)).length ic,.slice oA (aw d true (4*d.ae.length)).length oc])(hsc:aF aG (M.un X.h) cA cc d.ae)(hsi:aF bp (M.un X.h) iA ic (aw d false (4*d.ae.length)))(aK:aF bp (M.un X.h) oA oc (aw d true (4*d.ae.length)))(hn:d.ae.length<=16)(hab:aX d=true)(ha:1<=a/\a<=2*(d.ae.length:Int))(S:SH w M X []):Cq Tryz.prog 126 [.pointer (some ⟨bu,0,none⟩),.int .i64 a] w M X (fun u=>u=.tuple [.bool (decide (hgt d a=2)),.bool (decide (hgt d a=0))].toArray):=by
 unfold Cq
 have hti:=fK d false (4*d.ae.length)
 have hto:=fK d true (4*d.ae.length)
 obtain⟨_,_,Bz,_⟩:=fe hab ha false
 obtain⟨_,_,Bx,_⟩:=fe hab ha true
 refine Up (b:=QX) Tryz.func126 rfl Tryz.ntmps126 rfl (fun C hC=>(bq [(0,_),(1,_)] ⟨rfl,rfl,trivial⟩ (U2 Zsu QW rfl rfl rfl (U0 rfl (ag 0 2 rfl rfl (U5 rfl (ah [0,1] rfl (U3 (U2 Zsw QV rfl rfl rfl ?_)))))))))
 refine Ux rfl (by kernel_rfl) S 28 rfl ?_
 clear S
 refine ai 0 27 rfl (by kernel_rfl) (fun _=>run_move rfl rfl) ?_
 refine ai 1 26 rfl (by kernel_rfl) (fun _=>U9 rfl rfl) ?_
 refine ai 2 25 rfl (by kernel_rfl) (fun _=>U1 rfl rfl cz rfl (cP) (cO)) ?_
 refine aj 3 24 rfl (by kernel_rfl) (fun _ _ _ hz Sz=>.inl (U4 rfl rfl cE rfl ((hbb.mono (Hp.Ua hz Sz.mx)).cell Sz.um rfl))) ?_
 refine ai 4 23 rfl (by kernel_rfl) (fun _=>U9 rfl rfl) ?_
 refine ai 5 22 rfl (by kernel_rfl) (fun _=>U1 rfl rfl cU rfl (nK) (nD)) ?_
 refine aj 6 21 rfl (by kernel_rfl) (fun _ _ _ hz Sz=>.inl (U4 rfl rfl lT rfl ((br.mono (Hp.Ua hz Sz.mx)).cell Sz.um rfl))) ?_
 refine ai 7 20 rfl (by kernel_rfl) (fun _=>run_move rfl rfl) ?_
 refine aj 8 19 rfl (by kernel_rfl) (fun _ _ _ hz Sz=>.inl (Uk (C:=bp) a.toNat rfl rfl rfl nC (by first|rfl|omega) (hsi.mono (Hp.Ua hz Sz.mx)) (by first|omega|(simp only[ls];omega)))) ?_
 refine ai 9 18 rfl (by kernel_rfl) (fun _=>U1 rfl rfl ct rfl (aB) (aA)) ?_
 refine aj 10 17 rfl (by kernel_rfl) (fun _ _ _ hz Sz=>.inl (U4 rfl rfl av rfl ((hsi.mono (Hp.Ua hz Sz.mx)).cell Sz.um (i:=a.toNat) (by first|omega|(simp only[ls];omega)) 1 rfl rfl))) ?_
 refine ai 11 16 rfl (by kernel_rfl) (fun _=>jq rfl rfl rfl (by first|omega|(simp only[ls];omega))) ?_
 refine ai 12 15 rfl (by kernel_rfl) (fun _=>bP rfl rfl rfl) ?_
 refine ai 13 14 rfl (by kernel_rfl) (fun _=>run_move rfl rfl) ?_
 refine ai 14 13 rfl (by kernel_rfl) (fun _=>U9 rfl rfl) ?_
 refine ai 15 12 rfl (by kernel_rfl) (fun _=>U1 rfl rfl cz rfl (cP) (cO)) ?_
 refine aj 16 11 rfl (by kernel_rfl) (fun _ _ _ hz Sz=>.inl (U4 rfl rfl cE rfl ((hbb.mono (Hp.Ua hz Sz.mx)).cell Sz.um rfl))) ?_
 refine ai 17 10 rfl (by kernel_rfl) (fun _=>U9 rfl rfl) ?_
 refine ai 18 9 rfl (by kernel_rfl) (fun _=>U1 rfl rfl cU rfl (nK) (nD)) ?_
 refine aj 19 8 rfl (by kernel_rfl) (fun _ _ _ hz Sz=>.inl (U4 rfl rfl lT rfl ((br.mono (Hp.Ua hz Sz.mx)).cell Sz.um rfl))) ?_
 refine ai 20 7 rfl (by kernel_rfl) (fun _=>run_move rfl rfl) ?_
 refine aj 21 6 rfl (by kernel_rfl) (fun _ _ _ hz Sz=>.inl (Uk (C:=bp) a.toNat rfl rfl rfl nC (by first|rfl|omega) (aK.mono (Hp.Ua hz Sz.mx)) (by first|omega|(simp only[ls];omega)))) ?_
 refine ai 22 5 rfl (by kernel_rfl) (fun _=>U1 rfl rfl ct rfl (aB) (aA)) ?_
 refine aj 23 4 rfl (by kernel_rfl) (fun _ _ _ hz Sz=>.inl (U4 rfl rfl av rfl ((aK.mono (Hp.Ua hz Sz.mx)).cell Sz.um (i:=a.toNat) (by first|omega|(simp only[ls];omega)) 1 rfl rfl))) ?_
 refine ai 24 3 rfl (by kernel_rfl) (fun _=>jq rfl rfl rfl (by first|omega|(simp only[ls];omega))) ?_
 refine ai 25 2 rfl (by kernel_rfl) (fun _=>bP rfl rfl rfl) ?_
 refine ai 26 1 rfl (by kernel_rfl) (fun _=>run_assign rfl rfl) ?_
 refine ai 27 0 rfl (by kernel_rfl) (fun _=>run_assign rfl rfl) ?_
 refine Uu (by kernel_rfl) (fun pX dL=>?_)
 refine ah [6,7] rfl (U3 (U2 Zsy Zsz rfl rfl rfl (U0 rfl (ag 0 2 rfl rfl ?_))))
 refine Ut (t:=35) rfl (fun u6=>?_) (fun u6=>?_)
 ·refine ag 2 3 rfl rfl (af 5 rfl (dE rfl rfl) (ag 6 1 rfl rfl ?_))
  refine mX (t:=40) rfl (fun nH=>?_) (fun nH=>?_)
  ·simp only[Bool.and_eq_true,Bool.or_eq_true,Bool.and_eq_false_iff,Bool.or_eq_false_iff,decide_eq_true_eq,decide_eq_false_iff_not,Bool.not_eq_true',Bool.not_eq_false']at nH
   refine ag 7 1 rfl rfl (aH 8 9 rfl rfl rfl rfl rfl rfl rfl rfl (Ub rfl rfl (dE rfl rfl) (ag 9 3 rfl rfl (U5 rfl (ah [4,5] rfl (U3 (Uj hC [_,_] rfl rfl ⟨rfl,rfl,trivial⟩ ?_)))))))
   exact⟨_,rfl,(dL.pick [] [] (by decide) trivial),(by show Value.tuple [_,_].toArray=_;unfold hgt;rw[<-Bz,<-Bx];refine Bi ?_ ?_<;>first|(refine decide_eq_decide.2 ?_;omega)|(symm;rw[decide_eq_false_iff_not];omega)|(symm;rw[decide_eq_true_iff];omega)|(rw[Bool.eq_iff_iff];simp;omega))⟩
  ·simp only[Bool.and_eq_true,Bool.or_eq_true,Bool.and_eq_false_iff,Bool.or_eq_false_iff,decide_eq_true_eq,decide_eq_false_iff_not,Bool.not_eq_true',Bool.not_eq_false']at nH
   refine ag 7 5 rfl rfl (U5 rfl (ah [4,5] rfl (U3 (Uj hC [_,_] rfl rfl ⟨rfl,rfl,trivial⟩ ?_))))
   exact⟨_,rfl,(dL.pick [] [] (by decide) trivial),(by show Value.tuple [_,_].toArray=_;unfold hgt;rw[<-Bz,<-Bx];refine Bi ?_ ?_<;>first|(refine decide_eq_decide.2 ?_;omega)|(symm;rw[decide_eq_false_iff_not];omega)|(symm;rw[decide_eq_true_iff];omega)|(rw[Bool.eq_iff_iff];simp;omega))⟩
 ·refine ag 2 3 rfl rfl (af 5 rfl (dE rfl rfl) (ag 6 1 rfl rfl ?_))
  refine mX (t:=40) rfl (fun nH=>?_) (fun nH=>?_)
  ·simp only[Bool.and_eq_true,Bool.or_eq_true,Bool.and_eq_false_iff,Bool.or_eq_false_iff,decide_eq_true_eq,decide_eq_false_iff_not,Bool.not_eq_true',Bool.not_eq_false']at nH
   refine ag 7 1 rfl rfl (aH 8 9 rfl rfl rfl rfl rfl rfl rfl rfl (Ub rfl rfl (dE rfl rfl) (ag 9 3 rfl rfl (U5 rfl (ah [4,5] rfl (U3 (Uj hC [_,_] rfl rfl ⟨rfl,rfl,trivial⟩ ?_)))))))
   exact⟨_,rfl,(dL.pick [] [] (by decide) trivial),(by show Value.tuple [_,_].toArray=_;unfold hgt;rw[<-Bz,<-Bx];refine Bi ?_ ?_<;>first|(refine decide_eq_decide.2 ?_;omega)|(symm;rw[decide_eq_false_iff_not];omega)|(symm;rw[decide_eq_true_iff];omega)|(rw[Bool.eq_iff_iff];simp;omega))⟩
  ·simp only[Bool.and_eq_true,Bool.or_eq_true,Bool.and_eq_false_iff,Bool.or_eq_false_iff,decide_eq_true_eq,decide_eq_false_iff_not,Bool.not_eq_true',Bool.not_eq_false']at nH
   refine ag 7 5 rfl rfl (U5 rfl (ah [4,5] rfl (U3 (Uj hC [_,_] rfl rfl ⟨rfl,rfl,trivial⟩ ?_))))
   exact⟨_,rfl,(dL.pick [] [] (by decide) trivial),(by show Value.tuple [_,_].toArray=_;unfold hgt;rw[<-Bz,<-Bx];refine Bi ?_ ?_<;>first|(refine decide_eq_decide.2 ?_;omega)|(symm;rw[decide_eq_false_iff_not];omega)|(symm;rw[decide_eq_true_iff];omega)|(rw[Bool.eq_iff_iff];simp;omega))⟩
noncomputable def QU:=Tryz.f112.body.getD .skip
def Zt1:=cL QU
def QT:=cR QU
def Zt3:=cL QT
def Zt4:=cR QT
set_option maxRecDepth 10000 in
theorem ajM{w:World}{M:Hp}{X:Fr}{bu ggs:Nat}{bz fV lV iV oV:Value}(xs:List Cr)(c:Nat)(a:Int)(hc:c<xs.length)(S:SH w M X [Rs.aW [Rs.box bu 67 [.pointer (some ⟨ggs,0,none⟩),fV],Rs.box ggs 70 [bz,lV,iV,oV],Rs.row aG bz xs]]):C1 Tryz.prog 112 [.pointer (some ⟨bu,0,none⟩),.agg [.int .i64 (c:Int),.int .i64 0].toArray,.int .i64 a] w M X (fun u M' r'=>u=.tuple [].toArray/\M'=M/\r'=Rs.aW [Rs.box bu 67 [.pointer (some ⟨ggs,0,none⟩),fV],Rs.box ggs 70 [bz,lV,iV,oV],Rs.row aG bz (bg xs c 0 a)]):=by
 unfold C1
 replace S:=S.jT
 refine Up (b:=QU) Tryz.func112 rfl Tryz.ntmps112 rfl (fun C hC=>(bq [(0,_),(1,_),(2,_)] ⟨rfl,rfl,rfl,trivial⟩ (U2 Zt1 QT rfl rfl rfl (U0 rfl (ak 0 1 rfl rfl rfl (bA (l:=[_,_]) rfl rfl rfl rfl rfl S ?_))))))
 intro aI w1 S1;clear S
 refine U5 rfl (ah [0,2,4] rfl (U3 (U2 Zt3 Zt4 rfl rfl rfl (Ux rfl (by kernel_rfl) S1 12 rfl ?_))))
 clear S1
 refine ai 0 11 rfl (by kernel_rfl) (fun _=>run_move rfl rfl) ?_
 refine ai 1 10 rfl (by kernel_rfl) (fun _=>U9 rfl rfl) ?_
 refine ai 2 9 rfl (by kernel_rfl) (fun _=>U1 rfl rfl cz rfl (cP) (cO)) ?_
 refine aj 3 8 rfl (by kernel_rfl) (fun _ _ _ hz Sz=>.inl (U4 rfl rfl cE rfl (Sz.suf.ar (i:=1) rfl rfl))) ?_
 refine ai 4 7 rfl (by kernel_rfl) (fun _=>U9 rfl rfl) ?_
 refine ai 5 6 rfl (by kernel_rfl) (fun _=>U1 rfl rfl cU rfl (eF) (eB)) ?_
 refine ai 6 5 rfl (by kernel_rfl) (fun _=>U1 rfl rfl ay rfl (bK) (bJ)) ?_
 refine aj 7 4 rfl (by kernel_rfl) (fun _ _ _ hz Sz=>.inl (U4 rfl rfl bG rfl (Sz.suf.ar (i:=2) rfl rfl))) ?_
 refine ai 8 3 rfl (by kernel_rfl) (fun _=>U1 rfl rfl ct rfl (aB) (aA)) ?_
 refine aj 9 2 rfl (by kernel_rfl) (fun _ _ _ hz Sz=>.inl (U4 rfl rfl av rfl (Sz.suf.ar (i:=0) rfl rfl))) ?_
 refine aj 10 1 rfl (by kernel_rfl) (fun _ _ _ hz Sz=>.inl (Ui (C:=aG) (i:=3) c rfl rfl rfl b8 Sz.suf rfl (by first|rfl|omega) (by first|omega|(simp only[ls];omega)))) ?_
 refine ai 11 0 rfl (by kernel_rfl) (fun _=>run_assign rfl rfl) ?_
 refine Uu (by kernel_rfl) (fun jY bN=>?_)
 refine ah [2,4,6] rfl (U3 (Ux rfl (by kernel_rfl) bN 19 rfl ?_))
 clear bN
 refine ai 0 18 rfl (by kernel_rfl) (fun _=>run_move rfl rfl) ?_
 refine ai 1 17 rfl (by kernel_rfl) (fun _=>U9 rfl rfl) ?_
 refine ai 2 16 rfl (by kernel_rfl) (fun _=>U1 rfl rfl aT rfl (aB) (aA)) ?_
 refine ai 3 15 rfl (by kernel_rfl) (fun _=>run_move rfl rfl) ?_
 refine ai 4 14 rfl (by kernel_rfl) (fun _=>U9 rfl rfl) ?_
 refine ai 5 13 rfl (by kernel_rfl) (fun _=>U1 rfl rfl aT rfl (aB) (aA)) ?_
 refine ai 6 12 rfl (by kernel_rfl) (fun _=>run_move rfl rfl) ?_
 refine ai 7 11 rfl (by kernel_rfl) (fun _=>U9 rfl rfl) ?_
 refine ai 8 10 rfl (by kernel_rfl) (fun _=>U1 rfl rfl aT rfl (aB) (aA)) ?_
 refine ai 9 9 rfl (by kernel_rfl) (fun _=>run_move rfl rfl) ?_
 refine ai 10 8 rfl (by kernel_rfl) (fun _=>U9 rfl rfl) ?_
 refine ai 11 7 rfl (by kernel_rfl) (fun _=>U1 rfl rfl aT rfl (aB) (aA)) ?_
 refine aj 12 6 rfl (by kernel_rfl) (fun _ _ _ hz Sz=>.inl (jf (l:=[_,_,_,_]) (pl:=[(0,1),(1,1),(2,1),(3,1)]) rfl rfl qF AO qH rfl rfl rfl)) ?_
 refine ai 13 5 rfl (by kernel_rfl) (fun _=>U1 rfl rfl ct rfl (aB) (aA)) ?_
 refine aj 14 4 rfl (by kernel_rfl) (fun _ _ _ hz Sz=>.inl (U4 rfl rfl av rfl (Sz.suf.ar (i:=0) rfl rfl))) ?_
 refine aj 15 3 rfl (by kernel_rfl) (fun _ _ _ hz Sz=>.inl (wy (e:=0) rfl rfl rfl qF xA rfl qH (by first|rfl|omega) (by first|omega|(simp only[ls];omega)) rfl)) ?_
 refine ai 16 2 rfl (by kernel_rfl) (fun _=>run_move rfl rfl) ?_
 refine ai 17 1 rfl (by kernel_rfl) (fun _=>U9 rfl rfl) ?_
 refine Un (i:=18) 0 rfl (by kernel_rfl) rfl rfl (fun oo dm=>?_)
 refine(gy (C:=aG) (i:=3) (e:=c) (j:=0) (us:=[_]) (H':=[_,_,_,_]) (⟨a,(ga xs c).b,(ga xs c).c,(ga xs c).d,(ga xs c).plus⟩:Cr) rfl rfl dm rfl (by first|omega|(simp only[ls];omega)) rfl rfl rfl aY rfl rfl rfl rfl ?_)
 intro vK ib;clear dm
 refine aN.turn (by kernel_rfl) ib ?_;clear ib
 change WA _ _ _ _ _ _ _ _ _ _ _ _ [_,_,_,_]
 refine Uu (by kernel_rfl) (fun tN ji=>?_)
 refine gI hC [] rfl trivial ?_
 refine⟨_,rfl,_,_,Hp.le_refl _,(ji.pick [1,2,3] [_,_,_] (by decide) ⟨rfl,rfl,rfl,trivial⟩).aW,?_⟩
 exact⟨rfl,rfl,rfl⟩
noncomputable def QS:=Tryz.f112.body.getD .skip
def Zt6:=cL QS
def QR:=cR QS
def Zt8:=cL QR
def Zt9:=cR QR
set_option maxRecDepth 10000 in
theorem ajL{w:World}{M:Hp}{X:Fr}{bu ggs:Nat}{bz fV lV iV oV:Value}(xs:List Cr)(c:Nat)(a:Int)(hc:c<xs.length)(S:SH w M X [Rs.aW [Rs.box bu 67 [.pointer (some ⟨ggs,0,none⟩),fV],Rs.box ggs 70 [bz,lV,iV,oV],Rs.row aG bz xs]]):C1 Tryz.prog 112 [.pointer (some ⟨bu,0,none⟩),.agg [.int .i64 (c:Int),.int .i64 1].toArray,.int .i64 a] w M X (fun u M' r'=>u=.tuple [].toArray/\M'=M/\r'=Rs.aW [Rs.box bu 67 [.pointer (some ⟨ggs,0,none⟩),fV],Rs.box ggs 70 [bz,lV,iV,oV],Rs.row aG bz (bg xs c 1 a)]):=by
 unfold C1
 replace S:=S.jT
 refine Up (b:=QS) Tryz.func112 rfl Tryz.ntmps112 rfl (fun C hC=>(bq [(0,_),(1,_),(2,_)] ⟨rfl,rfl,rfl,trivial⟩ (U2 Zt6 QR rfl rfl rfl (U0 rfl (ak 0 1 rfl rfl rfl (bA (l:=[_,_]) rfl rfl rfl rfl rfl S ?_))))))
 intro aI w1 S1;clear S
 refine U5 rfl (ah [0,2,4] rfl (U3 (U2 Zt8 Zt9 rfl rfl rfl (Ux rfl (by kernel_rfl) S1 12 rfl ?_))))
 clear S1
 refine ai 0 11 rfl (by kernel_rfl) (fun _=>run_move rfl rfl) ?_
 refine ai 1 10 rfl (by kernel_rfl) (fun _=>U9 rfl rfl) ?_
 refine ai 2 9 rfl (by kernel_rfl) (fun _=>U1 rfl rfl cz rfl (cP) (cO)) ?_
 refine aj 3 8 rfl (by kernel_rfl) (fun _ _ _ hz Sz=>.inl (U4 rfl rfl cE rfl (Sz.suf.ar (i:=1) rfl rfl))) ?_
 refine ai 4 7 rfl (by kernel_rfl) (fun _=>U9 rfl rfl) ?_
 refine ai 5 6 rfl (by kernel_rfl) (fun _=>U1 rfl rfl cU rfl (eF) (eB)) ?_
 refine ai 6 5 rfl (by kernel_rfl) (fun _=>U1 rfl rfl ay rfl (bK) (bJ)) ?_
 refine aj 7 4 rfl (by kernel_rfl) (fun _ _ _ hz Sz=>.inl (U4 rfl rfl bG rfl (Sz.suf.ar (i:=2) rfl rfl))) ?_
 refine ai 8 3 rfl (by kernel_rfl) (fun _=>U1 rfl rfl ct rfl (aB) (aA)) ?_
 refine aj 9 2 rfl (by kernel_rfl) (fun _ _ _ hz Sz=>.inl (U4 rfl rfl av rfl (Sz.suf.ar (i:=0) rfl rfl))) ?_
 refine aj 10 1 rfl (by kernel_rfl) (fun _ _ _ hz Sz=>.inl (Ui (C:=aG) (i:=3) c rfl rfl rfl b8 Sz.suf rfl (by first|rfl|omega) (by first|omega|(simp only[ls];omega)))) ?_
 refine ai 11 0 rfl (by kernel_rfl) (fun _=>run_assign rfl rfl) ?_
 refine Uu (by kernel_rfl) (fun jY bN=>?_)
 refine ah [2,4,6] rfl (U3 (Ux rfl (by kernel_rfl) bN 19 rfl ?_))
 clear bN
 refine ai 0 18 rfl (by kernel_rfl) (fun _=>run_move rfl rfl) ?_
 refine ai 1 17 rfl (by kernel_rfl) (fun _=>U9 rfl rfl) ?_
 refine ai 2 16 rfl (by kernel_rfl) (fun _=>U1 rfl rfl aT rfl (aB) (aA)) ?_
 refine ai 3 15 rfl (by kernel_rfl) (fun _=>run_move rfl rfl) ?_
 refine ai 4 14 rfl (by kernel_rfl) (fun _=>U9 rfl rfl) ?_
 refine ai 5 13 rfl (by kernel_rfl) (fun _=>U1 rfl rfl aT rfl (aB) (aA)) ?_
 refine ai 6 12 rfl (by kernel_rfl) (fun _=>run_move rfl rfl) ?_
 refine ai 7 11 rfl (by kernel_rfl) (fun _=>U9 rfl rfl) ?_
 refine ai 8 10 rfl (by kernel_rfl) (fun _=>U1 rfl rfl aT rfl (aB) (aA)) ?_
 refine ai 9 9 rfl (by kernel_rfl) (fun _=>run_move rfl rfl) ?_
 refine ai 10 8 rfl (by kernel_rfl) (fun _=>U9 rfl rfl) ?_
 refine ai 11 7 rfl (by kernel_rfl) (fun _=>U1 rfl rfl aT rfl (aB) (aA)) ?_
 refine aj 12 6 rfl (by kernel_rfl) (fun _ _ _ hz Sz=>.inl (jf (l:=[_,_,_,_]) (pl:=[(0,1),(1,1),(2,1),(3,1)]) rfl rfl qF AO qH rfl rfl rfl)) ?_
 refine ai 13 5 rfl (by kernel_rfl) (fun _=>U1 rfl rfl ct rfl (aB) (aA)) ?_
 refine aj 14 4 rfl (by kernel_rfl) (fun _ _ _ hz Sz=>.inl (U4 rfl rfl av rfl (Sz.suf.ar (i:=0) rfl rfl))) ?_
 refine aj 15 3 rfl (by kernel_rfl) (fun _ _ _ hz Sz=>.inl (wy (e:=1) rfl rfl rfl qF xA rfl qH (by first|rfl|omega) (by first|omega|(simp only[ls];omega)) rfl)) ?_
 refine ai 16 2 rfl (by kernel_rfl) (fun _=>run_move rfl rfl) ?_
 refine ai 17 1 rfl (by kernel_rfl) (fun _=>U9 rfl rfl) ?_
 refine Un (i:=18) 0 rfl (by kernel_rfl) rfl rfl (fun oo dm=>?_)
 refine(gy (C:=aG) (i:=3) (e:=c) (j:=1) (us:=[_]) (H':=[_,_,_,_]) (⟨(ga xs c).a,a,(ga xs c).c,(ga xs c).d,(ga xs c).plus⟩:Cr) rfl rfl dm rfl (by first|omega|(simp only[ls];omega)) rfl rfl rfl aY rfl rfl rfl rfl ?_)
 intro vK ib;clear dm
 refine aN.turn (by kernel_rfl) ib ?_;clear ib
 change WA _ _ _ _ _ _ _ _ _ _ _ _ [_,_,_,_]
 refine Uu (by kernel_rfl) (fun tN ji=>?_)
 refine gI hC [] rfl trivial ?_
 refine⟨_,rfl,_,_,Hp.le_refl _,(ji.pick [1,2,3] [_,_,_] (by decide) ⟨rfl,rfl,rfl,trivial⟩).aW,?_⟩
 exact⟨rfl,rfl,rfl⟩
noncomputable def QQ:=Tryz.f112.body.getD .skip
def Ztb:=cL QQ
def QP:=cR QQ
def Ztd:=cL QP
def Zte:=cR QP
set_option maxRecDepth 10000 in
theorem ajK{w:World}{M:Hp}{X:Fr}{bu ggs:Nat}{bz fV lV iV oV:Value}(xs:List Cr)(c:Nat)(a:Int)(hc:c<xs.length)(S:SH w M X [Rs.aW [Rs.box bu 67 [.pointer (some ⟨ggs,0,none⟩),fV],Rs.box ggs 70 [bz,lV,iV,oV],Rs.row aG bz xs]]):C1 Tryz.prog 112 [.pointer (some ⟨bu,0,none⟩),.agg [.int .i64 (c:Int),.int .i64 2].toArray,.int .i64 a] w M X (fun u M' r'=>u=.tuple [].toArray/\M'=M/\r'=Rs.aW [Rs.box bu 67 [.pointer (some ⟨ggs,0,none⟩),fV],Rs.box ggs 70 [bz,lV,iV,oV],Rs.row aG bz (bg xs c 2 a)]):=by
 unfold C1
 replace S:=S.jT
 refine Up (b:=QQ) Tryz.func112 rfl Tryz.ntmps112 rfl (fun C hC=>(bq [(0,_),(1,_),(2,_)] ⟨rfl,rfl,rfl,trivial⟩ (U2 Ztb QP rfl rfl rfl (U0 rfl (ak 0 1 rfl rfl rfl (bA (l:=[_,_]) rfl rfl rfl rfl rfl S ?_))))))
 intro aI w1 S1;clear S
 refine U5 rfl (ah [0,2,4] rfl (U3 (U2 Ztd Zte rfl rfl rfl (Ux rfl (by kernel_rfl) S1 12 rfl ?_))))
 clear S1
 refine ai 0 11 rfl (by kernel_rfl) (fun _=>run_move rfl rfl) ?_
 refine ai 1 10 rfl (by kernel_rfl) (fun _=>U9 rfl rfl) ?_
 refine ai 2 9 rfl (by kernel_rfl) (fun _=>U1 rfl rfl cz rfl (cP) (cO)) ?_
 refine aj 3 8 rfl (by kernel_rfl) (fun _ _ _ hz Sz=>.inl (U4 rfl rfl cE rfl (Sz.suf.ar (i:=1) rfl rfl))) ?_
 refine ai 4 7 rfl (by kernel_rfl) (fun _=>U9 rfl rfl) ?_
 refine ai 5 6 rfl (by kernel_rfl) (fun _=>U1 rfl rfl cU rfl (eF) (eB)) ?_
 refine ai 6 5 rfl (by kernel_rfl) (fun _=>U1 rfl rfl ay rfl (bK) (bJ)) ?_
 refine aj 7 4 rfl (by kernel_rfl) (fun _ _ _ hz Sz=>.inl (U4 rfl rfl bG rfl (Sz.suf.ar (i:=2) rfl rfl))) ?_
 refine ai 8 3 rfl (by kernel_rfl) (fun _=>U1 rfl rfl ct rfl (aB) (aA)) ?_
 refine aj 9 2 rfl (by kernel_rfl) (fun _ _ _ hz Sz=>.inl (U4 rfl rfl av rfl (Sz.suf.ar (i:=0) rfl rfl))) ?_
 refine aj 10 1 rfl (by kernel_rfl) (fun _ _ _ hz Sz=>.inl (Ui (C:=aG) (i:=3) c rfl rfl rfl b8 Sz.suf rfl (by first|rfl|omega) (by first|omega|(simp only[ls];omega)))) ?_
 refine ai 11 0 rfl (by kernel_rfl) (fun _=>run_assign rfl rfl) ?_
 refine Uu (by kernel_rfl) (fun jY bN=>?_)
 refine ah [2,4,6] rfl (U3 (Ux rfl (by kernel_rfl) bN 19 rfl ?_))
 clear bN
 refine ai 0 18 rfl (by kernel_rfl) (fun _=>run_move rfl rfl) ?_
 refine ai 1 17 rfl (by kernel_rfl) (fun _=>U9 rfl rfl) ?_
 refine ai 2 16 rfl (by kernel_rfl) (fun _=>U1 rfl rfl aT rfl (aB) (aA)) ?_
 refine ai 3 15 rfl (by kernel_rfl) (fun _=>run_move rfl rfl) ?_
 refine ai 4 14 rfl (by kernel_rfl) (fun _=>U9 rfl rfl) ?_
 refine ai 5 13 rfl (by kernel_rfl) (fun _=>U1 rfl rfl aT rfl (aB) (aA)) ?_
 refine ai 6 12 rfl (by kernel_rfl) (fun _=>run_move rfl rfl) ?_
 refine ai 7 11 rfl (by kernel_rfl) (fun _=>U9 rfl rfl) ?_
 refine ai 8 10 rfl (by kernel_rfl) (fun _=>U1 rfl rfl aT rfl (aB) (aA)) ?_
 refine ai 9 9 rfl (by kernel_rfl) (fun _=>run_move rfl rfl) ?_
 refine ai 10 8 rfl (by kernel_rfl) (fun _=>U9 rfl rfl) ?_
 refine ai 11 7 rfl (by kernel_rfl) (fun _=>U1 rfl rfl aT rfl (aB) (aA)) ?_
 refine aj 12 6 rfl (by kernel_rfl) (fun _ _ _ hz Sz=>.inl (jf (l:=[_,_,_,_]) (pl:=[(0,1),(1,1),(2,1),(3,1)]) rfl rfl qF AO qH rfl rfl rfl)) ?_
 refine ai 13 5 rfl (by kernel_rfl) (fun _=>U1 rfl rfl ct rfl (aB) (aA)) ?_
 refine aj 14 4 rfl (by kernel_rfl) (fun _ _ _ hz Sz=>.inl (U4 rfl rfl av rfl (Sz.suf.ar (i:=0) rfl rfl))) ?_
 refine aj 15 3 rfl (by kernel_rfl) (fun _ _ _ hz Sz=>.inl (wy (e:=2) rfl rfl rfl qF xA rfl qH (by first|rfl|omega) (by first|omega|(simp only[ls];omega)) rfl)) ?_
 refine ai 16 2 rfl (by kernel_rfl) (fun _=>run_move rfl rfl) ?_
 refine ai 17 1 rfl (by kernel_rfl) (fun _=>U9 rfl rfl) ?_
 refine Un (i:=18) 0 rfl (by kernel_rfl) rfl rfl (fun oo dm=>?_)
 refine(gy (C:=aG) (i:=3) (e:=c) (j:=2) (us:=[_]) (H':=[_,_,_,_]) (⟨(ga xs c).a,(ga xs c).b,a,(ga xs c).d,(ga xs c).plus⟩:Cr) rfl rfl dm rfl (by first|omega|(simp only[ls];omega)) rfl rfl rfl aY rfl rfl rfl rfl ?_)
 intro vK ib;clear dm
 refine aN.turn (by kernel_rfl) ib ?_;clear ib
 change WA _ _ _ _ _ _ _ _ _ _ _ _ [_,_,_,_]
 refine Uu (by kernel_rfl) (fun tN ji=>?_)
 refine gI hC [] rfl trivial ?_
 refine⟨_,rfl,_,_,Hp.le_refl _,(ji.pick [1,2,3] [_,_,_] (by decide) ⟨rfl,rfl,rfl,trivial⟩).aW,?_⟩
 exact⟨rfl,rfl,rfl⟩
noncomputable def QO:=Tryz.f112.body.getD .skip
def Ztg:=cL QO
def QN:=cR QO
def Zti:=cL QN
def Ztj:=cR QN
set_option maxRecDepth 10000 in
theorem ajJ{w:World}{M:Hp}{X:Fr}{bu ggs:Nat}{bz fV lV iV oV:Value}(xs:List Cr)(c:Nat)(a:Int)(hc:c<xs.length)(S:SH w M X [Rs.aW [Rs.box bu 67 [.pointer (some ⟨ggs,0,none⟩),fV],Rs.box ggs 70 [bz,lV,iV,oV],Rs.row aG bz xs]]):C1 Tryz.prog 112 [.pointer (some ⟨bu,0,none⟩),.agg [.int .i64 (c:Int),.int .i64 3].toArray,.int .i64 a] w M X (fun u M' r'=>u=.tuple [].toArray/\M'=M/\r'=Rs.aW [Rs.box bu 67 [.pointer (some ⟨ggs,0,none⟩),fV],Rs.box ggs 70 [bz,lV,iV,oV],Rs.row aG bz (bg xs c 3 a)]):=by
 unfold C1
 replace S:=S.jT
 refine Up (b:=QO) Tryz.func112 rfl Tryz.ntmps112 rfl (fun C hC=>(bq [(0,_),(1,_),(2,_)] ⟨rfl,rfl,rfl,trivial⟩ (U2 Ztg QN rfl rfl rfl (U0 rfl (ak 0 1 rfl rfl rfl (bA (l:=[_,_]) rfl rfl rfl rfl rfl S ?_))))))
 intro aI w1 S1;clear S
 refine U5 rfl (ah [0,2,4] rfl (U3 (U2 Zti Ztj rfl rfl rfl (Ux rfl (by kernel_rfl) S1 12 rfl ?_))))
 clear S1
 refine ai 0 11 rfl (by kernel_rfl) (fun _=>run_move rfl rfl) ?_
 refine ai 1 10 rfl (by kernel_rfl) (fun _=>U9 rfl rfl) ?_
 refine ai 2 9 rfl (by kernel_rfl) (fun _=>U1 rfl rfl cz rfl (cP) (cO)) ?_
 refine aj 3 8 rfl (by kernel_rfl) (fun _ _ _ hz Sz=>.inl (U4 rfl rfl cE rfl (Sz.suf.ar (i:=1) rfl rfl))) ?_
 refine ai 4 7 rfl (by kernel_rfl) (fun _=>U9 rfl rfl) ?_
 refine ai 5 6 rfl (by kernel_rfl) (fun _=>U1 rfl rfl cU rfl (eF) (eB)) ?_
 refine ai 6 5 rfl (by kernel_rfl) (fun _=>U1 rfl rfl ay rfl (bK) (bJ)) ?_
 refine aj 7 4 rfl (by kernel_rfl) (fun _ _ _ hz Sz=>.inl (U4 rfl rfl bG rfl (Sz.suf.ar (i:=2) rfl rfl))) ?_
 refine ai 8 3 rfl (by kernel_rfl) (fun _=>U1 rfl rfl ct rfl (aB) (aA)) ?_
 refine aj 9 2 rfl (by kernel_rfl) (fun _ _ _ hz Sz=>.inl (U4 rfl rfl av rfl (Sz.suf.ar (i:=0) rfl rfl))) ?_
 refine aj 10 1 rfl (by kernel_rfl) (fun _ _ _ hz Sz=>.inl (Ui (C:=aG) (i:=3) c rfl rfl rfl b8 Sz.suf rfl (by first|rfl|omega) (by first|omega|(simp only[ls];omega)))) ?_
 refine ai 11 0 rfl (by kernel_rfl) (fun _=>run_assign rfl rfl) ?_
 refine Uu (by kernel_rfl) (fun jY bN=>?_)
 refine ah [2,4,6] rfl (U3 (Ux rfl (by kernel_rfl) bN 19 rfl ?_))
 clear bN
 refine ai 0 18 rfl (by kernel_rfl) (fun _=>run_move rfl rfl) ?_
 refine ai 1 17 rfl (by kernel_rfl) (fun _=>U9 rfl rfl) ?_
 refine ai 2 16 rfl (by kernel_rfl) (fun _=>U1 rfl rfl aT rfl (aB) (aA)) ?_
 refine ai 3 15 rfl (by kernel_rfl) (fun _=>run_move rfl rfl) ?_
 refine ai 4 14 rfl (by kernel_rfl) (fun _=>U9 rfl rfl) ?_
 refine ai 5 13 rfl (by kernel_rfl) (fun _=>U1 rfl rfl aT rfl (aB) (aA)) ?_
 refine ai 6 12 rfl (by kernel_rfl) (fun _=>run_move rfl rfl) ?_
 refine ai 7 11 rfl (by kernel_rfl) (fun _=>U9 rfl rfl) ?_
 refine ai 8 10 rfl (by kernel_rfl) (fun _=>U1 rfl rfl aT rfl (aB) (aA)) ?_
 refine ai 9 9 rfl (by kernel_rfl) (fun _=>run_move rfl rfl) ?_
 refine ai 10 8 rfl (by kernel_rfl) (fun _=>U9 rfl rfl) ?_
 refine ai 11 7 rfl (by kernel_rfl) (fun _=>U1 rfl rfl aT rfl (aB) (aA)) ?_
 refine aj 12 6 rfl (by kernel_rfl) (fun _ _ _ hz Sz=>.inl (jf (l:=[_,_,_,_]) (pl:=[(0,1),(1,1),(2,1),(3,1)]) rfl rfl qF AO qH rfl rfl rfl)) ?_
 refine ai 13 5 rfl (by kernel_rfl) (fun _=>U1 rfl rfl ct rfl (aB) (aA)) ?_
 refine aj 14 4 rfl (by kernel_rfl) (fun _ _ _ hz Sz=>.inl (U4 rfl rfl av rfl (Sz.suf.ar (i:=0) rfl rfl))) ?_
 refine aj 15 3 rfl (by kernel_rfl) (fun _ _ _ hz Sz=>.inl (wy (e:=3) rfl rfl rfl qF xA rfl qH (by first|rfl|omega) (by first|omega|(simp only[ls];omega)) rfl)) ?_
 refine ai 16 2 rfl (by kernel_rfl) (fun _=>run_move rfl rfl) ?_
 refine ai 17 1 rfl (by kernel_rfl) (fun _=>U9 rfl rfl) ?_
 refine Un (i:=18) 0 rfl (by kernel_rfl) rfl rfl (fun oo dm=>?_)
 refine(gy (C:=aG) (i:=3) (e:=c) (j:=3) (us:=[_]) (H':=[_,_,_,_]) (⟨(ga xs c).a,(ga xs c).b,(ga xs c).c,a,(ga xs c).plus⟩:Cr) rfl rfl dm rfl (by first|omega|(simp only[ls];omega)) rfl rfl rfl aY rfl rfl rfl rfl ?_)
 intro vK ib;clear dm
 refine aN.turn (by kernel_rfl) ib ?_;clear ib
 change WA _ _ _ _ _ _ _ _ _ _ _ _ [_,_,_,_]
 refine Uu (by kernel_rfl) (fun tN ji=>?_)
 refine gI hC [] rfl trivial ?_
 refine⟨_,rfl,_,_,Hp.le_refl _,(ji.pick [1,2,3] [_,_,_] (by decide) ⟨rfl,rfl,rfl,trivial⟩).aW,?_⟩
 exact⟨rfl,rfl,rfl⟩
theorem Bk{w:World}{M:Hp}{X:Fr}{bu ggs:Nat}{bz fV lV iV oV:Value}(xs:List Cr)(c k:Nat)(a:Int)(hc:c<xs.length)(hk:k<4)(S:SH w M X [Rs.aW [Rs.box bu 67 [.pointer (some ⟨ggs,0,none⟩),fV],Rs.box ggs 70 [bz,lV,iV,oV],Rs.row aG bz xs]]):C1 Tryz.prog 112 [.pointer (some ⟨bu,0,none⟩),.agg [.int .i64 (c:Int),.int .i64 (k:Int)].toArray,.int .i64 a] w M X (fun u M' r'=>u=.tuple [].toArray/\M'=M/\r'=Rs.aW [Rs.box bu 67 [.pointer (some ⟨ggs,0,none⟩),fV],Rs.box ggs 70 [bz,lV,iV,oV],Rs.row aG bz (bg xs c k a)]):=by
 obtain rfl|rfl|rfl|rfl:k=0\/k=1\/k=2\/k=3:=by omega
 ·exact ajM xs c a hc S
 ·exact ajL xs c a hc S
 ·exact ajK xs c a hc S
 ·exact ajJ xs c a hc S
end Go.Proofs.YthppkofceancjaaGreat
namespace Go.Proofs.YthppkofceancjaaGreat
open Go.ChangeShapes Go.WideShapes Go.ChangeAt Go.RowKit
def DW(P:Program)(f:FuncId)(vs:List Value)(w:World)(M:Hp)(X:Fr)(R:Value->Hp->List Rs->Prop):Prop:=
 Calls P f vs.toArray w fun e w'=>∃v,e=.returned v/\∃M' N,M.le M'/\SH w' M' X N/\R v M' N
section
variable {P : Program} {o : Oper} {L : List (Nat × Value)} {w : World} {n d : Nat} {Kt : List (Nat × Value) → World → Prop} {M : Hp} {X : Fr} {H : List Rs}
theorem Ay{f:FuncId}{vs:List Value}{ca:Call}{fo:Operand}{xs:List Operand}(hd:o.dst=some d)(hop:o.op=.call ca)(cm:ca.callee=.value fo)(hfo:oev L fo=some (.func (.func f) #[] #[]))
  (hxs:ca.args=xs.toArray)(hvs:oevs L xs=some vs)(hn:Nat.blt d n=true)(hen:∀args w,(callFunc f args).run P w=.ok (.enter f args) w)(S:SH w M X H)
  {R:Value->Hp->List Rs->Prop}(hcall:DW P f vs w M (XH w X H) R)(h:∀v w' M' N,M.le M'->SH w' M' X (N++H)->R v M' N->Kt ((d,v)::L) w'):WO P n o L w Kt:=
 wR (R:=fun v w'=>∃M' N,M.le M'/\SH w' M' (XH w X H) N/\R v M' N) hd hop cm hfo hxs hvs hn hen hcall fun v w' ⟨M',N,h1,h2,h4⟩=>h v w' M' N h1 (S.acW h2) h4
end
section
variable {bf : Nat → Nat} {N : Hp} {gs : List (Option Nat)} {ps : List (Option bn)} {zz : List (List (Option Nat))} {bO : List (List (Option bn))} {α : Type} {C : Cd α} {yZ : List (List eT)} {mm : List (List (List α))}
end
end Go.Proofs.YthppkofceancjaaGreat
namespace Go.Proofs.YthppkofceancjaaGreat
open Go.ChangeShapes Go.WideShapes Go.ChangeAt Go.RowKit
def atL(d:Dg)(v:Value)(N:Hp)(Nl:List Rs):Prop:=
 (gW d=false/\v=.tuple [.pointer none,.bool false].toArray/\Nl=[])\/
 (gW d=true/\∃g vc iA oA ic oc,v=.tuple [.pointer (some ⟨g,0,none⟩),.bool true].toArray/\Nl=[Rs.box g 70 [vc,.int .i64 d.loops,.slice iA (aw d false (4*d.ae.length)).length ic,.slice oA (aw d true (4*d.ae.length)).length oc],Rs.row aG vc d.ae]/\aF bp N iA ic (aw d false (4*d.ae.length))/\aF bp N oA oc (aw d true (4*d.ae.length)))
theorem alG{w:World}{M:Hp}{X:Fr}(d:Dg){A:Option Addr}{c:Nat}(h:aF aG (M.un X.h) A c d.ae)(S:SH w M X []):DW Tryz.prog 64 [.agg [.slice A d.ae.length c,.int .i64 d.loops].toArray] w M X (atL d):=by
 refine(alH d h S).mono ?_
 rintro e w' ⟨v,rfl,N,S1,⟨hm,rfl,rfl⟩|⟨hm,g,vc,vi,vo,rfl,rfl,hv⟩⟩
 ·exact⟨_,rfl,M,_,Hp.le_refl _,S1,.inl ⟨hm,rfl,rfl⟩⟩
 ·obtain⟨hn,_⟩:=sW hm
  have t1:=fK d false (4*d.ae.length)
  have t2:=fK d true (4*d.ae.length)
  clear hv
  obtain⟨M2,l2,S3,⟨iA,ic,rfl,r2⟩⟩:=S1.fZ (C:=bp) (xs:=aw d false (4*d.ae.length)) (i:=2) rfl rfl (by show _*16<=_;omega)
  obtain⟨M3,l3,S4,⟨oA,oc,rfl,r3⟩⟩:=S3.fZ (C:=bp) (xs:=aw d true (4*d.ae.length)) (i:=3) rfl rfl (by show _*16<=_;omega)
  exact⟨_,rfl,M3,_,l2.trans l3,S4.pick [0,1] [_,_] (by decide) ⟨rfl,rfl,trivial⟩,.inr ⟨hm,g,vc,iA,oA,ic,oc,rfl,rfl,r2.mono l3,r3⟩⟩
def gq(d:Dg):Bool:=gW d&&o6 d
def bnL(d:Dg)(gb gs:Nat)(bz:Value)(iA oA fA:Option Addr)(ic oc fc:Nat)(fv:List eT):List Rs:=[Rs.box gb 67 [.pointer (some ⟨gs,0,none⟩),.slice fA fv.length fc],Rs.box gs 70 [bz,.int .i64 d.loops,.slice iA (aw d false (4*d.ae.length)).length ic,.slice oA (aw d true (4*d.ae.length)).length oc],Rs.row aG bz d.ae]
def bnF(d:Dg)(N:Hp)(iA oA fA:Option Addr)(ic oc fc:Nat)(fv:List eT):Prop:=aF bp N iA ic (aw d false (4*d.ae.length))/\aF bp N oA oc (aw d true (4*d.ae.length))/\aF (cB 141) N fA fc fv/\ez bW N fv (U6 d)
def alF(d:Dg)(v:Value)(N:Hp)(Nl:List Rs):Prop:=
 (gq d=false/\v=.tuple [.pointer none,.bool false].toArray/\Nl=[])\/
 (gq d=true/\∃gb gs bz iA oA fA ic oc fc fv,v=.tuple [.pointer (some ⟨gb,0,none⟩),.bool true].toArray/\Nl=bnL d gb gs bz iA oA fA ic oc fc fv/\bnF d N iA oA fA ic oc fc fv)
noncomputable def QM:=Tryz.f28.body.getD .skip
def Ztl:=cL QM
def QL:=cR QM
def Ztn:=cL QL
def QK:=cR QL
def DS:=cL QK
def DR:=cR QK
def Ztr:=cL DS
def DN:=cR DS
def DM:=cL DN
def Ztu:=cR DN
def Ztv:=cL DM
def Ztw:=cR DM
def Ztx:=cL DR
def Zty:=cR DR
set_option maxRecDepth 10000 in
theorem EK{w:World}{M:Hp}{X:Fr}(d:Dg){aV:Option Addr}{aU:Nat}(aC:aF aG (M.un X.h) aV aU d.ae)(S:SH w M X []):DW Tryz.prog 28 [.agg [.slice aV d.ae.length aU,.int .i64 d.loops].toArray] w M X (alF d):=by
 unfold DW
 have gK:d.ae.length*40<=140737488355328:=aC.room
 refine Up (b:=QM) Tryz.func28 rfl Tryz.ntmps28 rfl (fun C hC=>(bq [(0,_)] ⟨rfl,trivial⟩ (U2 Ztl QL rfl rfl rfl (U0 rfl (ak 0 1 rfl rfl rfl (bA (l:=[_,_]) rfl rfl rfl rfl rfl S ?_))))))
 intro aI w1 S1;clear S
 refine ag 1 2 rfl rfl (U5 rfl (ah [1] rfl (U3 (U2 Ztn QK rfl rfl rfl (U0 rfl (af 0 rfl (U8 (us:=[_,_]) rfl rfl ay rfl az (S1.ax (i:=0) rfl ⟨rfl,rfl,trivial⟩)) (ak 1 2 rfl rfl rfl (Ay rfl rfl rfl rfl rfl rfl rfl anz S1 (alG d (aC.mono S1.Uw) S1.aD) ?_))))))))
 intro Df w2 M1 Nw2 aL S2 pM;clear S1
 replace aC:=aC.mono (Hp.Ua aL S2.mx)
 rcases pM with⟨xI,rfl,rfl⟩|⟨xI,ggs,bz,iA,oA,ic,oc,rfl,rfl,hsi,aK⟩
 ·have S3:SH _ _ _ [_]:=S2;clear S2
  refine ag 2 1 rfl rfl (af 3 rfl (Ul rfl rfl rfl) (af 4 rfl (Ul rfl rfl rfl) (ag 5 2 rfl rfl (U5 rfl (ah [4,5] rfl (U3 (U2 DS DR rfl rfl rfl (U2 Ztr DN rfl rfl rfl ?_))))))))
  refine U0 rfl (ag 0 1 rfl rfl (af 1 rfl (dE rfl rfl) (ag 2 5 rfl rfl (U5 rfl (ah [4,17] rfl (U3 (fM DM rfl rfl rfl (U2 Ztv Ztw rfl rfl rfl ?_))))))))
  refine U0 rfl (ag 0 2 rfl rfl (U5 rfl (ah [2,3] rfl (U3 (Uj hC [_,_] rfl rfl ⟨rfl,rfl,trivial⟩ ?_)))))
  refine⟨_,rfl,_,_,aL,S3.pick [] [] (by decide) trivial,?_⟩
  exact .inl ⟨by unfold gq;rw[xI];first|rfl|(rw[hpl];rfl),rfl,rfl⟩
 ·have S4:SH _ _ _ [_,_,_]:=S2;clear S2
  obtain⟨hn,hab,ads,Gv⟩:=sW xI
  obtain⟨cA,cc,cQ,_⟩:=S4.sl (i:=1) rfl
  refine ag 2 1 rfl rfl (af 3 rfl (Ul rfl rfl rfl) (af 4 rfl (Ul rfl rfl rfl) (ag 5 2 rfl rfl (U5 rfl (ah [4,5] rfl (U3 (U2 DS DR rfl rfl rfl (U2 Ztr DN rfl rfl rfl ?_))))))))
  refine U0 rfl (ag 0 1 rfl rfl (af 1 rfl (dE rfl rfl) (ag 2 2 rfl rfl (aH 4 5 rfl rfl rfl rfl rfl rfl rfl rfl (fp rfl rfl rfl rfl rfl rfl rfl anx S4 (ahW d (SH.eG (N:=[]) (i:=0) S4 rfl (by rw[cQ])) (SH.iY (N:=[]) (i:=1) S4 rfl cQ (by show _*40<=_;omega)) (hsi.mono (Hp.bR _ _)) (aK.mono (Hp.bR _ _)) hn hab S4.aD) ?_)))))
  intro Ou w3 M2 hle2 S5 tD;clear S4
  replace aC:=aC.mono (Hp.Ua hle2 S5.mx)
  replace hsi:=hsi.mono hle2
  replace aK:=aK.mono hle2
  obtain rfl:=tD
  refine aH 5 6 rfl rfl rfl rfl rfl rfl rfl rfl (Ub rfl rfl (dE rfl rfl) (ag 6 1 rfl rfl (U5 rfl (ah [4,17] rfl (U3 ?_)))))
  refine cS DM Ztu rfl rfl rfl rfl (fun ij=>?_) (fun ij=>?_)
  ·simp only[Bool.and_eq_true,Bool.or_eq_true,Bool.and_eq_false_iff,Bool.or_eq_false_iff,decide_eq_true_eq,decide_eq_false_iff_not,Bool.not_eq_true',Bool.not_eq_false']at ij
   have hpl:o6 d=false:=by simpa using ij
   refine U2 Ztv Ztw rfl rfl rfl (U0 rfl (ag 0 2 rfl rfl (U5 rfl (ah [2,3] rfl (U3 (Uj hC [_,_] rfl rfl ⟨rfl,rfl,trivial⟩ ?_))))))
   refine⟨_,rfl,_,_,aL.trans hle2,S5.pick [] [] (by decide) trivial,?_⟩
   exact .inl ⟨by unfold gq;rw[xI];first|rfl|(rw[hpl];rfl),rfl,rfl⟩
  ·simp only[Bool.and_eq_true,Bool.or_eq_true,Bool.and_eq_false_iff,Bool.or_eq_false_iff,decide_eq_true_eq,decide_eq_false_iff_not,Bool.not_eq_true',Bool.not_eq_false']at ij
   have hpl:o6 d=true:=by simpa using ij
   refine Uf rfl (ah [4] rfl (U3 (U2 Ztx Zty rfl rfl rfl (U0 rfl (ag 0 2 rfl rfl (ak 2 3 rfl rfl rfl (fp rfl rfl rfl rfl rfl rfl rfl adZ S5 (InF.ab2 d (SH.eG (N:=[]) (i:=0) S5 rfl (by rw[cQ])) (SH.iY (N:=[]) (i:=1) S5 rfl cQ (by show _*40<=_;omega)) (hsi.mono (Hp.bR _ _)) (aK.mono (Hp.bR _ _)) hn hab S5.aD) ?_)))))))
   intro vw4 w4 M3 dw S6 ym;clear S5
   replace aC:=aC.mono (Hp.Ua dw S6.mx)
   replace hsi:=hsi.mono dw
   replace aK:=aK.mono dw
   obtain⟨A1,c1,vs1,rfl,hr1,hd1⟩:=ym
   have agx:=hd1.1
   refine af 3 rfl (run_build (l:=[_,_]) rfl rfl amb rfl rfl) (ak 4 5 rfl rfl rfl (bA (l:=[_,_]) rfl rfl rfl rfl rfl S6 ?_))
   intro aQ w5 S7;clear S6
   refine ag 5 2 rfl rfl (U5 rfl (ah [2,3] rfl (U3 (Uj hC [_,_] rfl rfl ⟨rfl,rfl,trivial⟩ ?_))))
   refine⟨_,rfl,_,_,(aL.trans hle2).trans dw,S7.pick [0,1,2] [_,_,_] (by decide) ⟨rfl,rfl,rfl,trivial⟩,?_⟩
   exact .inr ⟨by unfold gq;rw[xI,hpl];rfl,_,_,_,_,_,_,_,_,_,_,rfl,rfl,hsi,aK,hr1,hd1⟩
end Go.Proofs.YthppkofceancjaaGreat
