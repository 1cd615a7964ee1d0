/- Part 7 of the proof of the law MovesTake: the walks through its functions and the plain laws that they need. -/
import Derived.Test.YthppkofceancjaaGreatMtZ6
set_option linter.unusedSimpArgs false
set_option linter.unusedVariables false
noncomputable section
namespace Go.Proofs.YthppkofceancjaaGreat
open Go.ChangeShapes Go.WideShapes Go.ChangeAt Go.RowKit
theorem ahe(gs:List Nat)(c:Nat):(gs.map fun x:Nat=>(x:Int)).contains (c:Int)=bh gs c:=by
 rw[Bool.eq_iff_iff,List.contains_iff_mem,wE,List.mem_map]
 constructor
 ·rintro⟨x,hx,e⟩
  obtain rfl:x=c:=by omega
  exact hx
 ·exact fun h=>⟨c,h,rfl⟩
theorem al3{d:Dg}{gs:List Nat}{i k:Nat}(hk:k<2):nk d gs (2*i+k)=(Uq d (ga gs i) k).toNat/\nj d gs (2*i+k)=(Uq d (ga gs i) (k+2)).toNat:=by
 unfold nk nj
 rw[show(2*i+k)/2=i by omega,show(2*i+k)%2=k by omega]
 exact⟨rfl,rfl⟩
theorem aio(x:Int)(n:Nat):x+((n:Nat):Int)+1=x+((n+1:Nat):Int):=by omega
noncomputable def Ws:=Tryz.f77.body.getD .skip
def Zn8:=cL Ws
def Wq:=cR Ws
def Wp:=cL Wq
def Wo:=cR Wq
def Znc:=cL Wp
def Znd:=cR Wp
def Zne:=cL Znd
def Wn:=cL Zne
def Wm:=cL Wn
def Wl:=cR Wn
def Zni:=cL Wm
def Wj:=cR Wm
def Znk:=cL Wj
def Znl:=cR Wj
def Znm:=cL Wl
def Znn:=cR Wl
def Wi:=cL Znm
def Znp:=cL Wi
def Wh:=cR Wi
def Wf:=cL Wh
def Zns:=cR Wh
def Znt:=cL Wf
def Znu:=cR Wf
def Znv:=cL Wo
def Znw:=cR Wo
set_option maxRecDepth 10000 in
theorem aa9{w:World}{M:Hp}{X:Fr}(l:List Int){lA:Option Addr}{lc:Nat}(x:Int)(hl:aG Uv (M.un X.h) lA lc l)(S:SH w M X []):Cq Tryz.prog 77 [.slice lA l.length lc,.int .i64 x] w M X (fun u=>u=.bool (l.contains x)):=by
 unfold Cq
 have ayr:l.length*8<=140737488355328:=hl.room
 refine Up (b:=Ws) Tryz.func77 rfl Tryz.ntmps77 rfl (fun C hC=>(bq [(0,_),(1,_)] ⟨rfl,rfl,trivial⟩ (U2 Zn8 Wq rfl rfl rfl (U0 rfl (ag 0 1 rfl rfl (U5 rfl (ah [0,1] rfl (U3 (U2 Wp Wo rfl rfl rfl ?_)))))))))
 refine U2 Znc Znd rfl rfl rfl (U0 rfl (ag 0 1 rfl rfl (U5 rfl (U3 (Uc Zne 0 rfl rfl rfl ?_)))))
 refine Ux (fun aS au aM=>∃(i:Nat),aS=l.length-i/\Env 18 [(0,.slice lA l.length lc),(1,.int .i64 x),(5,.int .i64 (i:Int))] au/\SH aM M X []/\i<=l.length/\(∀j,j<i->ga l j≠x)) rfl ?_ ?_
 ·intro au aq
  refine⟨_,⟨0,rfl,aq.sub ⟨rfl,rfl,rfl,trivial⟩,S.pick [] [] (by decide) trivial,?cd,?dm⟩⟩
  case cd=>omega
  case dm=>(intro j hj;omega)
 ·rintro m1 a1 w1 ⟨i,rfl,aY,S1,hi,hno⟩
  clear S
  refine bX aY (c:=Wn) rfl ?_
  clear aY a1
  refine U2 Wm Wl rfl rfl rfl (U2 Zni Wj rfl rfl rfl (U0 rfl (ag 0 2 rfl rfl (af 2 rfl (cU rfl rfl rfl rfl rfl rfl dY) (af 3 rfl (bS rfl rfl rfl) (U5 rfl (ah [0,1,5,9] rfl (U3 ?_))))))))
  refine Uf Znk Znl rfl rfl rfl rfl (fun jI=>?_) (fun jI=>?_)
  ·refine Ue rfl (ah [0,1,5] rfl (U3 (U2 Znm Znn rfl rfl rfl (Uc Wi 1 rfl rfl rfl (U2 Znp Wh rfl rfl rfl (U0 rfl (ag 0 2 rfl rfl (af 2 rfl (Ul (C:=Uv) i rfl rfl rfl bA (by first|rfl|omega) hl (by first|omega|(simp only[ls];omega))) ?_))))))))
   refine af 3 rfl (U4 rfl rfl av rfl (hl.cell S1.um (i:=i) (by first|omega|(simp only[ls];omega)) 0 rfl rfl)) ?_
   refine ag 4 1 rfl rfl (af 5 rfl (bR rfl rfl rfl) (U5 rfl (ah [0,1,5,17] rfl (U3 ?_))))
   refine Uf Wf Zns rfl rfl rfl rfl (fun lQ=>?_) (fun lQ=>?_)
   ·refine U2 Znt Znu rfl rfl rfl (U0 rfl (ag 0 1 rfl rfl (U5 rfl (ah [4] rfl (U3 (Uk hC [_] rfl rfl ⟨rfl,trivial⟩ ?_))))))
    exact⟨_,rfl,(S1.pick [] [] (by decide) trivial),(by show Value.bool _=_;refine congrArg Value.bool ?_;symm;first|(rw[List.contains_iff_mem];exact(by assumption:ga l i=x)▸iB (by omega))|(rw[Bool.eq_false_iff,Ne,List.contains_iff_mem];intro hm;obtain⟨j,hj,e⟩:=List.mem_iff_getElem.1 hm;exact hno j (by omega) (by rw[eo hj];exact e)))⟩
   ·refine Ue rfl (bj (ah [0,1,5] rfl (U3 (U0 rfl (ag 0 1 rfl rfl (af 1 rfl (Ug rfl rfl rfl (by first|omega|(simp only[ls];omega))) ?_))))))
    refine ag 2 1 rfl rfl (U5 rfl (aO ?_))
    intro au aq
    refine⟨_,?dQ,⟨i+1,rfl,aq.sub ⟨rfl,rfl,rfl,trivial⟩,S1.pick [] [] (by decide) trivial,?cx,?dC⟩⟩
    case cx=>omega
    case dC=>(intro j hj;by_cases e:j=i;(subst e;assumption);exact hno j (by omega))
    case dQ=>omega
  ·refine bP rfl rfl (bN [] trivial (U3 (U2 Znv Znw rfl rfl rfl (U0 rfl (ag 0 1 rfl rfl (U5 rfl (U3 (Uk hC [_] rfl rfl ⟨rfl,trivial⟩ ?_))))))))
   exact⟨_,rfl,(S1.pick [] [] (by decide) trivial),(by show Value.bool _=_;refine congrArg Value.bool ?_;symm;first|(rw[List.contains_iff_mem];exact(by assumption:ga l i=x)▸iB (by omega))|(rw[Bool.eq_false_iff,Ne,List.contains_iff_mem];intro hm;obtain⟨j,hj,e⟩:=List.mem_iff_getElem.1 hm;exact hno j (by omega) (by rw[eo hj];exact e)))⟩
noncomputable def Wd:=Tryz.f36.body.getD .skip
def Zny:=cL Wd
def Wc:=cR Wd
def Zo0:=cL Wc
def Wb:=cR Wc
def Zo2:=cL Wb
def Wa:=cR Wb
def V9:=cL Wa
def V8:=cR Wa
def Zo6:=cL V9
def Zo7:=cR V9
def Zo8:=cL Zo7
def V7:=cL Zo8
def V6:=cL V7
def V5:=cR V7
def Zoc:=cL V6
def V4:=cR V6
def Zoe:=cL V4
def Zof:=cR V4
def Zog:=cL V5
def Zoh:=cR V5
def Zoi:=cL Zog
def V3:=cL V8
def V2:=cR V8
def Zol:=cL V3
def Zom:=cR V3
def Zon:=cL Zom
def VZ:=cL Zon
def VY:=cL VZ
def VX:=cR VZ
def Zor:=cL VY
def VW:=cR VY
def Zot:=cL VW
def Zou:=cR VW
def Zov:=cL VX
def Zow:=cR VX
def VU:=cL Zov
def Zoy:=cL VU
def Zoz:=cR VU
def Zp0:=cL Zoz
def VT:=cL Zp0
def VS:=cL VT
def VR:=cR VT
def Zp4:=cL VS
def VQ:=cR VS
def Zp6:=cL VQ
def Zp7:=cR VQ
def Zp8:=cL VR
def Zp9:=cR VR
def VP:=cL Zp8
def Zpb:=cL VP
def Zpc:=cR VP
def Zpd:=cL Zpc
def VO:=cL Zpd
def VN:=cL VO
def VM:=cR VO
def Zph:=cL VN
def VL:=cR VN
def Zpj:=cL VL
def Zpk:=cR VL
def Zpl:=cL VM
def Zpm:=cR VM
def Zpn:=cL Zpl
def Zpo:=cL V2
def VK:=cR V2
def Zpq:=cL VK
def VJ:=cR VK
def VI:=cL VJ
def VH:=cR VJ
def Zpu:=cL VI
def Zpv:=cR VI
def Zpw:=cL Zpv
def VG:=cL Zpw
def VF:=cL VG
def VE:=cR VG
def Zq0:=cL VF
def VD:=cR VF
def Zq2:=cL VD
def Zq3:=cR VD
def Zq4:=cL VE
def Zq5:=cR VE
def VC:=cL Zq4
def Zq7:=cL VC
def VB:=cR VC
def VA:=cL VB
def Zqa:=cR VB
def Zqb:=cL VA
def Zqc:=cR VA
def Zqd:=cL Zqc
def Vz:=cL Zqd
def Vy:=cL Vz
def Vx:=cR Vz
def Zqh:=cL Vy
def Vw:=cR Vy
def Zqj:=cL Vw
def Zqk:=cR Vw
def Zql:=cL Vx
def Zqm:=cR Vx
def Zqn:=cL Zql
def Zqo:=cL VH
def Vv:=cR VH
def Zqq:=cL Vv
def Vu:=cR Vv
def Vt:=cL Vu
def Vs:=cR Vu
def Zqu:=cL Vt
def Zqv:=cR Vt
def Zqw:=cL Zqv
def Vr:=cL Zqw
def Vq:=cL Vr
def Vp:=cR Vr
def Zr0:=cL Vq
def Vo:=cR Vq
def Zr2:=cL Vo
def Zr3:=cR Vo
def Zr4:=cL Vp
def Zr5:=cR Vp
def Vn:=cL Zr4
def Zr7:=cL Vn
def Vm:=cR Vn
def Vl:=cL Vm
def Vk:=cR Vm
def Zrb:=cL Vl
def Zrc:=cR Vl
def Zrd:=cL Vk
def Vj:=cR Vk
def Zrf:=cL Vj
def Zrg:=cR Vj
def Vi:=cL Vs
def Vh:=cR Vs
def Zrj:=cL Vi
def Zrk:=cR Vi
def Zrl:=cL Zrk
def Vg:=cL Zrl
def Vf:=cL Vg
def Ve:=cR Vg
def Zrp:=cL Vf
def Vd:=cR Vf
def Zrr:=cL Vd
def Zrs:=cR Vd
def Zrt:=cL Ve
def Zru:=cR Ve
def Vc:=cL Zrt
def Vb:=cL Vc
def Va:=cR Vc
def Zry:=cL Vb
def UZ:=cR Vb
def Zs0:=cL UZ
def Zs1:=cR UZ
def Zs2:=cL Va
def Zs3:=cR Va
def Zs4:=cL Vh
def Zs5:=cR Vh
set_option maxHeartbeats 4000000 in
set_option maxRecDepth 10000 in
theorem BH{w:World}{M:Hp}{X:Fr}(d:Dg){aV:Option Addr}{aU:Nat}(gone:List Int){jq:Option Addr}{jo:Nat}(az:aG aF (M.un X.h) aV aU d.ae)(iH:aG Uv (M.un X.h) jq jo gone){gs:List Nat}(pU:gone=gs.map fun x:Nat=>(x:Int))(x5:∀x∈gs,x<d.ae.length)(hn:d.ae.length<=16)(hab:aN d=true)(aeh:0<=d.loops/\d.loops<=1000)(S:SH w M X []):Ct Tryz.prog 36 [.agg [.slice aV d.ae.length aU,.int .i64 d.loops].toArray,.slice jq gone.length jo] w M X (fun u N=>∃A c,u=.agg [.slice A (bB d (bh gs)).ae.length c,.int .i64 (bB d (bh gs)).loops].toArray/\aG aF N A c (bB d (bh gs)).ae):=by
 unfold Ct
 have gV:d.ae.length*40<=140737488355328:=az.room
 have abR:gone.length*8<=140737488355328:=iH.room
 have hcg:∀c:Nat,gone.contains (c:Int)=bh gs c:=fun c=>by rw[pU];exact ahe gs c
 have hgl:gone.length=gs.length:=by rw[pU,List.length_map]
 have hgo:∀q,q<gs.length->ga gone q=((ga gs q:Nat):Int):=fun q hq=>by rw[pU,CO _ _ _ hq]
 clear pU
 refine Up (b:=Wd) Tryz.func36 rfl Tryz.ntmps36 rfl (fun C hC=>(bq [(0,_),(1,_)] ⟨rfl,rfl,trivial⟩ (U2 Zny Wc rfl rfl rfl (U0 rfl (ak 0 1 rfl rfl rfl (bE (l:=[_,_]) rfl rfl rfl rfl rfl S ?_))))))
 intro aI w1 S1;clear S
 refine ak 1 2 rfl rfl rfl (Uh (l:=[_,_]) rfl rfl rfl fR rfl S1 ?_)
 intro aQ w2 S2;clear S1
 refine U5 rfl (ah [1,2,4] rfl (U3 (U2 Zo0 Wb rfl rfl rfl (U0 rfl (af 0 rfl (U1 rfl rfl ay rfl (bK) (bJ)) (af 1 rfl (U4 rfl rfl bt rfl (S2.ar (i:=1) rfl rfl)) (af 2 rfl (cU rfl rfl rfl rfl rfl rfl bt) (af 3 rfl (jh rfl rfl rfl (by first|omega|(simp only[ls];omega))) ?_))))))))
 refine ag 4 1 rfl rfl (U5 rfl (ah [1,2,4,5] rfl (U3 (U2 Zo2 Wa rfl rfl rfl (U0 rfl (ag 0 1 rfl rfl (af 1 rfl (Ug rfl rfl rfl (by first|omega|(simp only[ls];omega))) ?_)))))))
 refine ak 2 3 rfl rfl rfl (qj (C:=Uv) ((2*(d.ae.length:Int)).toNat+1) rfl rfl rfl rfl rfl bA (by first|rfl|omega) (by show _*8<=_;first|omega|(simp only[ls];omega)) S2 ?_)
 intro AL w3 S3;clear S2
 refine ag 3 1 rfl rfl (U5 rfl (ah [1,2,4,5,6] rfl (U3 (U2 V9 V8 rfl rfl rfl (U2 Zo6 Zo7 rfl rfl rfl (U0 rfl (ag 0 1 rfl rfl (U5 rfl ?_))))))))
 refine U3 (Uc Zo8 0 rfl rfl rfl ?_)
 refine Ux (fun aS au aM=>∃(i:Nat) (ws:List Int) (o6:Value),aS=2*d.ae.length+1-i/\Env 185 [(1,.slice jq gone.length jo),(2,.pointer (some ⟨aI,0,none⟩)),(4,.pointer (some ⟨aQ,0,none⟩)),(5,.int .i64 (2*(d.ae.length:Int))),(6,o6),(7,.int .i64 (i:Int))] au/\SH aM M X [Rs.row Uv o6 ws,Rs.box aQ 24 [.slice none 0 0,.int .i64 0],Rs.box aI 24 [.slice aV d.ae.length aU,.int .i64 d.loops]]/\i<=2*d.ae.length+1/\ws=iniW (2*d.ae.length+1) i) rfl ?_ ?_
 ·intro au aq
  refine⟨_,⟨0,_,_,rfl,aq.sub ⟨rfl,rfl,rfl,rfl,rfl,rfl,trivial⟩,S3.pick [0,1,2] [_,_,_] (by decide) ⟨rfl,rfl,rfl,trivial⟩,?cd,?dm⟩⟩
  case cd=>omega
  case dm=>rfl
 ·rintro m1 a1 w4 ⟨i,ws,o6,rfl,aY,S4,hi,hw⟩
  clear S3
  refine bX aY (c:=V7) rfl ?_
  clear aY a1
  have Fj:ws.length=2*d.ae.length+1:=by rw[hw,tK]
  refine U2 V6 V5 rfl rfl rfl (U2 Zoc V4 rfl rfl rfl (U0 rfl (ag 0 2 rfl rfl (af 2 rfl (od rfl rfl rfl) (U5 rfl (ah [1,2,4,5,6,7,29] rfl (U3 ?_)))))))
  refine Uf Zoe Zof rfl rfl rfl rfl (fun nS=>?_) (fun nS=>?_)
  ·refine Ue rfl (ah [1,2,4,5,6,7] rfl (U3 (U2 Zog Zoh rfl rfl rfl (Uc Zoi 1 rfl rfl rfl (U0 rfl (ag 0 3 rfl rfl (af 3 rfl (Uj (C:=Uv) (i:=0) i rfl rfl rfl bA S4 rfl (by first|rfl|omega) (by first|omega|(simp only[ls];omega))) ?_)))))))
   refine ak 4 5 rfl rfl rfl (ig (C:=Uv) (i:=0) (e:=i) (j:=0) (us:=[_]) (H':=[_,_,_]) (i:Int) rfl rfl S4 rfl (by first|omega|(simp only[ls];omega)) rfl rfl rfl bg rfl rfl rfl rfl ?_)
   intro w5 S5;clear S4
   refine U5 rfl (bj (ah [1,2,4,5,6,7] rfl (U3 (U0 rfl (ag 0 1 rfl rfl (af 1 rfl (Ug rfl rfl rfl (by first|omega|(simp only[ls];omega))) ?_))))))
   refine ag 2 1 rfl rfl (U5 rfl (aO ?_))
   intro au aq
   refine⟨_,?dQ,⟨i+1,_,_,rfl,aq.sub ⟨rfl,rfl,rfl,rfl,rfl,rfl,trivial⟩,S5.pick [0,1,2] [_,_,_] (by decide) ⟨rfl,rfl,rfl,trivial⟩,?cx,?dC⟩⟩
   case cx=>omega
   case dC=>(rw[hw];rfl)
   case dQ=>omega
  ·refine bP rfl rfl (ah [1,2,4,5,6] rfl (U3 (U2 V3 V2 rfl rfl rfl (U2 Zol Zom rfl rfl rfl (U0 rfl (ag 0 1 rfl rfl (U5 rfl (U3 ?_))))))))
   refine Uc Zon 2 rfl rfl rfl ?_
   refine Ux (fun aS au aM=>∃(r:Nat) (jf:List Int) (lH:Value),aS=2*d.ae.length+1-r/\Env 185 [(1,.slice jq gone.length jo),(2,.pointer (some ⟨aI,0,none⟩)),(4,.pointer (some ⟨aQ,0,none⟩)),(5,.int .i64 (2*(d.ae.length:Int))),(6,lH),(8,.int .i64 (r:Int))] au/\SH aM M X [Rs.row Uv lH jf,Rs.box aQ 24 [.slice none 0 0,.int .i64 0],Rs.box aI 24 [.slice aV d.ae.length aU,.int .i64 d.loops]]/\r<=2*d.ae.length+1/\jf=uL (nk d gs) (nj d gs) (2*d.ae.length+1) (2*gs.length) r) rfl ?_ ?_
   ·intro au aq
    refine⟨_,⟨0,_,_,rfl,aq.sub ⟨rfl,rfl,rfl,rfl,rfl,rfl,trivial⟩,S4.pick [0,1,2] [_,_,_] (by decide) ⟨rfl,rfl,rfl,trivial⟩,?eB,?gu⟩⟩
    case eB=>omega
    case gu=>(obtain rfl:i=2*d.ae.length+1:=(by omega);exact hw)
   ·rintro m2 a2 w6 ⟨r,jf,lH,rfl,cB,S6,hr,hw2⟩
    clear S4
    refine bX cB (c:=VZ) rfl ?_
    clear cB a2
    have hl2:jf.length=2*d.ae.length+1:=by rw[hw2,Cb]
    refine U2 VY VX rfl rfl rfl (U2 Zor VW rfl rfl rfl (U0 rfl (ag 0 2 rfl rfl (af 2 rfl (od rfl rfl rfl) (U5 rfl (ah [1,2,4,5,6,8,38] rfl (U3 ?_)))))))
    refine Uf Zot Zou rfl rfl rfl rfl (fun uU=>?_) (fun uU=>?_)
    ·refine Ue rfl (ah [1,2,4,5,6,8] rfl (U3 (U2 Zov Zow rfl rfl rfl (Uc VU 3 rfl rfl rfl (U2 Zoy Zoz rfl rfl rfl (U0 rfl (ag 0 1 rfl rfl (U5 rfl ?_))))))))
     refine U3 (Uc Zp0 4 rfl rfl rfl ?_)
     refine Ux (fun aS au aM=>∃(i3:Nat) (pR:List Int) (uG:Value),aS=gs.length-i3/\Env 185 [(1,.slice jq gone.length jo),(2,.pointer (some ⟨aI,0,none⟩)),(4,.pointer (some ⟨aQ,0,none⟩)),(5,.int .i64 (2*(d.ae.length:Int))),(6,uG),(8,.int .i64 (r:Int)),(9,.int .i64 (i3:Int))] au/\SH aM M X [Rs.row Uv uG pR,Rs.box aQ 24 [.slice none 0 0,.int .i64 0],Rs.box aI 24 [.slice aV d.ae.length aU,.int .i64 d.loops]]/\i3<=gs.length/\pR=mO (nk d gs) (nj d gs) jf (2*i3)) rfl ?_ ?_
     ·intro au aq
      refine⟨_,⟨0,_,_,rfl,aq.sub ⟨rfl,rfl,rfl,rfl,rfl,rfl,rfl,trivial⟩,S6.pick [0,1,2] [_,_,_] (by decide) ⟨rfl,rfl,rfl,trivial⟩,?eW,?gq⟩⟩
      case eW=>omega
      case gq=>rfl
     ·rintro m3 a3 w7 ⟨i3,pR,uG,rfl,fu,S7,RG,hw3⟩
      clear S6
      refine bX fu (c:=VT) rfl ?_
      clear fu a3
      have hgi:=fun(h:i3<gs.length)=>x5 _ (iB h)
      have hgm:=fun(h:i3<gs.length)=>hgo i3 h
      refine U2 VS VR rfl rfl rfl (U2 Zp4 VQ rfl rfl rfl (U0 rfl (ag 0 2 rfl rfl (af 2 rfl (cU rfl rfl rfl rfl rfl rfl dY) (af 3 rfl (bS rfl rfl rfl) (U5 rfl (ah [1,2,4,5,6,8,9,44] rfl (U3 ?_))))))))
      refine Uf Zp6 Zp7 rfl rfl rfl rfl (fun uT=>?_) (fun uT=>?_)
      ·refine Ue rfl (ah [1,2,4,5,6,8,9] rfl (U3 (U2 Zp8 Zp9 rfl rfl rfl (Uc VP 5 rfl rfl rfl (U2 Zpb Zpc rfl rfl rfl (U0 rfl (ag 0 1 rfl rfl (U5 rfl ?_))))))))
       refine U3 (Uc Zpd 6 rfl rfl rfl ?_)
       refine Ux (fun aS au aM=>∃(k4:Nat) (EY:List Int) (Dp:Value),aS=2-k4/\Env 185 [(1,.slice jq gone.length jo),(2,.pointer (some ⟨aI,0,none⟩)),(4,.pointer (some ⟨aQ,0,none⟩)),(5,.int .i64 (2*(d.ae.length:Int))),(6,Dp),(8,.int .i64 (r:Int)),(9,.int .i64 (i3:Int)),(10,.int .i64 (k4:Int))] au/\SH aM M X [Rs.row Uv Dp EY,Rs.box aQ 24 [.slice none 0 0,.int .i64 0],Rs.box aI 24 [.slice aV d.ae.length aU,.int .i64 d.loops]]/\k4<=2/\EY=mO (nk d gs) (nj d gs) jf (2*i3+k4)) rfl ?_ ?_
       ·intro au aq
        refine⟨_,⟨0,_,_,rfl,aq.sub ⟨rfl,rfl,rfl,rfl,rfl,rfl,rfl,rfl,trivial⟩,S7.pick [0,1,2] [_,_,_] (by decide) ⟨rfl,rfl,rfl,trivial⟩,?fC,?gp⟩⟩
        case fC=>omega
        case gp=>exact hw3
       ·rintro m4 a4 w8 ⟨k4,EY,Dp,rfl,mK,S8,hk4,hw4⟩
        clear S7
        refine bX mK (c:=VO) rfl ?_
        clear mK a4
        have hl4:EY.length=2*d.ae.length+1:=by rw[hw4,aas];exact hl2
        refine U2 VN VM rfl rfl rfl (U2 Zph VL rfl rfl rfl (U0 rfl (ag 0 1 rfl rfl (af 1 rfl (bS rfl rfl rfl) (U5 rfl (ah [1,2,4,5,6,8,9,10,48] rfl (U3 ?_)))))))
        refine Uf Zpj Zpk rfl rfl rfl rfl (fun hb48=>?_) (fun hb48=>?_)
        ·have ael:=hgi (by omega)
         have aek:=hgm (by omega)
         have ayG:=eO hab ael (k:=k4) (by omega)
         have ayF:=eO hab ael (k:=k4+2) (by omega)
         refine Ue rfl (ah [1,2,4,5,6,8,9,10] rfl (U3 (U2 Zpl Zpm rfl rfl rfl (Uc Zpn 7 rfl rfl rfl (bM rfl (by kernel_rfl) S8 19 rfl ?_)))))
         clear S8
         refine ai 0 18 rfl (by kernel_rfl) (fun _=>run_move rfl rfl) ?_
         refine aj 1 17 rfl (by kernel_rfl) (fun _ _ _ hz Sz=>.inl (U8 (us:=[_,_]) rfl rfl ay rfl aA (Sz.suf.aw (i:=2) rfl ⟨rfl,rfl,trivial⟩))) ?_
         refine ai 2 16 rfl (by kernel_rfl) (fun _=>run_move rfl rfl) ?_
         refine ai 3 15 rfl (by kernel_rfl) (fun _=>run_move rfl rfl) ?_
         refine aj 4 14 rfl (by kernel_rfl) (fun _ _ _ hz Sz=>.inl (Ul (C:=Uv) i3 rfl rfl rfl bA (by first|rfl|omega) (iH.mono (Hp.Ua hz Sz.mx)) (by first|omega|(simp only[ls];omega)))) ?_
         refine aj 5 13 rfl (by kernel_rfl) (fun _ _ _ hz Sz=>.inl (U4 rfl rfl av rfl ((iH.mono (Hp.Ua hz Sz.mx)).cell Sz.um (i:=i3) (by first|omega|(simp only[ls];omega)) 0 rfl rfl))) ?_
         refine kg 56 (.int .i64 ((ga gs i3:Nat):Int)) rfl (int_eq aek) (ai 6 12 rfl (by kernel_rfl) (fun _=>run_move rfl rfl) ?_)
         refine aj 7 11 rfl (by kernel_rfl) (fun _ _ _ hz Sz=>.inl (run_build (l:=[_,_]) rfl rfl pN rfl rfl)) ?_
         refine aj 8 10 rfl (by kernel_rfl) (fun _ _ _ hz Sz=>Ur rfl rfl rfl rfl rfl qO Sz (qm d (ga gs i3) k4 ((az.mono (Hp.Ua hz Sz.mx)).mono Sz.Uy) (by omega) (by omega) Sz.aD)) ?_
         refine aj 9 9 rfl (by kernel_rfl) (fun _ _ _ hz Sz=>.inl (U8 (us:=[_,_]) rfl rfl ay rfl aA (Sz.suf.aw (i:=2) rfl ⟨rfl,rfl,trivial⟩))) ?_
         refine ai 10 8 rfl (by kernel_rfl) (fun _=>run_move rfl rfl) ?_
         refine ai 11 7 rfl (by kernel_rfl) (fun _=>run_move rfl rfl) ?_
         refine aj 12 6 rfl (by kernel_rfl) (fun _ _ _ hz Sz=>.inl (Ul (C:=Uv) i3 rfl rfl rfl bA (by first|rfl|omega) (iH.mono (Hp.Ua hz Sz.mx)) (by first|omega|(simp only[ls];omega)))) ?_
         refine aj 13 5 rfl (by kernel_rfl) (fun _ _ _ hz Sz=>.inl (U4 rfl rfl av rfl ((iH.mono (Hp.Ua hz Sz.mx)).cell Sz.um (i:=i3) (by first|omega|(simp only[ls];omega)) 0 rfl rfl))) ?_
         refine kg 64 (.int .i64 ((ga gs i3:Nat):Int)) rfl (int_eq aek) (ai 14 4 rfl (by kernel_rfl) (fun _=>run_move rfl rfl) ?_)
         refine ai 15 3 rfl (by kernel_rfl) (fun _=>Ug rfl rfl rfl (by first|omega|(simp only[ls];omega))) ?_
         refine kg 66 (.int .i64 ((k4+2:Nat):Int)) rfl (int_eq (by omega)) ?_
         refine aj 16 2 rfl (by kernel_rfl) (fun _ _ _ hz Sz=>.inl (run_build (l:=[_,_]) rfl rfl pN rfl rfl)) ?_
         refine aj 17 1 rfl (by kernel_rfl) (fun _ _ _ hz Sz=>Ur rfl rfl rfl rfl rfl qO Sz (qm d (ga gs i3) (k4+2) ((az.mono (Hp.Ua hz Sz.mx)).mono Sz.Uy) (by omega) (by omega) Sz.aD)) ?_
         refine Un (i:=18) 0 rfl (by kernel_rfl) rfl rfl (fun ng dB=>?_)
         refine(jP rfl rfl rfl rfl rfl rfl rfl apk dB (i:=0) rfl (aj6 Dp _ (Uq d (ga gs i3) k4) (Uq d (ga gs i3) (k4+2)) (by omega) (by omega) (dB.iG (i:=0) rfl)) ?_)
         rintro anW q7 _ _-eV ⟨rfl,rfl,rfl⟩;clear dB
         change SH _ _ _ [_,_,_]at eV
         refine aP.turn (by kernel_rfl) eV ?_;clear eV
         change WA _ _ _ _ _ _ _ _ _ _ _ _ [_,_,_]
         refine Uu (by kernel_rfl) (fun vt lq=>?_)
         refine bj (ah [1,2,4,5,6,8,9,10] rfl (U3 (U0 rfl (ag 0 1 rfl rfl (af 1 rfl (Ug rfl rfl rfl (by first|omega|(simp only[ls];omega))) ?_)))))
         refine ag 2 1 rfl rfl (U5 rfl (aO ?_))
         intro au aq
         refine⟨_,?ku,⟨k4+1,_,_,rfl,aq.sub ⟨rfl,rfl,rfl,rfl,rfl,rfl,rfl,rfl,trivial⟩,lq.pick [0,1,2] [_,_,_] (by decide) ⟨rfl,rfl,rfl,trivial⟩,?gW,?iY⟩⟩
         case gW=>omega
         case iY=>(show _=jQ (mO (nk d gs) (nj d gs) jf (2*i3+k4)) (nk d gs (2*i3+k4)) (nj d gs (2*i3+k4));obtain⟨u1,u2⟩:=al3 (d:=d) (gs:=gs) (i:=i3) (k:=k4) (by omega);rw[<-hw4,u1,u2])
         case ku=>omega
        ·refine bP rfl rfl (bj (ah [1,2,4,5,6,8,9] rfl (U3 (U0 rfl (ag 0 1 rfl rfl (af 1 rfl (Ug rfl rfl rfl (by first|omega|(simp only[ls];omega))) ?_))))))
         refine ag 2 1 rfl rfl (U5 rfl (aO ?_))
         intro au aq
         refine⟨_,?lL,⟨i3+1,_,_,rfl,aq.sub ⟨rfl,rfl,rfl,rfl,rfl,rfl,rfl,trivial⟩,S8.pick [0,1,2] [_,_,_] (by decide) ⟨rfl,rfl,rfl,trivial⟩,?iX,?ki⟩⟩
         case iX=>omega
         case ki=>(obtain rfl:k4=2:=(by omega);exact hw4)
         case lL=>omega
      ·refine bP rfl rfl (bj (ah [1,2,4,5,6,8] rfl (U3 (U0 rfl (ag 0 1 rfl rfl (af 1 rfl (Ug rfl rfl rfl (by first|omega|(simp only[ls];omega))) ?_))))))
       refine ag 2 1 rfl rfl (U5 rfl (aO ?_))
       intro au aq
       refine⟨_,?lK,⟨r+1,_,_,rfl,aq.sub ⟨rfl,rfl,rfl,rfl,rfl,rfl,trivial⟩,S7.pick [0,1,2] [_,_,_] (by decide) ⟨rfl,rfl,rfl,trivial⟩,?jC,?lB⟩⟩
       case jC=>omega
       case lB=>(obtain rfl:i3=gs.length:=(by omega);rw[hw3,hw2];rfl)
       case lK=>omega
    ·refine bP rfl rfl (ah [1,2,4,5,6] rfl (U3 (U2 Zpo VK rfl rfl rfl ?_)))
     obtain rfl:r=2*d.ae.length+1:=by omega
     have mB:jf=tC d (bh gs):=by rw[hw2];exact akL hab x5
     have hok:∀x,x<2*d.ae.length+1->0<=ga jf x/\ga jf x<=x/\ga jf (ga jf x).toNat=ga jf x:=by rw[mB];exact(wL hab (bh gs) _ (Nat.le_refl _)).2
     have hl2:jf.length=2*d.ae.length+1:=by rw[mB];exact GD _ _ _
     clear hw2
     obtain⟨cl,rfl⟩:∃cl,cl=jf:=⟨_,rfl⟩
     obtain⟨oc,nQ⟩:∃oc,oc=tR d (bh gs):=⟨_,rfl⟩
     refine U0 rfl (ag 0 1 rfl rfl (af 1 rfl (Ug rfl rfl rfl (by first|omega|(simp only[ls];omega))) ?_))
     refine ak 2 3 rfl rfl rfl (qj (C:=ib) ((2*(d.ae.length:Int)).toNat+1) rfl rfl rfl rfl rfl nL (by first|rfl|omega) (by show _*1<=_;first|omega|(simp only[ls];omega)) S6 ?_)
     intro Fe vq fX;clear S6
     refine ag 3 1 rfl rfl (U5 rfl (ah [1,2,4,5,6,11] rfl (U3 (U2 Zpq VJ rfl rfl rfl (U0 rfl (af 0 rfl (U1 rfl rfl ay rfl (aC) (aB)) (af 1 rfl (U4 rfl rfl av rfl (fX.ar (i:=3) rfl rfl)) (cy 74 (.int .i64 (d.loops+(cn (fh cl oc) (0+1):Int))) rfl (int_eq (by rw[show cn (fh cl oc) (0+1)=0 from rfl];omega)) ?_))))))))
     refine af 2 rfl (run_build (l:=[_,_]) rfl rfl dI rfl rfl) (ak 3 4 rfl rfl rfl (Uh (l:=[_,_]) rfl rfl rfl fR rfl fX ?_))
     intro bz Rk mj;clear fX
     refine ak 4 5 rfl rfl rfl (U6 (i:=0) (us:=[_,_]) (l':=[_,_]) (H':=[_,_,_,_,_]) rfl rfl mj rfl rfl rfl rfl aA rfl rfl rfl rfl ?_)
     intro vp gL;clear mj
     refine U5 rfl (ah [1,2,4,5,6,11,12] rfl (U3 (U2 VI VH rfl rfl rfl (U2 Zpu Zpv rfl rfl rfl (U0 rfl (ag 0 1 rfl rfl (U5 rfl (U3 ?_))))))))
     refine Uc Zpw 8 rfl rfl rfl ?_
     refine Ux (fun aS au aM=>∃(i2:Nat) (th:List Bool) (AJ:Value),aS=d.ae.length-i2/\Env 185 [(1,.slice jq gone.length jo),(2,.pointer (some ⟨aI,0,none⟩)),(4,.pointer (some ⟨aQ,0,none⟩)),(5,.int .i64 (2*(d.ae.length:Int))),(6,lH),(11,AJ),(12,.pointer (some ⟨bz,0,none⟩)),(13,.int .i64 (i2:Int))] au/\SH aM M X [Rs.box bz 24 [.slice none 0 0,.int .i64 (d.loops+(cn (fh cl oc) (0+1):Int))],Rs.row ib AJ th,Rs.row Uv lH cl,Rs.box aQ 24 [.slice none 0 0,.int .i64 0],Rs.box aI 24 [.slice aV d.ae.length aU,.int .i64 d.loops]]/\i2<=d.ae.length/\th.length=2*d.ae.length+1/\(∀x,x<2*d.ae.length+1->ga th x=jV cl (tRN d (bh gs) i2) (x:Int))) rfl ?_ ?_
     ·intro au aq
      refine⟨_,⟨0,_,_,rfl,aq.sub ⟨rfl,rfl,rfl,rfl,rfl,rfl,rfl,rfl,trivial⟩,gL.pick [0,1,2,3,4] [_,_,_,_,_] (by decide) ⟨rfl,rfl,rfl,rfl,rfl,trivial⟩,?uz,?zo,?ame⟩⟩
      case uz=>omega
      case zo=>(rw[List.length_replicate];omega)
      case ame=>(intro x hx;rw[wO _ _ _ (by omega)];rfl)
     ·rintro m5 a5 pS ⟨i2,th,AJ,rfl,Bi,dX,hi2,htl,AV⟩
      clear gL
      refine bX Bi (c:=VG) rfl ?_
      clear Bi a5
      have DG:=hcg i2
      refine U2 VF VE rfl rfl rfl (U2 Zq0 VD rfl rfl rfl (U0 rfl (ag 0 1 rfl rfl (af 1 rfl (U1 rfl rfl ay rfl (bK) (bJ)) (af 2 rfl (U4 rfl rfl bt rfl (dX.ar (i:=4) rfl rfl)) (af 3 rfl (cU rfl rfl rfl rfl rfl rfl bt) (af 4 rfl (bS rfl rfl rfl) (U5 rfl ?_))))))))
      refine ah [1,2,4,5,6,11,12,13,80] rfl (U3 ?_)
      refine Uf Zq2 Zq3 rfl rfl rfl rfl (fun aoV=>?_) (fun aoV=>?_)
      ·refine Ue rfl (ah [1,2,4,5,6,11,12,13] rfl (U3 (U2 Zq4 Zq5 rfl rfl rfl (Uc VC 9 rfl rfl rfl (U2 Zq7 VB rfl rfl rfl (U0 rfl (ag 0 2 rfl rfl (ak 2 3 rfl rfl rfl (cS rfl rfl rfl rfl rfl rfl rfl aeL dX (aa9 gone (i2:Int) (iH.mono dX.Uy) dX.aD) ?_)))))))))
       rintro _ xS fQ rfl;clear dX
       refine af 3 rfl (dS rfl rfl) (U5 rfl (ah [1,2,4,5,6,11,12,13,86] rfl (U3 ?_)))
       refine dN VA Zqa rfl rfl rfl rfl (fun uQ=>?_) (fun uQ=>?_)
       ·simp only[Bool.and_eq_true,Bool.or_eq_true,Bool.and_eq_false_iff,Bool.or_eq_false_iff,decide_eq_true_eq,decide_eq_false_iff_not,Bool.not_eq_true',Bool.not_eq_false']at uQ
        refine U2 Zqb Zqc rfl rfl rfl (U0 rfl (ag 0 1 rfl rfl (U5 rfl (ah [1,2,4,5,6,11,12,13,14] rfl (U3 (Uc Zqd 10 rfl rfl rfl ?_))))))
        refine Ux (fun aS au aM=>∃(s3:Nat) (tc:List Bool) (IL:Value),aS=4-s3/\Env 185 [(1,.slice jq gone.length jo),(2,.pointer (some ⟨aI,0,none⟩)),(4,.pointer (some ⟨aQ,0,none⟩)),(5,.int .i64 (2*(d.ae.length:Int))),(6,lH),(11,IL),(12,.pointer (some ⟨bz,0,none⟩)),(13,.int .i64 (i2:Int)),(14,.int .i64 (s3:Int))] au/\SH aM M X [Rs.box bz 24 [.slice none 0 0,.int .i64 (d.loops+(cn (fh cl oc) (0+1):Int))],Rs.row ib IL tc,Rs.row Uv lH cl,Rs.box aQ 24 [.slice none 0 0,.int .i64 0],Rs.box aI 24 [.slice aV d.ae.length aU,.int .i64 d.loops]]/\s3<=4/\tc.length=2*d.ae.length+1/\(∀x,x<2*d.ae.length+1->ga tc x=(jV cl (tRN d (bh gs) i2) (x:Int)||lf1 cl (ga d.ae i2) s3 (x:Int)))) rfl ?_ ?_
        ·intro au aq
         refine⟨_,⟨0,_,_,rfl,aq.sub ⟨rfl,rfl,rfl,rfl,rfl,rfl,rfl,rfl,rfl,trivial⟩,fQ.pick [0,1,2,3,4] [_,_,_,_,_] (by decide) ⟨rfl,rfl,rfl,rfl,rfl,trivial⟩,?ze,?Hv,?Hu⟩⟩
         case ze=>omega
         case Hv=>exact htl
         case Hu=>(intro x hx;rw[lf1,Bool.or_false];exact AV x hx)
        ·rintro m6 a6 tq ⟨s3,tc,IL,rfl,Bh,iW,hs3,aok,Ry⟩
         clear fQ
         refine bX Bh (c:=Vz) rfl ?_
         clear Bh a6
         have apb:=fun h=>eO hab (i:=i2) (by omega) (k:=s3) h
         refine U2 Vy Vx rfl rfl rfl (U2 Zqh Vw rfl rfl rfl (U0 rfl (ag 0 1 rfl rfl (af 1 rfl (bS rfl rfl rfl) (U5 rfl (ah [1,2,4,5,6,11,12,13,14,88] rfl (U3 ?_)))))))
         refine Uf Zqj Zqk rfl rfl rfl rfl (fun aoU=>?_) (fun aoU=>?_)
         ·refine Ue rfl (ah [1,2,4,5,6,11,12,13,14] rfl (U3 (U2 Zql Zqm rfl rfl rfl (Uc Zqn 11 rfl rfl rfl ?_))))
          have aw5:=apb (by omega)
          have gN:=hok (Uq d i2 s3).toNat (by omega)
          refine U0 rfl (ag 0 2 rfl rfl (af 2 rfl (U8 (us:=[_,_]) rfl rfl ay rfl aA (iW.aw (i:=4) rfl ⟨rfl,rfl,trivial⟩)) (ag 3 2 rfl rfl (af 5 rfl (run_build (l:=[_,_]) rfl rfl pN rfl rfl) (ak 6 7 rfl rfl rfl (cS rfl rfl rfl rfl rfl rfl rfl qO iW (qm d i2 s3 (az.mono iW.Uy) (by omega) (by omega) iW.aD) ?_))))))
          rintro _ E7 kJ rfl;clear iW
          refine af 7 rfl (Uj (C:=Uv) (i:=2) ((Uq d i2 s3).toNat) rfl rfl rfl bA kJ rfl (by first|rfl|omega) (by first|omega|(simp only[ls];omega))) ?_
          refine af 8 rfl (U4 rfl rfl av rfl (kJ.dW (i:=2) (e:=(Uq d i2 s3).toNat) (j:=0) rfl (by first|omega|(simp only[ls];omega)) rfl rfl)) ?_
          refine af 9 rfl (Uj (C:=ib) (i:=1) ((ga cl ((Uq d i2 s3).toNat)).toNat) rfl rfl rfl nL kJ rfl (by first|rfl|omega) (by first|omega|(simp only[ls];omega))) ?_
          refine ak 10 11 rfl rfl rfl (ig (C:=ib) (i:=1) (e:=(ga cl ((Uq d i2 s3).toNat)).toNat) (j:=0) (us:=[_]) (H':=[_,_,_,_,_]) true rfl rfl kJ rfl (by first|omega|(simp only[ls];omega)) rfl rfl rfl xU rfl rfl rfl rfl ?_)
          intro E6 mS;clear kJ
          refine U5 rfl (bj (ah [1,2,4,5,6,11,12,13,14] rfl (U3 (U0 rfl (ag 0 1 rfl rfl (af 1 rfl (Ug rfl rfl rfl (by first|omega|(simp only[ls];omega))) ?_))))))
          refine ag 2 1 rfl rfl (U5 rfl (aO ?_))
          intro au aq
          refine⟨_,?amD,⟨s3+1,_,_,rfl,aq.sub ⟨rfl,rfl,rfl,rfl,rfl,rfl,rfl,rfl,rfl,trivial⟩,mS.pick [0,1,2,3,4] [_,_,_,_,_] (by decide) ⟨rfl,rfl,rfl,rfl,rfl,trivial⟩,?zb,?Ht,?alh⟩⟩
          case zb=>omega
          case Ht=>simpa using aok
          case alh=>(intro x hx;have hq:=Ry x hx;rw[eU _ _ _ _ (by omega),lf1];by_cases e9:(x:Int)=ga cl (cK (ga d.ae i2) s3).toNat;(rw[if_pos (show(ga cl (Uq d i2 s3).toNat).toNat=x by unfold Uq;omega)];simp[e9]);(rw[if_neg (show¬(ga cl (Uq d i2 s3).toNat).toNat=x by(unfold Uq at*;omega)),hq];simp[e9]))
          case amD=>omega
         ·refine bP rfl rfl (bj (ah [1,2,4,5,6,11,12,13] rfl (U3 (U0 rfl (ag 0 1 rfl rfl (af 1 rfl (Ug rfl rfl rfl (by first|omega|(simp only[ls];omega))) ?_))))))
          refine ag 2 1 rfl rfl (U5 rfl (aO ?_))
          intro au aq
          refine⟨_,?amC,⟨i2+1,_,_,rfl,aq.sub ⟨rfl,rfl,rfl,rfl,rfl,rfl,rfl,rfl,trivial⟩,iW.pick [0,1,2,3,4] [_,_,_,_,_] (by decide) ⟨rfl,rfl,rfl,rfl,rfl,trivial⟩,?za,?Hr,?alg⟩⟩
          case za=>omega
          case Hr=>assumption
          case alg=>first|(intro x hx;rw[tRN,if_pos (by rw[<-DG];simpa using uQ)];exact AV x hx)|(intro x hx;rw[tRN,if_neg (by rw[<-DG];simpa using uQ),Gn,Ry x hx,show s3=4 by omega])
          case amC=>omega
       ·simp only[Bool.and_eq_true,Bool.or_eq_true,Bool.and_eq_false_iff,Bool.or_eq_false_iff,decide_eq_true_eq,decide_eq_false_iff_not,Bool.not_eq_true',Bool.not_eq_false']at uQ
        refine Ue rfl (bj (ah [1,2,4,5,6,11,12,13] rfl (U3 (U0 rfl (ag 0 1 rfl rfl (af 1 rfl (Ug rfl rfl rfl (by first|omega|(simp only[ls];omega))) ?_))))))
        refine ag 2 1 rfl rfl (U5 rfl (aO ?_))
        intro au aq
        refine⟨_,?Io,⟨i2+1,_,_,rfl,aq.sub ⟨rfl,rfl,rfl,rfl,rfl,rfl,rfl,rfl,trivial⟩,fQ.pick [0,1,2,3,4] [_,_,_,_,_] (by decide) ⟨rfl,rfl,rfl,rfl,rfl,trivial⟩,?y9,?Hq,?alf⟩⟩
        case y9=>omega
        case Hq=>assumption
        case alf=>first|(intro x hx;rw[tRN,if_pos (by rw[<-DG];simpa using uQ)];exact AV x hx)|(intro x hx;rw[tRN,if_neg (by rw[<-DG];simpa using uQ),Gn,Ry x hx,show s3=4 by omega])
        case Io=>omega
      ·refine bP rfl rfl (ah [1,2,4,5,6,11,12] rfl (U3 (U2 Zqo Vv rfl rfl rfl ?_)))
       obtain rfl:i2=d.ae.length:=by omega
       have hlf:∀x,x<2*d.ae.length+1->ga th x=jV cl oc (x:Int):=fun x hx=>by rw[nQ];exact AV x hx
       clear AV
       refine U0 rfl (ag 0 1 rfl rfl (af 1 rfl (Ug rfl rfl rfl (by first|omega|(simp only[ls];omega))) ?_))
       refine ak 2 3 rfl rfl rfl (qj (C:=Uv) ((2*(d.ae.length:Int)).toNat+1) rfl rfl rfl rfl rfl bA (by first|rfl|omega) (by show _*8<=_;first|omega|(simp only[ls];omega)) dX ?_)
       intro Rq AF mh;clear dX
       refine ag 3 1 rfl rfl (U5 rfl (ah [1,2,4,5,6,11,12,15] rfl (U3 (U2 Zqq Vu rfl rfl rfl (U0 rfl (ag 0 1 rfl rfl (U5 rfl (U3 ?_))))))))
       refine U2 Vt Vs rfl rfl rfl (U2 Zqu Zqv rfl rfl rfl (U0 rfl (ag 0 1 rfl rfl (U5 rfl (U3 (Uc Zqw 12 rfl rfl rfl ?_))))))
       refine Ux (fun aS au aM=>∃(x6:Nat) (nu:List Int) (ra:Value),aS=2*d.ae.length-x6/\Env 185 [(1,.slice jq gone.length jo),(2,.pointer (some ⟨aI,0,none⟩)),(4,.pointer (some ⟨aQ,0,none⟩)),(5,.int .i64 (2*(d.ae.length:Int))),(6,lH),(11,AJ),(12,.pointer (some ⟨bz,0,none⟩)),(15,ra),(16,.int .i64 ((cn (dZ cl oc) (x6+1)+1:Nat):Int)),(17,.int .i64 ((x6+1:Nat):Int))] au/\SH aM M X [Rs.row Uv ra nu,Rs.box bz 24 [.slice none 0 0,.int .i64 (d.loops+(cn (fh cl oc) (x6+1):Int))],Rs.row ib AJ th,Rs.row Uv lH cl,Rs.box aQ 24 [.slice none 0 0,.int .i64 0],Rs.box aI 24 [.slice aV d.ae.length aU,.int .i64 d.loops]]/\x6<=2*d.ae.length/\nu.length=2*d.ae.length+1/\(∀x,x<x6+1->dZ cl oc x=true->ga nu x=(cn (dZ cl oc) (x+1):Int))) rfl ?_ ?_
       ·intro au aq
        refine⟨_,⟨0,_,_,rfl,aq.sub ⟨rfl,rfl,rfl,rfl,rfl,rfl,rfl,rfl,rfl,rfl,trivial⟩,mh.pick [0,1,2,3,4,5] [_,_,_,_,_,_] (by decide) ⟨rfl,rfl,rfl,rfl,rfl,rfl,trivial⟩,?y8,?Ho,?ale⟩⟩
        case y8=>omega
        case Ho=>(rw[List.length_replicate];omega)
        case ale=>(intro x hx h9;obtain rfl:x=0:=(by omega);cases h9)
       ·rintro m7 a7 xR ⟨x6,nu,ra,rfl,Bg,dV,ha6,hnl,kC⟩
        clear mh
        refine bX Bg (c:=Vr) rfl ?_
        clear Bg a7
        have aoT:=wY (dZ cl oc) (x6+1)
        have aoS:=wY (fh cl oc) (x6+1)
        have aoy:=fun h=>hok (x6+1) h
        refine U2 Vq Vp rfl rfl rfl (U2 Zr0 Vo rfl rfl rfl (U0 rfl (ag 0 2 rfl rfl (af 2 rfl (od rfl rfl rfl) (U5 rfl (ah [1,2,4,5,6,11,12,15,16,17,106] rfl (U3 ?_)))))))
        refine Uf Zr2 Zr3 rfl rfl rfl rfl (fun amS=>?_) (fun amS=>?_)
        ·refine Ue rfl (ah [1,2,4,5,6,11,12,15,16,17] rfl (U3 (U2 Zr4 Zr5 rfl rfl rfl (Uc Vn 13 rfl rfl rfl (U2 Zr7 Vm rfl rfl rfl (U0 rfl (ag 0 2 rfl rfl (af 2 rfl (Uj (C:=ib) (i:=2) (x6+1) rfl rfl rfl nL dV rfl (by first|rfl|omega) (by first|omega|(simp only[ls];omega))) ?_))))))))
         refine af 3 rfl (U4 rfl rfl dL rfl (dV.dW (i:=2) (e:=x6+1) (j:=0) rfl (by first|omega|(simp only[ls];omega)) rfl rfl)) ?_
         refine U5 rfl (ah [1,2,4,5,6,11,12,15,16,17,112] rfl (U3 ?_))
         refine dN Vl Vk rfl rfl rfl rfl (fun qw=>?_) (fun qw=>?_)
         ·have hlx:=hlf (x6+1) (by omega)
          obtain⟨hq1,hq2,AX⟩:=aiF hab (gn:=bh gs) (x:=x6+1) (by rw[<-mB,<-nQ,<-hlx];exact qw)
          rw[<-mB]at AX
          have hrt:dZ cl oc (x6+1)=true:=by unfold dZ;rw[decide_eq_true AX,<-hlx];simp;exact qw
          have hlo:fh cl oc (x6+1)=false:=by unfold fh;rw[<-hlx];simp;intro _;exact qw
          refine U2 Zrb Zrc rfl rfl rfl (U0 rfl (ag 0 3 rfl rfl (af 3 rfl (Uj (C:=Uv) (i:=0) (x6+1) rfl rfl rfl bA dV rfl (by first|rfl|omega) (by first|omega|(simp only[ls];omega))) ?_)))
          refine ak 4 5 rfl rfl rfl (ig (C:=Uv) (i:=0) (e:=x6+1) (j:=0) (us:=[_]) (H':=[_,_,_,_,_,_]) ((cn (dZ cl oc) (x6+1)+1:Nat):Int) rfl rfl dV rfl (by first|omega|(simp only[ls];omega)) rfl rfl rfl bg rfl rfl rfl rfl ?_)
          intro xQ il;clear dV
          refine U5 rfl (ah [1,2,4,5,6,11,12,15,16,17] rfl (U3 (U0 rfl (ag 0 1 rfl rfl (af 1 rfl (Ug rfl rfl rfl (by first|omega|(simp only[ls];omega))) ?_)))))
          refine ag 2 1 rfl rfl (U5 rfl (bj (ah [1,2,4,5,6,11,12,15,16,17] rfl (U3 (kf 16 (.int .i64 ((cn (dZ cl oc) (x6+1+1)+1:Nat):Int)) rfl (int_eq (by rw[oz hrt];omega)) ?_)))))
          rw[<-sD hlo]at il
          refine U0 rfl (ag 0 1 rfl rfl (af 1 rfl (Ug rfl rfl rfl (by first|omega|(simp only[ls];omega))) ?_))
          refine ag 2 1 rfl rfl (U5 rfl (aO ?_))
          intro au aq
          refine⟨_,?amA,⟨x6+1,_,_,rfl,aq.sub ⟨rfl,rfl,rfl,rfl,rfl,rfl,rfl,rfl,rfl,rfl,trivial⟩,il.pick [0,1,2,3,4,5] [_,_,_,_,_,_] (by decide) ⟨rfl,rfl,rfl,rfl,rfl,rfl,trivial⟩,?y7,?Hn,?Hm⟩⟩
          case y7=>omega
          case Hn=>first|assumption|simpa using hnl
          case Hm=>first|(intro x hx h9;by_cases e:x=x6+1;(subst e;rw[eU _ _ _ _ (by omega),if_pos rfl,oz h9]);(rw[eU _ _ _ _ (by omega),if_neg (fun h=>e h.symm)];exact kC x (by omega) h9))|(intro x hx h9;by_cases e:x=x6+1;(subst e;rw[hrt]at h9;cases h9);exact kC x (by omega) h9)
          case amA=>omega
         ·refine U2 Zrd Vj rfl rfl rfl (U0 rfl (ag 0 2 rfl rfl (af 2 rfl (Uj (C:=Uv) (i:=3) (x6+1) rfl rfl rfl bA dV rfl (by first|rfl|omega) (by first|omega|(simp only[ls];omega))) ?_)))
          refine af 3 rfl (U4 rfl rfl av rfl (dV.dW (i:=3) (e:=x6+1) (j:=0) rfl (by first|omega|(simp only[ls];omega)) rfl rfl)) ?_
          refine ag 4 1 rfl rfl (af 5 rfl (bR rfl rfl rfl) (U5 rfl (ah [1,2,4,5,6,11,12,15,16,17,124] rfl (U3 ?_))))
          refine Uf Zrf Zrg rfl rfl rfl rfl (fun Ir=>?_) (fun Ir=>?_)
          ·have hlx:=hlf (x6+1) (by omega)
           have hrt:dZ cl oc (x6+1)=false:=by unfold dZ;rw[<-hlx];simp;intro _;exact qw
           have hlo:fh cl oc (x6+1)=true:=by unfold fh;rw[decide_eq_true (show ga cl (x6+1)=((x6+1:Nat):Int)from Ir),<-hlx];simp;exact qw
           refine U0 rfl (af 0 rfl (U1 rfl rfl ay rfl (aC) (aB)) (af 1 rfl (U4 rfl rfl av rfl (dV.ar (i:=1) rfl rfl)) (af 2 rfl (Ug rfl rfl rfl (by first|omega|(simp only[ls];omega))) ?_)))
           refine af 3 rfl (U1 rfl rfl ay rfl (aC) (aB)) (ak 4 5 rfl rfl rfl (U6 (i:=1) (us:=[_]) (l':=[_,_]) (H':=[_,_,_,_,_,_]) rfl rfl dV rfl rfl rfl rfl bg rfl rfl rfl rfl ?_))
           intro xP jA;clear dV
           refine U5 rfl (bj (ah [1,2,4,5,6,11,12,15,16,17] rfl (U3 (kf 16 (.int .i64 ((cn (dZ cl oc) (x6+1+1)+1:Nat):Int)) rfl (int_eq (by rw[sD hrt])) ?_))))
           rw[aio,<-oz hlo]at jA
           refine U0 rfl (ag 0 1 rfl rfl (af 1 rfl (Ug rfl rfl rfl (by first|omega|(simp only[ls];omega))) ?_))
           refine ag 2 1 rfl rfl (U5 rfl (aO ?_))
           intro au aq
           refine⟨_,?Im,⟨x6+1,_,_,rfl,aq.sub ⟨rfl,rfl,rfl,rfl,rfl,rfl,rfl,rfl,rfl,rfl,trivial⟩,jA.pick [0,1,2,3,4,5] [_,_,_,_,_,_] (by decide) ⟨rfl,rfl,rfl,rfl,rfl,rfl,trivial⟩,?y5,?Hl,?Hk⟩⟩
           case y5=>omega
           case Hl=>first|assumption|simpa using hnl
           case Hk=>first|(intro x hx h9;by_cases e:x=x6+1;(subst e;rw[eU _ _ _ _ (by omega),if_pos rfl,oz h9]);(rw[eU _ _ _ _ (by omega),if_neg (fun h=>e h.symm)];exact kC x (by omega) h9))|(intro x hx h9;by_cases e:x=x6+1;(subst e;rw[hrt]at h9;cases h9);exact kC x (by omega) h9)
           case Im=>omega
          ·have hlx:=hlf (x6+1) (by omega)
           have hrt:dZ cl oc (x6+1)=false:=by unfold dZ;rw[<-hlx];simp;intro _;exact qw
           have hlo:fh cl oc (x6+1)=false:=by unfold fh;rw[decide_eq_false (show¬ga cl (x6+1)=((x6+1:Nat):Int)from Ir)];simp
           refine Ue rfl (bj (ah [1,2,4,5,6,11,12,15,16,17] rfl (U3 (kf 16 (.int .i64 ((cn (dZ cl oc) (x6+1+1)+1:Nat):Int)) rfl (int_eq (by rw[sD hrt])) ?_))))
           rw[<-sD hlo]at dV
           refine U0 rfl (ag 0 1 rfl rfl (af 1 rfl (Ug rfl rfl rfl (by first|omega|(simp only[ls];omega))) ?_))
           refine ag 2 1 rfl rfl (U5 rfl (aO ?_))
           intro au aq
           refine⟨_,?Il,⟨x6+1,_,_,rfl,aq.sub ⟨rfl,rfl,rfl,rfl,rfl,rfl,rfl,rfl,rfl,rfl,trivial⟩,dV.pick [0,1,2,3,4,5] [_,_,_,_,_,_] (by decide) ⟨rfl,rfl,rfl,rfl,rfl,rfl,trivial⟩,?Hj,?Hi,?Hh⟩⟩
           case Hj=>omega
           case Hi=>first|assumption|simpa using hnl
           case Hh=>first|(intro x hx h9;by_cases e:x=x6+1;(subst e;rw[eU _ _ _ _ (by omega),if_pos rfl,oz h9]);(rw[eU _ _ _ _ (by omega),if_neg (fun h=>e h.symm)];exact kC x (by omega) h9))|(intro x hx h9;by_cases e:x=x6+1;(subst e;rw[hrt]at h9;cases h9);exact kC x (by omega) h9)
           case Il=>omega
        ·refine bP rfl rfl (ah [1,2,4,6,12,15] rfl (U3 (U2 Vi Vh rfl rfl rfl (U2 Zrj Zrk rfl rfl rfl ?_))))
         obtain rfl:x6=2*d.ae.length:=by omega
         refine U0 rfl (ag 0 1 rfl rfl (U5 rfl (U3 (Uc Zrl 14 rfl rfl rfl ?_))))
         have pJ:=dV.nH aF;clear dV
         refine Ux (fun aS au aM=>∃(i5:Nat) (c5:List Cr) (Fb:Value),aS=d.ae.length-i5/\Env 185 [(1,.slice jq gone.length jo),(2,.pointer (some ⟨aI,0,none⟩)),(4,.pointer (some ⟨aQ,0,none⟩)),(6,lH),(12,.pointer (some ⟨bz,0,none⟩)),(15,ra),(18,.int .i64 (i5:Int))] au/\SH aM M X [Rs.row aF Fb c5,Rs.row Uv ra nu,Rs.box bz 24 [Fb,.int .i64 (d.loops+(cn (fh cl oc) (2*d.ae.length+1):Int))],Rs.row Uv lH cl,Rs.box aQ 24 [.slice none 0 0,.int .i64 0],Rs.box aI 24 [.slice aV d.ae.length aU,.int .i64 d.loops]]/\i5<=d.ae.length/\c5=(tRN d (bh gs) i5).map (xX cl oc)) rfl ?_ ?_
         ·intro au aq
          refine⟨_,⟨0,_,_,rfl,aq.sub ⟨rfl,rfl,rfl,rfl,rfl,rfl,rfl,trivial⟩,pJ.pick [0,1,2,4,5,6] [_,_,_,_,_,_] (by decide) ⟨rfl,rfl,rfl,rfl,rfl,rfl,trivial⟩,?Hg,?Hf⟩⟩
          case Hg=>omega
          case Hf=>rfl
         ·rintro m8 a8 AE ⟨i5,c5,Fb,rfl,Bf,ik,hi5,x8⟩
          clear pJ
          refine bX Bf (c:=Vg) rfl ?_
          clear Bf a8
          have ayB:c5.length<=i5:=by rw[x8,List.length_map];exact GA _ _ _
          have zP:=hcg i5
          refine U2 Vf Ve rfl rfl rfl (U2 Zrp Vd rfl rfl rfl (U0 rfl (ag 0 1 rfl rfl (af 1 rfl (U1 rfl rfl ay rfl (bK) (bJ)) (af 2 rfl (U4 rfl rfl bt rfl (ik.ar (i:=5) rfl rfl)) (af 3 rfl (cU rfl rfl rfl rfl rfl rfl bt) (af 4 rfl (bS rfl rfl rfl) (U5 rfl ?_))))))))
          refine ah [1,2,4,6,12,15,18,133] rfl (U3 ?_)
          refine Uf Zrr Zrs rfl rfl rfl rfl (fun amP=>?_) (fun amP=>?_)
          ·refine Ue rfl (ah [1,2,4,6,12,15,18] rfl (U3 (U2 Zrt Zru rfl rfl rfl (Uc Vc 15 rfl rfl rfl (U2 Vb Va rfl rfl rfl (U2 Zry UZ rfl rfl rfl (U0 rfl (ag 0 2 rfl rfl ?_))))))))
           refine ak 2 3 rfl rfl rfl (cS rfl rfl rfl rfl rfl rfl rfl aeL ik (aa9 gone (i5:Int) (iH.mono ik.Uy) ik.aD) ?_)
           rintro _ E5 fW rfl;clear ik
           refine U5 rfl (ah [1,2,4,6,12,15,18,138] rfl (U3 ?_))
           refine dN Zs0 Zs1 rfl rfl rfl rfl (fun wX=>?_) (fun wX=>?_)
           ·refine bP rfl rfl (ah [1,2,4,6,12,15,18] rfl (U3 (U0 rfl (ag 0 1 rfl rfl (af 1 rfl (Ug rfl rfl rfl (by first|omega|(simp only[ls];omega))) ?_)))))
            refine ag 2 1 rfl rfl (U5 rfl (aO ?_))
            intro au aq
            refine⟨_,?amy,⟨i5+1,_,_,rfl,aq.sub ⟨rfl,rfl,rfl,rfl,rfl,rfl,rfl,trivial⟩,fW.pick [0,1,2,3,4,5] [_,_,_,_,_,_] (by decide) ⟨rfl,rfl,rfl,rfl,rfl,rfl,trivial⟩,?He,?Hd⟩⟩
            case He=>omega
            case Hd=>first|(rw[tRN,if_pos (by rw[<-zP];simpa using wX)];exact x8)|(rw[tRN,if_neg (by rw[<-zP];simpa using wX),List.map_append,<-x8];refine congrArg _ ?_;show[(⟨ga nu (ga cl (cK (ga d.ae i5) 0).toNat).toNat,ga nu (ga cl (cK (ga d.ae i5) 1).toNat).toNat,ga nu (ga cl (cK (ga d.ae i5) 2).toNat).toNat,ga nu (ga cl (cK (ga d.ae i5) 3).toNat).toNat,(ga d.ae i5).plus⟩:Cr)]=_;rw[nr 0 (by omega),nr 1 (by omega),nr 2 (by omega),nr 3 (by omega)];rfl)
            case amy=>omega
           ·have oH:ga d.ae i5∈tR d (bh gs):=H0 (by omega) (by rw[<-zP];simpa using wX)
            have alc:1<=(ga d.ae i5).a/\(ga d.ae i5).a<=2*(d.ae.length:Int):=ow hab (Nat.le_refl _) oH (s:=0) (by omega)
            obtain⟨aow,aos,_⟩:=hok (ga d.ae i5).a.toNat (by omega)
            have alb:1<=(ga d.ae i5).b/\(ga d.ae i5).b<=2*(d.ae.length:Int):=ow hab (Nat.le_refl _) oH (s:=1) (by omega)
            obtain⟨aov,aor,_⟩:=hok (ga d.ae i5).b.toNat (by omega)
            have ala:1<=(ga d.ae i5).c/\(ga d.ae i5).c<=2*(d.ae.length:Int):=ow hab (Nat.le_refl _) oH (s:=2) (by omega)
            obtain⟨aou,aoq,_⟩:=hok (ga d.ae i5).c.toNat (by omega)
            have ak9:1<=(ga d.ae i5).d/\(ga d.ae i5).d<=2*(d.ae.length:Int):=ow hab (Nat.le_refl _) oH (s:=3) (by omega)
            obtain⟨aot,aop,_⟩:=hok (ga d.ae i5).d.toNat (by omega)
            have nr:∀s,s<4->ga nu (ga cl (cK (ga d.ae i5) s).toNat).toNat=pT cl oc (cK (ga d.ae i5) s):=fun s hs=>by
             have:=adb hab (nu:=nu) (by rw[<-mB,<-nQ];exact kC) oH hs
             rw[<-mB,<-nQ]at this
             exact this
            refine Ue rfl (ah [1,2,4,6,12,15,18] rfl (U3 (U2 Zs2 Zs3 rfl rfl rfl (U0 rfl (af 0 rfl (U1 rfl rfl ay rfl (bK) (bJ)) (af 1 rfl (U4 rfl rfl bt rfl (fW.ar (i:=5) rfl rfl)) (ag 2 1 rfl rfl (af 3 rfl (Ul (C:=aF) i5 rfl rfl rfl cD (by first|rfl|omega) az (by first|omega|(simp only[ls];omega))) ?_))))))))
            refine af 4 rfl (U8 (us:=[_,_,_,_,_]) rfl rfl aW rfl cg (az.fU fW.um (e:=i5) (by first|omega|(simp only[ls];omega)) (j:=0) ⟨rfl,rfl,rfl,rfl,rfl,trivial⟩)) ?_
            refine ak 5 6 rfl rfl rfl (Uh (l:=[_,_,_,_,_]) rfl rfl rfl lG rfl fW ?_)
            intro gZ xO jm;clear fW
            refine ak 6 7 rfl rfl rfl (U6 (i:=0) (us:=[_,_,_,_,_]) (l':=[_,_,_,_,_]) (H':=[_,_,_,_,_,_,_]) rfl rfl jm rfl rfl rfl rfl cg rfl rfl rfl rfl ?_)
            intro Rj kI;clear jm
            refine U5 rfl (ah [1,2,4,6,12,15,18,19] rfl (U3 (bM rfl (by kernel_rfl) kI 41 rfl ?_)))
            clear kI
            refine ai 0 40 rfl (by kernel_rfl) (fun _=>U1 rfl rfl ay rfl (bK) (bJ)) ?_
            refine aj 1 39 rfl (by kernel_rfl) (fun _ _ _ hz Sz=>.inl (U4 rfl rfl bt rfl (Sz.suf.ar (i:=3) rfl rfl))) ?_
            refine ai 2 38 rfl (by kernel_rfl) (fun _=>run_move rfl rfl) ?_
            refine ai 3 37 rfl (by kernel_rfl) (fun _=>run_move rfl rfl) ?_
            refine ai 4 36 rfl (by kernel_rfl) (fun _=>U1 rfl rfl aW rfl (aC) (aB)) ?_
            refine aj 5 35 rfl (by kernel_rfl) (fun _ _ _ hz Sz=>.inl (U4 rfl rfl av rfl (Sz.suf.ar (i:=0) rfl rfl))) ?_
            refine aj 6 34 rfl (by kernel_rfl) (fun _ _ _ hz Sz=>.inl (Uj (C:=Uv) (i:=4) (((ga d.ae i5).a).toNat) rfl rfl rfl bA Sz.suf rfl (by first|rfl|omega) (by first|omega|(simp only[ls];omega)))) ?_
            refine aj 7 33 rfl (by kernel_rfl) (fun _ _ _ hz Sz=>.inl (U4 rfl rfl av rfl (Sz.suf.dW (i:=4) (e:=((ga d.ae i5).a).toNat) (j:=0) rfl (by first|omega|(simp only[ls];omega)) rfl rfl))) ?_
            refine aj 8 32 rfl (by kernel_rfl) (fun _ _ _ hz Sz=>.inl (Uj (C:=Uv) (i:=2) ((ga cl (((ga d.ae i5).a).toNat)).toNat) rfl rfl rfl bA Sz.suf rfl (by first|rfl|omega) (by first|omega|(simp only[ls];omega)))) ?_
            refine aj 9 31 rfl (by kernel_rfl) (fun _ _ _ hz Sz=>.inl (U4 rfl rfl av rfl (Sz.suf.dW (i:=2) (e:=(ga cl (((ga d.ae i5).a).toNat)).toNat) (j:=0) rfl (by first|omega|(simp only[ls];omega)) rfl rfl))) ?_
            refine ai 10 30 rfl (by kernel_rfl) (fun _=>run_move rfl rfl) ?_
            refine ai 11 29 rfl (by kernel_rfl) (fun _=>run_move rfl rfl) ?_
            refine ai 12 28 rfl (by kernel_rfl) (fun _=>U1 rfl rfl aW rfl (aC) (aB)) ?_
            refine aj 13 27 rfl (by kernel_rfl) (fun _ _ _ hz Sz=>.inl (U4 rfl rfl av rfl (Sz.suf.ar (i:=0) rfl rfl))) ?_
            refine aj 14 26 rfl (by kernel_rfl) (fun _ _ _ hz Sz=>.inl (Uj (C:=Uv) (i:=4) (((ga d.ae i5).b).toNat) rfl rfl rfl bA Sz.suf rfl (by first|rfl|omega) (by first|omega|(simp only[ls];omega)))) ?_
            refine aj 15 25 rfl (by kernel_rfl) (fun _ _ _ hz Sz=>.inl (U4 rfl rfl av rfl (Sz.suf.dW (i:=4) (e:=((ga d.ae i5).b).toNat) (j:=0) rfl (by first|omega|(simp only[ls];omega)) rfl rfl))) ?_
            refine aj 16 24 rfl (by kernel_rfl) (fun _ _ _ hz Sz=>.inl (Uj (C:=Uv) (i:=2) ((ga cl (((ga d.ae i5).b).toNat)).toNat) rfl rfl rfl bA Sz.suf rfl (by first|rfl|omega) (by first|omega|(simp only[ls];omega)))) ?_
            refine aj 17 23 rfl (by kernel_rfl) (fun _ _ _ hz Sz=>.inl (U4 rfl rfl av rfl (Sz.suf.dW (i:=2) (e:=(ga cl (((ga d.ae i5).b).toNat)).toNat) (j:=0) rfl (by first|omega|(simp only[ls];omega)) rfl rfl))) ?_
            refine ai 18 22 rfl (by kernel_rfl) (fun _=>run_move rfl rfl) ?_
            refine ai 19 21 rfl (by kernel_rfl) (fun _=>run_move rfl rfl) ?_
            refine ai 20 20 rfl (by kernel_rfl) (fun _=>U1 rfl rfl aW rfl (aC) (aB)) ?_
            refine aj 21 19 rfl (by kernel_rfl) (fun _ _ _ hz Sz=>.inl (U4 rfl rfl av rfl (Sz.suf.ar (i:=0) rfl rfl))) ?_
            refine aj 22 18 rfl (by kernel_rfl) (fun _ _ _ hz Sz=>.inl (Uj (C:=Uv) (i:=4) (((ga d.ae i5).c).toNat) rfl rfl rfl bA Sz.suf rfl (by first|rfl|omega) (by first|omega|(simp only[ls];omega)))) ?_
            refine aj 23 17 rfl (by kernel_rfl) (fun _ _ _ hz Sz=>.inl (U4 rfl rfl av rfl (Sz.suf.dW (i:=4) (e:=((ga d.ae i5).c).toNat) (j:=0) rfl (by first|omega|(simp only[ls];omega)) rfl rfl))) ?_
            refine aj 24 16 rfl (by kernel_rfl) (fun _ _ _ hz Sz=>.inl (Uj (C:=Uv) (i:=2) ((ga cl (((ga d.ae i5).c).toNat)).toNat) rfl rfl rfl bA Sz.suf rfl (by first|rfl|omega) (by first|omega|(simp only[ls];omega)))) ?_
            refine aj 25 15 rfl (by kernel_rfl) (fun _ _ _ hz Sz=>.inl (U4 rfl rfl av rfl (Sz.suf.dW (i:=2) (e:=(ga cl (((ga d.ae i5).c).toNat)).toNat) (j:=0) rfl (by first|omega|(simp only[ls];omega)) rfl rfl))) ?_
            refine ai 26 14 rfl (by kernel_rfl) (fun _=>run_move rfl rfl) ?_
            refine ai 27 13 rfl (by kernel_rfl) (fun _=>run_move rfl rfl) ?_
            refine ai 28 12 rfl (by kernel_rfl) (fun _=>U1 rfl rfl aW rfl (aC) (aB)) ?_
            refine aj 29 11 rfl (by kernel_rfl) (fun _ _ _ hz Sz=>.inl (U4 rfl rfl av rfl (Sz.suf.ar (i:=0) rfl rfl))) ?_
            refine aj 30 10 rfl (by kernel_rfl) (fun _ _ _ hz Sz=>.inl (Uj (C:=Uv) (i:=4) (((ga d.ae i5).d).toNat) rfl rfl rfl bA Sz.suf rfl (by first|rfl|omega) (by first|omega|(simp only[ls];omega)))) ?_
            refine aj 31 9 rfl (by kernel_rfl) (fun _ _ _ hz Sz=>.inl (U4 rfl rfl av rfl (Sz.suf.dW (i:=4) (e:=((ga d.ae i5).d).toNat) (j:=0) rfl (by first|omega|(simp only[ls];omega)) rfl rfl))) ?_
            refine aj 32 8 rfl (by kernel_rfl) (fun _ _ _ hz Sz=>.inl (Uj (C:=Uv) (i:=2) ((ga cl (((ga d.ae i5).d).toNat)).toNat) rfl rfl rfl bA Sz.suf rfl (by first|rfl|omega) (by first|omega|(simp only[ls];omega)))) ?_
            refine aj 33 7 rfl (by kernel_rfl) (fun _ _ _ hz Sz=>.inl (U4 rfl rfl av rfl (Sz.suf.dW (i:=2) (e:=(ga cl (((ga d.ae i5).d).toNat)).toNat) (j:=0) rfl (by first|omega|(simp only[ls];omega)) rfl rfl))) ?_
            refine ai 34 6 rfl (by kernel_rfl) (fun _=>U1 rfl rfl aW rfl (gI) (gH)) ?_
            refine aj 35 5 rfl (by kernel_rfl) (fun _ _ _ hz Sz=>.inl (U4 rfl rfl dL rfl (Sz.suf.ar (i:=0) rfl rfl))) ?_
            refine aj 36 4 rfl (by kernel_rfl) (fun _ _ _ hz Sz=>.inl (run_build (l:=[_,_,_,_,_]) rfl rfl mY rfl rfl)) ?_
            refine Un (i:=37) 3 rfl (by kernel_rfl) rfl rfl (fun w85 ll=>?_)
            refine(ij (C:=aF) (l:=[_,_,_,_,_]) rfl rfl rfl rfl cD rfl rfl rfl rfl ll ?_)
            intro iy w86 Bz;clear ll
            refine aP.grow [_] (Hp.le_refl _) Bz ?_;clear Bz
            change WA _ _ _ _ _ _ _ _ _ _ _ _ [_,_,_,_,_,_,_,_]
            refine Un (i:=38) 2 rfl (by kernel_rfl) rfl rfl (fun w88 oq=>?_)
            refine(ji (C:=aF) (i:=2) (q:=0) (⟨ga nu ((ga cl (((ga d.ae i5).a).toNat)).toNat),ga nu ((ga cl (((ga d.ae i5).b).toNat)).toNat),ga nu ((ga cl (((ga d.ae i5).c).toNat)).toNat),ga nu ((ga cl (((ga d.ae i5).d).toNat)).toNat),(ga d.ae i5).plus⟩:Cr) rfl rfl rfl rfl rfl rfl rfl rfl cD oq rfl rfl rfl (by show(_+1)*40<=_;first|omega|(simp only[ls];omega)) ?_)
            intro Fb w89 wk;clear oq
            have yz:=wk.pick [1,2,3,4,5,6,7] [_,_,_,_,_,_,_] (by decide) ⟨rfl,rfl,rfl,rfl,rfl,rfl,rfl,trivial⟩;clear wk
            refine aP.turn (by kernel_rfl) yz ?_;clear yz
            change WA _ _ _ _ _ _ _ _ _ _ _ _ [_,_,_,_,_,_,_]
            refine ai 39 1 rfl (by kernel_rfl) (fun _=>U1 rfl rfl ay rfl (bK) (bJ)) ?_
            refine Un (i:=40) 0 rfl (by kernel_rfl) rfl rfl (fun w92 tP=>?_)
            refine(U6 (i:=3) (us:=[_]) (l':=[_,_]) (H':=[_,_,_,_,_,_,_]) rfl rfl tP rfl rfl rfl (tP.ke (i:=1) rfl) mv rfl (dD (tP.one (i:=1) rfl) rfl) rfl rfl ?_)
            intro w93 Bx;clear tP
            refine aP.turn (by kernel_rfl) Bx ?_;clear Bx
            change WA _ _ _ _ _ _ _ _ _ _ _ _ [_,_,_,_,_,_,_]
            refine Uu (by kernel_rfl) (fun w94 S96=>?_)
            refine bj (ah [1,2,4,6,12,15,18] rfl (U3 (U0 rfl (ag 0 1 rfl rfl (af 1 rfl (Ug rfl rfl rfl (by first|omega|(simp only[ls];omega))) ?_)))))
            refine ag 2 1 rfl rfl (U5 rfl (aO ?_))
            intro au aq
            refine⟨_,?Ik,⟨i5+1,_,_,rfl,aq.sub ⟨rfl,rfl,rfl,rfl,rfl,rfl,rfl,trivial⟩,S96.pick [1,2,3,4,5,6] [_,_,_,_,_,_] (by decide) ⟨rfl,rfl,rfl,rfl,rfl,rfl,trivial⟩,?G9,?G8⟩⟩
            case G9=>omega
            case G8=>first|(rw[tRN,if_pos (by rw[<-zP];simpa using wX)];exact x8)|(rw[tRN,if_neg (by rw[<-zP];simpa using wX),List.map_append,<-x8];refine congrArg _ ?_;show[(⟨ga nu (ga cl (cK (ga d.ae i5) 0).toNat).toNat,ga nu (ga cl (cK (ga d.ae i5) 1).toNat).toNat,ga nu (ga cl (cK (ga d.ae i5) 2).toNat).toNat,ga nu (ga cl (cK (ga d.ae i5) 3).toNat).toNat,(ga d.ae i5).plus⟩:Cr)]=_;rw[nr 0 (by omega),nr 1 (by omega),nr 2 (by omega),nr 3 (by omega)];rfl)
            case Ik=>omega
          ·refine bP rfl rfl (ah [4,12] rfl (U3 (U2 Zs4 Zs5 rfl rfl rfl (U0 rfl (af 0 rfl (U8 (us:=[_,_]) rfl rfl ay rfl aA (ik.aw (i:=2) rfl ⟨rfl,rfl,trivial⟩)) (ak 1 2 rfl rfl rfl (U6 (i:=4) (us:=[_,_]) (l':=[_,_]) (H':=[_,_,_,_,_,_]) rfl rfl ik rfl rfl rfl rfl aA rfl (dD (ik.one (i:=0) rfl) (dD rfl rfl)) rfl rfl ?_)))))))
           intro w95 Bw;clear ik
           refine U5 rfl (ah [4] rfl (U3 ?_))
           obtain⟨M61,Ip,qc,⟨A1,c1,e1,hr1⟩⟩:=Bw.fZ (i:=0) (H':=[_,_,_,_,_,_]) rfl rfl (by show _*40<=_;first|omega|(simp only[ls];omega))
           clear Bw;subst e1
           replace az:=az.mono (Hp.Ua Ip qc.mx)
           replace iH:=iH.mono (Hp.Ua Ip qc.mx)
           refine Uk hC [_] rfl rfl ⟨⟨_,rfl,Um (us:=[_,_]) ay rfl aA (qc.aw (i:=4) rfl ⟨rfl,rfl,trivial⟩)⟩,trivial⟩ ?_
           refine⟨_,rfl,_,Ip,(qc.pick [] [] (by decide) trivial),?_⟩
           obtain rfl:i5=d.ae.length:=by omega
           have e9:(bB d (bh gs)).ae=c5:=by rw[x8,mB,nQ];rfl
           have e8:(bB d (bh gs)).loops=d.loops+(cn (fh cl oc) (2*d.ae.length+1):Int):=by rw[mB,nQ];rfl
           rw[e9,e8]
           exact⟨_,_,rfl,hr1⟩
end Go.Proofs.YthppkofceancjaaGreat
namespace Go.Proofs.YthppkofceancjaaGreat
open Go.ChangeShapes Go.WideShapes Go.ChangeAt Go.RowKit
section
variable {P : Program} {n : Nat} {C : Ctx} {c : Code} {s : List K} {L : List (Nat × Value)} {w : World} {M Mb : Hp} {X : Fr} {H Hb N : List Rs} {o : Oper} {l : Array Bool} {f : Nat} {ch : List PanicEntry}
theorem oa:∀{s:List K}{a:Act}{w:World},a.defers=[]->C.R (.panicked ch) w->post P C s (.panic ch) a w
 |[],_,_,h,hR=>⟨h,hR⟩
 |.thn c::s,_,_,h,hR=>oa (s:=s) h hR
 |.lp I::s,_,_,h,hR=>oa (s:=s) h hR
 |.jmp _ _::s,_,_,h,hR=>oa (s:=s) h hR
 |.blk i::s,_,_,h,hR=>oa (s:=s) h hR
theorem jZ{k k' d:Nat}(E:Bool)(L2:List (Nat×Value))(hs:Sub L L2)(h:WL P n C c k' s ((d,.bool E)::L2) w->WL P n C c k s L w)(hJ:WL P n C c k' s ((d,.bool E)::L2) w):WL P n C c k s L w:=h hJ
theorem aa8{ck:FuncId}{vs:List Value}{ca:Call}{fo:Operand}{xs:List Operand}{a:Act}(ha:Env n L a)(hop:o.op=.call ca)(cJ:ca.callee=.value fo)(hfo:oev L fo=some (.func (.func ck) #[] #[]))
  (hxs:ca.args=xs.toArray)(hvs:oevs L xs=some vs)(hen:∀args w,(callFunc ck args).run P w=.ok (.enter ck args) w)(S:SH w M X H)
  (hcall:Calls P ck vs.toArray w fun e w'=>e=.panicked ch/\∃M',M.le M'/\SH w' M' (XH w X H) [])(h:∀w' M',M.le M'->SH w' M' X H->C.R (.panicked ch) w')(next:Act->World->Prop):o.wp P a w next (post P C s):=by
 have hr:(execOp a.eval o).run P w=.ok (.enter ck vs.toArray) w:=by
  unfold execOp
  simp only[hop,resolve,cJ,ha.eval hfo,hxs,List.map_toArray,ha.lF hvs,Deferred.ofValue,Sem.run_bind,Sem.run_pure,Result.andThen_ok,invoke,Array.empty_append,Array.append_empty]
  exact hen _ _
 unfold Oper.wp
 rw[hr,Oper.upon_enter]
 refine hcall.mono ?_
 rintro e w' ⟨rfl,M',h1,h2⟩
 exact oa ha.df (h w' M' h1 (S.back h2))
theorem l9{k:Nat}{ck:FuncId}{vs:List Value}{ca:Call}{fo:Operand}{xs:List Operand}(ho:op c k=some o)(hg:o.guard=none)(hop:o.op=.call ca)(cJ:ca.callee=.value fo)(hfo:oev L fo=some (.func (.func ck) #[] #[]))
  (hxs:ca.args=xs.toArray)(hvs:oevs L xs=some vs)(hen:∀args w,(callFunc ck args).run P w=.ok (.enter ck args) w)(S:SH w M X H)
  (hcall:Calls P ck vs.toArray w fun e w'=>e=.panicked ch/\∃M',M.le M'/\SH w' M' (XH w X H) [])(h:∀w' M',M.le M'->SH w' M' X H->C.R (.panicked ch) w'):WL P n C c k s L w:=by
 intro a ha
 rw[p8 ho]
 exact wpList_plain hg fun K _=>aa8 ha hop cJ hfo hxs hvs hen S hcall h K
theorem qb{i:Nat}{ck:FuncId}{vs:List Value}{ca:Call}{fo:Operand}{xs:List Operand}(f:Nat)(ho:op c i=some o)(hr:Region.ready .any (rg c) l=[i])(hg:Wanted c L o.guard true)(hs:kj c o n=true)(hop:o.op=.call ca)(cJ:ca.callee=.value fo)(hfo:oev L fo=some (.func (.func ck) #[] #[]))
  (hxs:ca.args=xs.toArray)(hvs:oevs L xs=some vs)(hen:∀args w,(callFunc ck args).run P w=.ok (.enter ck args) w)
  (h:∀w,SH w M X H->Calls P ck vs.toArray w fun e w'=>e=.panicked ch/\∃M',M.le M'/\SH w' M' (XH w X H) [])(h2:∀w' M',M.le M'->SH w' M' X H->C.R (.panicked ch) w'):WA P n C c s X (f+1) l L Mb Hb M H:=by
 intro _ a ha w S hd
 refine⟨fun h0=>(by rw[hr]at h0;cases h0),fun k hk=>?_⟩
 rw[hr,List.mem_singleton]at hk
 subst hk
 unfold Go.wpOp
 simp only[rX ho]
 rw[if_pos (vU ha hg (vW hs))]
 exact .inl (aa8 ha hop cJ hfo hxs hvs hen S (h w S) h2 _)
theorem aiD{k:Nat}{x:Operand}{T:TypeId}{v:Value}(ho:op c k=some o)(hg:o.guard=none)(hop:o.op=.panic x)(hx:oev L x=some (.iface T v))(h:C.R (.panicked [{v:=.iface T v,recovered:=false}]) w):WL P n C c k s L w:=by
 intro a ha
 rw[p8 ho]
 refine wpList_plain hg fun K _=>?_
 have hr:(execOp a.eval o).run P w=.halt (.panic (.iface T v)) w:=by
  unfold execOp
  simp only[hop,ha.eval hx]
  rfl
 unfold Oper.wp
 rw[hr,Oper.upon_panic]
 exact oa ha.df h
theorem ahk{T:TypeId}{x:Operand}{v:Value}{fs:Array Field}(hop:o.op=.makeInterface T x)(hx:oev L x=some v)(hT:P.underlying T=some (.struct fs)):Run P o L w (.iface T v) w:=by
 intro n a ha
 unfold execOp
 simp only[hop,ha.eval hx,Instr.makeInterface,Sem.run_bind,run_underlying hT,Result.andThen_ok,Sem.run_pure]
theorem ahb{T E:TypeId}{x:Operand}{m k g:Nat}(hop:o.op=.slice T x none none none)(hx:oev L x=some (.pointer (some ⟨g,0,none⟩)))(hu:P.underlying T=some (.array m E))(hk:(P.info? E).map (·.size)=some k)(hm:0<m):Run P o L w (.slice (some ⟨g,0,none⟩) m m) w:=by
 intro n a ha
 unfold execOp
 have h0:¬m=0:=by omega
 simp only[hop,ha.eval hx,Option.map_none,Instr.sliceAt,Instr.sureAddr,Instr.sliceBounds,Sem.run_bind,run_underlying hu,Result.andThen_ok,Sem.run_pure,run_sizeOf hk,h0,if_false,Nat.zero_mul,Nat.sub_zero,Addr.add,if_true]
theorem SH.fF{i g:Nat}{E:TypeId}{l l':List Value}(S:SH w M X (N++H))(hi:nth H i=some (Rs.box g E l))(e:l=l'):dG (M.un (XH w X (N++H)).h) g E l':=by
 subst e
 exact S.kq hi
theorem SH.jD{α:Type}{Cc:Cd α}{i c:Nat}{v:Value}{A:Option Addr}{xs:List α}(S:SH w M X (N++H))(hi:nth H i=some (Rs.row Cc v xs))(e:v=.slice A xs.length c)(hr:xs.length*Cc.u8<=140737488355328):aG Cc (M.un (XH w X (N++H)).h) A c xs:=by
 obtain⟨A',c',e',h⟩:=S.ak6 (i:=N.length+i) (by rw[abZ];exact hi) hr
 rw[e]at e'
 injection e' with e1 _ e2
 subst e1
 subst e2
 exact h
end
end Go.Proofs.YthppkofceancjaaGreat
namespace Go.Proofs.YthppkofceancjaaGreat
open Go.ChangeShapes Go.WideShapes Go.ChangeAt Go.RowKit
structure Mv where
 kd:Int
 at_:Int
 aJ:Int
 ua:Int
 ub:Bool
 va:Int
 vb:Bool
 ov:Bool
def xm(e:Int):List PanicEntry:=[{v:=.iface 62 (.agg [Value.int .i64 e].toArray),recovered:=false}]
def Cm(f:FuncId)(vs:List Value)(w:World)(M:Hp)(X:Fr)(err:Int)(R:Value->Hp->Rs->Prop):Prop:=
 Calls Tryz.prog f vs.toArray w fun e w'=>(err=0/\∃v,e=.returned v/\∃M' r',M.le M'/\SH w' M' X [r']/\R v M' r')\/(err≠0/\e=.panicked (xm err)/\∃M',M.le M'/\SH w' M' X [])
section
variable {f : FuncId} {vs : List Value} {w : World} {M : Hp} {X : Fr} {err : Int} {R : Value → Hp → Rs → Prop}
theorem Cm.ok(h:Cm f vs w M X err R)(he:err=0):C1 Tryz.prog f vs w M X R:=by
 refine Calls.mono h ?_
 rintro e w' (⟨_,h⟩|⟨h,_⟩)
 ·exact h
 ·exact absurd he h
theorem Cm.no(h:Cm f vs w M X err R)(he:¬err=0):Calls Tryz.prog f vs.toArray w fun e w'=>e=.panicked (xm err)/\∃M',M.le M'/\SH w' M' X []:=by
 refine Calls.mono h ?_
 rintro e w' (⟨h,_⟩|⟨_,h⟩)
 ·exact absurd h he
 ·exact h
end
def qy(x:Cr)(k:Nat)(a:Int):Cr:=if k=0 then⟨a,x.b,x.c,x.d,x.plus⟩else if k=1 then⟨x.a,a,x.c,x.d,x.plus⟩else if k=2 then⟨x.a,x.b,a,x.d,x.plus⟩else⟨x.a,x.b,x.c,a,x.plus⟩
def bk(xs:List Cr)(c k:Nat)(a:Int):List Cr:=xs.set c (qy (ga xs c) k a)
theorem iU(xs:List Cr)(c k:Nat)(a:Int):(bk xs c k a).length=xs.length:=List.length_set
theorem Dj{p q p' q':Bool}(h:p=p')(h':q=q'):Value.tuple [.bool p,.bool q].toArray=.tuple [.bool p',.bool q'].toArray:=by rw[h,h']
def hgt(d:Dg)(a:Int):Nat:=(Ud d a false).2%2+(Ud d a true).2%2
noncomputable def UY:=Tryz.f109.body.getD .skip
def Zs7:=cL UY
def Zs8:=cR UY
def Zs9:=cR Zs8
set_option maxRecDepth 10000 in
theorem mQ{w:World}{M:Hp}{X:Fr}(e:Int)(S:SH w M X []):Cq Tryz.prog 109 [.bool true,.int .i64 e] w M X (fun u=>u=.tuple [].toArray):=by
 unfold Cq
 refine Up (b:=UY) Tryz.func109 rfl Tryz.ntmps109 rfl (fun C hC=>(bq [(0,_),(1,_)] ⟨rfl,rfl,trivial⟩ (U2 Zs7 Zs8 rfl rfl rfl (U0 rfl (ag 0 1 rfl rfl (af 1 rfl (dS rfl rfl) (U5 rfl (ah [1,5] rfl (U3 ?_)))))))))
 refine jz Zs9 rfl rfl rfl (Ue rfl (iC hC [] rfl trivial ?_))
 exact⟨_,rfl,(S.pick [] [] (by decide) trivial),rfl⟩
noncomputable def UX:=Tryz.f109.body.getD .skip
def Zsb:=cL UX
def Zsc:=cR UX
def Zsd:=cL Zsc
set_option maxRecDepth 10000 in
theorem iN{w:World}{M:Hp}{X:Fr}(e:Int)(S:SH w M X []):Calls Tryz.prog 109 [.bool false,.int .i64 e].toArray w (fun e9 w9=>e9=.panicked (xm e)/\∃M',M.le M'/\SH w9 M' X []):=by
 refine Up (b:=UX) Tryz.func109 rfl Tryz.ntmps109 rfl (fun C hC=>(bq [(0,_),(1,_)] ⟨rfl,rfl,trivial⟩ (U2 Zsb Zsc rfl rfl rfl (U0 rfl (ag 0 1 rfl rfl (af 1 rfl (dS rfl rfl) (U5 rfl (ah [1,5] rfl (U3 ?_)))))))))
 refine fN Zsd rfl rfl rfl (U0 rfl (ag 0 1 rfl rfl (af 1 rfl (run_build (l:=[_]) rfl rfl an8 rfl rfl) (af 2 rfl (ahk rfl rfl Dr) (aiD (k:=3) rfl rfl rfl rfl ?_)))))
 subst hC
 exact⟨rfl,M,Hp.le_refl _,S.pick [] [] (by decide) trivial⟩
noncomputable def UW:=Tryz.f110.body.getD .skip
def Zsf:=cL UW
def UU:=cR UW
def Zsh:=cL UU
def Zsi:=cR UU
set_option maxRecDepth 10000 in
theorem Cn{w:World}{M:Hp}{X:Fr}(d:Dg){bL:Nat}{cA iA oA:Option Addr}{cc ic oc:Nat}(a:Int)(bu:dG (M.un X.h) bL 70 [.slice cA d.ae.length cc,.int .i64 d.loops,.slice iA (ax d false (4*d.ae.length)).length ic,.slice oA (ax d true (4*d.ae.length)).length oc])(hsc:aG aF (M.un X.h) cA cc d.ae)(hsi:aG br (M.un X.h) iA ic (ax d false (4*d.ae.length)))(aK:aG br (M.un X.h) oA oc (ax d true (4*d.ae.length)))(hn:d.ae.length<=16)(S:SH w M X []):Cq Tryz.prog 110 [.pointer (some ⟨bL,0,none⟩),.int .i64 a] w M X (fun u=>u=.bool (decide (1<=a/\a<=2*(d.ae.length:Int)))):=by
 unfold Cq
 refine Up (b:=UW) Tryz.func110 rfl Tryz.ntmps110 rfl (fun C hC=>(bq [(0,_),(1,_)] ⟨rfl,rfl,trivial⟩ (U2 Zsf UU rfl rfl rfl (U0 rfl (ag 0 1 rfl rfl (U5 rfl (ah [0,1] rfl (U3 (U2 Zsh Zsi rfl rfl rfl ?_)))))))))
 refine U0 rfl (ag 0 1 rfl rfl (af 1 rfl (lg rfl rfl rfl) (ag 2 1 rfl rfl ?_)))
 refine Uw (t:=7) rfl (fun Bd=>?_) (fun Bd=>?_)
 ·refine ag 3 2 rfl rfl (aH 5 6 rfl rfl rfl rfl rfl rfl rfl rfl (cS rfl rfl rfl rfl rfl rfl rfl sG S (r8 d (bu.mono S.Uy) (hsc.mono S.Uy) (hsi.mono S.Uy) (aK.mono S.Uy) (by omega) S.aD) ?_))
  rintro _ w1 S1 rfl;clear S
  refine aH 6 7 rfl rfl rfl rfl rfl rfl rfl rfl (Ub rfl rfl (od rfl rfl rfl) (ag 7 2 rfl rfl (U5 rfl (ah [4] rfl (U3 (Uk hC [_] rfl rfl ⟨rfl,trivial⟩ ?_))))))
  exact⟨_,rfl,(S1.pick [] [] (by decide) trivial),(by show Value.bool _=_;refine congrArg Value.bool ?_;first|(refine decide_eq_decide.2 ?_;omega)|(symm;rw[decide_eq_false_iff_not];omega))⟩
 ·refine ag 3 6 rfl rfl (U5 rfl (ah [4] rfl (U3 (Uk hC [_] rfl rfl ⟨rfl,trivial⟩ ?_))))
  exact⟨_,rfl,(S.pick [] [] (by decide) trivial),(by show Value.bool _=_;refine congrArg Value.bool ?_;first|(refine decide_eq_decide.2 ?_;omega)|(symm;rw[decide_eq_false_iff_not];omega))⟩
noncomputable def UT:=Tryz.f114.body.getD .skip
def Zsk:=cL UT
def UR:=cR UT
def Zsm:=cL UR
def Zsn:=cR UR
set_option maxRecDepth 10000 in
theorem Gf{w:World}{M:Hp}{X:Fr}(d:Dg){bL:Nat}{cA iA oA:Option Addr}{cc ic oc:Nat}{bC:Nat}{fV:Value}(a:Int)(hbb:dG (M.un X.h) bC 67 [.pointer (some ⟨bL,0,none⟩),fV])(bu:dG (M.un X.h) bL 70 [.slice cA d.ae.length cc,.int .i64 d.loops,.slice iA (ax d false (4*d.ae.length)).length ic,.slice oA (ax d true (4*d.ae.length)).length oc])(hsc:aG aF (M.un X.h) cA cc d.ae)(hsi:aG br (M.un X.h) iA ic (ax d false (4*d.ae.length)))(aK:aG br (M.un X.h) oA oc (ax d true (4*d.ae.length)))(hn:d.ae.length<=16)(S:SH w M X []):Cq Tryz.prog 114 [.pointer (some ⟨bC,0,none⟩),.int .i64 a] w M X (fun u=>u=.bool (decide (0<=a/\a<(d.ae.length:Int)))):=by
 unfold Cq
 refine Up (b:=UT) Tryz.func114 rfl Tryz.ntmps114 rfl (fun C hC=>(bq [(0,_),(1,_)] ⟨rfl,rfl,trivial⟩ (U2 Zsk UR rfl rfl rfl (U0 rfl (ag 0 1 rfl rfl (U5 rfl (ah [0,1] rfl (U3 (U2 Zsm Zsn rfl rfl rfl ?_)))))))))
 refine U0 rfl (ag 0 1 rfl rfl (af 1 rfl (lg rfl rfl rfl) (ag 2 1 rfl rfl ?_)))
 refine Uw (t:=7) rfl (fun Bd=>?_) (fun Bd=>?_)
 ·refine ag 3 2 rfl rfl (aH 5 6 rfl rfl rfl rfl rfl rfl rfl rfl (Ub rfl rfl (U9 rfl rfl) (aH 6 7 rfl rfl rfl rfl rfl rfl rfl rfl (Ub rfl rfl (U1 rfl rfl cV rfl (dK) (dJ)) (aH 7 8 rfl rfl rfl rfl rfl rfl rfl rfl (Ub rfl rfl (U4 rfl rfl dt rfl (hbb.cell S.um rfl)) (aH 8 9 rfl rfl rfl rfl rfl rfl rfl rfl (Ub rfl rfl (U9 rfl rfl) (aH 9 10 rfl rfl rfl rfl rfl rfl rfl rfl (Ub rfl rfl (U1 rfl rfl dR rfl (fE) (fD)) (aH 10 11 rfl rfl rfl rfl rfl rfl rfl rfl (Ub rfl rfl (U1 rfl rfl ay rfl (bK) (bJ)) (aH 11 12 rfl rfl rfl rfl rfl rfl rfl rfl (Ub rfl rfl (U4 rfl rfl bt rfl (bu.cell S.um rfl)) (aH 12 13 rfl rfl rfl rfl rfl rfl rfl rfl (Ub rfl rfl (cU rfl rfl rfl rfl rfl rfl bt) ?_))))))))))))))))
  refine aH 13 14 rfl rfl rfl rfl rfl rfl rfl rfl (Ub rfl rfl (bS rfl rfl rfl) (ag 14 2 rfl rfl (U5 rfl (ah [4] rfl (U3 (Uk hC [_] rfl rfl ⟨rfl,trivial⟩ ?_))))))
  exact⟨_,rfl,(S.pick [] [] (by decide) trivial),(by show Value.bool _=_;refine congrArg Value.bool ?_;first|(refine decide_eq_decide.2 ?_;omega)|(symm;rw[decide_eq_false_iff_not];omega))⟩
 ·refine ag 3 6 rfl rfl (ag 9 6 rfl rfl (ag 15 1 rfl rfl (U5 rfl (ah [4] rfl (U3 (Uk hC [_] rfl rfl ⟨rfl,trivial⟩ ?_))))))
  exact⟨_,rfl,(S.pick [] [] (by decide) trivial),(by show Value.bool _=_;refine congrArg Value.bool ?_;first|(refine decide_eq_decide.2 ?_;omega)|(symm;rw[decide_eq_false_iff_not];omega))⟩
noncomputable def UQ:=Tryz.f125.body.getD .skip
def Zsp:=cL UQ
def UO:=cR UQ
def Zsr:=cL UO
def Zss:=cR UO
set_option maxRecDepth 10000 in
theorem HM{w:World}{M:Hp}{X:Fr}(d:Dg){bL:Nat}{cA iA oA:Option Addr}{cc ic oc:Nat}(x:Da)(bu:dG (M.un X.h) bL 70 [.slice cA d.ae.length cc,.int .i64 d.loops,.slice iA (ax d false (4*d.ae.length)).length ic,.slice oA (ax d true (4*d.ae.length)).length oc])(hsc:aG aF (M.un X.h) cA cc d.ae)(hsi:aG br (M.un X.h) iA ic (ax d false (4*d.ae.length)))(aK:aG br (M.un X.h) oA oc (ax d true (4*d.ae.length)))(hn:d.ae.length<=16)(hab:aN d=true)(hx:okD d x)(S:SH w M X []):Cq Tryz.prog 125 [.pointer (some ⟨bL,0,none⟩),.agg [.int .i64 x.a,.bool x.b].toArray] w M X (fun u=>u=.agg [.int .i64 ((Ud d x.a (!x.b)).1:Int),.int .i64 ((Ud d x.a (!x.b)).2:Int)].toArray):=by
 unfold Cq
 refine Up (b:=UQ) Tryz.func125 rfl Tryz.ntmps125 rfl (fun C hC=>(bq [(0,_),(1,_)] ⟨rfl,rfl,trivial⟩ (U2 Zsp UO rfl rfl rfl (U0 rfl (ak 0 1 rfl rfl rfl (bE (l:=[_,_]) rfl rfl rfl rfl rfl S ?_))))))
 intro aI w1 S1;clear S
 refine ak 1 2 rfl rfl rfl (Uh (l:=[_,_]) rfl rfl rfl oC rfl S1 ?_)
 intro aQ w2 S2;clear S1
 refine U5 rfl (ah [0,3,4] rfl (U3 (U2 Zsr Zss rfl rfl rfl (U0 rfl (ag 0 1 rfl rfl (af 1 rfl (U1 rfl rfl aZ rfl (aC) (aB)) (af 2 rfl (U4 rfl rfl av rfl (S2.ar (i:=1) rfl rfl)) (af 3 rfl (U1 rfl rfl aZ rfl (gI) (gH)) ?_))))))))
 refine af 4 rfl (U4 rfl rfl dL rfl (S2.ar (i:=1) rfl rfl)) (af 5 rfl (dS rfl rfl) (af 6 rfl (run_build (l:=[_,_]) rfl rfl zD rfl rfl) ?_))
 have hx2:okD d (⟨x.a,!x.b⟩:Da):=hx
 refine ak 7 8 rfl rfl rfl (cS rfl rfl rfl rfl rfl rfl rfl II S2 (HP d (⟨x.a,!x.b⟩:Da) (bu.mono S2.Uy) (hsc.mono S2.Uy) (hsi.mono S2.Uy) (aK.mono S2.Uy) (by first|assumption|omega) hab (by first|assumption|omega) S2.aD) ?_)
 rintro _ w3 S3 rfl;clear S2
 refine ak 8 9 rfl rfl rfl (U6 (i:=0) (us:=[_,_]) (l':=[_,_]) (H':=[_,_]) rfl rfl S3 rfl rfl rfl rfl eA rfl rfl rfl rfl ?_)
 intro w4 S4;clear S3
 refine U5 rfl (ah [4] rfl (U3 (Uk hC [_] rfl rfl ⟨⟨_,rfl,Um (us:=[_,_]) cO rfl eA (S4.aw (i:=0) rfl ⟨rfl,rfl,trivial⟩)⟩,trivial⟩ ?_)))
 exact⟨_,rfl,(S4.pick [] [] (by decide) trivial),rfl⟩
noncomputable def UN:=Tryz.f126.body.getD .skip
def Zsu:=cL UN
def UM:=cR UN
def Zsw:=cL UM
def UL:=cR UM
def Zsy:=cL UL
def Zsz:=cR UL
set_option maxRecDepth 10000 in
theorem G1{w:World}{M:Hp}{X:Fr}(d:Dg){bL:Nat}{cA iA oA:Option Addr}{cc ic oc:Nat}{bC:Nat}{fV:Value}(a:Int)(hbb:dG (M.un X.h) bC 67 [.pointer (some ⟨bL,0,none⟩),fV])(bu:dG (M.un X.h) bL 70 [.slice cA d.ae.length cc,.int .i64 d.loops,.slice iA (ax d false (4*d.ae.length)).length ic,.slice oA (ax d true (4*d.ae.length)).length oc])(hsc:aG aF (M.un X.h) cA cc d.ae)(hsi:aG br (M.un X.h) iA ic (ax d false (4*d.ae.length)))(aK:aG br (M.un X.h) oA oc (ax d true (4*d.ae.length)))(hn:d.ae.length<=16)(hab:aN d=true)(ha:1<=a/\a<=2*(d.ae.length:Int))(S:SH w M X []):Cq Tryz.prog 126 [.pointer (some ⟨bC,0,none⟩),.int .i64 a] w M X (fun u=>u=.tuple [.bool (decide (hgt d a=2)),.bool (decide (hgt d a=0))].toArray):=by
 unfold Cq
 have hti:=gJ d false (4*d.ae.length)
 have hto:=gJ d true (4*d.ae.length)
 obtain⟨_,_,DA,_⟩:=eF hab ha false
 obtain⟨_,_,Dz,_⟩:=eF hab ha true
 refine Up (b:=UN) Tryz.func126 rfl Tryz.ntmps126 rfl (fun C hC=>(bq [(0,_),(1,_)] ⟨rfl,rfl,trivial⟩ (U2 Zsu UM rfl rfl rfl (U0 rfl (ag 0 2 rfl rfl (U5 rfl (ah [0,1] rfl (U3 (U2 Zsw UL rfl rfl rfl ?_)))))))))
 refine bM rfl (by kernel_rfl) S 28 rfl ?_
 clear S
 refine ai 0 27 rfl (by kernel_rfl) (fun _=>run_move rfl rfl) ?_
 refine ai 1 26 rfl (by kernel_rfl) (fun _=>U9 rfl rfl) ?_
 refine ai 2 25 rfl (by kernel_rfl) (fun _=>U1 rfl rfl cV rfl (dK) (dJ)) ?_
 refine aj 3 24 rfl (by kernel_rfl) (fun _ _ _ hz Sz=>.inl (U4 rfl rfl dt rfl ((hbb.mono (Hp.Ua hz Sz.mx)).cell Sz.um rfl))) ?_
 refine ai 4 23 rfl (by kernel_rfl) (fun _=>U9 rfl rfl) ?_
 refine ai 5 22 rfl (by kernel_rfl) (fun _=>U1 rfl rfl dR rfl (oW) (oL)) ?_
 refine aj 6 21 rfl (by kernel_rfl) (fun _ _ _ hz Sz=>.inl (U4 rfl rfl mX rfl ((bu.mono (Hp.Ua hz Sz.mx)).cell Sz.um rfl))) ?_
 refine ai 7 20 rfl (by kernel_rfl) (fun _=>run_move rfl rfl) ?_
 refine aj 8 19 rfl (by kernel_rfl) (fun _ _ _ hz Sz=>.inl (Ul (C:=br) a.toNat rfl rfl rfl oK (by first|rfl|omega) (hsi.mono (Hp.Ua hz Sz.mx)) (by first|omega|(simp only[ls];omega)))) ?_
 refine ai 9 18 rfl (by kernel_rfl) (fun _=>U1 rfl rfl cO rfl (aC) (aB)) ?_
 refine aj 10 17 rfl (by kernel_rfl) (fun _ _ _ hz Sz=>.inl (U4 rfl rfl av rfl ((hsi.mono (Hp.Ua hz Sz.mx)).cell Sz.um (i:=a.toNat) (by first|omega|(simp only[ls];omega)) 1 rfl rfl))) ?_
 refine ai 11 16 rfl (by kernel_rfl) (fun _=>jY rfl rfl rfl (by first|omega|(simp only[ls];omega))) ?_
 refine ai 12 15 rfl (by kernel_rfl) (fun _=>bR rfl rfl rfl) ?_
 refine ai 13 14 rfl (by kernel_rfl) (fun _=>run_move rfl rfl) ?_
 refine ai 14 13 rfl (by kernel_rfl) (fun _=>U9 rfl rfl) ?_
 refine ai 15 12 rfl (by kernel_rfl) (fun _=>U1 rfl rfl cV rfl (dK) (dJ)) ?_
 refine aj 16 11 rfl (by kernel_rfl) (fun _ _ _ hz Sz=>.inl (U4 rfl rfl dt rfl ((hbb.mono (Hp.Ua hz Sz.mx)).cell Sz.um rfl))) ?_
 refine ai 17 10 rfl (by kernel_rfl) (fun _=>U9 rfl rfl) ?_
 refine ai 18 9 rfl (by kernel_rfl) (fun _=>U1 rfl rfl dR rfl (oW) (oL)) ?_
 refine aj 19 8 rfl (by kernel_rfl) (fun _ _ _ hz Sz=>.inl (U4 rfl rfl mX rfl ((bu.mono (Hp.Ua hz Sz.mx)).cell Sz.um rfl))) ?_
 refine ai 20 7 rfl (by kernel_rfl) (fun _=>run_move rfl rfl) ?_
 refine aj 21 6 rfl (by kernel_rfl) (fun _ _ _ hz Sz=>.inl (Ul (C:=br) a.toNat rfl rfl rfl oK (by first|rfl|omega) (aK.mono (Hp.Ua hz Sz.mx)) (by first|omega|(simp only[ls];omega)))) ?_
 refine ai 22 5 rfl (by kernel_rfl) (fun _=>U1 rfl rfl cO rfl (aC) (aB)) ?_
 refine aj 23 4 rfl (by kernel_rfl) (fun _ _ _ hz Sz=>.inl (U4 rfl rfl av rfl ((aK.mono (Hp.Ua hz Sz.mx)).cell Sz.um (i:=a.toNat) (by first|omega|(simp only[ls];omega)) 1 rfl rfl))) ?_
 refine ai 24 3 rfl (by kernel_rfl) (fun _=>jY rfl rfl rfl (by first|omega|(simp only[ls];omega))) ?_
 refine ai 25 2 rfl (by kernel_rfl) (fun _=>bR rfl rfl rfl) ?_
 refine ai 26 1 rfl (by kernel_rfl) (fun _=>run_assign rfl rfl) ?_
 refine ai 27 0 rfl (by kernel_rfl) (fun _=>run_assign rfl rfl) ?_
 refine Uu (by kernel_rfl) (fun q7 eV=>?_)
 refine ah [6,7] rfl (U3 (U2 Zsy Zsz rfl rfl rfl (U0 rfl (ag 0 2 rfl rfl ?_))))
 refine Uw (t:=35) rfl (fun Jf=>?_) (fun Jf=>?_)
 ·refine ag 2 3 rfl rfl (af 5 rfl (dS rfl rfl) (ag 6 1 rfl rfl ?_))
  refine mR (t:=40) rfl (fun oP=>?_) (fun oP=>?_)
  ·simp only[Bool.and_eq_true,Bool.or_eq_true,Bool.and_eq_false_iff,Bool.or_eq_false_iff,decide_eq_true_eq,decide_eq_false_iff_not,Bool.not_eq_true',Bool.not_eq_false']at oP
   refine ag 7 1 rfl rfl (aH 8 9 rfl rfl rfl rfl rfl rfl rfl rfl (Ub rfl rfl (dS rfl rfl) (ag 9 3 rfl rfl (U5 rfl (ah [4,5] rfl (U3 (Uk hC [_,_] rfl rfl ⟨rfl,rfl,trivial⟩ ?_)))))))
   exact⟨_,rfl,(eV.pick [] [] (by decide) trivial),(by show Value.tuple [_,_].toArray=_;unfold hgt;rw[<-DA,<-Dz];refine Dj ?_ ?_<;>first|(refine decide_eq_decide.2 ?_;omega)|(symm;rw[decide_eq_false_iff_not];omega)|(symm;rw[decide_eq_true_iff];omega)|(rw[Bool.eq_iff_iff];simp;omega))⟩
  ·simp only[Bool.and_eq_true,Bool.or_eq_true,Bool.and_eq_false_iff,Bool.or_eq_false_iff,decide_eq_true_eq,decide_eq_false_iff_not,Bool.not_eq_true',Bool.not_eq_false']at oP
   refine ag 7 5 rfl rfl (U5 rfl (ah [4,5] rfl (U3 (Uk hC [_,_] rfl rfl ⟨rfl,rfl,trivial⟩ ?_))))
   exact⟨_,rfl,(eV.pick [] [] (by decide) trivial),(by show Value.tuple [_,_].toArray=_;unfold hgt;rw[<-DA,<-Dz];refine Dj ?_ ?_<;>first|(refine decide_eq_decide.2 ?_;omega)|(symm;rw[decide_eq_false_iff_not];omega)|(symm;rw[decide_eq_true_iff];omega)|(rw[Bool.eq_iff_iff];simp;omega))⟩
 ·refine ag 2 3 rfl rfl (af 5 rfl (dS rfl rfl) (ag 6 1 rfl rfl ?_))
  refine mR (t:=40) rfl (fun oP=>?_) (fun oP=>?_)
  ·simp only[Bool.and_eq_true,Bool.or_eq_true,Bool.and_eq_false_iff,Bool.or_eq_false_iff,decide_eq_true_eq,decide_eq_false_iff_not,Bool.not_eq_true',Bool.not_eq_false']at oP
   refine ag 7 1 rfl rfl (aH 8 9 rfl rfl rfl rfl rfl rfl rfl rfl (Ub rfl rfl (dS rfl rfl) (ag 9 3 rfl rfl (U5 rfl (ah [4,5] rfl (U3 (Uk hC [_,_] rfl rfl ⟨rfl,rfl,trivial⟩ ?_)))))))
   exact⟨_,rfl,(eV.pick [] [] (by decide) trivial),(by show Value.tuple [_,_].toArray=_;unfold hgt;rw[<-DA,<-Dz];refine Dj ?_ ?_<;>first|(refine decide_eq_decide.2 ?_;omega)|(symm;rw[decide_eq_false_iff_not];omega)|(symm;rw[decide_eq_true_iff];omega)|(rw[Bool.eq_iff_iff];simp;omega))⟩
  ·simp only[Bool.and_eq_true,Bool.or_eq_true,Bool.and_eq_false_iff,Bool.or_eq_false_iff,decide_eq_true_eq,decide_eq_false_iff_not,Bool.not_eq_true',Bool.not_eq_false']at oP
   refine ag 7 5 rfl rfl (U5 rfl (ah [4,5] rfl (U3 (Uk hC [_,_] rfl rfl ⟨rfl,rfl,trivial⟩ ?_))))
   exact⟨_,rfl,(eV.pick [] [] (by decide) trivial),(by show Value.tuple [_,_].toArray=_;unfold hgt;rw[<-DA,<-Dz];refine Dj ?_ ?_<;>first|(refine decide_eq_decide.2 ?_;omega)|(symm;rw[decide_eq_false_iff_not];omega)|(symm;rw[decide_eq_true_iff];omega)|(rw[Bool.eq_iff_iff];simp;omega))⟩
noncomputable def UK:=Tryz.f112.body.getD .skip
def Zt1:=cL UK
def UJ:=cR UK
def Zt3:=cL UJ
def Zt4:=cR UJ
set_option maxRecDepth 10000 in
theorem alG{w:World}{M:Hp}{X:Fr}{bC ggs:Nat}{bD fV lV iV oV:Value}(xs:List Cr)(c:Nat)(a:Int)(hc:c<xs.length)(S:SH w M X [Rs.aX [Rs.box bC 67 [.pointer (some ⟨ggs,0,none⟩),fV],Rs.box ggs 70 [bD,lV,iV,oV],Rs.row aF bD xs]]):C1 Tryz.prog 112 [.pointer (some ⟨bC,0,none⟩),.agg [.int .i64 (c:Int),.int .i64 0].toArray,.int .i64 a] w M X (fun u M' r'=>u=.tuple [].toArray/\M'=M/\r'=Rs.aX [Rs.box bC 67 [.pointer (some ⟨ggs,0,none⟩),fV],Rs.box ggs 70 [bD,lV,iV,oV],Rs.row aF bD (bk xs c 0 a)]):=by
 unfold C1
 replace S:=S.kM
 refine Up (b:=UK) Tryz.func112 rfl Tryz.ntmps112 rfl (fun C hC=>(bq [(0,_),(1,_),(2,_)] ⟨rfl,rfl,rfl,trivial⟩ (U2 Zt1 UJ rfl rfl rfl (U0 rfl (ak 0 1 rfl rfl rfl (bE (l:=[_,_]) rfl rfl rfl rfl rfl S ?_))))))
 intro aI w1 S1;clear S
 refine U5 rfl (ah [0,2,4] rfl (U3 (U2 Zt3 Zt4 rfl rfl rfl (bM rfl (by kernel_rfl) S1 12 rfl ?_))))
 clear S1
 refine ai 0 11 rfl (by kernel_rfl) (fun _=>run_move rfl rfl) ?_
 refine ai 1 10 rfl (by kernel_rfl) (fun _=>U9 rfl rfl) ?_
 refine ai 2 9 rfl (by kernel_rfl) (fun _=>U1 rfl rfl cV rfl (dK) (dJ)) ?_
 refine aj 3 8 rfl (by kernel_rfl) (fun _ _ _ hz Sz=>.inl (U4 rfl rfl dt rfl (Sz.suf.ar (i:=1) rfl rfl))) ?_
 refine ai 4 7 rfl (by kernel_rfl) (fun _=>U9 rfl rfl) ?_
 refine ai 5 6 rfl (by kernel_rfl) (fun _=>U1 rfl rfl dR rfl (fE) (fD)) ?_
 refine ai 6 5 rfl (by kernel_rfl) (fun _=>U1 rfl rfl ay rfl (bK) (bJ)) ?_
 refine aj 7 4 rfl (by kernel_rfl) (fun _ _ _ hz Sz=>.inl (U4 rfl rfl bt rfl (Sz.suf.ar (i:=2) rfl rfl))) ?_
 refine ai 8 3 rfl (by kernel_rfl) (fun _=>U1 rfl rfl cO rfl (aC) (aB)) ?_
 refine aj 9 2 rfl (by kernel_rfl) (fun _ _ _ hz Sz=>.inl (U4 rfl rfl av rfl (Sz.suf.ar (i:=0) rfl rfl))) ?_
 refine aj 10 1 rfl (by kernel_rfl) (fun _ _ _ hz Sz=>.inl (Uj (C:=aF) (i:=3) c rfl rfl rfl cD Sz.suf rfl (by first|rfl|omega) (by first|omega|(simp only[ls];omega)))) ?_
 refine ai 11 0 rfl (by kernel_rfl) (fun _=>run_assign rfl rfl) ?_
 refine Uu (by kernel_rfl) (fun jG bI=>?_)
 refine ah [2,4,6] rfl (U3 (bM rfl (by kernel_rfl) bI 19 rfl ?_))
 clear bI
 refine ai 0 18 rfl (by kernel_rfl) (fun _=>run_move rfl rfl) ?_
 refine ai 1 17 rfl (by kernel_rfl) (fun _=>U9 rfl rfl) ?_
 refine ai 2 16 rfl (by kernel_rfl) (fun _=>U1 rfl rfl aW rfl (aC) (aB)) ?_
 refine ai 3 15 rfl (by kernel_rfl) (fun _=>run_move rfl rfl) ?_
 refine ai 4 14 rfl (by kernel_rfl) (fun _=>U9 rfl rfl) ?_
 refine ai 5 13 rfl (by kernel_rfl) (fun _=>U1 rfl rfl aW rfl (aC) (aB)) ?_
 refine ai 6 12 rfl (by kernel_rfl) (fun _=>run_move rfl rfl) ?_
 refine ai 7 11 rfl (by kernel_rfl) (fun _=>U9 rfl rfl) ?_
 refine ai 8 10 rfl (by kernel_rfl) (fun _=>U1 rfl rfl aW rfl (aC) (aB)) ?_
 refine ai 9 9 rfl (by kernel_rfl) (fun _=>run_move rfl rfl) ?_
 refine ai 10 8 rfl (by kernel_rfl) (fun _=>U9 rfl rfl) ?_
 refine ai 11 7 rfl (by kernel_rfl) (fun _=>U1 rfl rfl aW rfl (aC) (aB)) ?_
 refine aj 12 6 rfl (by kernel_rfl) (fun _ _ _ hz Sz=>.inl (jN (l:=[_,_,_,_]) (pl:=[(0,1),(1,1),(2,1),(3,1)]) rfl rfl se CV sj rfl rfl rfl)) ?_
 refine ai 13 5 rfl (by kernel_rfl) (fun _=>U1 rfl rfl cO rfl (aC) (aB)) ?_
 refine aj 14 4 rfl (by kernel_rfl) (fun _ _ _ hz Sz=>.inl (U4 rfl rfl av rfl (Sz.suf.ar (i:=0) rfl rfl))) ?_
 refine aj 15 3 rfl (by kernel_rfl) (fun _ _ _ hz Sz=>.inl (yn (e:=0) rfl rfl rfl se zk rfl sj (by first|rfl|omega) (by first|omega|(simp only[ls];omega)) rfl)) ?_
 refine ai 16 2 rfl (by kernel_rfl) (fun _=>run_move rfl rfl) ?_
 refine ai 17 1 rfl (by kernel_rfl) (fun _=>U9 rfl rfl) ?_
 refine Un (i:=18) 0 rfl (by kernel_rfl) rfl rfl (fun pS dX=>?_)
 refine(ig (C:=aF) (i:=3) (e:=c) (j:=0) (us:=[_]) (H':=[_,_,_,_]) (⟨a,(ga xs c).b,(ga xs c).c,(ga xs c).d,(ga xs c).plus⟩:Cr) rfl rfl dX rfl (by first|omega|(simp only[ls];omega)) rfl rfl rfl bg rfl rfl rfl rfl ?_)
 intro xS fQ;clear dX
 refine aP.turn (by kernel_rfl) fQ ?_;clear fQ
 change WA _ _ _ _ _ _ _ _ _ _ _ _ [_,_,_,_]
 refine Uu (by kernel_rfl) (fun tq iW=>?_)
 refine iC hC [] rfl trivial ?_
 refine⟨_,rfl,_,_,Hp.le_refl _,(iW.pick [1,2,3] [_,_,_] (by decide) ⟨rfl,rfl,rfl,trivial⟩).aX,?_⟩
 exact⟨rfl,rfl,rfl⟩
noncomputable def UI:=Tryz.f112.body.getD .skip
def Zt6:=cL UI
def UH:=cR UI
def Zt8:=cL UH
def Zt9:=cR UH
set_option maxRecDepth 10000 in
theorem alF{w:World}{M:Hp}{X:Fr}{bC ggs:Nat}{bD fV lV iV oV:Value}(xs:List Cr)(c:Nat)(a:Int)(hc:c<xs.length)(S:SH w M X [Rs.aX [Rs.box bC 67 [.pointer (some ⟨ggs,0,none⟩),fV],Rs.box ggs 70 [bD,lV,iV,oV],Rs.row aF bD xs]]):C1 Tryz.prog 112 [.pointer (some ⟨bC,0,none⟩),.agg [.int .i64 (c:Int),.int .i64 1].toArray,.int .i64 a] w M X (fun u M' r'=>u=.tuple [].toArray/\M'=M/\r'=Rs.aX [Rs.box bC 67 [.pointer (some ⟨ggs,0,none⟩),fV],Rs.box ggs 70 [bD,lV,iV,oV],Rs.row aF bD (bk xs c 1 a)]):=by
 unfold C1
 replace S:=S.kM
 refine Up (b:=UI) Tryz.func112 rfl Tryz.ntmps112 rfl (fun C hC=>(bq [(0,_),(1,_),(2,_)] ⟨rfl,rfl,rfl,trivial⟩ (U2 Zt6 UH rfl rfl rfl (U0 rfl (ak 0 1 rfl rfl rfl (bE (l:=[_,_]) rfl rfl rfl rfl rfl S ?_))))))
 intro aI w1 S1;clear S
 refine U5 rfl (ah [0,2,4] rfl (U3 (U2 Zt8 Zt9 rfl rfl rfl (bM rfl (by kernel_rfl) S1 12 rfl ?_))))
 clear S1
 refine ai 0 11 rfl (by kernel_rfl) (fun _=>run_move rfl rfl) ?_
 refine ai 1 10 rfl (by kernel_rfl) (fun _=>U9 rfl rfl) ?_
 refine ai 2 9 rfl (by kernel_rfl) (fun _=>U1 rfl rfl cV rfl (dK) (dJ)) ?_
 refine aj 3 8 rfl (by kernel_rfl) (fun _ _ _ hz Sz=>.inl (U4 rfl rfl dt rfl (Sz.suf.ar (i:=1) rfl rfl))) ?_
 refine ai 4 7 rfl (by kernel_rfl) (fun _=>U9 rfl rfl) ?_
 refine ai 5 6 rfl (by kernel_rfl) (fun _=>U1 rfl rfl dR rfl (fE) (fD)) ?_
 refine ai 6 5 rfl (by kernel_rfl) (fun _=>U1 rfl rfl ay rfl (bK) (bJ)) ?_
 refine aj 7 4 rfl (by kernel_rfl) (fun _ _ _ hz Sz=>.inl (U4 rfl rfl bt rfl (Sz.suf.ar (i:=2) rfl rfl))) ?_
 refine ai 8 3 rfl (by kernel_rfl) (fun _=>U1 rfl rfl cO rfl (aC) (aB)) ?_
 refine aj 9 2 rfl (by kernel_rfl) (fun _ _ _ hz Sz=>.inl (U4 rfl rfl av rfl (Sz.suf.ar (i:=0) rfl rfl))) ?_
 refine aj 10 1 rfl (by kernel_rfl) (fun _ _ _ hz Sz=>.inl (Uj (C:=aF) (i:=3) c rfl rfl rfl cD Sz.suf rfl (by first|rfl|omega) (by first|omega|(simp only[ls];omega)))) ?_
 refine ai 11 0 rfl (by kernel_rfl) (fun _=>run_assign rfl rfl) ?_
 refine Uu (by kernel_rfl) (fun jG bI=>?_)
 refine ah [2,4,6] rfl (U3 (bM rfl (by kernel_rfl) bI 19 rfl ?_))
 clear bI
 refine ai 0 18 rfl (by kernel_rfl) (fun _=>run_move rfl rfl) ?_
 refine ai 1 17 rfl (by kernel_rfl) (fun _=>U9 rfl rfl) ?_
 refine ai 2 16 rfl (by kernel_rfl) (fun _=>U1 rfl rfl aW rfl (aC) (aB)) ?_
 refine ai 3 15 rfl (by kernel_rfl) (fun _=>run_move rfl rfl) ?_
 refine ai 4 14 rfl (by kernel_rfl) (fun _=>U9 rfl rfl) ?_
 refine ai 5 13 rfl (by kernel_rfl) (fun _=>U1 rfl rfl aW rfl (aC) (aB)) ?_
 refine ai 6 12 rfl (by kernel_rfl) (fun _=>run_move rfl rfl) ?_
 refine ai 7 11 rfl (by kernel_rfl) (fun _=>U9 rfl rfl) ?_
 refine ai 8 10 rfl (by kernel_rfl) (fun _=>U1 rfl rfl aW rfl (aC) (aB)) ?_
 refine ai 9 9 rfl (by kernel_rfl) (fun _=>run_move rfl rfl) ?_
 refine ai 10 8 rfl (by kernel_rfl) (fun _=>U9 rfl rfl) ?_
 refine ai 11 7 rfl (by kernel_rfl) (fun _=>U1 rfl rfl aW rfl (aC) (aB)) ?_
 refine aj 12 6 rfl (by kernel_rfl) (fun _ _ _ hz Sz=>.inl (jN (l:=[_,_,_,_]) (pl:=[(0,1),(1,1),(2,1),(3,1)]) rfl rfl se CV sj rfl rfl rfl)) ?_
 refine ai 13 5 rfl (by kernel_rfl) (fun _=>U1 rfl rfl cO rfl (aC) (aB)) ?_
 refine aj 14 4 rfl (by kernel_rfl) (fun _ _ _ hz Sz=>.inl (U4 rfl rfl av rfl (Sz.suf.ar (i:=0) rfl rfl))) ?_
 refine aj 15 3 rfl (by kernel_rfl) (fun _ _ _ hz Sz=>.inl (yn (e:=1) rfl rfl rfl se zk rfl sj (by first|rfl|omega) (by first|omega|(simp only[ls];omega)) rfl)) ?_
 refine ai 16 2 rfl (by kernel_rfl) (fun _=>run_move rfl rfl) ?_
 refine ai 17 1 rfl (by kernel_rfl) (fun _=>U9 rfl rfl) ?_
 refine Un (i:=18) 0 rfl (by kernel_rfl) rfl rfl (fun pS dX=>?_)
 refine(ig (C:=aF) (i:=3) (e:=c) (j:=1) (us:=[_]) (H':=[_,_,_,_]) (⟨(ga xs c).a,a,(ga xs c).c,(ga xs c).d,(ga xs c).plus⟩:Cr) rfl rfl dX rfl (by first|omega|(simp only[ls];omega)) rfl rfl rfl bg rfl rfl rfl rfl ?_)
 intro xS fQ;clear dX
 refine aP.turn (by kernel_rfl) fQ ?_;clear fQ
 change WA _ _ _ _ _ _ _ _ _ _ _ _ [_,_,_,_]
 refine Uu (by kernel_rfl) (fun tq iW=>?_)
 refine iC hC [] rfl trivial ?_
 refine⟨_,rfl,_,_,Hp.le_refl _,(iW.pick [1,2,3] [_,_,_] (by decide) ⟨rfl,rfl,rfl,trivial⟩).aX,?_⟩
 exact⟨rfl,rfl,rfl⟩
noncomputable def UG:=Tryz.f112.body.getD .skip
def Ztb:=cL UG
def UF:=cR UG
def Ztd:=cL UF
def Zte:=cR UF
set_option maxRecDepth 10000 in
theorem alE{w:World}{M:Hp}{X:Fr}{bC ggs:Nat}{bD fV lV iV oV:Value}(xs:List Cr)(c:Nat)(a:Int)(hc:c<xs.length)(S:SH w M X [Rs.aX [Rs.box bC 67 [.pointer (some ⟨ggs,0,none⟩),fV],Rs.box ggs 70 [bD,lV,iV,oV],Rs.row aF bD xs]]):C1 Tryz.prog 112 [.pointer (some ⟨bC,0,none⟩),.agg [.int .i64 (c:Int),.int .i64 2].toArray,.int .i64 a] w M X (fun u M' r'=>u=.tuple [].toArray/\M'=M/\r'=Rs.aX [Rs.box bC 67 [.pointer (some ⟨ggs,0,none⟩),fV],Rs.box ggs 70 [bD,lV,iV,oV],Rs.row aF bD (bk xs c 2 a)]):=by
 unfold C1
 replace S:=S.kM
 refine Up (b:=UG) Tryz.func112 rfl Tryz.ntmps112 rfl (fun C hC=>(bq [(0,_),(1,_),(2,_)] ⟨rfl,rfl,rfl,trivial⟩ (U2 Ztb UF rfl rfl rfl (U0 rfl (ak 0 1 rfl rfl rfl (bE (l:=[_,_]) rfl rfl rfl rfl rfl S ?_))))))
 intro aI w1 S1;clear S
 refine U5 rfl (ah [0,2,4] rfl (U3 (U2 Ztd Zte rfl rfl rfl (bM rfl (by kernel_rfl) S1 12 rfl ?_))))
 clear S1
 refine ai 0 11 rfl (by kernel_rfl) (fun _=>run_move rfl rfl) ?_
 refine ai 1 10 rfl (by kernel_rfl) (fun _=>U9 rfl rfl) ?_
 refine ai 2 9 rfl (by kernel_rfl) (fun _=>U1 rfl rfl cV rfl (dK) (dJ)) ?_
 refine aj 3 8 rfl (by kernel_rfl) (fun _ _ _ hz Sz=>.inl (U4 rfl rfl dt rfl (Sz.suf.ar (i:=1) rfl rfl))) ?_
 refine ai 4 7 rfl (by kernel_rfl) (fun _=>U9 rfl rfl) ?_
 refine ai 5 6 rfl (by kernel_rfl) (fun _=>U1 rfl rfl dR rfl (fE) (fD)) ?_
 refine ai 6 5 rfl (by kernel_rfl) (fun _=>U1 rfl rfl ay rfl (bK) (bJ)) ?_
 refine aj 7 4 rfl (by kernel_rfl) (fun _ _ _ hz Sz=>.inl (U4 rfl rfl bt rfl (Sz.suf.ar (i:=2) rfl rfl))) ?_
 refine ai 8 3 rfl (by kernel_rfl) (fun _=>U1 rfl rfl cO rfl (aC) (aB)) ?_
 refine aj 9 2 rfl (by kernel_rfl) (fun _ _ _ hz Sz=>.inl (U4 rfl rfl av rfl (Sz.suf.ar (i:=0) rfl rfl))) ?_
 refine aj 10 1 rfl (by kernel_rfl) (fun _ _ _ hz Sz=>.inl (Uj (C:=aF) (i:=3) c rfl rfl rfl cD Sz.suf rfl (by first|rfl|omega) (by first|omega|(simp only[ls];omega)))) ?_
 refine ai 11 0 rfl (by kernel_rfl) (fun _=>run_assign rfl rfl) ?_
 refine Uu (by kernel_rfl) (fun jG bI=>?_)
 refine ah [2,4,6] rfl (U3 (bM rfl (by kernel_rfl) bI 19 rfl ?_))
 clear bI
 refine ai 0 18 rfl (by kernel_rfl) (fun _=>run_move rfl rfl) ?_
 refine ai 1 17 rfl (by kernel_rfl) (fun _=>U9 rfl rfl) ?_
 refine ai 2 16 rfl (by kernel_rfl) (fun _=>U1 rfl rfl aW rfl (aC) (aB)) ?_
 refine ai 3 15 rfl (by kernel_rfl) (fun _=>run_move rfl rfl) ?_
 refine ai 4 14 rfl (by kernel_rfl) (fun _=>U9 rfl rfl) ?_
 refine ai 5 13 rfl (by kernel_rfl) (fun _=>U1 rfl rfl aW rfl (aC) (aB)) ?_
 refine ai 6 12 rfl (by kernel_rfl) (fun _=>run_move rfl rfl) ?_
 refine ai 7 11 rfl (by kernel_rfl) (fun _=>U9 rfl rfl) ?_
 refine ai 8 10 rfl (by kernel_rfl) (fun _=>U1 rfl rfl aW rfl (aC) (aB)) ?_
 refine ai 9 9 rfl (by kernel_rfl) (fun _=>run_move rfl rfl) ?_
 refine ai 10 8 rfl (by kernel_rfl) (fun _=>U9 rfl rfl) ?_
 refine ai 11 7 rfl (by kernel_rfl) (fun _=>U1 rfl rfl aW rfl (aC) (aB)) ?_
 refine aj 12 6 rfl (by kernel_rfl) (fun _ _ _ hz Sz=>.inl (jN (l:=[_,_,_,_]) (pl:=[(0,1),(1,1),(2,1),(3,1)]) rfl rfl se CV sj rfl rfl rfl)) ?_
 refine ai 13 5 rfl (by kernel_rfl) (fun _=>U1 rfl rfl cO rfl (aC) (aB)) ?_
 refine aj 14 4 rfl (by kernel_rfl) (fun _ _ _ hz Sz=>.inl (U4 rfl rfl av rfl (Sz.suf.ar (i:=0) rfl rfl))) ?_
 refine aj 15 3 rfl (by kernel_rfl) (fun _ _ _ hz Sz=>.inl (yn (e:=2) rfl rfl rfl se zk rfl sj (by first|rfl|omega) (by first|omega|(simp only[ls];omega)) rfl)) ?_
 refine ai 16 2 rfl (by kernel_rfl) (fun _=>run_move rfl rfl) ?_
 refine ai 17 1 rfl (by kernel_rfl) (fun _=>U9 rfl rfl) ?_
 refine Un (i:=18) 0 rfl (by kernel_rfl) rfl rfl (fun pS dX=>?_)
 refine(ig (C:=aF) (i:=3) (e:=c) (j:=2) (us:=[_]) (H':=[_,_,_,_]) (⟨(ga xs c).a,(ga xs c).b,a,(ga xs c).d,(ga xs c).plus⟩:Cr) rfl rfl dX rfl (by first|omega|(simp only[ls];omega)) rfl rfl rfl bg rfl rfl rfl rfl ?_)
 intro xS fQ;clear dX
 refine aP.turn (by kernel_rfl) fQ ?_;clear fQ
 change WA _ _ _ _ _ _ _ _ _ _ _ _ [_,_,_,_]
 refine Uu (by kernel_rfl) (fun tq iW=>?_)
 refine iC hC [] rfl trivial ?_
 refine⟨_,rfl,_,_,Hp.le_refl _,(iW.pick [1,2,3] [_,_,_] (by decide) ⟨rfl,rfl,rfl,trivial⟩).aX,?_⟩
 exact⟨rfl,rfl,rfl⟩
noncomputable def UE:=Tryz.f112.body.getD .skip
def Ztg:=cL UE
def UD:=cR UE
def Zti:=cL UD
def Ztj:=cR UD
set_option maxRecDepth 10000 in
theorem alD{w:World}{M:Hp}{X:Fr}{bC ggs:Nat}{bD fV lV iV oV:Value}(xs:List Cr)(c:Nat)(a:Int)(hc:c<xs.length)(S:SH w M X [Rs.aX [Rs.box bC 67 [.pointer (some ⟨ggs,0,none⟩),fV],Rs.box ggs 70 [bD,lV,iV,oV],Rs.row aF bD xs]]):C1 Tryz.prog 112 [.pointer (some ⟨bC,0,none⟩),.agg [.int .i64 (c:Int),.int .i64 3].toArray,.int .i64 a] w M X (fun u M' r'=>u=.tuple [].toArray/\M'=M/\r'=Rs.aX [Rs.box bC 67 [.pointer (some ⟨ggs,0,none⟩),fV],Rs.box ggs 70 [bD,lV,iV,oV],Rs.row aF bD (bk xs c 3 a)]):=by
 unfold C1
 replace S:=S.kM
 refine Up (b:=UE) Tryz.func112 rfl Tryz.ntmps112 rfl (fun C hC=>(bq [(0,_),(1,_),(2,_)] ⟨rfl,rfl,rfl,trivial⟩ (U2 Ztg UD rfl rfl rfl (U0 rfl (ak 0 1 rfl rfl rfl (bE (l:=[_,_]) rfl rfl rfl rfl rfl S ?_))))))
 intro aI w1 S1;clear S
 refine U5 rfl (ah [0,2,4] rfl (U3 (U2 Zti Ztj rfl rfl rfl (bM rfl (by kernel_rfl) S1 12 rfl ?_))))
 clear S1
 refine ai 0 11 rfl (by kernel_rfl) (fun _=>run_move rfl rfl) ?_
 refine ai 1 10 rfl (by kernel_rfl) (fun _=>U9 rfl rfl) ?_
 refine ai 2 9 rfl (by kernel_rfl) (fun _=>U1 rfl rfl cV rfl (dK) (dJ)) ?_
 refine aj 3 8 rfl (by kernel_rfl) (fun _ _ _ hz Sz=>.inl (U4 rfl rfl dt rfl (Sz.suf.ar (i:=1) rfl rfl))) ?_
 refine ai 4 7 rfl (by kernel_rfl) (fun _=>U9 rfl rfl) ?_
 refine ai 5 6 rfl (by kernel_rfl) (fun _=>U1 rfl rfl dR rfl (fE) (fD)) ?_
 refine ai 6 5 rfl (by kernel_rfl) (fun _=>U1 rfl rfl ay rfl (bK) (bJ)) ?_
 refine aj 7 4 rfl (by kernel_rfl) (fun _ _ _ hz Sz=>.inl (U4 rfl rfl bt rfl (Sz.suf.ar (i:=2) rfl rfl))) ?_
 refine ai 8 3 rfl (by kernel_rfl) (fun _=>U1 rfl rfl cO rfl (aC) (aB)) ?_
 refine aj 9 2 rfl (by kernel_rfl) (fun _ _ _ hz Sz=>.inl (U4 rfl rfl av rfl (Sz.suf.ar (i:=0) rfl rfl))) ?_
 refine aj 10 1 rfl (by kernel_rfl) (fun _ _ _ hz Sz=>.inl (Uj (C:=aF) (i:=3) c rfl rfl rfl cD Sz.suf rfl (by first|rfl|omega) (by first|omega|(simp only[ls];omega)))) ?_
 refine ai 11 0 rfl (by kernel_rfl) (fun _=>run_assign rfl rfl) ?_
 refine Uu (by kernel_rfl) (fun jG bI=>?_)
 refine ah [2,4,6] rfl (U3 (bM rfl (by kernel_rfl) bI 19 rfl ?_))
 clear bI
 refine ai 0 18 rfl (by kernel_rfl) (fun _=>run_move rfl rfl) ?_
 refine ai 1 17 rfl (by kernel_rfl) (fun _=>U9 rfl rfl) ?_
 refine ai 2 16 rfl (by kernel_rfl) (fun _=>U1 rfl rfl aW rfl (aC) (aB)) ?_
 refine ai 3 15 rfl (by kernel_rfl) (fun _=>run_move rfl rfl) ?_
 refine ai 4 14 rfl (by kernel_rfl) (fun _=>U9 rfl rfl) ?_
 refine ai 5 13 rfl (by kernel_rfl) (fun _=>U1 rfl rfl aW rfl (aC) (aB)) ?_
 refine ai 6 12 rfl (by kernel_rfl) (fun _=>run_move rfl rfl) ?_
 refine ai 7 11 rfl (by kernel_rfl) (fun _=>U9 rfl rfl) ?_
 refine ai 8 10 rfl (by kernel_rfl) (fun _=>U1 rfl rfl aW rfl (aC) (aB)) ?_
 refine ai 9 9 rfl (by kernel_rfl) (fun _=>run_move rfl rfl) ?_
 refine ai 10 8 rfl (by kernel_rfl) (fun _=>U9 rfl rfl) ?_
 refine ai 11 7 rfl (by kernel_rfl) (fun _=>U1 rfl rfl aW rfl (aC) (aB)) ?_
 refine aj 12 6 rfl (by kernel_rfl) (fun _ _ _ hz Sz=>.inl (jN (l:=[_,_,_,_]) (pl:=[(0,1),(1,1),(2,1),(3,1)]) rfl rfl se CV sj rfl rfl rfl)) ?_
 refine ai 13 5 rfl (by kernel_rfl) (fun _=>U1 rfl rfl cO rfl (aC) (aB)) ?_
 refine aj 14 4 rfl (by kernel_rfl) (fun _ _ _ hz Sz=>.inl (U4 rfl rfl av rfl (Sz.suf.ar (i:=0) rfl rfl))) ?_
 refine aj 15 3 rfl (by kernel_rfl) (fun _ _ _ hz Sz=>.inl (yn (e:=3) rfl rfl rfl se zk rfl sj (by first|rfl|omega) (by first|omega|(simp only[ls];omega)) rfl)) ?_
 refine ai 16 2 rfl (by kernel_rfl) (fun _=>run_move rfl rfl) ?_
 refine ai 17 1 rfl (by kernel_rfl) (fun _=>U9 rfl rfl) ?_
 refine Un (i:=18) 0 rfl (by kernel_rfl) rfl rfl (fun pS dX=>?_)
 refine(ig (C:=aF) (i:=3) (e:=c) (j:=3) (us:=[_]) (H':=[_,_,_,_]) (⟨(ga xs c).a,(ga xs c).b,(ga xs c).c,a,(ga xs c).plus⟩:Cr) rfl rfl dX rfl (by first|omega|(simp only[ls];omega)) rfl rfl rfl bg rfl rfl rfl rfl ?_)
 intro xS fQ;clear dX
 refine aP.turn (by kernel_rfl) fQ ?_;clear fQ
 change WA _ _ _ _ _ _ _ _ _ _ _ _ [_,_,_,_]
 refine Uu (by kernel_rfl) (fun tq iW=>?_)
 refine iC hC [] rfl trivial ?_
 refine⟨_,rfl,_,_,Hp.le_refl _,(iW.pick [1,2,3] [_,_,_] (by decide) ⟨rfl,rfl,rfl,trivial⟩).aX,?_⟩
 exact⟨rfl,rfl,rfl⟩
theorem Dl{w:World}{M:Hp}{X:Fr}{bC ggs:Nat}{bD fV lV iV oV:Value}(xs:List Cr)(c k:Nat)(a:Int)(hc:c<xs.length)(hk:k<4)(S:SH w M X [Rs.aX [Rs.box bC 67 [.pointer (some ⟨ggs,0,none⟩),fV],Rs.box ggs 70 [bD,lV,iV,oV],Rs.row aF bD xs]]):C1 Tryz.prog 112 [.pointer (some ⟨bC,0,none⟩),.agg [.int .i64 (c:Int),.int .i64 (k:Int)].toArray,.int .i64 a] w M X (fun u M' r'=>u=.tuple [].toArray/\M'=M/\r'=Rs.aX [Rs.box bC 67 [.pointer (some ⟨ggs,0,none⟩),fV],Rs.box ggs 70 [bD,lV,iV,oV],Rs.row aF bD (bk xs c k a)]):=by
 obtain rfl|rfl|rfl|rfl:k=0\/k=1\/k=2\/k=3:=by omega
 ·exact alG xs c a hc S
 ·exact alF xs c a hc S
 ·exact alE xs c a hc S
 ·exact alD xs c a hc S
end Go.Proofs.YthppkofceancjaaGreat
namespace Go.Proofs.YthppkofceancjaaGreat
open Go.ChangeShapes Go.WideShapes Go.ChangeAt Go.RowKit
def FT(P:Program)(f:FuncId)(vs:List Value)(w:World)(M:Hp)(X:Fr)(R:Value->Hp->List Rs->Prop):Prop:=
 Calls P f vs.toArray w fun e w'=>∃v,e=.returned v/\∃M' N,M.le M'/\SH w' M' X N/\R v M' N
section
variable {P : Program} {o : Oper} {L : List (Nat × Value)} {w : World} {n d : Nat} {Kt : List (Nat × Value) → World → Prop} {M : Hp} {X : Fr} {H : List Rs}
theorem CH{f:FuncId}{vs:List Value}{ca:Call}{fo:Operand}{xs:List Operand}(hd:o.dst=some d)(hop:o.op=.call ca)(cJ:ca.callee=.value fo)(hfo:oev L fo=some (.func (.func f) #[] #[]))
  (hxs:ca.args=xs.toArray)(hvs:oevs L xs=some vs)(hn:Nat.blt d n=true)(hen:∀args w,(callFunc f args).run P w=.ok (.enter f args) w)(S:SH w M X H)
  {R:Value->Hp->List Rs->Prop}(hcall:FT P f vs w M (XH w X H) R)(h:∀v w' M' N,M.le M'->SH w' M' X (N++H)->R v M' N->Kt ((d,v)::L) w'):WO P n o L w Kt:=
 yR (R:=fun v w'=>∃M' N,M.le M'/\SH w' M' (XH w X H) N/\R v M' N) hd hop cJ hfo hxs hvs hn hen hcall fun v w' ⟨M',N,h1,h2,h4⟩=>h v w' M' N h1 (S.adI h2) h4
end
section
variable {bf : Nat → Nat} {N : Hp} {gs : List (Option Nat)} {ps : List (Option bp)} {Bn : List (List (Option Nat))} {bQ : List (List (Option bp))} {α : Type} {C : Cd α} {AO : List (List fO)} {mm : List (List (List α))}
end
end Go.Proofs.YthppkofceancjaaGreat
namespace Go.Proofs.YthppkofceancjaaGreat
open Go.ChangeShapes Go.WideShapes Go.ChangeAt Go.RowKit
def aww(d:Dg)(v:Value)(N:Hp)(Nl:List Rs):Prop:=
 (gB d=false/\v=.tuple [.pointer none,.bool false].toArray/\Nl=[])\/
 (gB d=true/\∃g vc iA oA ic oc,v=.tuple [.pointer (some ⟨g,0,none⟩),.bool true].toArray/\Nl=[Rs.box g 70 [vc,.int .i64 d.loops,.slice iA (ax d false (4*d.ae.length)).length ic,.slice oA (ax d true (4*d.ae.length)).length oc],Rs.row aF vc d.ae]/\aG br N iA ic (ax d false (4*d.ae.length))/\aG br N oA oc (ax d true (4*d.ae.length)))
theorem anD{w:World}{M:Hp}{X:Fr}(d:Dg){A:Option Addr}{c:Nat}(h:aG aF (M.un X.h) A c d.ae)(S:SH w M X []):FT Tryz.prog 64 [.agg [.slice A d.ae.length c,.int .i64 d.loops].toArray] w M X (aww d):=by
 refine(anE d h S).mono ?_
 rintro e w' ⟨v,rfl,N,S1,⟨hm,rfl,rfl⟩|⟨hm,g,vc,vi,vo,rfl,rfl,hv⟩⟩
 ·exact⟨_,rfl,M,_,Hp.le_refl _,S1,.inl ⟨hm,rfl,rfl⟩⟩
 ·obtain⟨hn,_⟩:=uM hm
  have t1:=gJ d false (4*d.ae.length)
  have t2:=gJ d true (4*d.ae.length)
  clear hv
  obtain⟨M2,l2,S3,⟨iA,ic,rfl,r2⟩⟩:=S1.fZ (C:=br) (xs:=ax d false (4*d.ae.length)) (i:=2) rfl rfl (by show _*16<=_;omega)
  obtain⟨M3,l3,S4,⟨oA,oc,rfl,r3⟩⟩:=S3.fZ (C:=br) (xs:=ax d true (4*d.ae.length)) (i:=3) rfl rfl (by show _*16<=_;omega)
  exact⟨_,rfl,M3,_,l2.trans l3,S4.pick [0,1] [_,_] (by decide) ⟨rfl,rfl,trivial⟩,.inr ⟨hm,g,vc,iA,oA,ic,oc,rfl,rfl,r2.mono l3,r3⟩⟩
def dv(d:Dg):Bool:=gB d&&oF d
def bnL(d:Dg)(gb gs:Nat)(bD:Value)(iA oA fA:Option Addr)(ic oc fc:Nat)(fv:List fO):List Rs:=[Rs.box gb 67 [.pointer (some ⟨gs,0,none⟩),.slice fA fv.length fc],Rs.box gs 70 [bD,.int .i64 d.loops,.slice iA (ax d false (4*d.ae.length)).length ic,.slice oA (ax d true (4*d.ae.length)).length oc],Rs.row aF bD d.ae]
def bnF(d:Dg)(N:Hp)(iA oA fA:Option Addr)(ic oc fc:Nat)(fv:List fO):Prop:=aG br N iA ic (ax d false (4*d.ae.length))/\aG br N oA oc (ax d true (4*d.ae.length))/\aG (di 141) N fA fc fv/\fy cu N fv (U7 d)
def anC(d:Dg)(v:Value)(N:Hp)(Nl:List Rs):Prop:=
 (dv d=false/\v=.tuple [.pointer none,.bool false].toArray/\Nl=[])\/
 (dv d=true/\∃gb gs bD iA oA fA ic oc fc fv,v=.tuple [.pointer (some ⟨gb,0,none⟩),.bool true].toArray/\Nl=bnL d gb gs bD iA oA fA ic oc fc fv/\bnF d N iA oA fA ic oc fc fv)
noncomputable def UC:=Tryz.f28.body.getD .skip
def Ztl:=cL UC
def UB:=cR UC
def Ztn:=cL UB
def UA:=cR UB
def FN:=cL UA
def FM:=cR UA
def Ztr:=cL FN
def FL:=cR FN
def FK:=cL FL
def Ztu:=cR FL
def Ztv:=cL FK
def Ztw:=cR FK
def Ztx:=cL FM
def Zty:=cR FM
set_option maxRecDepth 10000 in
theorem GX{w:World}{M:Hp}{X:Fr}(d:Dg){aV:Option Addr}{aU:Nat}(az:aG aF (M.un X.h) aV aU d.ae)(S:SH w M X []):FT Tryz.prog 28 [.agg [.slice aV d.ae.length aU,.int .i64 d.loops].toArray] w M X (anC d):=by
 unfold FT
 have gV:d.ae.length*40<=140737488355328:=az.room
 refine Up (b:=UC) Tryz.func28 rfl Tryz.ntmps28 rfl (fun C hC=>(bq [(0,_)] ⟨rfl,trivial⟩ (U2 Ztl UB rfl rfl rfl (U0 rfl (ak 0 1 rfl rfl rfl (bE (l:=[_,_]) rfl rfl rfl rfl rfl S ?_))))))
 intro aI w1 S1;clear S
 refine ag 1 2 rfl rfl (U5 rfl (ah [1] rfl (U3 (U2 Ztn UA rfl rfl rfl (U0 rfl (af 0 rfl (U8 (us:=[_,_]) rfl rfl ay rfl aA (S1.aw (i:=0) rfl ⟨rfl,rfl,trivial⟩)) (ak 1 2 rfl rfl rfl (CH rfl rfl rfl rfl rfl rfl rfl aps S1 (anD d (az.mono S1.Uy) S1.aD) ?_))))))))
 intro E9 w2 M1 Nw2 aL S2 qN;clear S1
 replace az:=az.mono (Hp.Ua aL S2.mx)
 rcases qN with⟨zt,rfl,rfl⟩|⟨zt,ggs,bD,iA,oA,ic,oc,rfl,rfl,hsi,aK⟩
 ·have S3:SH _ _ _ [_]:=S2;clear S2
  refine ag 2 1 rfl rfl (af 3 rfl (Ui rfl rfl rfl) (af 4 rfl (Ui rfl rfl rfl) (ag 5 2 rfl rfl (U5 rfl (ah [4,5] rfl (U3 (U2 FN FM rfl rfl rfl (U2 Ztr FL rfl rfl rfl ?_))))))))
  refine U0 rfl (ag 0 1 rfl rfl (af 1 rfl (dS rfl rfl) (ag 2 5 rfl rfl (U5 rfl (ah [4,17] rfl (U3 (fN FK rfl rfl rfl (U2 Ztv Ztw rfl rfl rfl ?_))))))))
  refine U0 rfl (ag 0 2 rfl rfl (U5 rfl (ah [2,3] rfl (U3 (Uk hC [_,_] rfl rfl ⟨rfl,rfl,trivial⟩ ?_)))))
  refine⟨_,rfl,_,_,aL,S3.pick [] [] (by decide) trivial,?_⟩
  exact .inl ⟨by unfold dv;rw[zt];first|rfl|(rw[hpl];rfl),rfl,rfl⟩
 ·have S4:SH _ _ _ [_,_,_]:=S2;clear S2
  obtain⟨hn,hab,aeh,I4⟩:=uM zt
  obtain⟨cA,cc,dM,_⟩:=S4.sl (i:=1) rfl
  refine ag 2 1 rfl rfl (af 3 rfl (Ui rfl rfl rfl) (af 4 rfl (Ui rfl rfl rfl) (ag 5 2 rfl rfl (U5 rfl (ah [4,5] rfl (U3 (U2 FN FM rfl rfl rfl (U2 Ztr FL rfl rfl rfl ?_))))))))
  refine U0 rfl (ag 0 1 rfl rfl (af 1 rfl (dS rfl rfl) (ag 2 2 rfl rfl (aH 4 5 rfl rfl rfl rfl rfl rfl rfl rfl (eZ rfl rfl rfl rfl rfl rfl rfl apr S4 (ajr d (SH.fF (N:=[]) (i:=0) S4 rfl (by rw[dM])) (SH.jD (N:=[]) (i:=1) S4 rfl dM (by show _*40<=_;omega)) (hsi.mono (Hp.bY _ _)) (aK.mono (Hp.bY _ _)) hn hab S4.aD) ?_)))))
  intro E8 w3 M2 hle2 S5 qM;clear S4
  replace az:=az.mono (Hp.Ua hle2 S5.mx)
  replace hsi:=hsi.mono hle2
  replace aK:=aK.mono hle2
  obtain rfl:=qM
  refine aH 5 6 rfl rfl rfl rfl rfl rfl rfl rfl (Ub rfl rfl (dS rfl rfl) (ag 6 1 rfl rfl (U5 rfl (ah [4,17] rfl (U3 ?_)))))
  refine dN FK Ztu rfl rfl rfl rfl (fun lQ=>?_) (fun lQ=>?_)
  ·simp only[Bool.and_eq_true,Bool.or_eq_true,Bool.and_eq_false_iff,Bool.or_eq_false_iff,decide_eq_true_eq,decide_eq_false_iff_not,Bool.not_eq_true',Bool.not_eq_false']at lQ
   have hpl:oF d=false:=by simpa using lQ
   refine U2 Ztv Ztw rfl rfl rfl (U0 rfl (ag 0 2 rfl rfl (U5 rfl (ah [2,3] rfl (U3 (Uk hC [_,_] rfl rfl ⟨rfl,rfl,trivial⟩ ?_))))))
   refine⟨_,rfl,_,_,aL.trans hle2,S5.pick [] [] (by decide) trivial,?_⟩
   exact .inl ⟨by unfold dv;rw[zt];first|rfl|(rw[hpl];rfl),rfl,rfl⟩
  ·simp only[Bool.and_eq_true,Bool.or_eq_true,Bool.and_eq_false_iff,Bool.or_eq_false_iff,decide_eq_true_eq,decide_eq_false_iff_not,Bool.not_eq_true',Bool.not_eq_false']at lQ
   have hpl:oF d=true:=by simpa using lQ
   refine Ue rfl (ah [4] rfl (U3 (U2 Ztx Zty rfl rfl rfl (U0 rfl (ag 0 2 rfl rfl (ak 2 3 rfl rfl rfl (eZ rfl rfl rfl rfl rfl rfl rfl aeN S5 (InF.acs d (SH.fF (N:=[]) (i:=0) S5 rfl (by rw[dM])) (SH.jD (N:=[]) (i:=1) S5 rfl dM (by show _*40<=_;omega)) (hsi.mono (Hp.bY _ _)) (aK.mono (Hp.bY _ _)) hn hab S5.aD) ?_)))))))
   intro vw4 w4 M3 dh S6 Jx;clear S5
   replace az:=az.mono (Hp.Ua dh S6.mx)
   replace hsi:=hsi.mono dh
   replace aK:=aK.mono dh
   obtain⟨A1,c1,vs1,rfl,hr1,hd1⟩:=Jx
   have ahF:=hd1.1
   refine af 3 rfl (run_build (l:=[_,_]) rfl rfl an7 rfl rfl) (ak 4 5 rfl rfl rfl (bE (l:=[_,_]) rfl rfl rfl rfl rfl S6 ?_))
   intro aQ w5 S7;clear S6
   refine ag 5 2 rfl rfl (U5 rfl (ah [2,3] rfl (U3 (Uk hC [_,_] rfl rfl ⟨rfl,rfl,trivial⟩ ?_))))
   refine⟨_,rfl,_,_,(aL.trans hle2).trans dh,S7.pick [0,1,2] [_,_,_] (by decide) ⟨rfl,rfl,rfl,trivial⟩,?_⟩
   exact .inr ⟨by unfold dv;rw[zt,hpl];rfl,_,_,_,_,_,_,_,_,_,_,rfl,rfl,hsi,aK,hr1,hd1⟩
end Go.Proofs.YthppkofceancjaaGreat
