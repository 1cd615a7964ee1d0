/- Part 5 of the proof of the law MovesRows: the walks through its functions and the plain laws that they need. -/
import Derived.Test.YthppkofceancjaaGreatMxZ4
import Derived.Test.YthppkofceancjaaGreatProg
set_option linter.unusedSimpArgs false
set_option linter.unusedVariables false
noncomputable section
namespace Go.Proofs.YthppkofceancjaaGreat
open Go.ChangeShapes Go.WideShapes Go.ChangeAt Go.RowKit
theorem agP(nx:Nat->Nat)(seen:List Bool)(x:Nat)(acc:List Int):∃t,(eY nx seen x acc).2=acc++t:=by
 induction hk:free seen using Nat.strongRecOn generalizing seen x acc with
 |_ k ih=>
  by_cases h:x<seen.length/\ga seen x=false
  ·rw[rP h.1 h.2]
   have:=mW h.1 h.2
   obtain⟨t,ht⟩:=ih (free (seen.set x true)) (by omega) (seen.set x true) (nx x) (acc++[(x:Int)]) rfl
   exact⟨(x:Int)::t,by rw[ht];simp⟩
  ·refine⟨[],?_⟩
   rw[eY]
   simp[h]
theorem agj(d:Dg)(k:Nat)(hk:k<=4*d.ae.length):∀r∈(dQ d k).2,∃(c:Nat) (t:List Int),r=(c:Int)::t/\2<=c/\c<4*d.ae.length+2:=by
 induction k with
 |zero=>intro r hr;simp[dQ]at hr
 |succ k ih=>
  by_cases hg:ga (dQ d k).1 (k+2)=true
  ·rw[rT rfl hg];exact ih (by omega)
  ·rw[rS rfl (by simpa using hg) rfl]
   intro r hr
   rcases List.mem_append.1 hr with hr|hr
   ·exact ih (by omega) r hr
   ·rw[List.mem_singleton]at hr
    subst hr
    have hl:=zE d k
    rw[rP (by omega) (by simpa using hg)]
    obtain⟨t,ht⟩:=agP (dN d) ((dQ d k).1.set (k+2) true) (dN d (k+2)) ([]++[((k+2:Nat):Int)])
    exact⟨k+2,t,by rw[ht];rfl,by omega,by omega⟩
def hd0(d:Dg)(k:Nat):Da:=ga (ga (U6 d) k) 0
theorem Fl{d:Dg}{k:Nat}(hk:k<(U6 d).length):0<(ga (U6 d) k).length/\okD d (hd0 d k):=by
 have hm:ga (U6 d) k∈U6 d:=by rw[fJ hk];exact List.getElem_mem hk
 unfold U6 uM at hm
 rw[List.mem_map]at hm
 obtain⟨r,hr,e⟩:=hm
 obtain⟨c,t,rfl,h1,h2⟩:=agj d _ (Nat.le_refl _) r hr
 have e':ga (U6 d) k=dA c::ik t:=e.symm
 refine⟨by rw[e'];simp,?_⟩
 unfold hd0
 rw[e']
 exact od ⟨h1,h2⟩
def iQ(d:Dg)(k:Nat):Nat:=(Ud d (hd0 d k).a (hd0 d k).b).1
theorem Fu{d:Dg}(h:aX d=true){k:Nat}(hk:k<(U6 d).length):iQ d k<d.ae.length:=(fe h (Fl hk).2 (hd0 d k).b).1
def negW(ws:List Int)(p:Int):Nat->Int
 |0=>0
 |k+1=>if ga ws k=p then negW ws p k-1 else negW ws p k
def kE(d:Dg)(ws:List Int)(p:Int)(m:Int):Nat->Int
 |0=>m
 |k+1=>if ga ws (iQ d k)=p then kE d ws p m k+1 else kE d ws p m k
def oZ(d:Dg)(p:Nat):Bool:=decide (ga (eV d) p≠(p:Int))||decide (kE d (eV d) p (negW (eV d) p d.ae.length) (U6 d).length=2)
def qy(d:Dg):Bool:=(List.range d.ae.length).all (oZ d)
theorem aa8{d:Dg}(h:∀p,p<d.ae.length->oZ d p=true):qy d=true:=by
 unfold qy
 rw[List.all_eq_true]
 intro p hp
 exact h p (List.mem_range.1 hp)
theorem ahw{d:Dg}{p:Nat}(hp:p<d.ae.length)(h:oZ d p=false):qy d=false:=by
 unfold qy
 rw[List.all_eq_false]
 exact⟨p,List.mem_range.2 hp,by rw[h];decide⟩
theorem abK(ws:List Int)(p:Int)(k:Nat):-(k:Int)<=negW ws p k/\negW ws p k<=0:=by
 induction k with
 |zero=>simp[negW]
 |succ k ih=>rw[negW];split<;>omega
theorem aix(d:Dg)(ws:List Int)(p m:Int)(k:Nat):m<=kE d ws p m k/\kE d ws p m k<=m+k:=by
 induction k with
 |zero=>simp[kE]
 |succ k ih=>rw[kE];split<;>omega
theorem zN(d:Dg):(U6 d).length<=4*d.ae.length:=by
 unfold U6 uM
 rw[List.length_map]
 exact zM d _
noncomputable def Xm:=Tryz.f32.body.getD .skip
def Z9y:=cL Xm
def Xl:=cR Xm
def Za0:=cL Xl
def Xk:=cR Xl
def Za2:=cL Xk
def Xj:=cR Xk
def Xi:=cL Xj
def Xh:=cR Xj
def Za6:=cL Xi
def Za7:=cR Xi
def Za8:=cL Za7
def Xg:=cL Za8
def Xf:=cL Xg
def Xe:=cR Xg
def Zac:=cL Xf
def Xd:=cR Xf
def Zae:=cL Xd
def Zaf:=cR Xd
def Zag:=cL Xe
def Zah:=cR Xe
def Xc:=cL Zag
def Xb:=cL Xc
def Xa:=cR Xc
def Zal:=cL Xb
def W9:=cR Xb
def Zan:=cL W9
def Zao:=cR W9
def Zap:=cL Xa
def W8:=cR Xa
def W7:=cL W8
def W6:=cR W8
def Zat:=cL W7
def Zau:=cR W7
def Zav:=cL Zau
def W5:=cL Zav
def W4:=cL W5
def WZ:=cR W5
def Zaz:=cL W4
def WY:=cR W4
def Zb1:=cL WY
def Zb2:=cR WY
def Zb3:=cL WZ
def Zb4:=cR WZ
def WX:=cL Zb3
def Zb6:=cL WX
def WW:=cR WX
def Zb8:=cL WW
def Zb9:=cR WW
def WV:=cL W6
def WU:=cR W6
def Zbc:=cL WV
def Zbd:=cR WV
def Zbe:=cL Zbd
def WT:=cL Zbe
def WR:=cL WT
def WQ:=cR WT
def Zbi:=cL WR
def WN:=cR WR
def Zbk:=cL WN
def Zbl:=cR WN
def Zbm:=cL WQ
def Zbn:=cR WQ
def WM:=cL Zbm
def Zbp:=cL WM
def WK:=cR WM
def Zbr:=cL WK
def Zbs:=cR WK
def Zbt:=cL WU
def WJ:=cR WU
def WI:=cL WJ
def Zbw:=cR WJ
def Zbx:=cL WI
def Zby:=cR WI
def Zbz:=cL Xh
def Zc0:=cR Xh
set_option maxHeartbeats 1000000 in
set_option maxRecDepth 10000 in
theorem aaA{w:World}{M:Hp}{X:Fr}(d:Dg){aV:Option Addr}{aU:Nat}(aC:aF aG (M.un X.h) aV aU d.ae)(hn:d.ae.length<=16)(hab:aX d=true)(S:SH w M X []):Ct Tryz.prog 32 [.agg [.slice aV d.ae.length aU,.int .i64 d.loops].toArray] w M X (fun u _=>u=.bool (qy d)):=by
 unfold Ct
 have gK:d.ae.length*40<=140737488355328:=aC.room
 refine Up (b:=Xm) Tryz.func32 rfl Tryz.ntmps32 rfl (fun C hC=>(bq [(0,_)] ⟨rfl,trivial⟩ (U2 Z9y Xl rfl rfl rfl (U0 rfl (ak 0 1 rfl rfl rfl (bA (l:=[_,_]) rfl rfl rfl rfl rfl S ?_))))))
 intro aI w1 S1;clear S
 refine ag 1 1 rfl rfl (U5 rfl (ah [1] rfl (U3 (U2 Za0 Xk rfl rfl rfl (U0 rfl (af 0 rfl (U8 (us:=[_,_]) rfl rfl ay rfl az (S1.ax (i:=0) rfl ⟨rfl,rfl,trivial⟩)) (ak 1 2 rfl rfl rfl (fp rfl rfl rfl rfl rfl rfl rfl anF S1 (agF d (aC.mono S1.Uw) (hn) (hab) S1.aD) ?_))))))))
 intro Df w2 M1 aL S2 pM;clear S1
 replace aC:=aC.mono (Hp.Ua aL S2.mx)
 obtain⟨A1,c1,rfl,hr1⟩:=pM
 refine ag 2 1 rfl rfl (U5 rfl (ah [1,3] rfl (U3 (U2 Za2 Xj rfl rfl rfl (U0 rfl (af 0 rfl (U8 (us:=[_,_]) rfl rfl ay rfl az (S2.ax (i:=0) rfl ⟨rfl,rfl,trivial⟩)) (ak 1 2 rfl rfl rfl (fp rfl rfl rfl rfl rfl rfl rfl BK S2 (zX d (aC.mono S2.Uw) (hn) (hab) S2.aD) ?_))))))))
 intro Ou w3 M2 hle2 S3 tD;clear S2
 replace aC:=aC.mono (Hp.Ua hle2 S3.mx)
 replace hr1:=hr1.mono hle2
 obtain⟨A2,c2,vs1,rfl,hr2,hd1⟩:=tD
 have hfl:=hd1.1
 refine ag 2 1 rfl rfl (U5 rfl (ah [1,3,4] rfl (U3 (U2 Xi Xh rfl rfl rfl (U2 Za6 Za7 rfl rfl rfl (U0 rfl (ag 0 1 rfl rfl (U5 rfl ?_))))))))
 refine U3 (Uc Za8 0 rfl rfl rfl ?_)
 refine Uz (fun aS au aM=>∃(p:Nat),aS=d.ae.length-p/\Env 71 [(1,.pointer (some ⟨aI,0,none⟩)),(3,.slice A1 (eV d).length c1),(4,.slice A2 vs1.length c2),(5,.int .i64 (p:Int))] au/\SH aM M2 X [Rs.box aI 24 [.slice aV d.ae.length aU,.int .i64 d.loops]]/\p<=d.ae.length/\(∀q,q<p->oZ d q=true)) rfl ?_ ?_
 ·intro au aq
  refine⟨_,⟨0,rfl,aq.sub ⟨rfl,rfl,rfl,rfl,trivial⟩,S3.pick [0] [_] (by decide) ⟨rfl,trivial⟩,?cd,?cT⟩⟩
  case cd=>omega
  case cT=>(intro q hq;omega)
 ·rintro m1 a1 w4 ⟨p,rfl,bh,S4,hp,hall⟩
  clear S3
  refine b7 bh (c:=Xg) rfl ?_
  clear bh a1
  have Dm:=zQ d d.ae.length
  replace Dm:(eV d).length=d.ae.length:=Dm
  have hfm:=zN d
  refine U2 Xf Xe rfl rfl rfl (U2 Zac Xd rfl rfl rfl (U0 rfl (ag 0 2 rfl rfl (af 2 rfl (cI rfl rfl rfl rfl rfl rfl dD) (af 3 rfl (bV rfl rfl rfl) (U5 rfl (ah [1,3,4,5,16] rfl (U3 ?_))))))))
  refine Ue Zae Zaf rfl rfl rfl rfl (fun l6=>?_) (fun l6=>?_)
  ·refine Uf rfl (ah [1,3,4,5] rfl (U3 (U2 Zag Zah rfl rfl rfl (Uc Xc 1 rfl rfl rfl (U2 Xb Xa rfl rfl rfl (U2 Zal W9 rfl rfl rfl (U0 rfl (ag 0 2 rfl rfl ?_))))))))
   refine af 2 rfl (Uk (C:=Uv) p rfl rfl rfl bw (by first|rfl|omega) hr1 (by first|omega|(simp only[ls];omega))) ?_
   refine af 3 rfl (U4 rfl rfl av rfl (hr1.cell S4.m (i:=p) (by first|omega|(simp only[ls];omega)) 0 rfl rfl)) ?_
   refine ag 4 1 rfl rfl (af 5 rfl (iT rfl rfl rfl) (U5 rfl (ah [1,3,4,5,24] rfl (U3 ?_))))
   refine Ue Zan Zao rfl rfl rfl rfl (fun nI=>?_) (fun nI=>?_)
   ·refine bS rfl rfl (ah [1,3,4,5] rfl (U3 (U0 rfl (ag 0 1 rfl rfl (af 1 rfl (Ug rfl rfl rfl (by first|omega|(simp only[ls];omega))) ?_)))))
    refine ag 2 1 rfl rfl (U5 rfl (aP ?_))
    intro au aq
    refine⟨_,?dJ,⟨p+1,rfl,aq.sub ⟨rfl,rfl,rfl,rfl,trivial⟩,S4.pick [0] [_] (by decide) ⟨rfl,trivial⟩,?cu,?cY⟩⟩
    case cu=>omega
    case cY=>(intro q hq;by_cases h:q=p;(subst h;unfold oZ;rw[Bool.or_eq_true];first|(left;exact decide_eq_true (by omega))|(right;exact decide_eq_true (by omega)));exact hall q (by omega))
    case dJ=>omega
   ·refine Uf rfl (ah [1,3,4,5] rfl (U3 (U2 Zap W8 rfl rfl rfl (U0 rfl (ag 0 1 rfl rfl (U5 rfl (U3 (U2 W7 W6 rfl rfl rfl ?_))))))))
    refine U2 Zat Zau rfl rfl rfl (U0 rfl (ag 0 1 rfl rfl (U5 rfl (U3 (Uc Zav 2 rfl rfl rfl ?_)))))
    refine Uz (fun aS au aM=>∃(i:Nat) (m:Int),aS=d.ae.length-i/\Env 71 [(1,.pointer (some ⟨aI,0,none⟩)),(3,.slice A1 (eV d).length c1),(4,.slice A2 vs1.length c2),(5,.int .i64 (p:Int)),(6,.int .i64 m),(7,.int .i64 (i:Int))] au/\SH aM M2 X [Rs.box aI 24 [.slice aV d.ae.length aU,.int .i64 d.loops]]/\i<=d.ae.length/\m=negW (eV d) p i) rfl ?_ ?_
    ·intro au aq
     refine⟨_,⟨0,_,rfl,aq.sub ⟨rfl,rfl,rfl,rfl,rfl,rfl,trivial⟩,S4.pick [0] [_] (by decide) ⟨rfl,trivial⟩,?dO,?gh⟩⟩
     case dO=>omega
     case gh=>rfl
    ·rintro m2 a2 w5 ⟨i,m,rfl,cx,S5,hi,hm⟩
     clear S4
     refine b7 cx (c:=W5) rfl ?_
     clear cx a2
     have hnb:=abK (eV d) p i
     refine U2 W4 WZ rfl rfl rfl (U2 Zaz WY rfl rfl rfl (U0 rfl (ag 0 2 rfl rfl (af 2 rfl (cI rfl rfl rfl rfl rfl rfl dD) (af 3 rfl (bV rfl rfl rfl) (U5 rfl (ah [1,3,4,5,6,7,28] rfl (U3 ?_))))))))
     refine Ue Zb1 Zb2 rfl rfl rfl rfl (fun oh=>?_) (fun oh=>?_)
     ·refine Uf rfl (ah [1,3,4,5,6,7] rfl (U3 (U2 Zb3 Zb4 rfl rfl rfl (Uc WX 3 rfl rfl rfl (U2 Zb6 WW rfl rfl rfl (U0 rfl (ag 0 2 rfl rfl (af 2 rfl (Uk (C:=Uv) i rfl rfl rfl bw (by first|rfl|omega) hr1 (by first|omega|(simp only[ls];omega))) ?_))))))))
      refine af 3 rfl (U4 rfl rfl av rfl (hr1.cell S5.m (i:=i) (by first|omega|(simp only[ls];omega)) 0 rfl rfl)) ?_
      refine ag 4 1 rfl rfl (af 5 rfl (bP rfl rfl rfl) (U5 rfl (ah [1,3,4,5,6,7,36] rfl (U3 ?_))))
      refine Ue Zb8 Zb9 rfl rfl rfl rfl (fun og=>?_) (fun og=>?_)
      ·refine U0 rfl (ag 0 1 rfl rfl (af 1 rfl (qw rfl rfl rfl (by first|omega|(simp only[ls];omega))) ?_))
       refine ag 2 1 rfl rfl (U5 rfl (bk (ah [1,3,4,5,6,7] rfl (U3 (U0 rfl (ag 0 1 rfl rfl (af 1 rfl (Ug rfl rfl rfl (by first|omega|(simp only[ls];omega))) ?_)))))))
       refine ag 2 1 rfl rfl (U5 rfl (aP ?_))
       intro au aq
       refine⟨_,?jG,⟨i+1,_,rfl,aq.sub ⟨rfl,rfl,rfl,rfl,rfl,rfl,trivial⟩,S5.pick [0] [_] (by decide) ⟨rfl,trivial⟩,?eU,?gQ⟩⟩
       case eU=>omega
       case gQ=>(rw[negW,hm];first|rw[if_pos (by omega)]|rw[if_neg (by omega)])
       case jG=>omega
      ·refine Uf rfl (bk (ah [1,3,4,5,6,7] rfl (U3 (U0 rfl (ag 0 1 rfl rfl (af 1 rfl (Ug rfl rfl rfl (by first|omega|(simp only[ls];omega))) ?_))))))
       refine ag 2 1 rfl rfl (U5 rfl (aP ?_))
       intro au aq
       refine⟨_,?kB,⟨i+1,_,rfl,aq.sub ⟨rfl,rfl,rfl,rfl,rfl,rfl,trivial⟩,S5.pick [0] [_] (by decide) ⟨rfl,trivial⟩,?fB,?gP⟩⟩
       case fB=>omega
       case gP=>(rw[negW,hm];first|rw[if_pos (by omega)]|rw[if_neg (by omega)])
       case kB=>omega
     ·refine bS rfl rfl (ah [1,3,4,5,6] rfl (U3 (U2 WV WU rfl rfl rfl (U2 Zbc Zbd rfl rfl rfl (U0 rfl (ag 0 1 rfl rfl (U5 rfl (U3 ?_))))))))
      refine Uc Zbe 4 rfl rfl rfl ?_
      refine Uz (fun aS au aM=>∃(k:Nat) (m2:Int),aS=(U6 d).length-k/\Env 71 [(1,.pointer (some ⟨aI,0,none⟩)),(3,.slice A1 (eV d).length c1),(4,.slice A2 vs1.length c2),(5,.int .i64 (p:Int)),(6,.int .i64 m2),(8,.int .i64 (k:Int))] au/\SH aM M2 X [Rs.box aI 24 [.slice aV d.ae.length aU,.int .i64 d.loops]]/\k<=(U6 d).length/\m2=kE d (eV d) p (negW (eV d) p d.ae.length) k) rfl ?_ ?_
      ·intro au aq
       refine⟨_,⟨0,_,rfl,aq.sub ⟨rfl,rfl,rfl,rfl,rfl,rfl,trivial⟩,S5.pick [0] [_] (by decide) ⟨rfl,trivial⟩,?iz,?jB⟩⟩
       case iz=>omega
       case jB=>(rw[hm,show i=d.ae.length by omega];rfl)
      ·rintro m3 a3 w6 ⟨k,m2,rfl,fU,S6,hk,hm2⟩
       clear S5
       refine b7 fU (c:=WT) rfl ?_
       clear fU a3
       have hnb:=abK (eV d) p d.ae.length
       have hfb:=aix d (eV d) p (negW (eV d) p d.ae.length) k
       refine U2 WR WQ rfl rfl rfl (U2 Zbi WN rfl rfl rfl (U0 rfl (ag 0 2 rfl rfl (af 2 rfl (cI rfl rfl rfl rfl rfl rfl kY) (af 3 rfl (bV rfl rfl rfl) (U5 rfl (ah [1,3,4,5,6,8,42] rfl (U3 ?_))))))))
       refine Ue Zbk Zbl rfl rfl rfl rfl (fun td=>?_) (fun td=>?_)
       ·have hhd:=Fl (d:=d) (k:=k) (by omega)
        have hfc:=Fu hab (k:=k) (by omega)
        obtain⟨hh0,hok⟩:=hhd
        have OP:iQ d k=(Ud d (ga (ga (U6 d) k) 0).a (ga (ga (U6 d) k) 0).b).1:=rfl
        rw[OP]at hfc
        refine Uf rfl (ah [1,3,4,5,6,8] rfl (U3 (U2 Zbm Zbn rfl rfl rfl (Uc WM 5 rfl rfl rfl (U2 Zbp WK rfl rfl rfl (Ux rfl (by kernel_rfl) S6 22 rfl ?_))))))
        clear S6
        refine ai 0 21 rfl (by kernel_rfl) (fun _=>run_move rfl rfl) ?_
        refine aj 1 20 rfl (by kernel_rfl) (fun _ _ _ hz Sz=>.inl (U8 (us:=[_,_]) rfl rfl ay rfl az (Sz.suf.ax (i:=0) rfl ⟨rfl,rfl,trivial⟩))) ?_
        refine ai 2 19 rfl (by kernel_rfl) (fun _=>run_move rfl rfl) ?_
        refine ai 3 18 rfl (by kernel_rfl) (fun _=>run_move rfl rfl) ?_
        refine aj 4 17 rfl (by kernel_rfl) (fun _ _ _ hz Sz=>.inl (Uk (C:=(cB 141)) k rfl rfl rfl jF (by first|rfl|omega) (hr2.mono hz) (by first|omega|(simp only[ls];omega)))) ?_
        obtain⟨kN,hr3⟩:=hd1.2 k (by first|omega|(simp only[ls];omega))
        have acB:(ga (U6 d) k).length*16<=140737488355328:=hr3.room
        refine aj 5 16 rfl (by kernel_rfl) (fun _ _ _ hz Sz=>.inl (U4 rfl rfl ig rfl ((hr2.mono hz).cell Sz.m (i:=k) (by first|omega|(simp only[ls];omega)) 0 rfl (congrArg (fun n=>some (Value.slice _ n _)) kN)))) ?_
        refine aj 6 15 rfl (by kernel_rfl) (fun _ _ _ hz Sz=>.inl (Uk (C:=bW) 0 rfl rfl rfl gM (by first|rfl|omega) (hr3.mono hz) (by first|omega|(simp only[ls];omega)))) ?_
        refine ai 7 14 rfl (by kernel_rfl) (fun _=>U1 rfl rfl aZ rfl (aB) (aA)) ?_
        refine aj 8 13 rfl (by kernel_rfl) (fun _ _ _ hz Sz=>.inl (U4 rfl rfl av rfl ((hr3.mono hz).cell Sz.m (i:=0) (by first|omega|(simp only[ls];omega)) 0 rfl rfl))) ?_
        refine ai 9 12 rfl (by kernel_rfl) (fun _=>run_move rfl rfl) ?_
        refine ai 10 11 rfl (by kernel_rfl) (fun _=>run_move rfl rfl) ?_
        refine aj 11 10 rfl (by kernel_rfl) (fun _ _ _ hz Sz=>.inl (Uk (C:=(cB 141)) k rfl rfl rfl jF (by first|rfl|omega) (hr2.mono hz) (by first|omega|(simp only[ls];omega)))) ?_
        obtain⟨mR,hr4⟩:=hd1.2 k (by first|omega|(simp only[ls];omega))
        have FH:(ga (U6 d) k).length*16<=140737488355328:=hr4.room
        refine aj 12 9 rfl (by kernel_rfl) (fun _ _ _ hz Sz=>.inl (U4 rfl rfl ig rfl ((hr2.mono hz).cell Sz.m (i:=k) (by first|omega|(simp only[ls];omega)) 0 rfl (congrArg (fun n=>some (Value.slice _ n _)) mR)))) ?_
        refine aj 13 8 rfl (by kernel_rfl) (fun _ _ _ hz Sz=>.inl (Uk (C:=bW) 0 rfl rfl rfl gM (by first|rfl|omega) (hr4.mono hz) (by first|omega|(simp only[ls];omega)))) ?_
        refine ai 14 7 rfl (by kernel_rfl) (fun _=>U1 rfl rfl aZ rfl (fI) (fH)) ?_
        refine aj 15 6 rfl (by kernel_rfl) (fun _ _ _ hz Sz=>.inl (U4 rfl rfl dh rfl ((hr4.mono hz).cell Sz.m (i:=0) (by first|omega|(simp only[ls];omega)) 1 rfl rfl))) ?_
        refine aj 16 5 rfl (by kernel_rfl) (fun _ _ _ hz Sz=>Uq rfl rfl rfl rfl rfl lj Sz (lH d ((ga (ga (U6 d) k) 0).a) ((ga (ga (U6 d) k) 0).b) ((aC.mono (Hp.Ua hz Sz.mx)).mono Sz.Uw) Sz.aD)) ?_
        refine ai 17 4 rfl (by kernel_rfl) (fun _=>mr rfl rfl cN rfl av rfl rfl) ?_
        refine aj 18 3 rfl (by kernel_rfl) (fun _ _ _ hz Sz=>.inl (Uk (C:=Uv) ((Ud d ((ga (ga (U6 d) k) 0).a) ((ga (ga (U6 d) k) 0).b)).1) rfl rfl rfl bw (by first|rfl|omega) (hr1.mono hz) (by first|omega|(simp only[ls];omega)))) ?_
        refine aj 19 2 rfl (by kernel_rfl) (fun _ _ _ hz Sz=>.inl (U4 rfl rfl av rfl ((hr1.mono hz).cell Sz.m (i:=(Ud d ((ga (ga (U6 d) k) 0).a) ((ga (ga (U6 d) k) 0).b)).1) (by first|omega|(simp only[ls];omega)) 0 rfl rfl))) ?_
        refine ai 20 1 rfl (by kernel_rfl) (fun _=>run_move rfl rfl) ?_
        refine ai 21 0 rfl (by kernel_rfl) (fun _=>bP rfl rfl rfl) ?_
        refine Uu (by kernel_rfl) (fun pX dL=>?_)
        refine ah [1,3,4,5,6,8,66] rfl (U3 ?_)
        refine Ue Zbr Zbs rfl rfl rfl rfl (fun am3=>?_) (fun am3=>?_)
        ·refine U0 rfl (ag 0 1 rfl rfl (af 1 rfl (Ug rfl rfl rfl (by first|omega|(simp only[ls];omega))) ?_))
         refine ag 2 1 rfl rfl (U5 rfl (bk (ah [1,3,4,5,6,8] rfl (U3 (U0 rfl (ag 0 1 rfl rfl (af 1 rfl (Ug rfl rfl rfl (by first|omega|(simp only[ls];omega))) ?_)))))))
         refine ag 2 1 rfl rfl (U5 rfl (aP ?_))
         intro au aq
         refine⟨_,?lY,⟨k+1,_,rfl,aq.sub ⟨rfl,rfl,rfl,rfl,rfl,rfl,trivial⟩,dL.pick [0] [_] (by decide) ⟨rfl,trivial⟩,?iX,?kr⟩⟩
         case iX=>omega
         case kr=>(rw[kE,hm2,OP];first|rw[if_pos (by omega)]|rw[if_neg (by omega)])
         case lY=>omega
        ·refine Uf rfl (bk (ah [1,3,4,5,6,8] rfl (U3 (U0 rfl (ag 0 1 rfl rfl (af 1 rfl (Ug rfl rfl rfl (by first|omega|(simp only[ls];omega))) ?_))))))
         refine ag 2 1 rfl rfl (U5 rfl (aP ?_))
         intro au aq
         refine⟨_,?lX,⟨k+1,_,rfl,aq.sub ⟨rfl,rfl,rfl,rfl,rfl,rfl,trivial⟩,dL.pick [0] [_] (by decide) ⟨rfl,trivial⟩,?jA,?lR⟩⟩
         case jA=>omega
         case lR=>(rw[kE,hm2,OP];first|rw[if_pos (by omega)]|rw[if_neg (by omega)])
         case lX=>omega
       ·have hm3:m2=kE d (eV d) p (negW (eV d) p d.ae.length) (U6 d).length:=by rw[hm2,show k=(U6 d).length by omega]
        refine bS rfl rfl (ah [1,3,4,5,6] rfl (U3 (U2 Zbt WJ rfl rfl rfl (U0 rfl (ag 0 1 rfl rfl (af 1 rfl (iT rfl rfl rfl) (U5 rfl (ah [1,3,4,5,70] rfl ?_))))))))
        refine U3 ?_
        refine Ue WI Zbw rfl rfl rfl rfl (fun am2=>?_) (fun am2=>?_)
        ·refine U2 Zbx Zby rfl rfl rfl (U0 rfl (ag 0 1 rfl rfl (U5 rfl (ah [2] rfl (U3 (Uj hC [_] rfl rfl ⟨rfl,trivial⟩ ?_))))))
         refine⟨_,rfl,_,aL.trans hle2,(S6.pick [] [] (by decide) trivial),?_⟩
         refine congrArg Value.bool (ahw (p:=p) (by omega) ?_).symm
         unfold oZ
         rw[Bool.or_eq_false_iff]
         exact⟨decide_eq_false (by omega),decide_eq_false (by omega)⟩
        ·refine Uf rfl (bk (ah [1,3,4,5] rfl (U3 (U0 rfl (ag 0 1 rfl rfl (af 1 rfl (Ug rfl rfl rfl (by first|omega|(simp only[ls];omega))) ?_))))))
         refine ag 2 1 rfl rfl (U5 rfl (aP ?_))
         intro au aq
         refine⟨_,?Gm,⟨p+1,rfl,aq.sub ⟨rfl,rfl,rfl,rfl,trivial⟩,S6.pick [0] [_] (by decide) ⟨rfl,trivial⟩,?sI,?xE⟩⟩
         case sI=>omega
         case xE=>(intro q hq;by_cases h:q=p;(subst h;unfold oZ;rw[Bool.or_eq_true];first|(left;exact decide_eq_true (by omega))|(right;exact decide_eq_true (by omega)));exact hall q (by omega))
         case Gm=>omega
  ·refine bS rfl rfl (bL [] trivial (U3 (U2 Zbz Zc0 rfl rfl rfl (U0 rfl (ag 0 1 rfl rfl (U5 rfl (U3 (Uj hC [_] rfl rfl ⟨rfl,trivial⟩ ?_))))))))
   refine⟨_,rfl,_,aL.trans hle2,(S4.pick [] [] (by decide) trivial),?_⟩
   exact congrArg Value.bool (aa8 (fun q hq=>hall q (by omega))).symm
end Go.Proofs.YthppkofceancjaaGreat
namespace Go.Proofs.YthppkofceancjaaGreat
open Go.Shelf
def ahn:Go.Shelf.Ren:=⟨fun|189=>143|125=>102|257=>183|128=>160|129=>161|294=>196|295=>197|296=>198|297=>199|298=>200|299=>201|216=>202|300=>203|301=>204|328=>207|329=>188|330=>189|331=>208|332=>209|215=>210|343=>211|n=>n,fun|28=>53|3=>3|46=>185|0=>0|51=>244|53=>246|4=>4|183=>237|182=>236|131=>241|5=>5|9=>9|218=>265|222=>251|228=>276|229=>152|n=>n,fun|n=>n⟩
theorem amd:Go.Proofs.Lays.n189 Tryz.prog ahn:={
 mixed:=by kernel_rfl
 f125:=Tryz.func102.trans (congrArg some (by kernel_rfl))
 f128:=Tryz.func160.trans (congrArg some (by kernel_rfl))
 f129:=Tryz.func161.trans (congrArg some (by kernel_rfl))
 f189:=Tryz.func143.trans (congrArg some (by kernel_rfl))
 f215:=Tryz.func210.trans (congrArg some (by kernel_rfl))
 f216:=Tryz.func202.trans (congrArg some (by kernel_rfl))
 f257:=Tryz.func183.trans (congrArg some (by kernel_rfl))
 f294:=Tryz.func196.trans (congrArg some (by kernel_rfl))
 f295:=Tryz.func197.trans (congrArg some (by kernel_rfl))
 f296:=Tryz.func198.trans (congrArg some (by kernel_rfl))
 f297:=Tryz.func199.trans (congrArg some (by kernel_rfl))
 f298:=Tryz.func200.trans (congrArg some (by kernel_rfl))
 f299:=Tryz.func201.trans (congrArg some (by kernel_rfl))
 f300:=Tryz.func203.trans (congrArg some (by kernel_rfl))
 f301:=Tryz.func204.trans (congrArg some (by kernel_rfl))
 f328:=Tryz.func207.trans (congrArg some (by kernel_rfl))
 f329:=Tryz.func188.trans (congrArg some (by kernel_rfl))
 f330:=Tryz.func189.trans (congrArg some (by kernel_rfl))
 f331:=Tryz.func208.trans (congrArg some (by kernel_rfl))
 f332:=Tryz.func209.trans (congrArg some (by kernel_rfl))
 f343:=Tryz.func211.trans (congrArg some (by kernel_rfl))
 t0:=uT0
 a0:=Tryz.isAgg0
 z0:=Tryz.sizeOf0
 v0:=Tryz.zeroValue0
 t3:=av
 a3:=Tryz.isAgg3
 z3:=Tryz.sizeOf3
 v3:=Tryz.zeroValue3
 t4:=dh
 a4:=Tryz.isAgg4
 z4:=Tryz.sizeOf4
 v4:=Tryz.zeroValue4
 t5:=uT5
 a5:=Tryz.isAgg5
 z5:=Tryz.sizeOf5
 v5:=Tryz.zeroValue5
 t9:=uT9
 a9:=Tryz.isAgg9
 z9:=Tryz.sizeOf9
 v9:=Tryz.zeroValue9
 t28:=dD
 a28:=Tryz.isAgg53
 z28:=Tryz.sizeOf53
 v28:=Tryz.zeroValue53
 t46:=aj4
 a46:=Tryz.isAgg185
 z46:=Tryz.sizeOf185
 v46:=Tryz.zeroValue185
 t51:=aj0
 a51:=Tryz.isAgg244
 z51:=Tryz.sizeOf244
 v51:=Tryz.zeroValue244
 t53:=ajZ
 a53:=Tryz.isAgg246
 z53:=Tryz.sizeOf246
 v53:=Tryz.zeroValue246
 t131:=aj1
 a131:=Tryz.isAgg241
 z131:=Tryz.sizeOf241
 v131:=Tryz.zeroValue241
 t182:=aj3
 a182:=Tryz.isAgg236
 z182:=Tryz.sizeOf236
 v182:=Tryz.zeroValue236
 t183:=aj2
 a183:=Tryz.isAgg237
 z183:=Tryz.sizeOf237
 v183:=Tryz.zeroValue237
 t218:=ajY
 a218:=Tryz.isAgg265
 z218:=Tryz.sizeOf265
 v218:=Tryz.zeroValue265
 t222:=xA
 a222:=Tryz.isAgg251
 z222:=Tryz.sizeOf251
 v222:=Tryz.zeroValue251
 t228:=ajX
 a228:=Tryz.isAgg276
 z228:=Tryz.sizeOf276
 v228:=Tryz.zeroValue276
 t229:=aj5
 a229:=Tryz.isAgg152
 z229:=Tryz.sizeOf152
 v229:=Tryz.zeroValue152}
theorem ai5{w:World}{M:Hp}{X:Fr}{v:Value}{xs:List Int}(hsz:xs.length<4611686018427387904)(S:SH w M X [Rs.row Uv v xs]):
 C1 Tryz.prog 143 [v] w M X fun u M' r'=>u=.tuple #[]/\M'=M/\r'=Rs.row Uv v (fG xs):=aiJ amd hsz S
end Go.Proofs.YthppkofceancjaaGreat
namespace Go.Proofs.YthppkofceancjaaGreat
open Go.ChangeShapes Go.WideShapes Go.ChangeAt Go.RowKit
def fg(d:Dg)(x k:Nat):Nat:=(Ud d (bt d x k) (cH d x k)).1
def mO(s:List Bool×List Int)(y:Nat):List Bool×List Int:=if ga s.1 y=true then s else(s.1.set y true,s.2++[(y:Int)])
def bfsS(d:Dg)(x:Nat)(s:List Bool×List Int):Nat->List Bool×List Int
 |0=>s
 |k+1=>mO (bfsS d x s k) (fg d x k)
def bfsN(d:Dg):Nat->Nat->List Bool×List Int->List Bool×List Int
 |0,_,s=>s
 |f+1,i,s=>if i<s.2.length then bfsN d f (i+1) (bfsS d (ga s.2 i).toNat s 4)else s
def gV(d:Dg):Nat->List Bool×List (List Int)
 |0=>(List.replicate d.ae.length false,[])
 |c+1=>if ga (gV d c).1 c=true then gV d c else((bfsN d d.ae.length 0 ((gV d c).1.set c true,[(c:Int)])).1,(gV d c).2++[fG (bfsN d d.ae.length 0 ((gV d c).1.set c true,[(c:Int)])).2])
def b9(d:Dg):List (List Int):=(gV d d.ae.length).2
theorem Ei{d:Dg}{f i:Nat}{s:List Bool×List Int}(h:s.2.length<=i):bfsN d f i s=s:=by
 cases f with
 |zero=>rfl
 |succ f=>rw[bfsN,if_neg (by omega)]
theorem aiM{d:Dg}{f i x:Nat}{s s':List Bool×List Int}(h:i<s.2.length)(hx:ga s.2 i=(x:Int))(hs:bfsS d x s 4=s'):bfsN d (f+1) i s=bfsN d f (i+1) s':=by
 rw[bfsN,if_pos h,hx,Int.toNat_natCast,hs]
theorem Ea{d:Dg}{c:Nat}{s:List Bool×List (List Int)}(h:gV d c=s)(hg:ga s.1 c=true):gV d (c+1)=s:=by
 rw[gV,h,if_pos hg]
theorem En{d:Dg}{c:Nat}{s:List Bool×List (List Int)}{r:List Bool×List Int}(h:gV d c=s)(hg:ga s.1 c=false)(hr:bfsN d d.ae.length 0 (s.1.set c true,[(c:Int)])=r):gV d (c+1)=(r.1,s.2++[fG r.2]):=by
 rw[gV,h,if_neg (by rw[hg];exact Bool.false_ne_true),hr]
theorem ahU(d:Dg)(f i:Nat)(s:List Bool×List Int):(bfsN d f i s).1.length=s.1.length:=by
 have h1:∀x s k,(bfsS d x s k).1.length=s.1.length:=fun x s k=>by
  induction k with
  |zero=>rfl
  |succ k ih=>rw[bfsS,mO];split<;>simp[ih]
 induction f generalizing i s with
 |zero=>rfl
 |succ f ih=>rw[bfsN];split<;>simp[ih,h1]
theorem aa9(d:Dg)(c:Nat):(gV d c).1.length=d.ae.length:=by
 induction c with
 |zero=>simp[gV]
 |succ c ih=>rw[gV];split<;>simp[ih,ahU]
theorem zR(d:Dg)(c:Nat):(gV d c).2.length<=c:=by
 induction c with
 |zero=>simp[gV]
 |succ c ih=>rw[gV];split;exact Nat.le_succ_of_le ih;rw[List.length_append];show _+1<=_;omega
theorem AE{d:Dg}(h:aX d=true){x k:Nat}(hx:x<d.ae.length)(hk:k<4):fg d x k<d.ae.length:=(fe h (kg h hx hk) _).1
noncomputable def WH:=Tryz.f105.body.getD .skip
def Zc2:=cL WH
def WG:=cR WH
def Zc4:=cL WG
def WE:=cR WG
def Zc6:=cL WE
def WD:=cR WE
def WC:=cL WD
def WB:=cR WD
def Zca:=cL WC
def Zcb:=cR WC
def Zcc:=cL Zcb
def Wz:=cL Zcc
def Zce:=cL Wz
def Wy:=cR Wz
def Wx:=cL Wy
def Ww:=cR Wy
def Zci:=cL Wx
def Zcj:=cR Wx
def Zck:=cL Ww
def Zcl:=cR Ww
def Wv:=cL Zck
def Zcn:=cL Wv
def Wu:=cR Wv
def Wt:=cL Wu
def Ws:=cR Wu
def Zcr:=cL Wt
def Wq:=cR Wt
def Zct:=cL Wq
def Zcu:=cR Wq
def Zcv:=cL Ws
def Wp:=cR Ws
def Zcx:=cL Wp
def Wo:=cR Wp
def Wn:=cL Wo
def Wm:=cR Wo
def Zd1:=cL Wn
def Zd2:=cR Wn
def Zd3:=cL Zd2
def Wl:=cL Zd3
def Wj:=cL Wl
def Wi:=cR Wl
def Zd7:=cL Wj
def Wh:=cR Wj
def Zd9:=cL Wh
def Zda:=cR Wh
def Zdb:=cL Wi
def Zdc:=cR Wi
def Wf:=cL Zdb
def Zde:=cL Wf
def Zdf:=cR Wf
def Zdg:=cL Zdf
def Wd:=cL Zdg
def Zdi:=cL Wd
def Wc:=cR Wd
def Wb:=cL Wc
def Wa:=cR Wc
def Zdm:=cL Wb
def Zdn:=cR Wb
def Zdo:=cL Wa
def Zdp:=cR Wa
def V9:=cL Zdo
def Zdr:=cL V9
def V8:=cR V9
def Zdt:=cL V8
def V7:=cR V8
def Zdv:=cL V7
def V6:=cR V7
def V5:=cL V6
def Zdy:=cR V6
def Zdz:=cL V5
def Ze0:=cR V5
def Ze1:=cL Wm
def Ze2:=cR Wm
def Ze3:=cL WB
def Ze4:=cR WB
set_option maxHeartbeats 1000000 in
set_option maxRecDepth 10000 in
theorem ahX{w:World}{M:Hp}{X:Fr}(d:Dg){bH:Nat}{cA iA oA:Option Addr}{cc ic oc:Nat}(br:cM (M.un X.h) bH 70 [.slice cA d.ae.length cc,.int .i64 d.loops,.slice iA (aw d false (4*d.ae.length)).length ic,.slice oA (aw d true (4*d.ae.length)).length oc])(hsc:aF aG (M.un X.h) cA cc d.ae)(hsi:aF bp (M.un X.h) iA ic (aw d false (4*d.ae.length)))(aK:aF bp (M.un X.h) oA oc (aw d true (4*d.ae.length)))(hn:d.ae.length<=16)(hab:aX d=true)(S:SH w M X []):Ct Tryz.prog 105 [.pointer (some ⟨bH,0,none⟩)] w M X (fun u M=>∃A c vs,u=.slice A vs.length c/\aF (cB 53) M A c vs/\ez Uv M vs (b9 d)):=by
 unfold Ct
 refine Up (b:=WH) Tryz.func105 rfl Tryz.ntmps105 rfl (fun C hC=>(bq [(0,_)] ⟨rfl,trivial⟩ (U2 Zc2 WG rfl rfl rfl (U0 rfl (ag 0 1 rfl rfl (U5 rfl (ah [0] rfl (U3 (U2 Zc4 WE rfl rfl rfl ?_)))))))))
 refine U0 rfl (ag 0 1 rfl rfl (af 1 rfl (U9 rfl rfl) (af 2 rfl (U1 rfl rfl cU rfl (eF) (eB)) (af 3 rfl (U1 rfl rfl ay rfl (bK) (bJ)) (af 4 rfl (U4 rfl rfl bG rfl (br.cell S.um rfl)) (af 5 rfl (cI rfl rfl rfl rfl rfl rfl bG) (ak 6 7 rfl rfl rfl (oU (C:=gw) d.ae.length rfl rfl rfl rfl rfl mE (by first|rfl|omega) (by show _*1<=_;first|omega|(simp only[ls];omega)) S ?_))))))))
 intro yY w1 S1;clear S
 refine ag 7 1 rfl rfl (U5 rfl (ah [0,3] rfl (U3 (U2 Zc6 WD rfl rfl rfl (U0 rfl (ag 0 1 rfl rfl (U5 rfl (U3 ?_))))))))
 refine U2 WC WB rfl rfl rfl (U2 Zca Zcb rfl rfl rfl (U0 rfl (ag 0 1 rfl rfl (af 1 rfl (U9 rfl rfl) (af 2 rfl (U1 rfl rfl cU rfl (eF) (eB)) (af 3 rfl (U1 rfl rfl ay rfl (bK) (bJ)) (af 4 rfl (U4 rfl rfl bG rfl (br.cell S1.um rfl)) (af 5 rfl (cI rfl rfl rfl rfl rfl rfl bG) ?_))))))))
 refine ag 6 1 rfl rfl (U5 rfl (ah [0,3,4,22,23] rfl (U3 (Uc Zcc 0 rfl rfl rfl ?_))))
 have S2:=S1.np (cB 53);clear S1
 refine Uz (fun aS au aM=>∃(c:Nat) (seen:List Bool) (vs:List eT) (bO:List (List Int)) (tT:Value) (eX:Value) (M1:Hp),M.le M1/\aS=d.ae.length-c/\Env 74 [(0,.pointer (some ⟨bH,0,none⟩)),(3,tT),(4,eX),(22,.int .i64 (d.ae.length:Int)),(23,.int .i64 (c:Int))] au/\SH aM M1 X [Rs.row (cB 53) eX vs,Rs.row gw tT seen]/\c<=d.ae.length/\gV d c=(seen,bO)/\ez Uv M1 vs bO) rfl ?_ ?_
 ·intro au aq
  refine⟨_,⟨0,_,_,[],_,_,_,Hp.le_refl _,rfl,aq.sub ⟨rfl,rfl,rfl,rfl,rfl,trivial⟩,S2.pick [0,1] [_,_] (by decide) ⟨rfl,rfl,trivial⟩,?cd,?cT,?lS⟩⟩
  case cd=>omega
  case cT=>rfl
  case lS=>first|exact ez.dW|(rw[e9];exact ez.dW)
 ·rintro m1 a1 w2 ⟨c,seen,vs,bO,tT,eX,M1,aL,rfl,bh,S3,hc,qa,eQ⟩
  clear S2
  refine b7 bh (c:=Wz) rfl ?_
  clear bh a1
  replace br:=br.mono (Hp.Ua aL S3.mx)
  replace hsc:=hsc.mono (Hp.Ua aL S3.mx)
  replace hsi:=hsi.mono (Hp.Ua aL S3.mx)
  replace aK:=aK.mono (Hp.Ua aL S3.mx)
  have hvs:=eQ.1
  have kv:=zR d c
  rw[qa]at kv
  replace kv:bO.length<=c:=kv
  have hsl:seen.length=d.ae.length:=by have h9:=aa9 d c;rw[qa]at h9;exact h9
  refine U2 Zce Wy rfl rfl rfl (U0 rfl (af 0 rfl (bV rfl rfl rfl) (U5 rfl (U3 (U2 Wx Ww rfl rfl rfl ?_)))))
  refine Ue Zci Zcj rfl rfl rfl rfl (fun nI=>?_) (fun nI=>?_)
  ·refine Uf rfl (ah [0,3,4,22,23] rfl (U3 (U2 Zck Zcl rfl rfl rfl (Uc Wv 1 rfl rfl rfl (U2 Zcn Wu rfl rfl rfl (U0 rfl (ag 0 2 rfl rfl (U5 rfl ?_))))))))
   refine ah [0,3,4,22,23,5] rfl (U3 (U2 Wt Ws rfl rfl rfl (U2 Zcr Wq rfl rfl rfl (U0 rfl (ag 0 2 rfl rfl (af 2 rfl (Ui (C:=gw) (i:=1) c rfl rfl rfl mE S3 rfl (by first|rfl|omega) (by first|omega|(simp only[ls];omega))) ?_))))))
   refine af 3 rfl (U4 rfl rfl dh rfl (S3.dv (i:=1) (e:=c) (j:=0) rfl (by first|omega|(simp only[ls];omega)) rfl rfl)) ?_
   refine U5 rfl (ah [0,3,4,22,23,5,29] rfl (U3 ?_))
   refine cS Zct Zcu rfl rfl rfl rfl (fun qX=>?_) (fun qX=>?_)
   ·refine bS rfl rfl (ah [0,3,4,22,23] rfl (U3 (U0 rfl (af 0 rfl (Ug rfl rfl rfl (by first|omega|(simp only[ls];omega))) ?_))))
    refine ag 1 1 rfl rfl (U5 rfl (aP ?_))
    intro au aq
    refine⟨_,?dJ,⟨c+1,_,_,bO,_,_,_,(aL),rfl,aq.sub ⟨rfl,rfl,rfl,rfl,rfl,trivial⟩,S3.pick [0,1] [_,_] (by decide) ⟨rfl,rfl,trivial⟩,?cu,?cY,?ku⟩⟩
    case cu=>omega
    case cY=>first|exact Ea qa qX|exact En qa (by simpa using qX) (OQ.trans (Ei (by show l.length<=i;omega)))
    case ku=>first|exact eQ|(rw[e9];exact eQ)
    case dJ=>omega
   ·refine Uf rfl (ah [0,3,4,22,23,5] rfl (U3 (U2 Zcv Wp rfl rfl rfl (U0 rfl (ag 0 2 rfl rfl (af 2 rfl (Ui (C:=gw) (i:=1) c rfl rfl rfl mE S3 rfl (by first|rfl|omega) (by first|omega|(simp only[ls];omega))) ?_))))))
    refine ak 3 4 rfl rfl rfl (gy (C:=gw) (i:=1) (e:=c) (j:=0) (us:=[_]) (H':=[_,_]) true rfl rfl S3 rfl (by first|omega|(simp only[ls];omega)) rfl rfl rfl vQ rfl rfl rfl rfl ?_)
    intro w3 S4;clear S3
    refine U5 rfl (ah [0,3,4,22,23,5] rfl (U3 (U2 Zcx Wo rfl rfl rfl (U0 rfl (ag 0 1 rfl rfl (ak 1 2 rfl rfl rfl (iy (C:=Uv) (l:=[_]) rfl rfl rfl rfl bw rfl rfl rfl rfl S4 ?_)))))))
    intro aI w4 S5;clear S4
    refine ag 2 1 rfl rfl (U5 rfl (ah [0,3,4,22,23,6] rfl (U3 (U2 Wn Wm rfl rfl rfl (U2 Zd1 Zd2 rfl rfl rfl (U0 rfl (ag 0 1 rfl rfl (U5 rfl ?_))))))))
    refine U3 (Uc Zd3 2 rfl rfl rfl ?_)
    have S6:=S5.ajH (C:=Uv) [(c:Int)] (i:=0) (H':=[_,_,_]) rfl rfl (by simp) rfl;clear S5
    obtain⟨Oz,er3⟩:∃v,v=Value.slice (some ⟨aI,0,none⟩) ([(c:Int)]).length ([(c:Int)]).length:=⟨_,rfl⟩
    rw[<-er3]at S6
    refine jy 6 (Oz) rfl er3.symm ?_
    refine Uz (fun aS au aM=>∃(i:Nat) (fy:List Bool) (l:List Int) (sP:Value) (Ov:Value),aS=d.ae.length-i/\Env 74 [(0,.pointer (some ⟨bH,0,none⟩)),(3,sP),(4,eX),(22,.int .i64 (d.ae.length:Int)),(23,.int .i64 (c:Int)),(6,Ov),(7,.int .i64 (i:Int))] au/\SH aM M1 X [Rs.row Uv Ov l,Rs.row (cB 53) eX vs,Rs.row gw sP fy]/\bfsN d d.ae.length 0 (seen.set c true,[(c:Int)])=bfsN d (d.ae.length-i) i (fy,l)/\i<=l.length/\l.length+free fy<=d.ae.length/\(∀y,y∈l->0<=y/\y<(d.ae.length:Int))/\fy.length=d.ae.length) rfl ?_ ?_
    ·intro au aq
     refine⟨_,⟨0,_,_,_,_,rfl,aq.sub ⟨rfl,rfl,rfl,rfl,rfl,rfl,rfl,trivial⟩,S6.pick [0,1,2] [_,_,_] (by decide) ⟨rfl,rfl,rfl,trivial⟩,?dO,?gh,?ny,?xH,?FO⟩⟩
     case dO=>rfl
     case gh=>(exact Nat.zero_le _)
     case ny=>(have h8:=mW (seen:=seen) (x:=c) (by omega) (by simpa using qX);have h9:free seen<=seen.length:=List.countP_le_length;show 1+_<=_;omega)
     case xH=>(intro y hy;rw[List.mem_singleton]at hy;subst hy;omega)
     case FO=>(rw[List.length_set];exact hsl)
    ·rintro m2 a2 w5 ⟨i,fy,l,sP,Ov,rfl,cx,S7,OQ,hi,zo,hin,hs2⟩
     clear S6
     refine b7 cx (c:=Wl) rfl ?_
     clear cx a2
     refine U2 Wj Wi rfl rfl rfl (U2 Zd7 Wh rfl rfl rfl (U0 rfl (ag 0 2 rfl rfl (af 2 rfl (oJ (C:=Uv) (i:=0) rfl rfl rfl rfl rfl rfl bw S7 rfl) (af 3 rfl (bV rfl rfl rfl) (U5 rfl (ah [0,3,4,22,23,6,7,38] rfl (U3 ?_))))))))
     refine Ue Zd9 Zda rfl rfl rfl rfl (fun tq=>?_) (fun tq=>?_)
     ·have hil:i<l.length:=by omega
      have jJ:=hin (ga l i) (by rw[fJ hil];exact List.getElem_mem hil)
      obtain⟨x,hx⟩:∃x:Nat,ga l i=(x:Int):=⟨(ga l i).toNat,by omega⟩
      have hxn:x<d.ae.length:=by omega
      refine Uf rfl (ah [0,3,4,22,23,6,7] rfl (U3 (U2 Zdb Zdc rfl rfl rfl (Uc Wf 3 rfl rfl rfl (U2 Zde Zdf rfl rfl rfl (U0 rfl (ag 0 1 rfl rfl (U5 rfl ?_))))))))
      refine U3 (Uc Zdg 4 rfl rfl rfl ?_)
      refine Uz (fun aS au aM=>∃(k:Nat) (sB:List Bool) (l3:List Int) (Gg:Value) (Gh:Value),aS=4-k/\Env 74 [(0,.pointer (some ⟨bH,0,none⟩)),(3,Gg),(4,eX),(22,.int .i64 (d.ae.length:Int)),(23,.int .i64 (c:Int)),(6,Gh),(7,.int .i64 (i:Int)),(41,.int .i64 (k:Int))] au/\SH aM M1 X [Rs.row Uv Gh l3,Rs.row (cB 53) eX vs,Rs.row gw Gg sB]/\k<=4/\bfsS d x (fy,l) k=(sB,l3)/\l3.length+free sB<=d.ae.length/\(∀y,y∈l3->0<=y/\y<(d.ae.length:Int))/\sB.length=d.ae.length/\i<l3.length/\ga l3 i=(x:Int)) rfl ?_ ?_
      ·intro au aq
       refine⟨_,⟨0,_,_,_,_,rfl,aq.sub ⟨rfl,rfl,rfl,rfl,rfl,rfl,rfl,rfl,trivial⟩,S7.pick [0,1,2] [_,_,_] (by decide) ⟨rfl,rfl,rfl,trivial⟩,?eU,?gQ,?o8,?xG,?FN,?FM,?akt⟩⟩
       case eU=>omega
       case gQ=>rfl
       case o8=>exact zo
       case xG=>exact hin
       case FN=>exact hs2
       case FM=>omega
       case akt=>exact hx
      ·rintro m3 a3 w6 ⟨k,sB,l3,Gg,Gh,rfl,fU,S8,hk,hbs,adx,xX,hs3,OJ,hx3⟩
       clear S7
       refine b7 fU (c:=Wd) rfl ?_
       clear fU a3
       refine U2 Zdi Wc rfl rfl rfl (U0 rfl (af 0 rfl (bV rfl rfl rfl) (U5 rfl (U3 (U2 Wb Wa rfl rfl rfl ?_)))))
       refine Ue Zdm Zdn rfl rfl rfl rfl (fun td=>?_) (fun td=>?_)
       ·refine Uf rfl (ah [0,3,4,22,23,6,7,41] rfl (U3 (U2 Zdo Zdp rfl rfl rfl (Uc V9 5 rfl rfl rfl (U2 Zdr V8 rfl rfl rfl (U0 rfl (ag 0 2 rfl rfl (U5 rfl ?_))))))))
        refine ah [0,3,4,22,23,6,7,41,8] rfl (U3 (U2 Zdt V7 rfl rfl rfl (U0 rfl (ag 0 3 rfl rfl (af 3 rfl (Ui (C:=Uv) (i:=0) i rfl rfl rfl bw S8 rfl (by first|rfl|omega) (by first|omega|(simp only[ls];omega))) ?_)))))
        refine af 4 rfl (U4 rfl rfl av rfl (S8.dv (i:=0) (e:=i) (j:=0) rfl (by first|omega|(simp only[ls];omega)) rfl rfl)) ?_
        refine b6 48 (.int .i64 (x:Int)) rfl (int_eq hx3) ?_
        have hnb:=AE hab (k:=k) hxn (by omega)
        refine ag 5 1 rfl rfl (af 6 rfl (run_build (l:=[_,_]) rfl rfl FD rfl rfl) (ak 7 8 rfl rfl rfl (cC rfl rfl rfl rfl rfl rfl rfl alp S8 (aiT d x k (br.mono S8.Uw) (hsc.mono S8.Uw) (hsi.mono S8.Uw) (aK.mono S8.Uw) (by first|assumption|omega) hab (by omega) (by omega) S8.aD) ?_)))
        rintro _ w7 S9 rfl;clear S8
        refine af 8 rfl (mr rfl rfl ct rfl av rfl rfl) (ag 9 1 rfl rfl (U5 rfl (ah [0,3,4,22,23,6,7,41,9] rfl (U3 (U2 Zdv V6 rfl rfl rfl (jy 9 (.int .i64 ((fg d x k:Nat):Int)) rfl (int_eq rfl) (U0 rfl (ag 0 2 rfl rfl ?_))))))))
        refine af 2 rfl (Ui (C:=gw) (i:=2) (fg d x k) rfl rfl rfl mE S9 rfl (by first|rfl|omega) (by first|omega|(simp only[ls];omega))) ?_
        refine af 3 rfl (U4 rfl rfl dh rfl (S9.dv (i:=2) (e:=fg d x k) (j:=0) rfl (by first|omega|(simp only[ls];omega)) rfl rfl)) ?_
        refine af 4 rfl (dE rfl rfl) (U5 rfl (ah [0,3,4,22,23,6,7,41,9,57] rfl (U3 ?_)))
        refine cS V5 Zdy rfl rfl rfl rfl (fun BF=>?_) (fun BF=>?_)
        ·simp only[Bool.and_eq_true,Bool.or_eq_true,Bool.and_eq_false_iff,Bool.or_eq_false_iff,decide_eq_true_eq,decide_eq_false_iff_not,Bool.not_eq_true',Bool.not_eq_false']at BF
         have qd:ga sB (fg d x k)=false:=by simpa using BF
         have oz:=mW (seen:=sB) (x:=fg d x k) (by omega) qd
         refine U2 Zdz Ze0 rfl rfl rfl (U0 rfl (ag 0 2 rfl rfl (af 2 rfl (Ui (C:=gw) (i:=2) (fg d x k) rfl rfl rfl mE S9 rfl (by first|rfl|omega) (by first|omega|(simp only[ls];omega))) ?_)))
         refine ak 3 4 rfl rfl rfl (gy (C:=gw) (i:=2) (e:=fg d x k) (j:=0) (us:=[_]) (H':=[_,_,_]) true rfl rfl S9 rfl (by first|omega|(simp only[ls];omega)) rfl rfl rfl vQ rfl rfl rfl rfl ?_)
         intro w8 bF;clear S9
         refine U5 rfl (ah [0,3,4,22,23,6,7,41,9] rfl (U3 (U0 rfl (ag 0 2 rfl rfl (ak 2 3 rfl rfl rfl (iy (C:=Uv) (l:=[_]) rfl rfl rfl rfl bw rfl rfl rfl rfl bF ?_))))))
         intro aQ w9 bQ;clear bF
         refine ak 3 4 rfl rfl rfl (jg (C:=Uv) (i:=1) (q:=0) ((fg d x k:Nat):Int) rfl rfl rfl rfl rfl rfl rfl rfl bw bQ rfl rfl rfl (by show(_+1)*8<=_;first|omega|(simp only[ls];omega)) ?_)
         intro avC jZ cw;clear bQ
         have bZ:=cw.pick [1,2,3] [_,_,_] (by decide) ⟨rfl,rfl,rfl,trivial⟩;clear cw
         refine ag 4 1 rfl rfl (U5 rfl (bk (ah [0,3,4,22,23,6,7,41] rfl (U3 (U0 rfl (af 0 rfl (Ug rfl rfl rfl (by first|omega|(simp only[ls];omega))) ?_))))))
         refine ag 1 1 rfl rfl (U5 rfl (aP ?_))
         intro au aq
         refine⟨_,?kB,⟨k+1,_,_,_,_,rfl,aq.sub ⟨rfl,rfl,rfl,rfl,rfl,rfl,rfl,rfl,trivial⟩,bZ.pick [0,1,2] [_,_,_] (by decide) ⟨rfl,rfl,rfl,trivial⟩,?fB,?gP,?o7,?FL,?aks,?akr,?akq⟩⟩
         case fB=>omega
         case gP=>(show mO _ _=_;rw[hbs,mO];first|rw[if_pos (by assumption)]|rw[if_neg (by rw[qd];exact Bool.false_ne_true)])
         case o7=>first|exact adx|(rw[List.length_append];show _+1+_<=_;omega)
         case FL=>first|exact xX|(intro y hy;rcases List.mem_append.1 hy with hy|hy;exact xX y hy;rw[List.mem_singleton]at hy;subst hy;omega)
         case aks=>first|exact hs3|(rw[List.length_set];exact hs3)
         case akr=>first|exact OJ|(rw[List.length_append];omega)
         case akq=>first|exact hx3|(rw[wB _ _ _ (by omega)];exact hx3)
         case kB=>omega
        ·simp only[Bool.and_eq_true,Bool.or_eq_true,Bool.and_eq_false_iff,Bool.or_eq_false_iff,decide_eq_true_eq,decide_eq_false_iff_not,Bool.not_eq_true',Bool.not_eq_false']at BF
         refine Uf rfl (bk (ah [0,3,4,22,23,6,7,41] rfl (U3 (U0 rfl (af 0 rfl (Ug rfl rfl rfl (by first|omega|(simp only[ls];omega))) ?_)))))
         refine ag 1 1 rfl rfl (U5 rfl (aP ?_))
         intro au aq
         refine⟨_,?lZ,⟨k+1,_,_,_,_,rfl,aq.sub ⟨rfl,rfl,rfl,rfl,rfl,rfl,rfl,rfl,trivial⟩,S9.pick [0,1,2] [_,_,_] (by decide) ⟨rfl,rfl,rfl,trivial⟩,?iz,?jB,?xF,?akp,?ako,?akn,?akm⟩⟩
         case iz=>omega
         case jB=>(show mO _ _=_;rw[hbs,mO];first|rw[if_pos (by assumption)]|rw[if_neg (by rw[qd];exact Bool.false_ne_true)])
         case xF=>first|exact adx|(rw[List.length_append];show _+1+_<=_;omega)
         case akp=>first|exact xX|(intro y hy;rcases List.mem_append.1 hy with hy|hy;exact xX y hy;rw[List.mem_singleton]at hy;subst hy;omega)
         case ako=>first|exact hs3|(rw[List.length_set];exact hs3)
         case akn=>first|exact OJ|(rw[List.length_append];omega)
         case akm=>first|exact hx3|(rw[wB _ _ _ (by omega)];exact hx3)
         case lZ=>omega
       ·refine bS rfl rfl (bk (ah [0,3,4,22,23,6,7] rfl (U3 (U0 rfl (ag 0 1 rfl rfl (af 1 rfl (Ug rfl rfl rfl (by first|omega|(simp only[ls];omega))) ?_))))))
        refine ag 2 1 rfl rfl (U5 rfl (aP ?_))
        intro au aq
        refine⟨_,?lY,⟨i+1,_,_,_,_,rfl,aq.sub ⟨rfl,rfl,rfl,rfl,rfl,rfl,rfl,trivial⟩,S8.pick [0,1,2] [_,_,_] (by decide) ⟨rfl,rfl,rfl,trivial⟩,?iX,?kr,?akl,?akk,?akj⟩⟩
        case iX=>(rw[OQ,show d.ae.length-i=(d.ae.length-(i+1))+1 by omega];exact aiM (by show i<l.length;omega) hx (hbs▸(by rw[show k=4 by omega])))
        case kr=>omega
        case akl=>omega
        case akk=>exact xX
        case akj=>exact hs3
        case lY=>omega
     ·have hsr:=aby l
      refine bS rfl rfl (ah [0,3,4,22,23,6] rfl (U3 (U2 Ze1 Ze2 rfl rfl rfl (U0 rfl (ag 0 1 rfl rfl (ak 1 2 rfl rfl rfl (jk rfl rfl rfl rfl rfl rfl rfl alr S7 (i:=0) rfl (ai5 (by omega) (S7.gN (i:=0) rfl)) ?_)))))))
      rintro al4 kH _ _-bN ⟨rfl,rfl,rfl⟩;clear S7
      change SH _ _ _ [_,_,_]at bN
      refine U5 rfl (ah [0,3,4,22,23,6] rfl (U3 (U0 rfl (ag 0 2 rfl rfl ?_))))
      obtain⟨M2,dM,bX,⟨A1,c1,e1,hr1⟩⟩:=bN.fZ (i:=0) (H':=[_,_,_]) rfl rfl (by show _*8<=_;first|omega|(simp only[ls];omega))
      clear bN;subst e1
      replace br:=br.mono (Hp.Ua dM bX.mx)
      replace hsc:=hsc.mono (Hp.Ua dM bX.mx)
      replace hsi:=hsi.mono (Hp.Ua dM bX.mx)
      replace aK:=aK.mono (Hp.Ua dM bX.mx)
      replace eQ:=eQ.mono dM
      refine ak 2 3 rfl rfl rfl (iy (C:=(cB 53)) (l:=[_]) rfl rfl rfl rfl AR rfl rfl rfl rfl bX ?_)
      intro bE mb bM;clear bX
      refine ak 3 4 rfl rfl rfl (jg (C:=(cB 53)) (i:=2) (q:=0) (⟨A1,(fG l).length,c1⟩:eT) rfl rfl rfl rfl rfl rfl rfl rfl AR bM rfl rfl rfl (by show(_+1)*24<=_;first|omega|(simp only[ls];omega)) ?_)
      intro ac9 lB bI;clear bM
      have bY:=bI.pick [1,2,3] [_,_,_] (by decide) ⟨rfl,rfl,rfl,trivial⟩;clear bI
      have hd1:=eQ.snoc (c:=c1) hr1
      refine ag 4 1 rfl rfl (U5 rfl (bk (ah [0,3,4,22,23] rfl (U3 (U0 rfl (af 0 rfl (Ug rfl rfl rfl (by first|omega|(simp only[ls];omega))) ?_))))))
      refine ag 1 1 rfl rfl (U5 rfl (aP ?_))
      intro au aq
      refine⟨_,?lX,⟨c+1,_,_,(bO++[fG l]),_,_,_,(aL.trans dM),rfl,aq.sub ⟨rfl,rfl,rfl,rfl,rfl,trivial⟩,bY.pick [1,2] [_,_] (by decide) ⟨rfl,rfl,trivial⟩,?jA,?lR,?aki⟩⟩
      case jA=>omega
      case lR=>first|exact Ea qa qX|exact En qa (by simpa using qX) (OQ.trans (Ei (by show l.length<=i;omega)))
      case aki=>first|exact hd1|(rw[e9];exact hd1)
      case lX=>omega
  ·refine bS rfl rfl (ah [4] rfl (U3 (U2 Ze3 Ze4 rfl rfl rfl (U0 rfl (ag 0 2 rfl rfl (U5 rfl (ah [2] rfl (U3 ?_))))))))
   obtain⟨M3,nE,dC,⟨A2,c2,e2,hr2⟩⟩:=S3.fZ (i:=0) (H':=[_,_]) rfl rfl (by show _*24<=_;first|omega|(simp only[ls];omega))
   clear S3;subst e2
   replace br:=br.mono (Hp.Ua nE dC.mx)
   replace hsc:=hsc.mono (Hp.Ua nE dC.mx)
   replace hsi:=hsi.mono (Hp.Ua nE dC.mx)
   replace aK:=aK.mono (Hp.Ua nE dC.mx)
   replace eQ:=eQ.mono nE
   refine Uj hC [_] rfl rfl ⟨rfl,trivial⟩ ?_
   refine⟨_,rfl,_,aL.trans nE,(dC.pick [] [] (by decide) trivial),?_⟩
   obtain rfl:c=d.ae.length:=by omega
   have e2:b9 d=bO:=by unfold b9;rw[qa]
   rw[e2]
   exact⟨_,_,_,rfl,hr2,eQ⟩
end Go.Proofs.YthppkofceancjaaGreat
namespace Go.Proofs.YthppkofceancjaaGreat
open Go.ChangeShapes Go.WideShapes Go.ChangeAt Go.RowKit
theorem Ar{xs:List Bool}{i:Nat}{y:Bool}(h:i<xs.length):ga (xs.set i y) i=y:=by rw[dV _ _ _ _ h,if_pos rfl]
theorem F4{xs:List Bool}{i j:Nat}{y:Bool}(h:i≠j):ga (xs.set i y) j=ga xs j:=by unfold ga;simp[List.getElem?_set,h]
inductive Rc(d:Dg):Nat->Nat->Prop
 |refl (x:Nat):Rc d x x
 |step {x y k:Nat}:Rc d x y->k<4->Rc d x (fg d y k)
structure BI(d:Dg)(n:Nat)(s0:List Bool)(c:Nat)(s:List Bool×List Int):Prop where
 len:s.1.length=n
 see:∀x,x<n->(ga s.1 x=true<->(ga s0 x=true\/(x:Int)∈s.2))
 nod:s.2.Nodup
 el:∀y∈s.2,∃z:Nat,y=(z:Int)/\z<n/\ga s0 z=false/\Rc d c z
 room:s.2.length+free s.1<=n
theorem aiP{d:Dg}{n:Nat}{s0:List Bool}{c:Nat}{s:List Bool×List Int}(h:BI d n s0 c s){y:Nat}(hy:y<n)(hr:Rc d c y):
  BI d n s0 c (mO s y)/\(∃t,(mO s y).2=s.2++t)/\ga (mO s y).1 y=true/\∀x,ga s.1 x=true->ga (mO s y).1 x=true:=by
 unfold mO
 by_cases hg:ga s.1 y=true
 ·rw[if_pos hg]
  exact⟨h,⟨[],by simp⟩,hg,fun x hx=>hx⟩
 ·rw[if_neg hg]
  have hlen:=h.len
  have hf:ga s.1 y=false:=by simpa using hg
  have mL:¬(ga s0 y=true\/(y:Int)∈s.2):=fun hh=>hg ((h.see y hy).2 hh)
  have zo:=mW (seen:=s.1) (x:=y) (by omega) hf
  have hro:=h.room
  refine⟨⟨by simp[hlen],fun x hx=>?_,?_,fun z hz=>?_,?_⟩,⟨[(y:Int)],rfl⟩,?_,fun x hx=>?_⟩
  ·by_cases e:x=y
   ·subst e
    exact⟨fun _=>.inr (by simp),fun _=>Ar (by omega)⟩
   ·show ga (s.1.set y true) x=true<->_
    rw[F4 (show y≠x from fun e'=>e e'.symm)]
    rw[h.see x hx,List.mem_append,List.mem_singleton]
    constructor
    ·rintro(h1|h1)
     ·exact .inl h1
     ·exact .inr (.inl h1)
    ·rintro(h1|h1|h1)
     ·exact .inl h1
     ·exact .inr h1
     ·exact absurd (Int.ofNat.inj h1) e
  ·rw[List.nodup_append]
   refine⟨h.nod,by simp,fun a ha b hb e=>?_⟩
   rw[List.mem_singleton]at hb
   subst hb;subst e
   exact mL (.inr ha)
  ·rcases List.mem_append.1 hz with hz|hz
   ·exact h.el z hz
   ·rw[List.mem_singleton]at hz
    exact⟨y,hz,hy,by have:=fun e=>mL (.inl e);simpa using this,hr⟩
  ·show(s.2++[(y:Int)]).length+free (s.1.set y true)<=n
   rw[List.length_append]
   show s.2.length+1+_<=n
   omega
  ·exact Ar (by omega)
  ·by_cases e:x=y
   ·subst e;exact Ar (by omega)
   ·show ga (s.1.set y true) x=true
    rw[F4 (show y≠x from fun e'=>e e'.symm)];exact hx
theorem aiL{d:Dg}{s0:List Bool}{c x:Nat}{s:List Bool×List Int}(hab:aX d=true)(h:BI d d.ae.length s0 c s)(hx:x<d.ae.length)(hr:Rc d c x)(k:Nat)(hk:k<=4):
  BI d d.ae.length s0 c (bfsS d x s k)/\(∃t,(bfsS d x s k).2=s.2++t)/\(∀j,j<k->ga (bfsS d x s k).1 (fg d x j)=true)/\∀z,ga s.1 z=true->ga (bfsS d x s k).1 z=true:=by
 induction k with
 |zero=>exact⟨h,⟨[],by simp[bfsS]⟩,fun j hj=>by omega,fun z hz=>hz⟩
 |succ k ih=>
  obtain⟨h1,⟨t1,h2⟩,h3,h4⟩:=ih (by omega)
  obtain⟨g1,⟨t2,g2⟩,g3,g4⟩:=aiP h1 (AE hab hx (show k<4 by omega)) (hr.step (show k<4 by omega))
  refine⟨g1,⟨t1++t2,?_⟩,fun j hj=>?_,fun z hz=>g4 z (h4 z hz)⟩
  ·show(mO _ _).2=_
   rw[g2,h2,List.append_assoc]
  ·by_cases e:j=k
   ·subst e;exact g3
   ·exact g4 _ (h3 j (by omega))
theorem aiN{d:Dg}{s0:List Bool}{c:Nat}(hab:aX d=true):∀(f i:Nat) (s:List Bool×List Int),BI d d.ae.length s0 c s->d.ae.length<=i+f->i<=s.2.length->(∀j,j<i->∀k,k<4->ga s.1 (fg d (ga s.2 j).toNat k)=true)->
  BI d d.ae.length s0 c (bfsN d f i s)/\(∃t,(bfsN d f i s).2=s.2++t)/\∀j,j<(bfsN d f i s).2.length->∀k,k<4->ga (bfsN d f i s).1 (fg d (ga (bfsN d f i s).2 j).toNat k)=true:=by
 intro f
 induction f with
 |zero=>
  intro i s h hf hi hp
  have:=h.room
  exact⟨h,⟨[],by simp[bfsN]⟩,fun j hj=>hp j (by have hj':j<s.2.length:=hj;omega)⟩
 |succ f ih=>
  intro i s h hf hi hp
  by_cases hlt:i<s.2.length
  ·rw[bfsN,if_pos hlt]
   obtain⟨z,hz,tW,_,hrz⟩:=h.el _ (gZ hlt)
   rw[hz,Int.toNat_natCast]
   obtain⟨h1,⟨t,h2⟩,h3,h4⟩:=aiL hab h tW hrz 4 (Nat.le_refl _)
   obtain⟨g1,⟨t',g2⟩,g3⟩:=ih (i+1) (bfsS d z s 4) h1 (by omega) (by rw[h2,List.length_append];omega) (fun j hj k hk=>by
    rw[h2,wB _ _ _ (by omega)]
    by_cases e:j=i
    ·subst e;rw[hz,Int.toNat_natCast];exact h3 k hk
    ·exact h4 _ (hp j (by omega) k hk))
   exact⟨g1,⟨t++t',by rw[g2,h2,List.append_assoc]⟩,g3⟩
  ·rw[Ei (by omega)]
   exact⟨h,⟨[],by simp⟩,fun j hj=>hp j (by omega)⟩
structure PcI(d:Dg)(c:Nat)(s:List Bool×List (List Int)):Prop where
 see:∀x,x<d.ae.length->(ga s.1 x=true<->∃i,i<s.2.length/\(x:Int)∈ga s.2 i)
 O7:∀x,x<c->ga s.1 x=true
 el:∀i,i<s.2.length->(ga s.2 i).Nodup/\∃c0:Nat,c0<d.ae.length/\(c0:Int)∈ga s.2 i/\∀y∈ga s.2 i,∃z:Nat,y=(z:Int)/\z<d.ae.length/\Rc d c0 z
 Dz:∀i,i<s.2.length->∀z:Nat,(z:Int)∈ga s.2 i->∀k,k<4->((fg d z k:Nat):Int)∈ga s.2 i
 O6:∀i j,i<s.2.length->j<s.2.length->∀y,y∈ga s.2 i->y∈ga s.2 j->i=j
theorem aii{d:Dg}(hab:aX d=true)(amr:∀x k,x<d.ae.length->k<4->∃k',k'<4/\fg d (fg d x k) k'=x)(c:Nat)(hc:c<=d.ae.length):PcI d c (gV d c):=by
 induction c with
 |zero=>
  refine⟨fun x hx=>?_,fun x hx=>by omega,fun i hi=>?_,fun i hi=>?_,fun i j hi=>?_⟩
  ·simp only[gV]
   rw[uL _ _ _ hx]
   constructor
   ·intro h;cases h
   ·rintro⟨i,hi,_⟩;exact absurd hi (Nat.not_lt_zero _)
  all_goals exact absurd hi (Nat.not_lt_zero _)
 |succ c ih=>
  have I:=ih (by omega)
  have hlen:=aa9 d c
  generalize hs:gV d c=s at I hlen
  obtain⟨seen,bO⟩:=s
  by_cases hg:ga seen c=true
  ·rw[Ea hs hg]
   exact⟨I.see,fun x hx=>by by_cases e:x=c;(subst e;exact hg);exact I.O7 x (by omega),I.el,I.Dz,I.O6⟩
  ·have OO:ga seen c=false:=by simpa using hg
   rw[En hs OO rfl]
   have hlen':seen.length=d.ae.length:=hlen
   have B0:BI d d.ae.length seen c (seen.set c true,[(c:Int)]):=by
    have zo:=mW (seen:=seen) (x:=c) (by omega) OO
    have hfl:free seen<=seen.length:=List.countP_le_length
    refine⟨by simp[hlen'],fun x hx=>?_,by simp,fun y hy=>?_,by show 1+free (seen.set c true)<=_;omega⟩
    ·by_cases e:x=c
     ·subst e;exact⟨fun _=>.inr (by simp),fun _=>Ar (by omega)⟩
     ·show ga (seen.set c true) x=true<->_
      rw[F4 (show c≠x from fun e'=>e e'.symm)]
      constructor
      ·exact .inl
      ·rintro(h1|h1)
       ·exact h1
       ·rw[List.mem_singleton]at h1;exact absurd (Int.ofNat.inj h1) e
    ·rw[List.mem_singleton]at hy;exact⟨c,hy,by omega,OO,.refl c⟩
   obtain⟨B1,⟨t,B2⟩,B3⟩:=aiN hab d.ae.length 0 _ B0 (by omega) (Nat.zero_le _) (fun j hj=>by omega)
   generalize hr:bfsN d d.ae.length 0 (seen.set c true,[(c:Int)])=r at B1 B2 B3 ⊢
   have hcm:(c:Int)∈r.2:=by rw[B2];simp
   have hnew:ga (bO++[fG r.2]) bO.length=fG r.2:=by rw[DT _ _ _ (Nat.le_refl _),Nat.sub_self];rfl
   have hold:∀i,i<bO.length->ga (bO++[fG r.2]) i=ga bO i:=fun i hi=>wB _ _ _ hi
   have hL:(bO++[fG r.2]).length=bO.length+1:=by simp
   have hcl:∀z:Nat,(z:Int)∈r.2->∀k,k<4->((fg d z k:Nat):Int)∈r.2:=fun z hz k hk=>by
    obtain⟨j,hj,ej⟩:=List.mem_iff_getElem.1 hz
    have h1:=B3 j hj k hk
    rw[fJ hj,ej,Int.toNat_natCast]at h1
    obtain⟨z',e',tW,hz0,_⟩:=B1.el _ hz
    obtain rfl:z=z':=by omega
    have hnl:=AE hab tW hk
    rcases(B1.see _ hnl).1 h1 with h2|h2
    ·exfalso
     obtain⟨i,hi,hm⟩:=(I.see _ hnl).1 h2
     obtain⟨k',hk',e2⟩:=amr z k tW hk
     have h3:=I.Dz i hi _ hm k' hk'
     rw[e2]at h3
     have h4:=(I.see z tW).2 ⟨i,hi,h3⟩
     have h5:ga seen z=true:=h4
     rw[hz0]at h5;cases h5
    ·exact h2
   refine⟨fun x hx=>?_,fun x hx=>?_,fun i hi=>?_,fun i hi=>?_,fun i j hi hj y hy hy'=>?_⟩
   ·show ga r.1 x=true<->∃i,i<(bO++[fG r.2]).length/\(x:Int)∈ga (bO++[fG r.2]) i
    rw[B1.see x hx]
    have hI:ga seen x=true<->∃i,i<bO.length/\(x:Int)∈ga bO i:=I.see x hx
    rw[hI]
    constructor
    ·rintro(⟨i,hi,hm⟩|hm)
     ·exact⟨i,by omega,by rw[hold i hi];exact hm⟩
     ·exact⟨bO.length,by omega,by rw[hnew];exact qs.2 hm⟩
    ·rintro⟨i,hi,hm⟩
     by_cases e:i<bO.length
     ·rw[hold i e]at hm;exact .inl ⟨i,e,hm⟩
     ·obtain rfl:i=bO.length:=by omega
      rw[hnew]at hm;exact .inr (qs.1 hm)
   ·show ga r.1 x=true
    rw[B1.see x (by omega)]
    by_cases e:x=c
    ·subst e;exact .inr hcm
    ·exact .inl (I.O7 x (by omega))
   ·show(ga (bO++[fG r.2]) i).Nodup/\∃c0:Nat,c0<d.ae.length/\(c0:Int)∈ga (bO++[fG r.2]) i/\∀y∈ga (bO++[fG r.2]) i,_
    have hi':i<(bO++[fG r.2]).length:=hi
    by_cases e:i<bO.length
    ·rw[hold i e];exact I.el i e
    ·obtain rfl:i=bO.length:=by omega
     rw[hnew]
     refine⟨(El r.2).nodup_iff.2 B1.nod,c,by omega,qs.2 hcm,fun y hy=>?_⟩
     obtain⟨z,h1,h2,_,h3⟩:=B1.el y (qs.1 hy)
     exact⟨z,h1,h2,h3⟩
   ·show∀z:Nat,(z:Int)∈ga (bO++[fG r.2]) i->∀k,k<4->((fg d z k:Nat):Int)∈ga (bO++[fG r.2]) i
    have hi':i<(bO++[fG r.2]).length:=hi
    by_cases e:i<bO.length
    ·rw[hold i e];exact I.Dz i e
    ·obtain rfl:i=bO.length:=by omega
     rw[hnew]
     intro z hz k hk
     exact qs.2 (hcl z (qs.1 hz) k hk)
   ·have hi':i<(bO++[fG r.2]).length:=hi
    have hj':j<(bO++[fG r.2]).length:=hj
    have hy1:y∈ga (bO++[fG r.2]) i:=hy
    have hy2:y∈ga (bO++[fG r.2]) j:=hy'
    have key:∀i,i<bO.length->y∈ga bO i->y∈r.2->False:=fun i hi h1 h2=>by
     obtain⟨z,rfl,tW,hz0,_⟩:=B1.el y h2
     have h5:ga seen z=true:=(I.see z tW).2 ⟨i,hi,h1⟩
     rw[hz0]at h5;cases h5
    by_cases e:i<bO.length
    ·rw[hold i e]at hy1
     by_cases e':j<bO.length
     ·rw[hold j e']at hy2;exact I.O6 i j e e' y hy1 hy2
     ·obtain rfl:j=bO.length:=by omega
      rw[hnew]at hy2
      exact(key i e hy1 (qs.1 hy2)).elim
    ·obtain rfl:i=bO.length:=by omega
     rw[hnew]at hy1
     by_cases e':j<bO.length
     ·rw[hold j e']at hy2
      exact(key j e' hy2 (qs.1 hy1)).elim
     ·omega
end Go.Proofs.YthppkofceancjaaGreat
namespace Go.Proofs.YthppkofceancjaaGreat
open Go.ChangeShapes Go.WideShapes Go.ChangeAt Go.RowKit
theorem zD{d:Dg}(h:aX d=true){c k:Nat}{b:Bool}(hc:c<d.ae.length)(hk:k<4)(hin:cH d c k=!b):Ud d (bt d c k) b=(c,k):=by
 have hr:=kg h hc hk
 have hcn:cZ d ((bt d c k).toNat:Nat) b (4*d.ae.length)=1:=by
  have:=Ej h (bt d c k).toNat (by omega) (by omega)
  cases b
  ·exact this.1
  ·exact this.2
 rw[show(((bt d c k).toNat:Nat):Int)=bt d c k by omega]at hcn
 obtain⟨j,j1,j2,j3,j4⟩:=Ex hcn
 have hme:fE d (bt d c k) b (4*c+k)=true:=by rw[uG hk];cases b<;>simp[hin]
 obtain rfl:=j3 (4*c+k) (by omega) hme
 have e:=aaN hcn
 rw[j4]at e
 rw[<-e]
 exact Prod.ext (by dsimp only;omega) (by dsimp only;omega)
theorem zO{d:Dg}(h:aX d=true){a:Int}(ha:1<=a/\a<=2*(d.ae.length:Int))(b:Bool):bt d (Ud d a b).1 (Ud d a b).2=a/\cH d (Ud d a b).1 (Ud d a b).2=!b:=by
 obtain⟨_,_,_,h4,h5⟩:=abj h (a:=a.toNat) (by omega) (by omega) b
 rw[show((a.toNat:Nat):Int)=a by omega]at h4 h5
 exact⟨h4,h5⟩
theorem ajf{d:Dg}(h:aX d=true)(x k:Nat)(hx:x<d.ae.length)(hk:k<4):∃k',k'<4/\fg d (fg d x k) k'=x:=by
 have ha:=kg h hx hk
 obtain⟨h1,h2,_⟩:=fe h ha (cH d x k)
 obtain⟨h3,h4⟩:=zO h ha (cH d x k)
 refine⟨(Ud d (bt d x k) (cH d x k)).2,h2,?_⟩
 show(Ud d (bt d (Ud d (bt d x k) (cH d x k)).1 (Ud d (bt d x k) (cH d x k)).2) (cH d (Ud d (bt d x k) (cH d x k)).1 (Ud d (bt d x k) (cH d x k)).2)).1=x
 rw[h3,h4,zD h hx hk (by cases cH d x k<;>rfl)]
theorem rD{d:Dg}(h:aX d=true):PcI d d.ae.length (gV d d.ae.length):=aii h (ajf h) _ (Nat.le_refl _)
def putP(i:Nat)(p:List Int)(es:List (Int×Int)):Nat->List (Int×Int)
 |0=>es
 |k+1=>mp (ga p k) (i:Int) (putP i p es k)
def sF(bO:List (List Int)):Nat->List (Int×Int)
 |0=>[]
 |i+1=>putP i (ga bO i) (sF bO i) (ga bO i).length
theorem aid(i:Nat)(p:List Int)(es:List (Int×Int))(k:Nat)(hk:k<=p.length)(y:Int):(y∈p.take k->mg y (putP i p es k)=some (i:Int))/\(y∉p.take k->mg y (putP i p es k)=mg y es):=by
 induction k with
 |zero=>exact⟨fun h=>by simp at h,fun _=>rfl⟩
 |succ k ih=>
  have ih:=ih (by omega)
  rw[Al _ _ (by omega),putP,AW]
  constructor
  ·intro h
   by_cases e:y=ga p k
   ·rw[if_pos e]
   ·rw[if_neg e]
    rcases List.mem_append.1 h with h|h
    ·exact ih.1 h
    ·exact absurd (List.mem_singleton.1 h) e
  ·intro h
   rw[List.mem_append,List.mem_singleton]at h
   rw[if_neg (fun e=>h (.inr e))]
   exact ih.2 (fun e=>h (.inl e))
theorem ahv{bO:List (List Int)}(hd:∀i j,i<bO.length->j<bO.length->∀y,y∈ga bO i->y∈ga bO j->i=j)(m:Nat)(hm:m<=bO.length){i:Nat}(hi:i<m){y:Int}(hy:y∈ga bO i):mg y (sF bO m)=some (i:Int):=by
 induction m with
 |zero=>omega
 |succ m ih=>
  have h:=aid m (ga bO m) (sF bO m) (ga bO m).length (Nat.le_refl _) y
  rw[List.take_length]at h
  rw[sF]
  by_cases e:y∈ga bO m
  ·rw[h.1 e,hd i m (by omega) (by omega) y hy e]
  ·rw[h.2 e]
   exact ih (by omega) (by
    rcases Nat.lt_or_ge i m with h1|h1
    ·exact h1
    ·obtain rfl:i=m:=by omega
     exact absurd hy e)
def pmap(d:Dg):List (Int×Int):=sF (b9 d) (b9 d).length
def cV(d:Dg)(x:Nat):Nat:=((mg (x:Int) (pmap d)).getD 0).toNat
theorem Az{d:Dg}(h:aX d=true){i x:Nat}(hi:i<(b9 d).length)(hx:(x:Int)∈ga (b9 d) i):mg (x:Int) (pmap d)=some (i:Int)/\cV d x=i:=by
 have e:=ahv (rD h).O6 _ (Nat.le_refl _) hi hx
 refine⟨e,?_⟩
 unfold cV
 unfold pmap
 rw[show mg (x:Int) (sF (b9 d) (b9 d).length)=some (i:Int)from e]
 rfl
theorem uJ{d:Dg}(h:aX d=true){x:Nat}(hx:x<d.ae.length):cV d x<(b9 d).length/\(x:Int)∈ga (b9 d) (cV d x)/\(mg (x:Int) (pmap d)).getD 0=(cV d x:Int):=by
 obtain⟨i,hi,hm⟩:=((rD h).see x hx).1 ((rD h).O7 x hx)
 have hi':i<(b9 d).length:=hi
 have hm':(x:Int)∈ga (b9 d) i:=hm
 obtain⟨h1,h2⟩:=Az h hi' hm'
 rw[h2]
 exact⟨hi',hm',by rw[h1];rfl⟩
def jd(d:Dg):Nat->List Int
 |0=>List.replicate (b9 d).length 0
 |k+1=>(jd d k).set (cV d (iQ d k)) (ga (jd d k) (cV d (iQ d k))+1)
theorem EH(d:Dg)(k:Nat):(jd d k).length=(b9 d).length:=by
 induction k with
 |zero=>exact List.length_replicate
 |succ k ih=>rw[jd,List.length_set,ih]
theorem ajB(d:Dg)(k j:Nat):0<=ga (jd d k) j/\ga (jd d k) j<=k:=by
 induction k generalizing j with
 |zero=>
  by_cases h:j<(b9 d).length
  ·rw[jd,uL _ _ _ h];simp
  ·rw[jd,show ga (List.replicate (b9 d).length (0:Int)) j=0 from by unfold ga;simp[h]];exact⟨Int.le_refl _,Int.le_refl _⟩
 |succ k ih=>
  rw[jd]
  have h1:=ih j
  have h2:=ih (cV d (iQ d k))
  by_cases e:cV d (iQ d k)=j
  ·by_cases hl:j<(jd d k).length
   ·subst e;rw[dV _ _ _ _ hl,if_pos rfl];omega
   ·rw[List.set_eq_of_length_le (by omega)];omega
  ·rw[aaT _ _ _ _ e];omega
theorem Ac{α:Type}[DecidableEq α]{xs ys:List α}(h:xs.Nodup)(hs:∀y∈xs,y∈ys):xs.length<=ys.length:=by
 induction xs generalizing ys with
 |nil=>exact Nat.zero_le _
 |cons x xs ih=>
  rw[List.nodup_cons]at h
  have hx:=hs x (by simp)
  have h1:=ih h.2 (ys:=ys.erase x) (fun y hy=>(List.mem_erase_of_ne (fun(e:y=x)=>h.1 (by rw[<-e];exact hy))).2 (hs y (by simp[hy])))
  rw[List.length_erase_of_mem hx]at h1
  have:=List.length_pos_of_mem hx
  rw[List.length_cons]
  omega
def o6(d:Dg):Bool:=(List.range (b9 d).length).all fun i=>decide (ga (jd d (U6 d).length) i=((ga (b9 d) i).length:Int)+2)
theorem abE{d:Dg}(h:∀i,i<(b9 d).length->ga (jd d (U6 d).length) i=((ga (b9 d) i).length:Int)+2):o6 d=true:=by
 unfold o6
 rw[List.all_eq_true]
 intro p hp
 exact decide_eq_true (h p (List.mem_range.1 hp))
theorem aih{d:Dg}{i:Nat}(hi:i<(b9 d).length)(h:¬ga (jd d (U6 d).length) i=((ga (b9 d) i).length:Int)+2):o6 d=false:=by
 unfold o6
 rw[List.all_eq_false]
 exact⟨i,List.mem_range.2 hi,by simpa using h⟩
theorem abG{d:Dg}(h:aX d=true){i:Nat}(hi:i<(b9 d).length):(ga (b9 d) i).length<=d.ae.length/\∀y∈ga (b9 d) i,0<=y/\y<(d.ae.length:Int):=by
 obtain⟨h1,c0,_,_,h2⟩:=(rD h).el i hi
 have hb:∀y∈ga (b9 d) i,0<=y/\y<(d.ae.length:Int):=fun y hy=>by obtain⟨z,rfl,hz,_⟩:=h2 y hy;omega
 refine⟨?_,hb⟩
 have h3:=Ac (ys:=(List.range d.ae.length).map fun x:Nat=>(x:Int)) h1 (fun y hy=>by
  obtain⟨z,rfl,hz,_⟩:=h2 y hy
  exact List.mem_map.2 ⟨z,List.mem_range.2 hz,rfl⟩)
 rw[List.length_map,List.length_range]at h3
 exact h3
noncomputable def V4:=Tryz.f65.body.getD .skip
def Ze6:=cL V4
def V3:=cR V4
def Ze8:=cL V3
def V2:=cR V3
def Zea:=cL V2
def VZ:=cR V2
def VY:=cL VZ
def VX:=cR VZ
def Zee:=cL VY
def Zef:=cR VY
def Zeg:=cL Zef
def VW:=cL Zeg
def Zei:=cL VW
def VU:=cR VW
def VT:=cL VU
def VS:=cR VU
def Zem:=cL VT
def Zen:=cR VT
def Zeo:=cL VS
def Zep:=cR VS
def VR:=cL Zeo
def Zer:=cL VR
def VQ:=cR VR
def Zet:=cL VQ
def Zeu:=cR VQ
def Zev:=cL Zeu
def VP:=cL Zev
def Zex:=cL VP
def VO:=cR VP
def VN:=cL VO
def VM:=cR VO
def Zf1:=cL VN
def Zf2:=cR VN
def Zf3:=cL VM
def Zf4:=cR VM
def VL:=cL Zf3
def Zf6:=cL VL
def Zf7:=cR VL
def Zf8:=cL VX
def VK:=cR VX
def VJ:=cL VK
def VI:=cR VK
def Zfc:=cL VJ
def Zfd:=cR VJ
def Zfe:=cL Zfd
def VH:=cL Zfe
def Zfg:=cL VH
def VG:=cR VH
def VF:=cL VG
def VE:=cR VG
def Zfk:=cL VF
def Zfl:=cR VF
def Zfm:=cL VE
def Zfn:=cR VE
def VD:=cL Zfm
def Zfp:=cL VD
def Zfq:=cR VD
def VC:=cL VI
def VB:=cR VI
def Zft:=cL VC
def Zfu:=cR VC
def Zfv:=cL Zfu
def VA:=cL Zfv
def Zfx:=cL VA
def Vz:=cR VA
def Vy:=cL Vz
def Vx:=cR Vz
def Zg1:=cL Vy
def Zg2:=cR Vy
def Zg3:=cL Vx
def Zg4:=cR Vx
def Vw:=cL Zg3
def Zg6:=cL Vw
def Vv:=cR Vw
def Zg8:=cL Vv
def Vu:=cR Vv
def Vt:=cL Vu
def Zgb:=cR Vu
def Zgc:=cL Vt
def Zgd:=cR Vt
def Zge:=cL VB
def Zgf:=cR VB
set_option maxHeartbeats 1000000 in
set_option maxRecDepth 10000 in
theorem ahW{w:World}{M:Hp}{X:Fr}(d:Dg){bH:Nat}{cA iA oA:Option Addr}{cc ic oc:Nat}(br:cM (M.un X.h) bH 70 [.slice cA d.ae.length cc,.int .i64 d.loops,.slice iA (aw d false (4*d.ae.length)).length ic,.slice oA (aw d true (4*d.ae.length)).length oc])(hsc:aF aG (M.un X.h) cA cc d.ae)(hsi:aF bp (M.un X.h) iA ic (aw d false (4*d.ae.length)))(aK:aF bp (M.un X.h) oA oc (aw d true (4*d.ae.length)))(hn:d.ae.length<=16)(hab:aX d=true)(S:SH w M X []):Ct Tryz.prog 65 [.pointer (some ⟨bH,0,none⟩)] w M X (fun u _=>u=.bool (o6 d)):=by
 unfold Ct
 refine Up (b:=V4) Tryz.func65 rfl Tryz.ntmps65 rfl (fun C hC=>(bq [(0,_)] ⟨rfl,trivial⟩ (U2 Ze6 V3 rfl rfl rfl (U0 rfl (ag 0 1 rfl rfl (U5 rfl (ah [0] rfl (U3 (U2 Ze8 V2 rfl rfl rfl ?_)))))))))
 refine U0 rfl (ak 0 1 rfl rfl rfl (wA Int Int (Value.int .i64) (Value.int .i64) rfl rfl rfl S ?_))
 intro iG w1 S1;clear S
 refine ag 1 1 rfl rfl (U5 rfl (ah [0,3] rfl (U3 (U2 Zea VZ rfl rfl rfl (U0 rfl (ag 0 1 rfl rfl (ak 1 2 rfl rfl rfl (fp rfl rfl rfl rfl rfl rfl rfl alD S1 (ahX d (br.mono S1.Uw) (hsc.mono S1.Uw) (hsi.mono S1.Uw) (aK.mono S1.Uw) hn hab S1.aD) ?_))))))))
 intro Df w2 M1 aL S2 pM;clear S1
 replace br:=br.mono (Hp.Ua aL S2.mx)
 replace hsc:=hsc.mono (Hp.Ua aL S2.mx)
 replace hsi:=hsi.mono (Hp.Ua aL S2.mx)
 replace aK:=aK.mono (Hp.Ua aL S2.mx)
 obtain⟨A1,c1,vs1,rfl,hr1,hd1⟩:=pM
 have ahG:=hd1.1
 refine ag 2 1 rfl rfl (U5 rfl (ah [0,3,4] rfl (U3 (U2 VY VX rfl rfl rfl (U2 Zee Zef rfl rfl rfl (U0 rfl (ag 0 1 rfl rfl (af 1 rfl (cI rfl rfl rfl rfl rfl rfl AQ) ?_))))))))
 refine ag 2 1 rfl rfl (U5 rfl (U3 (Uc Zeg 0 rfl rfl rfl ?_)))
 refine Uz (fun aS au aM=>∃(i:Nat) (es:List (Int×Int)),aS=(b9 d).length-i/\Env 75 [(0,.pointer (some ⟨bH,0,none⟩)),(3,.map (some iG)),(4,.slice A1 vs1.length c1),(17,.slice A1 vs1.length c1),(18,.int .i64 (vs1.length:Int)),(19,.int .i64 (i:Int))] au/\SH aM M1 X [Rs.mp (Value.int .i64) (Value.int .i64) iG es]/\i<=(b9 d).length/\es=sF (b9 d) i) rfl ?_ ?_
 ·intro au aq
  refine⟨_,⟨0,[],rfl,aq.sub ⟨rfl,rfl,rfl,rfl,rfl,rfl,trivial⟩,S2.pick [0] [_] (by decide) ⟨rfl,trivial⟩,?cd,?cT⟩⟩
  case cd=>omega
  case cT=>rfl
 ·rintro m2 a1 w3 ⟨i,es,rfl,bh,S3,hi,hes⟩
  clear S2
  refine b7 bh (c:=VW) rfl ?_
  clear bh a1
  have hpl:=zR d d.ae.length
  replace hpl:(b9 d).length<=d.ae.length:=hpl
  refine U2 Zei VU rfl rfl rfl (U0 rfl (af 0 rfl (bV rfl rfl rfl) (U5 rfl (U3 (U2 VT VS rfl rfl rfl ?_)))))
  refine Ue Zem Zen rfl rfl rfl rfl (fun pJ=>?_) (fun pJ=>?_)
  ·refine Uf rfl (ah [0,3,4,17,18,19] rfl (U3 (U2 Zeo Zep rfl rfl rfl (Uc VR 1 rfl rfl rfl (U2 Zer VQ rfl rfl rfl (U0 rfl (ag 0 1 rfl rfl (af 1 rfl (Uk (C:=(cB 53)) i rfl rfl rfl AR (by first|rfl|omega) hr1 (by first|omega|(simp only[ls];omega))) ?_))))))))
   obtain⟨kN,hr2⟩:=hd1.2 i (by first|omega|(simp only[ls];omega))
   have FI:(ga (b9 d) i).length*8<=140737488355328:=hr2.room
   refine af 2 rfl (U4 rfl rfl dD rfl (hr1.cell S3.m (i:=i) (by first|omega|(simp only[ls];omega)) 0 rfl (congrArg (fun n=>some (Value.slice _ n _)) kN))) ?_
   refine ag 3 2 rfl rfl (U5 rfl (ah [0,3,4,17,18,19,5,6] rfl (U3 (U2 Zet Zeu rfl rfl rfl (U0 rfl (ag 0 1 rfl rfl (af 1 rfl (cI rfl rfl rfl rfl rfl rfl dD) (ag 2 1 rfl rfl ?_))))))))
   refine U5 rfl (ah [0,3,4,17,18,19,5,24,25,26] rfl (U3 (Uc Zev 2 rfl rfl rfl ?_)))
   refine Uz (fun aS au aM=>∃(k:Nat) (oF:List (Int×Int)),aS=(ga (b9 d) i).length-k/\Env 75 [(0,.pointer (some ⟨bH,0,none⟩)),(3,.map (some iG)),(4,.slice A1 vs1.length c1),(17,.slice A1 vs1.length c1),(18,.int .i64 (vs1.length:Int)),(19,.int .i64 (i:Int)),(5,.int .i64 (i:Int)),(24,.slice ((ga vs1 i).A) (ga (b9 d) i).length ((ga vs1 i).c)),(25,.int .i64 ((ga (b9 d) i).length:Int)),(26,.int .i64 (k:Int))] au/\SH aM M1 X [Rs.mp (Value.int .i64) (Value.int .i64) iG oF]/\k<=(ga (b9 d) i).length/\oF=putP i (ga (b9 d) i) es k) rfl ?_ ?_
   ·intro au aq
    refine⟨_,⟨0,es,rfl,aq.sub ⟨rfl,rfl,rfl,rfl,rfl,rfl,rfl,rfl,rfl,rfl,trivial⟩,S3.pick [0] [_] (by decide) ⟨rfl,trivial⟩,?cu,?cY⟩⟩
    case cu=>omega
    case cY=>rfl
   ·rintro m3 a2 w4 ⟨k,oF,rfl,cx,S4,hk,adz⟩
    clear S3
    refine b7 cx (c:=VP) rfl ?_
    clear cx a2
    have hpb:=abG hab (i:=i) (by omega)
    refine U2 Zex VO rfl rfl rfl (U0 rfl (af 0 rfl (bV rfl rfl rfl) (U5 rfl (U3 (U2 VN VM rfl rfl rfl ?_)))))
    refine Ue Zf1 Zf2 rfl rfl rfl rfl (fun yc=>?_) (fun yc=>?_)
    ·refine Uf rfl (ah [0,3,4,17,18,19,5,24,25,26] rfl (U3 (U2 Zf3 Zf4 rfl rfl rfl (Uc VL 3 rfl rfl rfl (U2 Zf6 Zf7 rfl rfl rfl (U0 rfl (af 0 rfl (Uk (C:=Uv) k rfl rfl rfl bw (by first|rfl|omega) hr2 (by first|omega|(simp only[ls];omega))) ?_)))))))
     refine af 1 rfl (U4 rfl rfl av rfl (hr2.cell S4.m (i:=k) (by first|omega|(simp only[ls];omega)) 0 rfl rfl)) ?_
     refine ag 2 1 rfl rfl (U5 rfl (ah [0,3,4,17,18,19,5,24,25,26,8] rfl (U3 (U0 rfl (ag 0 3 rfl rfl (ak 3 4 rfl rfl rfl (mY (kc:=Value.int .i64) (vc:=Value.int .i64) (es:=oF) (k:=(ga (ga (b9 d) i) k)) (e:=(i:Int)) (i:=0) (H':=[_]) (.inl rfl) rfl S4 rfl rfl rfl rfl adb mQ rfl ?_)))))))
     intro w5 S5;clear S4
     refine U5 rfl (bk (ah [0,3,4,17,18,19,5,24,25,26] rfl (U3 (U0 rfl (af 0 rfl (Ug rfl rfl rfl (by first|omega|(simp only[ls];omega))) ?_)))))
     refine ag 1 1 rfl rfl (U5 rfl (aP ?_))
     intro au aq
     refine⟨_,?kC,⟨k+1,_,rfl,aq.sub ⟨rfl,rfl,rfl,rfl,rfl,rfl,rfl,rfl,rfl,rfl,trivial⟩,S5.pick [0] [_] (by decide) ⟨rfl,trivial⟩,?dO,?gh⟩⟩
     case dO=>omega
     case gh=>(rw[adz];rfl)
     case kC=>omega
    ·refine bS rfl rfl (bk (ah [0,3,4,17,18,19] rfl (U3 (U0 rfl (af 0 rfl (Ug rfl rfl rfl (by first|omega|(simp only[ls];omega))) ?_)))))
     refine ag 1 1 rfl rfl (U5 rfl (aP ?_))
     intro au aq
     refine⟨_,?jG,⟨i+1,_,rfl,aq.sub ⟨rfl,rfl,rfl,rfl,rfl,rfl,trivial⟩,S4.pick [0] [_] (by decide) ⟨rfl,trivial⟩,?eU,?gQ⟩⟩
     case eU=>omega
     case gQ=>(obtain rfl:k=(ga (b9 d) i).length:=(by omega);rw[adz,hes];rfl)
     case jG=>omega
  ·have amW:es=pmap d:=by rw[hes,show i=(b9 d).length by omega];rfl
   have adl:=zR d d.ae.length
   replace adl:(b9 d).length<=d.ae.length:=adl
   refine bS rfl rfl (ah [0,3,4] rfl (U3 (U2 Zf8 VK rfl rfl rfl (U0 rfl (ag 0 1 rfl rfl (af 1 rfl (cI rfl rfl rfl rfl rfl rfl AQ) (ak 2 3 rfl rfl rfl (oU (C:=Uv) vs1.length rfl rfl rfl rfl rfl bw (by first|rfl|omega) (by show _*8<=_;first|omega|(simp only[ls];omega)) S3 ?_))))))))
   intro yY w6 S6;clear S3
   refine ag 3 1 rfl rfl (U5 rfl (ah [0,3,4,9] rfl (U3 (U2 VJ VI rfl rfl rfl (U2 Zfc Zfd rfl rfl rfl (U0 rfl (ag 0 1 rfl rfl (ak 1 2 rfl rfl rfl (fp rfl rfl rfl rfl rfl rfl rfl adZ S6 (InF.ab2 d (br.mono S6.Uw) (hsc.mono S6.Uw) (hsi.mono S6.Uw) (aK.mono S6.Uw) hn hab S6.aD) ?_)))))))))
   intro vw7 w7 M2 dM S7 yj;clear S6
   replace br:=br.mono (Hp.Ua dM S7.mx)
   replace hsc:=hsc.mono (Hp.Ua dM S7.mx)
   replace hsi:=hsi.mono (Hp.Ua dM S7.mx)
   replace aK:=aK.mono (Hp.Ua dM S7.mx)
   replace hr1:=hr1.mono dM
   replace hd1:=hd1.mono dM
   obtain⟨A2,c2,vs2,rfl,hr3,hd2⟩:=yj
   have agx:=hd2.1
   refine af 2 rfl (cI rfl rfl rfl rfl rfl rfl kY) (ag 3 1 rfl rfl (U5 rfl (ah [0,3,4,9,39,40,41] rfl (U3 (Uc Zfe 4 rfl rfl rfl ?_)))))
   refine Uz (fun aS au aM=>∃(k:Nat) (fs:List Int) (yX:Value),aS=(U6 d).length-k/\Env 75 [(0,.pointer (some ⟨bH,0,none⟩)),(3,.map (some iG)),(4,.slice A1 vs1.length c1),(9,yX),(39,.slice A2 vs2.length c2),(40,.int .i64 (vs2.length:Int)),(41,.int .i64 (k:Int))] au/\SH aM M2 X [Rs.row Uv yX fs,Rs.mp (Value.int .i64) (Value.int .i64) iG es]/\k<=(U6 d).length/\fs=jd d k) rfl ?_ ?_
   ·intro au aq
    refine⟨_,⟨0,_,_,rfl,aq.sub ⟨rfl,rfl,rfl,rfl,rfl,rfl,rfl,trivial⟩,S7.pick [0,1] [_,_] (by decide) ⟨rfl,rfl,trivial⟩,?fB,?gP⟩⟩
    case fB=>omega
    case gP=>(rw[ahG];rfl)
   ·rintro m4 a3 w8 ⟨k,fs,yX,rfl,fU,S8,hk,oz⟩
    clear S7
    refine b7 fU (c:=VH) rfl ?_
    clear fU a3
    have hfm:=zN d
    have amV:fs.length=(b9 d).length:=by rw[oz,EH]
    refine U2 Zfg VG rfl rfl rfl (U0 rfl (af 0 rfl (bV rfl rfl rfl) (U5 rfl (U3 (U2 VF VE rfl rfl rfl ?_)))))
    refine Ue Zfk Zfl rfl rfl rfl rfl (fun td=>?_) (fun td=>?_)
    ·obtain⟨hh0,hok⟩:=Fl (d:=d) (k:=k) (by omega)
     have hfc:=Fu hab (k:=k) (by omega)
     have hpi:=uJ hab hfc
     obtain⟨avT,hpi2,adn⟩:=hpi
     rw[<-amW]at adn
     have hfb:=ajB d k (cV d (iQ d k))
     rw[<-oz]at hfb
     refine Uf rfl (ah [0,3,4,9,39,40,41] rfl (U3 (U2 Zfm Zfn rfl rfl rfl (Uc VD 5 rfl rfl rfl (U2 Zfp Zfq rfl rfl rfl (U0 rfl (af 0 rfl (Uk (C:=(cB 141)) k rfl rfl rfl jF (by first|rfl|omega) hr3 (by first|omega|(simp only[ls];omega))) ?_)))))))
     obtain⟨mR,hr4⟩:=hd2.2 k (by first|omega|(simp only[ls];omega))
     have FH:(ga (U6 d) k).length*16<=140737488355328:=hr4.room
     refine af 1 rfl (U4 rfl rfl ig rfl (hr3.cell S8.m (i:=k) (by first|omega|(simp only[ls];omega)) 0 rfl (congrArg (fun n=>some (Value.slice _ n _)) mR))) ?_
     refine ag 2 1 rfl rfl (U5 rfl (ah [0,3,4,9,39,40,41,11] rfl (U3 (U0 rfl (ag 0 4 rfl rfl (af 4 rfl (Uk (C:=bW) 0 rfl rfl rfl gM (by first|rfl|omega) hr4 (by first|omega|(simp only[ls];omega))) ?_))))))
     refine af 5 rfl (U8 (us:=[_,_]) rfl rfl aZ rfl cg (hr4.fq S8.m (e:=0) (by first|omega|(simp only[ls];omega)) (j:=0) ⟨rfl,rfl,trivial⟩)) ?_
     refine ak 6 7 rfl rfl rfl (cC rfl rfl rfl rfl rfl rfl rfl Gb S8 (Fw d (ga (ga (U6 d) k) 0) (br.mono S8.Uw) (hsc.mono S8.Uw) (hsi.mono S8.Uw) (aK.mono S8.Uw) (by first|assumption|omega) hab (by first|assumption|omega) S8.aD) ?_)
     rintro _ w9 S9 rfl;clear S8
     refine af 7 rfl (mr rfl rfl ct rfl av rfl rfl) (af 8 rfl (wz (kc:=Value.int .i64) (vc:=Value.int .i64) (es:=es) (k:=((Ud d (ga (ga (U6 d) k) 0).a (ga (ga (U6 d) k) 0).b).1:Int)) (zv:=0) (i:=1) rfl rfl rfl adb mQ zr3 S9 rfl) (b6 53 (.int .i64 (cV d (iQ d k):Int)) rfl (int_eq adn) (af 9 rfl (Ui (C:=Uv) (i:=0) (cV d (iQ d k)) rfl rfl rfl bw S9 rfl (by first|rfl|omega) (by first|omega|(simp only[ls];omega))) ?_)))
     refine af 10 rfl (U4 rfl rfl av rfl (S9.dv (i:=0) (e:=cV d (iQ d k)) (j:=0) rfl (by first|omega|(simp only[ls];omega)) rfl rfl)) ?_
     refine af 11 rfl (Ug rfl rfl rfl (by first|omega|(simp only[ls];omega))) ?_
     refine af 12 rfl (Ui (C:=Uv) (i:=0) (cV d (iQ d k)) rfl rfl rfl bw S9 rfl (by first|rfl|omega) (by first|omega|(simp only[ls];omega))) ?_
     refine ak 13 14 rfl rfl rfl (gy (C:=Uv) (i:=0) (e:=cV d (iQ d k)) (j:=0) (us:=[_]) (H':=[_,_]) ((ga fs (cV d (iQ d k)))+1) rfl rfl S9 rfl (by first|omega|(simp only[ls];omega)) rfl rfl rfl aY rfl rfl rfl rfl ?_)
     intro jZ bF;clear S9
     refine U5 rfl (bk (ah [0,3,4,9,39,40,41] rfl (U3 (U0 rfl (af 0 rfl (Ug rfl rfl rfl (by first|omega|(simp only[ls];omega))) ?_)))))
     refine ag 1 1 rfl rfl (U5 rfl (aP ?_))
     intro au aq
     refine⟨_,?lZ,⟨k+1,_,_,rfl,aq.sub ⟨rfl,rfl,rfl,rfl,rfl,rfl,rfl,trivial⟩,bF.pick [0,1] [_,_] (by decide) ⟨rfl,rfl,trivial⟩,?iz,?jB⟩⟩
     case iz=>omega
     case jB=>(rw[oz];rfl)
     case lZ=>omega
    ·have GV:fs=jd d (U6 d).length:=by rw[oz,show k=(U6 d).length by omega]
     refine bS rfl rfl (ah [4,9] rfl (U3 (U2 VC VB rfl rfl rfl (U2 Zft Zfu rfl rfl rfl (U0 rfl (ag 0 1 rfl rfl (af 1 rfl (cI rfl rfl rfl rfl rfl rfl AQ) (ag 2 1 rfl rfl ?_))))))))
     refine U5 rfl (ah [9,59,60,61] rfl (U3 (Uc Zfv 6 rfl rfl rfl ?_)))
     refine Uz (fun aS au aM=>∃(j:Nat),aS=(b9 d).length-j/\Env 75 [(9,yX),(59,.slice A1 vs1.length c1),(60,.int .i64 (vs1.length:Int)),(61,.int .i64 (j:Int))] au/\SH aM M2 X [Rs.row Uv yX fs]/\j<=(b9 d).length/\(∀q,q<j->ga fs q=((ga (b9 d) q).length:Int)+2)) rfl ?_ ?_
     ·intro au aq
      refine⟨_,⟨0,rfl,aq.sub ⟨rfl,rfl,rfl,rfl,trivial⟩,S8.pick [0] [_] (by decide) ⟨rfl,trivial⟩,?iX,?kr⟩⟩
      case iX=>omega
      case kr=>(intro q hq;omega)
     ·rintro m5 a4 kH ⟨j,rfl,lC,bQ,hj,hall⟩
      clear S8
      refine b7 lC (c:=VA) rfl ?_
      clear lC a4
      have hpl:=zR d d.ae.length
      replace hpl:(b9 d).length<=d.ae.length:=hpl
      have amV:fs.length=(b9 d).length:=by rw[GV,EH]
      refine U2 Zfx Vz rfl rfl rfl (U0 rfl (af 0 rfl (bV rfl rfl rfl) (U5 rfl (U3 (U2 Vy Vx rfl rfl rfl ?_)))))
      refine Ue Zg1 Zg2 rfl rfl rfl rfl (fun jX=>?_) (fun jX=>?_)
      ·have hpb:=abG hab (i:=j) (by omega)
       refine Uf rfl (ah [9,59,60,61] rfl (U3 (U2 Zg3 Zg4 rfl rfl rfl (Uc Vw 7 rfl rfl rfl (U2 Zg6 Vv rfl rfl rfl (U0 rfl (ag 0 1 rfl rfl (af 1 rfl (Uk (C:=(cB 53)) j rfl rfl rfl AR (by first|rfl|omega) hr1 (by first|omega|(simp only[ls];omega))) ?_))))))))
       obtain⟨zh,p9⟩:=hd1.2 j (by first|omega|(simp only[ls];omega))
       have akc:(ga (b9 d) j).length*8<=140737488355328:=p9.room
       refine af 2 rfl (U4 rfl rfl dD rfl (hr1.cell bQ.m (i:=j) (by first|omega|(simp only[ls];omega)) 0 rfl (congrArg (fun n=>some (Value.slice _ n _)) zh))) ?_
       refine ag 3 2 rfl rfl (U5 rfl (ah [9,59,60,61,12,13] rfl (U3 (U2 Zg8 Vu rfl rfl rfl (U0 rfl (ag 0 2 rfl rfl (af 2 rfl (Ui (C:=Uv) (i:=0) j rfl rfl rfl bw bQ rfl (by first|rfl|omega) (by first|omega|(simp only[ls];omega))) ?_)))))))
       refine af 3 rfl (U4 rfl rfl av rfl (bQ.dv (i:=0) (e:=j) (j:=0) rfl (by first|omega|(simp only[ls];omega)) rfl rfl)) ?_
       refine ag 4 1 rfl rfl (af 5 rfl (cI rfl rfl rfl rfl rfl rfl dD) (af 6 rfl (Ug rfl rfl rfl (by first|omega|(simp only[ls];omega))) ?_))
       refine af 7 rfl (iT rfl rfl rfl) (U5 rfl (ah [9,59,60,61,73] rfl (U3 ?_)))
       refine Ue Vt Zgb rfl rfl rfl rfl (fun G1=>?_) (fun G1=>?_)
       ·refine U2 Zgc Zgd rfl rfl rfl (U0 rfl (ag 0 1 rfl rfl (U5 rfl (ah [2] rfl (U3 (Uj hC [_] rfl rfl ⟨rfl,trivial⟩ ?_))))))
        refine⟨_,rfl,_,aL.trans dM,(bQ.pick [] [] (by decide) trivial),?_⟩
        refine congrArg Value.bool (aih (i:=j) (by omega) ?_).symm
        rw[<-GV];omega
       ·refine Uf rfl (bk (ah [9,59,60,61] rfl (U3 (U0 rfl (af 0 rfl (Ug rfl rfl rfl (by first|omega|(simp only[ls];omega))) ?_)))))
        refine ag 1 1 rfl rfl (U5 rfl (aP ?_))
        intro au aq
        refine⟨_,?lX,⟨j+1,rfl,aq.sub ⟨rfl,rfl,rfl,rfl,trivial⟩,bQ.pick [0] [_] (by decide) ⟨rfl,trivial⟩,?jA,?lR⟩⟩
        case jA=>omega
        case lR=>(intro q hq;by_cases h:q=j;(subst h;omega);exact hall q (by omega))
        case lX=>omega
      ·refine bS rfl rfl (bL [] trivial (U3 (U2 Zge Zgf rfl rfl rfl (U0 rfl (ag 0 1 rfl rfl (U5 rfl (U3 (Uj hC [_] rfl rfl ⟨rfl,trivial⟩ ?_))))))))
       refine⟨_,rfl,_,aL.trans dM,(bQ.pick [] [] (by decide) trivial),?_⟩
       exact congrArg Value.bool (abE (d:=d) (fun q hq=>by rw[<-GV];exact hall q (by omega))).symm
end Go.Proofs.YthppkofceancjaaGreat
namespace Go.Proofs.YthppkofceancjaaGreat
open Go.ChangeShapes Go.WideShapes Go.ChangeAt Go.RowKit
def lG(e1 e2:Nat->Nat)(ws:List Int):Nat->List Int
 |0=>ws
 |k+1=>jl (lG e1 e2 ws k) (e1 k) (e2 k)
def cn(P:Nat->Bool):Nat->Nat
 |0=>0
 |k+1=>cn P k+(if P k=true then 1 else 0)
theorem xN(P:Nat->Bool)(k:Nat):cn P k<=k:=by
 induction k with
 |zero=>exact Nat.le_refl _
 |succ k ih=>rw[cn];split<;>omega
theorem aiG{P Q:Nat->Bool}(k:Nat)(h:∀x,x<k->P x=true->Q x=true):cn P k<=cn Q k:=by
 induction k with
 |zero=>exact Nat.le_refl _
 |succ k ih=>
  have:=ih (fun x hx=>h x (by omega))
  rw[cn,cn]
  by_cases hp:P k=true
  ·rw[if_pos hp,if_pos (h k (by omega) hp)];omega
  ·rw[if_neg hp];omega
theorem alh{P Q:Nat->Bool}(k:Nat)(h:∀x,x<k->P x=true->Q x=true){x:Nat}(hx:x<k)(hq:Q x=true)(hp:P x=false):cn P k<cn Q k:=by
 induction k with
 |zero=>omega
 |succ k ih=>
  rw[cn,cn]
  by_cases e:x=k
  ·subst e
   have:=aiG x (P:=P) (Q:=Q) (fun y hy=>h y (by omega))
   rw[if_pos hq,if_neg (by rw[hp];exact Bool.false_ne_true)];omega
  ·have:=ih (fun y hy=>h y (by omega)) (by omega)
   by_cases hp':P k=true
   ·rw[if_pos hp',if_pos (h k (by omega) hp')];omega
   ·rw[if_neg hp'];omega
theorem ajG{P:Nat->Bool}(k:Nat)(h:k<=cn P k):∀x,x<k->P x=true:=by
 induction k with
 |zero=>intro x hx;omega
 |succ k ih=>
  rw[cn]at h
  have hl:=xN P k
  by_cases hp:P k=true
  ·intro x hx
   by_cases e:x=k
   ·subst e;exact hp
   ·rw[if_pos hp]at h;exact ih (by omega) x (by omega)
  ·rw[if_neg hp]at h;omega
theorem least{P:Nat->Prop}(y:Nat)(h:P y):∃z,P z/\∀u,P u->z<=u:=by
 induction y using Nat.strongRecOn with
 |_ y ih=>
  by_cases hs:∃u,u<y/\P u
  ·obtain⟨u,hu,hp⟩:=hs
   exact ih u hu hp
  ·exact⟨y,h,fun u hu=>by
    rcases Nat.lt_or_ge u y with h1|h1
    ·exact absurd ⟨u,h1,hu⟩ hs
    ·exact h1⟩
def uV(N:Nat)(cl:Nat->Nat)(ws:List Int):Prop:=ws.length=N/\∀x,x<N->∃z:Nat,z<N/\ga ws x=(z:Int)/\cl z=cl x
theorem ahl{N:Nat}{cl:Nat->Nat}{ws:List Int}(h:uV N cl ws){x y:Nat}(hx:x<N)(hy:y<N)(hc:cl x=cl y):uV N cl (jl ws x y):=by
 refine⟨by rw[D8];exact h.1,fun z hz=>?_⟩
 have hl:=h.1
 unfold jl
 split
 ·rw[dV _ _ _ _ (by omega)]
  split
  ·rename_i e;subst e
   obtain⟨u,h1,h2,h3⟩:=h.2 x hx
   exact⟨u,h1,h2,h3.trans hc⟩
  ·exact h.2 z hz
 ·rw[dV _ _ _ _ (by omega)]
  split
  ·rename_i e;subst e
   obtain⟨u,h1,h2,h3⟩:=h.2 y hy
   exact⟨u,h1,h2,h3.trans hc.symm⟩
  ·exact h.2 z hz
theorem ago{N:Nat}{cl:Nat->Nat}{m:Nat->Nat}(hm:∀x,x<N->∀y,y<N->cl y=cl x->m x<=y)(zj:∀x y,x<N->y<N->cl x=cl y->m x=m y){ws:List Int}(h:uV N cl ws){x y:Nat}(hx:x<N)(hy:y<N)(hc:cl x=cl y):
  (∀z,z<N->ga ws z=(m z:Int)->ga (jl ws x y) z=(m z:Int))/\(ga ws x=(m x:Int)\/ga ws y=(m y:Int)->ga (jl ws x y) x=(m x:Int)/\ga (jl ws x y) y=(m y:Int)):=by
 have hl:=h.1
 have hmm:=zj x y hx hy hc
 obtain⟨u,u1,u2,u3⟩:=h.2 x hx
 obtain⟨v,v1,v2,v3⟩:=h.2 y hy
 have b1:=hm x hx u u1 u3
 have b2:=hm y hy v v1 v3
 unfold jl
 by_cases hlt:ga ws x<ga ws y
 ·rw[if_pos hlt]
  simp only[dV _ _ _ _ (show y<ws.length by omega)]
  refine⟨fun z hz hg=>?_,fun hg=>?_⟩
  ·split
   ·rename_i e;subst e;omega
   ·exact hg
  ·simp only[if_true,ite_self]
   have e0:ga ws x=(m x:Int):=by rcases hg with hg|hg<;>omega
   omega
 ·rw[if_neg hlt]
  simp only[dV _ _ _ _ (show x<ws.length by omega)]
  refine⟨fun z hz hg=>?_,fun hg=>?_⟩
  ·split
   ·rename_i e;subst e;omega
   ·exact hg
  ·simp only[if_true,ite_self]
   have e0:ga ws y=(m y:Int):=by rcases hg with hg|hg<;>omega
   omega
theorem labels{N K:Nat}(e1 e2:Nat->Nat)(he:∀k,k<K->e1 k<N/\e2 k<N)(cl:Nat->Nat)(hin:∀k,k<K->cl (e1 k)=cl (e2 k))
  (hcon:∀Z:Nat->Prop,(∀k,k<K->(Z (e1 k)<->Z (e2 k)))->∀x y,x<N->y<N->cl x=cl y->Z x->Z y)
  (ws:Nat->List Int)(hlen:(ws 0).length=N)(h0:∀x:Nat,x<N->ga (ws 0) x=(x:Int))(hs:∀j,ws (j+1)=lG e1 e2 (ws j) K):
  ∀x,x<N->∃z:Nat,z<N/\ga (ws N) x=(z:Int)/\cl z=cl x/\∀y,y<N->cl y=cl x->z<=y:=by
 have hex:∀x:Nat,∃z:Nat,x<N->(z<N/\cl z=cl x)/\∀u,u<N/\cl u=cl x->z<=u:=fun x=>by
  by_cases hx:x<N
  ·obtain⟨z,h1,h2⟩:=least (P:=fun z=>z<N/\cl z=cl x) x ⟨hx,rfl⟩
   exact⟨z,fun _=>⟨h1,h2⟩⟩
  ·exact⟨0,fun h=>absurd h hx⟩
 obtain⟨m,hm0⟩:=Classical.axiomOfChoice hex
 have hm:∀x,x<N->∀y,y<N->cl y=cl x->m x<=y:=fun x hx y hy e=>(hm0 x hx).2 y ⟨hy,e⟩
 have zj:∀x y,x<N->y<N->cl x=cl y->m x=m y:=fun x y hx hy e=>by
  have h1:=hm0 x hx
  have h2:=hm0 y hy
  have:=h1.2 (m y) ⟨h2.1.1,h2.1.2.trans e.symm⟩
  have:=h2.2 (m x) ⟨h1.1.1,h1.1.2.trans e⟩
  omega
 have EW:∀w,uV N cl w->∀k,k<=K->uV N cl (lG e1 e2 w k)/\(∀z,z<N->ga w z=(m z:Int)->ga (lG e1 e2 w k) z=(m z:Int))/\
   ∀j,j<k->(ga w (e1 j)=(m (e1 j):Int)\/ga w (e2 j)=(m (e2 j):Int))->ga (lG e1 e2 w k) (e1 j)=(m (e1 j):Int)/\ga (lG e1 e2 w k) (e2 j)=(m (e2 j):Int):=fun w hw k=>by
  induction k with
  |zero=>exact fun _=>⟨hw,fun z _ h=>h,fun j hj=>by omega⟩
  |succ k ih=>
   intro hk
   obtain⟨a1,a2,a3⟩:=ih (by omega)
   obtain⟨p1,p2⟩:=he k (by omega)
   have hc:=hin k (by omega)
   obtain⟨g1,g2⟩:=ago hm zj a1 p1 p2 hc
   refine⟨ahl a1 p1 p2 hc,fun z hz h=>g1 z hz (a2 z hz h),fun j hj hg=>?_⟩
   obtain⟨q1,q2⟩:=he j (by omega)
   by_cases e:j=k
   ·subst e
    exact g2 (hg.elim (fun h=>.inl (a2 _ q1 h)) (fun h=>.inr (a2 _ q2 h)))
   ·obtain⟨r1,r2⟩:=a3 j (by omega) hg
    exact⟨g1 _ q1 r1,g1 _ q2 r2⟩
 have hok:∀j,uV N cl (ws j):=fun j=>by
  induction j with
  |zero=>exact⟨hlen,fun x hx=>⟨x,hx,h0 x hx,rfl⟩⟩
  |succ j ih=>rw[hs];exact(EW _ ih K (Nat.le_refl _)).1
 have AX:∀j z,z<N->ga (ws j) z=(m z:Int)->ga (ws (j+1)) z=(m z:Int):=fun j z hz h=>by rw[hs];exact(EW _ (hok j) K (Nat.le_refl _)).2.1 z hz h
 have hroot:∀j x,x<N->ga (ws j) (m x)=(m (m x):Int):=fun j x hx=>by
  have h1:=(hm0 x hx).1
  have e:m (m x)=m x:=zj _ _ h1.1 hx h1.2
  induction j with
  |zero=>rw[h0 _ h1.1,e]
  |succ j ih=>exact AX j _ h1.1 ih
 have hgrow:∀j,(∀x,x<N->ga (ws j) x=(m x:Int))\/j<=cn (fun x=>decide (ga (ws j) x=(m x:Int))) N:=fun j=>by
  induction j with
  |zero=>exact .inr (Nat.zero_le _)
  |succ j ih=>
   rcases ih with ih|ih
   ·exact .inl fun x hx=>AX j x hx (ih x hx)
   ·by_cases hnew:∃x,x<N/\ga (ws (j+1)) x=(m x:Int)/\ga (ws j) x≠(m x:Int)
    ·obtain⟨x,hx,h1,h2⟩:=hnew
     right
     have:=alh (P:=fun x=>decide (ga (ws j) x=(m x:Int))) (Q:=fun x=>decide (ga (ws (j+1)) x=(m x:Int))) N (fun z hz h=>decide_eq_true (AX j z hz (of_decide_eq_true h))) hx (decide_eq_true h1) (decide_eq_false h2)
     omega
    ·left
     have hsame:∀x,x<N->ga (ws (j+1)) x=(m x:Int)->ga (ws j) x=(m x:Int):=fun x hx h=>Classical.byContradiction fun h'=>hnew ⟨x,hx,h,h'⟩
     have hcl:=hcon (fun x=>ga (ws j) x=(m x:Int)) (fun k hk=>by
      obtain⟨q1,q2⟩:=he k hk
      have h3:=(EW _ (hok j) K (Nat.le_refl _)).2.2 k hk
      rw[<-hs]at h3
      exact⟨fun h=>hsame _ q2 (h3 (.inl h)).2,fun h=>hsame _ q1 (h3 (.inr h)).1⟩)
     intro x hx
     have h1:=(hm0 x hx).1
     exact AX j x hx (hcl (m x) x h1.1 hx h1.2 (hroot j x hx))
 intro x hx
 have hall:ga (ws N) x=(m x:Int):=by
  rcases hgrow N with h|h
  ·exact h x hx
  ·exact of_decide_eq_true (ajG N h x hx)
 have h1:=hm0 x hx
 exact⟨m x,h1.1.1,hall,h1.1.2,fun y hy e=>h1.2 y ⟨hy,e⟩⟩
end Go.Proofs.YthppkofceancjaaGreat
namespace Go.Proofs.YthppkofceancjaaGreat
open Go.ChangeShapes Go.WideShapes Go.ChangeAt Go.RowKit
theorem aiB{d:Dg}(h:aX d=true){x s:Nat}(hx:x<d.ae.length)(hs:s<4):∃k,k<2*d.ae.length/\((eD d k false=x/\eD d k true=fg d x s)\/(eD d k true=x/\eD d k false=fg d x s)):=by
 have ha:=kg h hx hs
 have e:(((bt d x s).toNat-1+1:Nat):Int)=bt d x s:=by omega
 refine⟨(bt d x s).toNat-1,by omega,?_⟩
 unfold eD fg
 rw[e]
 cases hb:cH d x s
 ·right
  exact⟨by rw[zD h hx hs (b:=true) hb],rfl⟩
 ·left
  exact⟨by rw[zD h hx hs (b:=false) hb],rfl⟩
theorem ais{d:Dg}(h:aX d=true){k:Nat}(hk:k<2*d.ae.length):∃s,s<4/\fg d (eD d k false) s=eD d k true:=by
 have ha:1<=((k+1:Nat):Int)/\((k+1:Nat):Int)<=2*(d.ae.length:Int):=by omega
 obtain⟨_,h2,_⟩:=fe h ha false
 obtain⟨h3,h4⟩:=zO h ha false
 refine⟨(Ud d ((k+1:Nat):Int) false).2,h2,?_⟩
 unfold fg eD
 rw[h3,h4]
 rfl
theorem aja{d:Dg}(h:aX d=true){x s:Nat}(hx:x<d.ae.length)(hs:s<4):cV d (fg d x s)=cV d x:=by
 obtain⟨h1,h2,_⟩:=uJ h hx
 exact(Az h h1 ((rD h).Dz _ h1 _ h2 s hs)).2
theorem ED(n k:Nat)(hk:k<=n)(x:Nat)(hx:x<k):ga (iniW n k) x=(x:Int):=by
 induction k with
 |zero=>omega
 |succ k ih=>
  rw[iniW,dV _ _ _ _ (by rw[rO];omega)]
  split
  ·rename_i e;subst e;rfl
  ·exact ih (by omega) (by omega)
theorem aht(d:Dg)(ws:List Int)(k:Nat):r8 d ws k=lG (fun j=>eD d j false) (fun j=>eD d j true) ws k:=by
 induction k with
 |zero=>rfl
 |succ k ih=>rw[r8,lG,ih]
theorem ake{d:Dg}(h:aX d=true){x y:Nat}(hr:Rc d x y)(hx:x<d.ae.length):y<d.ae.length:=by
 induction hr with
 |refl=>exact hx
 |step _ hk ih=>exact AE h ih hk
theorem age{d:Dg}(h:aX d=true)(Z:Nat->Prop)(hZ:∀x s,x<d.ae.length->s<4->(Z x<->Z (fg d x s))){x y:Nat}(hx:x<d.ae.length)(hy:y<d.ae.length)(e:cV d x=cV d y):Z x->Z y:=by
 have hrc:∀c z,c<d.ae.length->Rc d c z->(Z c<->Z z):=fun c z hc hr=>by
  induction hr with
  |refl=>exact Iff.rfl
  |step hr' hk ih=>exact ih.trans (hZ _ _ (ake h hr' hc) hk)
 obtain⟨h1,h2,_⟩:=uJ h hx
 obtain⟨_,h2',_⟩:=uJ h hy
 rw[<-e]at h2'
 obtain⟨_,c0,hc0,_,hel⟩:=(rD h).el _ h1
 obtain⟨u,eu,_,ru⟩:=hel _ h2
 obtain⟨v,ev,_,rv⟩:=hel _ h2'
 obtain rfl:x=u:=by omega
 obtain rfl:y=v:=by omega
 exact fun hz=>(hrc _ _ hc0 rv).1 ((hrc _ _ hc0 ru).2 hz)
theorem wK{d:Dg}(h:aX d=true):∀x,x<d.ae.length->∃z:Nat,z<d.ae.length/\ga (eV d) x=(z:Int)/\cV d z=cV d x/\∀y,y<d.ae.length->cV d y=cV d x->z<=y:=
 labels (N:=d.ae.length) (K:=2*d.ae.length) (fun j=>eD d j false) (fun j=>eD d j true) (fun k hk=>⟨wW h hk false,wW h hk true⟩) (cV d)
  (fun k hk=>by
   obtain⟨s,hs,e⟩:=ais h hk
   rw[<-e,aja h (wW h hk false) hs])
  (fun Z hZ x y hx hy e=>age h Z (fun u s hu hs=>by
   obtain⟨k,hk,hh⟩:=aiB h hu hs
   have:=hZ k hk
   rcases hh with⟨h1,h2⟩|⟨h1,h2⟩
   ·rw[h1,h2]at this;exact this
   ·rw[h1,h2]at this;exact this.symm) hx hy e)
  (sD d) (zQ d 0) (fun x hx=>ED _ _ (Nat.le_refl _) x hx) (fun j=>by rw[sD,aht])
theorem aa2{d:Dg}(h:aX d=true){x z:Nat}(hx:x<d.ae.length)(hz:ga (eV d) x=(z:Int)):z<d.ae.length/\cV d z=cV d x/\ga (eV d) z=(z:Int):=by
 obtain⟨u,h1,h2,h3,h4⟩:=wK h x hx
 obtain rfl:z=u:=by omega
 obtain⟨v,g1,g2,g3,g4⟩:=wK h z h1
 have a1:=g4 z h1 rfl
 have a2:=h4 v g1 (g3.trans h3)
 obtain rfl:v=z:=by omega
 exact⟨h1,h3,g2⟩
theorem abw{d:Dg}(h:aX d=true){p:Nat}(hp:p<d.ae.length)(hr:ga (eV d) p=(p:Int)){x:Nat}(hx:x<d.ae.length):ga (eV d) x=(p:Int)<->cV d x=cV d p:=by
 constructor
 ·intro e
  exact(aa2 h hx e).2.1.symm
 ·intro e
  obtain⟨u,h1,h2,h3,h4⟩:=wK h x hx
  obtain⟨v,g1,g2,g3,g4⟩:=wK h p hp
  obtain rfl:v=p:=by omega
  have a1:=h4 v hp e.symm
  have a2:=g4 u h1 (h3.trans e)
  rw[h2]
  omega
theorem abm{P Q:Nat->Bool}(k:Nat)(h:∀x,x<k->P x=Q x):cn P k=cn Q k:=by
 induction k with
 |zero=>rfl
 |succ k ih=>rw[cn,cn,ih (fun x hx=>h x (by omega)),h k (by omega)]
theorem zV(P:Nat->Bool)(k:Nat):cn P k=((List.range k).filter P).length:=by
 induction k with
 |zero=>rfl
 |succ k ih=>
  rw[cn,ih,List.range_succ,List.filter_append,List.length_append]
  by_cases hp:P k=true<;>simp[hp]
theorem air(ws:List Int)(p:Int)(k:Nat):negW ws p k=-(cn (fun x=>decide (ga ws x=p)) k:Int):=by
 induction k with
 |zero=>rfl
 |succ k ih=>
  rw[negW,cn,ih]
  by_cases e:ga ws k=p
  ·rw[if_pos e,if_pos (decide_eq_true e)];omega
  ·rw[if_neg e,if_neg (by simpa using e)];omega
theorem aiw(d:Dg)(ws:List Int)(p m:Int)(k:Nat):kE d ws p m k=m+(cn (fun x=>decide (ga ws (iQ d x)=p)) k:Int):=by
 induction k with
 |zero=>rw[kE,cn];omega
 |succ k ih=>
  rw[kE,cn,ih]
  by_cases e:ga ws (iQ d k)=p
  ·rw[if_pos e,if_pos (decide_eq_true e)];omega
  ·rw[if_neg e,if_neg (by simpa using e)];omega
theorem ajA(d:Dg)(i:Nat)(hi:i<(b9 d).length)(k:Nat):ga (jd d k) i=(cn (fun x=>decide (cV d (iQ d x)=i)) k:Int):=by
 induction k with
 |zero=>rw[jd,uL _ _ _ hi];rfl
 |succ k ih=>
  rw[jd,cn]
  by_cases e:cV d (iQ d k)=i
  ·rw[if_pos (decide_eq_true e),e,dV _ _ _ _ (by rw[EH];exact hi),if_pos rfl,ih];omega
  ·rw[if_neg (by simpa using e),aaT _ _ _ _ e,ih];omega
theorem ahx{d:Dg}(h:aX d=true){i:Nat}(hi:i<(b9 d).length):(ga (b9 d) i).length=cn (fun x=>decide (cV d x=i)) d.ae.length:=by
 rw[zV]
 obtain⟨h1,c0,_,_,h2⟩:=(rD h).el i hi
 have hn:((List.range d.ae.length).filter (fun x=>decide (cV d x=i))).Nodup:=List.Nodup.sublist (List.filter_sublist) List.nodup_range
 apply Nat.le_antisymm
 ·have h3:=Ac (ys:=((List.range d.ae.length).filter (fun x=>decide (cV d x=i))).map fun x:Nat=>(x:Int)) h1 (fun y hy=>by
   obtain⟨z,rfl,hz,_⟩:=h2 y hy
   exact List.mem_map.2 ⟨z,List.mem_filter.2 ⟨List.mem_range.2 hz,decide_eq_true (Az h hi hy).2⟩,rfl⟩)
  rw[List.length_map]at h3
  exact h3
 ·have hn':(((List.range d.ae.length).filter (fun x=>decide (cV d x=i))).map fun x:Nat=>(x:Int)).Nodup:=by
   rw[List.nodup_iff_pairwise_ne,List.pairwise_map]
   exact List.Pairwise.imp (fun hab e=>hab (by omega)) hn
  have h3:=Ac (ys:=ga (b9 d) i) hn' (fun y hy=>by
   obtain⟨z,hz,rfl⟩:=List.mem_map.1 hy
   obtain⟨hz1,hz2⟩:=List.mem_filter.1 hz
   obtain⟨_,g2,_⟩:=uJ h (List.mem_range.1 hz1)
   rw[of_decide_eq_true hz2]at g2
   exact g2)
  rw[List.length_map]at h3
  exact h3
theorem aas{d:Dg}(h:aX d=true){p:Nat}(hp:p<d.ae.length)(hr:ga (eV d) p=(p:Int)):cV d p<(b9 d).length/\
  (kE d (eV d) p (negW (eV d) p d.ae.length) (U6 d).length=2<->ga (jd d (U6 d).length) (cV d p)=((ga (b9 d) (cV d p)).length:Int)+2):=by
 obtain⟨h1,_,_⟩:=uJ h hp
 refine⟨h1,?_⟩
 rw[aiw,air,ajA d _ h1,ahx h h1]
 have e1:cn (fun x=>decide (ga (eV d) x=(p:Int))) d.ae.length=cn (fun x=>decide (cV d x=cV d p)) d.ae.length:=abm _ fun x hx=>decide_eq_decide.2 (abw h hp hr hx)
 have e2:cn (fun x=>decide (ga (eV d) (iQ d x)=(p:Int))) (U6 d).length=cn (fun x=>decide (cV d (iQ d x)=cV d p)) (U6 d).length:=abm _ fun x hx=>decide_eq_decide.2 (abw h hp hr (Fu h hx))
 rw[e1,e2]
 omega
theorem aat{d:Dg}(h:aX d=true):qy d=o6 d:=by
 rw[Bool.eq_iff_iff]
 constructor
 ·intro hp
  apply abE
  intro i hi
  obtain⟨_,c0,hc0,hm,_⟩:=(rD h).el i hi
  have e0:=(Az h hi hm).2
  obtain⟨z,_,hz,_⟩:=wK h c0 hc0
  obtain⟨r1,r2,r3⟩:=aa2 h hc0 hz
  have hq:=List.all_eq_true.1 hp z (List.mem_range.2 r1)
  unfold oZ at hq
  rw[Bool.or_eq_true]at hq
  rcases hq with hq|hq
  ·exact absurd r3 (of_decide_eq_true hq)
  ·have:=(aas h r1 r3).2.1 (of_decide_eq_true hq)
   rw[r2,e0]at this
   exact this
 ·intro hp
  apply aa8
  intro p qa
  unfold oZ
  rw[Bool.or_eq_true]
  by_cases hr:ga (eV d) p=(p:Int)
  ·right
   obtain⟨h1,h2⟩:=aas h qa hr
   have hq:=List.all_eq_true.1 hp _ (List.mem_range.2 h1)
   exact decide_eq_true (h2.2 (of_decide_eq_true hq))
  ·left
   exact decide_eq_true hr
end Go.Proofs.YthppkofceancjaaGreat
namespace Go.Proofs.YthppkofceancjaaGreat
open Go.ChangeShapes Go.WideShapes Go.ChangeAt Go.RowKit
theorem sW{d:Dg}(h:gW d=true):d.ae.length<=16/\aX d=true/\0<=d.loops/\d.loops<=16:=by
 rw[aaK,Bool.and_eq_true,decide_eq_true_iff]at h
 exact⟨h.1.1,h.2,h.1.2.1,h.1.2.2.1⟩
def DgR(d:Dg)(u:Value)(M:Hp):Prop:=∃A c,u=.agg [.slice A d.ae.length c,.int .i64 d.loops].toArray/\aF aG M A c d.ae
noncomputable def Vs:=Tryz.f9.body.getD .skip
def Zgh:=cL Vs
def Vr:=cR Vs
def Zgj:=cL Vr
def Vq:=cR Vr
def Zgl:=cL Vq
def Zgm:=cR Vq
set_option maxRecDepth 10000 in
theorem agl{w:World}{M:Hp}{X:Fr}(d:Dg){aV:Option Addr}{aU:Nat}(aC:aF aG (M.un X.h) aV aU d.ae)(S:SH w M X []):Ct Tryz.prog 9 [.agg [.slice aV d.ae.length aU,.int .i64 d.loops].toArray] w M X (DgR d):=by
 unfold Ct
 have gK:d.ae.length*40<=140737488355328:=aC.room
 have hroom:d.ae.length*40<=140737488355328:=aC.room
 refine Up (b:=Vs) Tryz.func9 rfl Tryz.ntmps9 rfl (fun C hC=>(bq [(0,_)] ⟨rfl,trivial⟩ (U2 Zgh Vr rfl rfl rfl (U0 rfl (ak 0 1 rfl rfl rfl (bA (l:=[_,_]) rfl rfl rfl rfl rfl S ?_))))))
 intro aI w1 S1;clear S
 refine ak 1 2 rfl rfl rfl (Uh (l:=[_,_]) rfl rfl rfl fQ rfl S1 ?_)
 intro aQ w2 S2;clear S1
 refine U5 rfl (ah [1,2] rfl (U3 (U2 Zgj Vq rfl rfl rfl (U0 rfl (af 0 rfl (U1 rfl rfl ay rfl (bK) (bJ)) (af 1 rfl (U4 rfl rfl bG rfl (S2.ar (i:=1) rfl rfl)) ?_))))))
 have S3:=S2.np aG;clear S2
 refine ak 2 3 rfl rfl rfl (D3 (C:=aG) (i:=0) rfl rfl rfl rfl rfl rfl rfl rfl b8 S3 rfl aC S3.um (by have h:_*40<=_:=aC.room;show(0+_)*40<=_;first|omega|(simp only[ls];omega)) ?_)
 intro vP w3 S4;clear S3
 change SH _ _ _ [Rs.row aG vP d.ae,_,_]at S4
 refine af 3 rfl (U1 rfl rfl ay rfl (bK) (bJ)) (ak 4 5 rfl rfl rfl (U7 (i:=2) (us:=[_]) (l':=[_,_]) (H':=[_,_,_]) rfl rfl S4 rfl rfl rfl (S4.jx (i:=0) rfl) kZ rfl (Uy (S4.one (i:=0) rfl) rfl) rfl rfl ?_))
 intro w4 S5;clear S4
 refine U5 rfl (ah [1,2] rfl (U3 (U2 Zgl Zgm rfl rfl rfl (U0 rfl (af 0 rfl (U8 (us:=[_,_]) rfl rfl ay rfl az (S5.ax (i:=2) rfl ⟨rfl,rfl,trivial⟩)) (ak 1 2 rfl rfl rfl (U7 (i:=1) (us:=[_,_]) (l':=[_,_]) (H':=[_,_,_]) rfl rfl S5 rfl rfl rfl rfl az rfl (Uy (S5.one (i:=0) rfl) (Uy rfl rfl)) rfl rfl ?_)))))))
 intro w5 S6;clear S5
 refine U5 rfl (ah [2] rfl (U3 ?_))
 obtain⟨M1,aL,S7,⟨A1,c1,e1,hr1⟩⟩:=S6.fZ (i:=0) (H':=[_,_,_]) rfl rfl (by show _*40<=_;first|omega|(simp only[ls];omega))
 clear S6;subst e1
 replace aC:=aC.mono (Hp.Ua aL S7.mx)
 refine Uj hC [_] rfl rfl ⟨⟨_,rfl,Um (us:=[_,_]) ay rfl az (S7.ax (i:=1) rfl ⟨rfl,rfl,trivial⟩)⟩,trivial⟩ ?_
 refine⟨_,rfl,_,aL,(S7.pick [] [] (by decide) trivial),?_⟩
 exact⟨_,_,rfl,hr1⟩
end Go.Proofs.YthppkofceancjaaGreat
namespace Go.Proofs.YthppkofceancjaaGreat
open Go.ChangeShapes Go.WideShapes Go.ChangeAt Go.RowKit
section
variable {P : Program} {o : Oper} {L : List (Nat × Value)} {w : World} {a b : Int}
theorem ah9{ca:Call}{ops:List Operand}{ts:List TypeId}(hop:o.op=.call ca)(cm:ca.callee=.builtin .min)(hxs:ca.args=ops.toArray)(hts:ca.argTypes=ts.toArray)(hx:oevs L ops=some [.int .i64 a,.int .i64 b]):Run P o L w (.int .i64 (min a b)) w:=by
 intro n c he
 have e:(if b<a then b else a)=min a b:=by
  by_cases h:b<a
  ·rw[if_pos h];omega
  ·rw[if_neg h];omega
 unfold execOp
 simp only[hop,resolve,cm,hxs,hts,List.map_toArray,he.kx hx,Sem.run_bind,Sem.run_pure,Result.andThen_ok,invoke,builtin,Builtin.min_,List.foldlM_cons,List.foldlM_nil,Builtin.min2,e]
end
def relN(cl:List Int)(f t:Int):Nat->List Int
 |0=>cl
 |a+1=>if ga (relN cl f t a) a=f then(relN cl f t a).set a t else relN cl f t a
theorem z8(cl:List Int)(f t:Int)(a:Nat):(relN cl f t a).length=cl.length:=by
 induction a with
 |zero=>rfl
 |succ a ih=>rw[relN];split<;>(try rw[List.length_set])<;>exact ih
theorem abC(cl:List Int)(f t:Int)(a:Nat)(ha:a<=cl.length):∀x,ga (relN cl f t a) x=if x<a/\ga cl x=f then t else ga cl x:=by
 induction a with
 |zero=>intro x;rw[if_neg (by omega)];rfl
 |succ a ih=>
  have ih:=ih (by omega)
  have ha0:ga (relN cl f t a) a=ga cl a:=by rw[ih,if_neg (by omega)]
  intro x
  rw[relN,ha0]
  split
  ·rename_i e
   rw[dV _ _ _ _ (by rw[z8];omega)]
   split
   ·rename_i e2;subst e2
    rw[if_pos ⟨by omega,e⟩]
   ·rw[ih]
    by_cases h9:x<a/\ga cl x=f
    ·rw[if_pos h9,if_pos ⟨by omega,h9.2⟩]
    ·rw[if_neg h9,if_neg (fun h=>h9 ⟨by omega,h.2⟩)]
  ·rename_i e
   rw[ih]
   by_cases h9:x<a/\ga cl x=f
   ·rw[if_pos h9,if_pos ⟨by omega,h9.2⟩]
   ·rw[if_neg h9,if_neg (fun(h:x<a+1/\ga cl x=f)=>by
     by_cases h8:x=a
     ·subst h8;exact e h.2
     ·exact h9 ⟨by omega,h.2⟩)]
def uW(N:Nat)(cl:List Int):Prop:=cl.length=N/\∀x,x<N->0<=ga cl x/\ga cl x<=x/\ga cl (ga cl x).toNat=ga cl x
theorem ain{N:Nat}{cl O8:List Int}{f t:Int}(hok:uW N cl)(hl:O8.length=N)(hg:∀x,x<N->ga O8 x=if ga cl x=f then t else ga cl x)(hft:t<=f)(h0:0<=t)(hti:ga cl t.toNat=t):uW N O8:=by
 refine⟨hl,fun x hx=>?_⟩
 obtain⟨x1,x2,x3⟩:=hok.2 x hx
 have e:=hg x hx
 by_cases hf:ga cl x=f
 ·rw[if_pos hf]at e
  rw[e]
  refine⟨h0,by omega,?_⟩
  rw[hg _ (by omega)]
  split
  ·rfl
  ·exact hti
 ·rw[if_neg hf]at e
  rw[e]
  refine⟨x1,x2,?_⟩
  rw[hg _ (by omega),x3,if_neg hf]
theorem aar(e1 e2:Nat->Nat)(ws:List Int)(k:Nat):(lG e1 e2 ws k).length=ws.length:=by
 induction k with
 |zero=>rfl
 |succ k ih=>rw[lG,D8,ih]
noncomputable def Vp:=Tryz.f76.body.getD .skip
def Zgo:=cL Vp
def Vo:=cR Vp
def Zgq:=cL Vo
def Zgr:=cR Vo
set_option maxRecDepth 10000 in
theorem aiu{w:World}{M:Hp}{X:Fr}(Oq:Value)(ws:List Int)(i:Int)(j:Int)(hi:0<=i/\i<(ws.length:Int))(hj:0<=j/\j<(ws.length:Int))(S:SH w M X [Rs.row Uv Oq ws]):C1 Tryz.prog 76 [Oq,.int .i64 i,.int .i64 j] w M X (fun u M' r'=>u=tup []/\M'=M/\r'=Rs.row Uv Oq (jl ws i.toNat j.toNat)):=by
 unfold C1
 refine Up (b:=Vp) Tryz.func76 rfl Tryz.ntmps76 rfl (fun C hC=>(bq [(0,_),(1,_),(2,_)] ⟨rfl,rfl,rfl,trivial⟩ (U2 Zgo Vo rfl rfl rfl (Ux rfl (by kernel_rfl) S 9 rfl ?_))))
 clear S
 refine ai 0 8 rfl (by kernel_rfl) (fun _=>run_move rfl rfl) ?_
 refine ai 1 7 rfl (by kernel_rfl) (fun _=>run_move rfl rfl) ?_
 refine aj 2 6 rfl (by kernel_rfl) (fun _ _ _ hz Sz=>.inl (Ui (C:=Uv) (i:=0) i.toNat rfl rfl rfl bw Sz.suf rfl (by first|rfl|omega) (by first|omega|(simp only[ls];omega)))) ?_
 refine aj 3 5 rfl (by kernel_rfl) (fun _ _ _ hz Sz=>.inl (U4 rfl rfl av rfl (Sz.suf.dv (i:=0) (e:=i.toNat) (j:=0) rfl (by first|omega|(simp only[ls];omega)) rfl rfl))) ?_
 refine ai 4 4 rfl (by kernel_rfl) (fun _=>run_move rfl rfl) ?_
 refine ai 5 3 rfl (by kernel_rfl) (fun _=>run_move rfl rfl) ?_
 refine aj 6 2 rfl (by kernel_rfl) (fun _ _ _ hz Sz=>.inl (Ui (C:=Uv) (i:=0) j.toNat rfl rfl rfl bw Sz.suf rfl (by first|rfl|omega) (by first|omega|(simp only[ls];omega)))) ?_
 refine aj 7 1 rfl (by kernel_rfl) (fun _ _ _ hz Sz=>.inl (U4 rfl rfl av rfl (Sz.suf.dv (i:=0) (e:=j.toNat) (j:=0) rfl (by first|omega|(simp only[ls];omega)) rfl rfl))) ?_
 refine ai 8 0 rfl (by kernel_rfl) (fun _=>bV rfl rfl rfl) ?_
 refine Uu (by kernel_rfl) (fun jZ bF=>?_)
 refine ah [0,1,2,14] rfl (U3 ?_)
 refine Ue Zgq Zgr rfl rfl rfl rfl (fun gD=>?_) (fun gD=>?_)
 ·refine U0 rfl (ag 0 4 rfl rfl (af 4 rfl (Ui (C:=Uv) (i:=0) i.toNat rfl rfl rfl bw bF rfl (by first|rfl|omega) (by first|omega|(simp only[ls];omega))) ?_))
  refine af 5 rfl (U4 rfl rfl av rfl (bF.dv (i:=0) (e:=i.toNat) (j:=0) rfl (by first|omega|(simp only[ls];omega)) rfl rfl)) ?_
  refine af 6 rfl (Ui (C:=Uv) (i:=0) j.toNat rfl rfl rfl bw bF rfl (by first|rfl|omega) (by first|omega|(simp only[ls];omega))) ?_
  refine ak 7 8 rfl rfl rfl (gy (C:=Uv) (i:=0) (e:=j.toNat) (j:=0) (us:=[_]) (H':=[_]) (ga ws i.toNat) rfl rfl bF rfl (by first|omega|(simp only[ls];omega)) rfl rfl rfl aY rfl rfl rfl rfl ?_)
  intro kH bQ;clear bF
  refine U5 rfl (gI hC [] rfl trivial ?_)
  exact⟨_,rfl,_,_,Hp.le_refl _,bQ.pick [0] [_] (by decide) ⟨rfl,trivial⟩,⟨rfl,rfl,by unfold jl;first|rw[if_pos (by assumption)]|rw[if_neg (by assumption)]⟩⟩
 ·refine U0 rfl (ag 0 4 rfl rfl (af 4 rfl (Ui (C:=Uv) (i:=0) j.toNat rfl rfl rfl bw bF rfl (by first|rfl|omega) (by first|omega|(simp only[ls];omega))) ?_))
  refine af 5 rfl (U4 rfl rfl av rfl (bF.dv (i:=0) (e:=j.toNat) (j:=0) rfl (by first|omega|(simp only[ls];omega)) rfl rfl)) ?_
  refine af 6 rfl (Ui (C:=Uv) (i:=0) i.toNat rfl rfl rfl bw bF rfl (by first|rfl|omega) (by first|omega|(simp only[ls];omega))) ?_
  refine ak 7 8 rfl rfl rfl (gy (C:=Uv) (i:=0) (e:=i.toNat) (j:=0) (us:=[_]) (H':=[_]) (ga ws j.toNat) rfl rfl bF rfl (by first|omega|(simp only[ls];omega)) rfl rfl rfl aY rfl rfl rfl rfl ?_)
  intro mb cw;clear bF
  refine U5 rfl (gI hC [] rfl trivial ?_)
  exact⟨_,rfl,_,_,Hp.le_refl _,cw.pick [0] [_] (by decide) ⟨rfl,trivial⟩,⟨rfl,rfl,by unfold jl;first|rw[if_pos (by assumption)]|rw[if_neg (by assumption)]⟩⟩
end Go.Proofs.YthppkofceancjaaGreat
namespace Go.Proofs.YthppkofceancjaaGreat
open Go.ChangeShapes Go.WideShapes Go.ChangeAt Go.RowKit
def iR(x:Cr):Int×Int:=if x.plus=true then(x.d,x.b)else(x.b,x.d)
noncomputable def Vn:=Tryz.f139.body.getD .skip
def Zgt:=cL Vn
def Vm:=cR Vn
def Vl:=cL Vm
def Vk:=cR Vm
def Zgx:=cL Vl
def Vj:=cR Vl
def Vi:=cL Vj
def Zh0:=cR Vj
def Zh1:=cL Vi
def Zh2:=cR Vi
def Zh3:=cL Vk
def Zh4:=cR Vk
set_option maxRecDepth 10000 in
theorem aiY{w:World}{M:Hp}{X:Fr}(x:Cr)(S:SH w M X []):Cq Tryz.prog 139 [.agg [.int .i64 x.a,.int .i64 x.b,.int .i64 x.c,.int .i64 x.d,.bool x.plus].toArray] w M X (fun u=>u=.agg [.int .i64 (iR x).1,.int .i64 (iR x).2].toArray):=by
 unfold Cq
 refine Up (b:=Vn) Tryz.func139 rfl Tryz.ntmps139 rfl (fun C hC=>(bq [(0,_)] ⟨rfl,trivial⟩ (U2 Zgt Vm rfl rfl rfl (U0 rfl (ak 0 1 rfl rfl rfl (bA (l:=[_,_,_,_,_]) rfl rfl rfl rfl rfl S ?_))))))
 intro aI w1 S1;clear S
 refine ak 1 2 rfl rfl rfl (Uh (l:=[_,_]) rfl rfl rfl jS rfl S1 ?_)
 intro aQ w2 S2;clear S1
 refine U5 rfl (ah [1,2] rfl (U3 (U2 Vl Vk rfl rfl rfl (U2 Zgx Vj rfl rfl rfl (U0 rfl (af 0 rfl (U1 rfl rfl aT rfl (fI) (fH)) (af 1 rfl (U4 rfl rfl dh rfl (S2.ar (i:=1) rfl rfl)) (U5 rfl ?_))))))))
 refine ah [1,2,4] rfl (U3 ?_)
 refine cS Vi Zh0 rfl rfl rfl rfl (fun hb4=>?_) (fun hb4=>?_)
 ·refine U2 Zh1 Zh2 rfl rfl rfl (U0 rfl (af 0 rfl (U1 rfl rfl aT rfl (aB) (aA)) (af 1 rfl (U4 rfl rfl av rfl (S2.ar (i:=1) rfl rfl)) (af 2 rfl (U1 rfl rfl aT rfl (aB) (aA)) (af 3 rfl (U4 rfl rfl av rfl (S2.ar (i:=1) rfl rfl)) (af 4 rfl (jf (l:=[_,_]) (pl:=[(0,1),(1,1)]) rfl rfl eA jS aY rfl rfl rfl) (ak 5 6 rfl rfl rfl (U7 (i:=0) (us:=[_,_]) (l':=[_,_]) (H':=[_,_]) rfl rfl S2 rfl rfl rfl rfl fx rfl rfl rfl rfl ?_))))))))
  intro w3 S3;clear S2
  refine U5 rfl (ah [2] rfl (U3 (Uj hC [_] rfl rfl ⟨⟨_,rfl,Um (us:=[_,_]) eA rfl fx (S3.ax (i:=0) rfl ⟨rfl,rfl,trivial⟩)⟩,trivial⟩ ?_)))
  exact⟨_,rfl,(S3.pick [] [] (by decide) trivial),(by show Value.agg _=_;unfold iR;first|rw[if_pos (by assumption)]|rw[if_neg (by simp[*])])⟩
 ·refine Uf rfl (ah [1,2] rfl (U3 (U2 Zh3 Zh4 rfl rfl rfl (U0 rfl (af 0 rfl (U1 rfl rfl aT rfl (aB) (aA)) (af 1 rfl (U4 rfl rfl av rfl (S2.ar (i:=1) rfl rfl)) (af 2 rfl (U1 rfl rfl aT rfl (aB) (aA)) (af 3 rfl (U4 rfl rfl av rfl (S2.ar (i:=1) rfl rfl)) ?_))))))))
  refine af 4 rfl (jf (l:=[_,_]) (pl:=[(0,1),(1,1)]) rfl rfl eA jS aY rfl rfl rfl) (ak 5 6 rfl rfl rfl (U7 (i:=0) (us:=[_,_]) (l':=[_,_]) (H':=[_,_]) rfl rfl S2 rfl rfl rfl rfl fx rfl rfl rfl rfl ?_))
  intro w4 S4;clear S2
  refine U5 rfl (ah [2] rfl (U3 (Uj hC [_] rfl rfl ⟨⟨_,rfl,Um (us:=[_,_]) eA rfl fx (S4.ax (i:=0) rfl ⟨rfl,rfl,trivial⟩)⟩,trivial⟩ ?_)))
  exact⟨_,rfl,(S4.pick [] [] (by decide) trivial),(by show Value.agg _=_;unfold iR;first|rw[if_pos (by assumption)]|rw[if_neg (by simp[*])])⟩
noncomputable def Vh:=Tryz.f138.body.getD .skip
def Zh6:=cL Vh
def Vg:=cR Vh
def Zh8:=cL Vg
def Zh9:=cR Vg
set_option maxRecDepth 10000 in
theorem aiX{w:World}{M:Hp}{X:Fr}(x:Cr)(S:SH w M X []):Cq Tryz.prog 138 [.agg [.int .i64 x.a,.int .i64 x.b,.int .i64 x.c,.int .i64 x.d,.bool x.plus].toArray] w M X (fun u=>u=.agg [.int .i64 x.a,.int .i64 x.c].toArray):=by
 unfold Cq
 refine Up (b:=Vh) Tryz.func138 rfl Tryz.ntmps138 rfl (fun C hC=>(bq [(0,_)] ⟨rfl,trivial⟩ (U2 Zh6 Vg rfl rfl rfl (U0 rfl (ak 0 1 rfl rfl rfl (bA (l:=[_,_,_,_,_]) rfl rfl rfl rfl rfl S ?_))))))
 intro aI w1 S1;clear S
 refine ak 1 2 rfl rfl rfl (Uh (l:=[_,_]) rfl rfl rfl jS rfl S1 ?_)
 intro aQ w2 S2;clear S1
 refine U5 rfl (ah [1,2] rfl (U3 (U2 Zh8 Zh9 rfl rfl rfl (U0 rfl (af 0 rfl (U1 rfl rfl aT rfl (aB) (aA)) (af 1 rfl (U4 rfl rfl av rfl (S2.ar (i:=1) rfl rfl)) (af 2 rfl (U1 rfl rfl aT rfl (aB) (aA)) (af 3 rfl (U4 rfl rfl av rfl (S2.ar (i:=1) rfl rfl)) ?_))))))))
 refine af 4 rfl (jf (l:=[_,_]) (pl:=[(0,1),(1,1)]) rfl rfl eA jS aY rfl rfl rfl) (ak 5 6 rfl rfl rfl (U7 (i:=0) (us:=[_,_]) (l':=[_,_]) (H':=[_,_]) rfl rfl S2 rfl rfl rfl rfl fx rfl rfl rfl rfl ?_))
 intro w3 S3;clear S2
 refine U5 rfl (ah [2] rfl (U3 (Uj hC [_] rfl rfl ⟨⟨_,rfl,Um (us:=[_,_]) eA rfl fx (S3.ax (i:=0) rfl ⟨rfl,rfl,trivial⟩)⟩,trivial⟩ ?_)))
 exact⟨_,rfl,(S3.pick [] [] (by decide) trivial),rfl⟩
end Go.Proofs.YthppkofceancjaaGreat
