/- Part 15 of the proof of the law TableSeeks: the walks through its functions and the plain laws that they need. -/
import Derived.Test.YtcohmplpgcddiaaGreatDoorSmZ14
import Derived.Lib.SmallJoins
import Derived.Deep.Slices
import Derived.Deep.Fields
import Derived.ChangeSame
import Derived.LaidMore
import Derived.LaidHandle
import Derived.Stop.Joined
import Derived.Test.YtcohmplpgcddiaaGreatDoorCards
import Derived.Test.YtcohmplpgcddiaaGreatDoorTie
set_option linter.unusedSimpArgs false
set_option linter.unusedVariables false
noncomputable section
namespace Go.Proofs.YtcohmplpgcddiaaGreatDoor
open Go.ChangeShapes Go.WideShapes Go.ChangeAt Go.RowKit
noncomputable def Z5z:=Tryz.f3.body.getD .skip
set_option maxHeartbeats 2000000 in
set_option maxRecDepth 10000 in
theorem aau{w:World}{M:Hp}{X:Fr}(d:Dg){bz:Option Addr}{bw:Nat}(depth:Int)(aC:aJ bu M bz bw d.ae)(S:SH w M X []):Ct Tryz.prog 3 [.agg [.slice bz d.ae.length bw,.int .i64 d.loops].toArray,.int .i64 depth] w M X (fun u _=>u=.bool true):=by
 unfold Ct
 have iL:d.ae.length*40<=140737488355328:=aC.room
 refine cw (b:=Z5z) Tryz.func3 rfl Tryz.ntmps3 rfl (fun C hC=>(cB [0,1] rfl (ar (aj rfl (dx (l:=[_,_]) rfl rfl rfl rfl rfl S ?_)))))
 intro aP w1 S1;clear S
 refine af 1 rfl (bL [1,2] rfl (ag rfl (aU [_,_] rfl aM aN (S1.bs 0 rfl rfl)) (aj rfl (eo rfl rfl rfl rfl rfl rfl rfl QD S1 (RJ d (aC.mono (Hp.cM _ _)) S1.aT) ?_))))
 intro sZ w2 M1 bh S2 kY;clear S1
 replace aC:=aC.mono bh
 obtain⟨A1,c1,rfl,hr1⟩:=kY
 refine af 1 rfl (aj rfl (eo rfl rfl rfl rfl rfl rfl rfl cf4 S2 (afK d depth hr1 S2.aT) ?_))
 intro xV w3 M2 hle2 S3 mV;clear S2
 replace aC:=aC.mono hle2
 replace hr1:=hr1.mono hle2
 obtain⟨kA,kc,l,e,rfl,hkl,hsk⟩:=mV
 have rml:l.length*64<=140737488355328:=hkl.room
 refine af 5 rfl (bL [1,2,5,6] rfl (af 1 rfl (aB (di ?_))))
 refine z6 (fun au aR=>∃(no:Int) (M3:Hp),M2.le M3/\Env 159 [(1,.int .i64 depth),(2,.pointer (some ⟨aP,0,none⟩)),(5,.slice kA l.length kc),(6,.int .i64 e),(7,.int .i64 no)] au/\SH aR M3 X [Rs.box aP 24 [.slice bz d.ae.length bw,.int .i64 d.loops]]/\((no≠0/\l.length=0/\e=no)\/(no=0/\0<=depth/\depth<=5/\fD d=true/\d.ae.length<=8))) ?_ ?_
 ·refine ar (af 3 rfl ?_)
  refine lG (k':=6) (d:=30) (decide ((depth<0)\/(5<depth))) [(1,_),(2,_),(5,_),(6,_),(7,_)] ⟨rfl,rfl,rfl,rfl,rfl,trivial⟩ (fun Ye=>?_) ?_
  ·refine eN (t:=27) rfl (fun A7=>?_) (fun A7=>?_)
   ·refine af 3 rfl ?_
    exact dz 30 (.bool (decide ((depth<0)\/(5<depth)))) rfl (congrArg Value.bool (decide_eq_true (.inl A7)).symm) (gA [30,1,2,5,6,7] rfl Ye)
   ·refine af 3 rfl ?_
    exact dz 30 (.bool (decide ((depth<0)\/(5<depth)))) rfl (congrArg Value.bool (decide_eq_decide.2 ⟨.inr,fun h=>h.resolve_left A7⟩)) (gA [30,1,2,5,6,7] rfl Ye)
  ·refine ax [1,2,5,6,7,30] rfl ?_
   refine bp rfl (fun xu=>?_) (fun xu=>?_)
   ·unfold tB at hsk
    rw[if_pos (by omega)]at hsk
    obtain⟨hl0,uV⟩:=hsk
    have oF:l.length=0:=by rw[hl0];rfl
    refine aH (af 1 rfl (aB (br ?_)))
    intro au aq
    refine⟨3,_,(Hp.le_refl _),aq.su rfl,S3.pick [0] [_] (by decide) ⟨rfl,trivial⟩,?dh⟩
    case dh=>exact .inl ⟨by decide,oF,uV⟩
   ·refine ar (ag rfl (aU [_,_] rfl aM aN (S3.bs 0 rfl rfl)) (aj rfl (eo rfl rfl rfl rfl rfl rfl rfl cf6 S3 (aaJ d (aC.mono (Hp.cM _ _)) S3.aT) ?_)))
    intro PO w5 M4 b7 S5 Br;clear S3
    replace aC:=aC.mono b7
    replace hr1:=hr1.mono b7
    replace hkl:=hkl.mono b7
    subst Br
    refine af 1 rfl (ax [1,2,5,6,7,33] rfl ?_)
    refine bp rfl (fun O8=>?_) (fun O8=>?_)
    ·have hop:fD d=false:=by
      unfold fD vG at*
      cases h1:fp d<;>cases h2:ml d<;>simp_all
     unfold tB at hsk
     rw[if_neg (by omega),if_pos hop]at hsk
     obtain⟨hl0,uV⟩:=hsk
     have oF:l.length=0:=by rw[hl0];rfl
     refine aH (af 1 rfl (aB (br ?_)))
     intro au aq
     refine⟨7,_,(b7),aq.su rfl,S5.pick [0] [_] (by decide) ⟨rfl,trivial⟩,?dv⟩
     case dv=>exact .inl ⟨by decide,oF,uV⟩
    ·refine ar (ag rfl (az rfl aM rfl dN dM) (ag rfl (aw rfl cE (S5.bc 0 rfl rfl)) (ag rfl (cK rfl cE) (af 1 rfl (ax [1,2,5,6,7,37] rfl ?_)))))
     refine bp rfl (fun rz=>?_) (fun rz=>?_)
     ·have hop:fD d=true:=by
       unfold fD vG at*
       cases h1:fp d<;>cases h2:ml d<;>simp_all
      unfold tB at hsk
      rw[if_neg (by omega),if_neg (by rw[hop];decide),if_pos (by omega)]at hsk
      obtain⟨hl0,uV⟩:=hsk
      have oF:l.length=0:=by rw[hl0];rfl
      refine aH (af 1 rfl (aB (br ?_)))
      intro au aq
      refine⟨2,_,(b7),aq.su rfl,S5.pick [0] [_] (by decide) ⟨rfl,trivial⟩,?fg⟩
      case fg=>exact .inl ⟨by decide,oF,uV⟩
     ·have hop:fD d=true:=by
       unfold fD vG at*
       cases h1:fp d<;>cases h2:ml d<;>simp_all
      refine aV (br ?_)
      intro au aq
      refine⟨0,_,(b7),aq.su rfl,S5.pick [0] [_] (by decide) ⟨rfl,trivial⟩,?fJ⟩
      case fJ=>exact .inr ⟨rfl,by omega,by omega,hop,by omega⟩
 ·rintro a1 w4 ⟨no,M3,bZ,bN,S4,hno⟩
  clear S3
  refine Au bN ?_
  clear bN a1
  replace aC:=aC.mono bZ
  replace hr1:=hr1.mono bZ
  replace hkl:=hkl.mono bZ
  refine di (ar (af 2 rfl (ax [1,2,5,6,7,39] rfl ?_)))
  refine bp rfl (fun xo=>?_) (fun xo=>?_)
  ·obtain⟨_,oF,uV⟩:no≠0/\l.length=0/\e=no:=by
    rcases hno with h|h
    ·exact h
    ·exfalso;omega
   refine ar (af 4 rfl ?_)
   refine eN (t:=43) rfl (fun aje=>?_) (fun aje=>?_)
   ·refine af 1 rfl (b8 rfl (cK rfl pH) (af 3 rfl (ax [4] rfl (bU hC rfl ?_))))
    refine⟨_,rfl,_,(bh.trans hle2).trans bZ,(S4.pick [] [] (by decide) trivial),?_⟩
    show Value.bool _=Value.bool _
    first|rfl|(refine congrArg Value.bool (decide_eq_true ?_);omega)|simp[*]
   ·exfalso;omega
  ·refine aV (bC [1,2,5,6] rfl ?_)
   obtain⟨_,hd0,hd5,hop,Qj⟩:no=0/\0<=depth/\depth<=5/\fD d=true/\d.ae.length<=8:=by
    rcases hno with h|h
    ·exfalso;omega
    ·exact h
   obtain⟨_,hab,hlo⟩:=EG hop
   have hgd:Gd d:=⟨Qj,hlo.1,hlo.2,hab⟩
   obtain⟨dp,hdp⟩:∃dp:Nat,depth=(dp:Int):=⟨depth.toNat,by omega⟩
   have hsf:Rm d dp l e:=by
    unfold tB at hsk
    rwa [if_neg (by omega),if_neg (by rw[hop];decide),if_neg (by omega),show depth.toNat=dp from by omega]at hsk
   refine aH (ag rfl (aU [_,_] rfl aM aN (S4.bs 0 rfl rfl)) (af 1 rfl (dz 49 (.int .i64 (dp:Int)) rfl (int_eq hdp) (aj rfl (eo rfl rfl rfl rfl rfl rfl rfl cf7 S4 (aaI d dp aC (by omega) hgd S4.aT) ?_)))))
   intro PN w6 M5 cH S6 Bp;clear S4
   replace aC:=aC.mono cH
   replace hr1:=hr1.mono cH
   replace hkl:=hkl.mono cH
   obtain⟨r,rfl,hsl⟩:=Bp
   have JM:=ack hop (by omega) (by omega) hsf hsl
   refine af 1 rfl (bM [2,5,6,8] rfl (ar (af 2 rfl (ax [2,5,6,8,52] rfl ?_))))
   refine bp rfl (fun O6=>?_) (fun O6=>?_)
   ·obtain⟨hr0,hl0,D3⟩:r=-1/\l=[]/\e=8:=by
     rcases JM with h|h
     ·exact h
     ·exfalso;omega
    have oF:l.length=0:=by rw[hl0];rfl
    refine ar (af 3 rfl ?_)
    refine eN (t:=55) rfl (fun ajc=>?_) (fun ajc=>?_)
    ·refine af 1 rfl (b8 rfl (cK rfl pH) (af 3 rfl (ax [4] rfl (bU hC rfl ?_))))
     refine⟨_,rfl,_,((bh.trans hle2).trans bZ).trans cH,(S6.pick [] [] (by decide) trivial),?_⟩
     show Value.bool _=Value.bool _
     first|rfl|(refine congrArg Value.bool (decide_eq_true ?_);omega)|simp[*]
    ·exfalso;omega
   ·obtain⟨hr0,hrl,uV,zD,D,hrow,hD⟩:0<=r/\r=(l.length:Int)/\e=0/\(∀m∈l,qN m)/\∃D,jz d l=(D,l.length,0)/\D.ae=[]:=by
     rcases JM with h|h
     ·exfalso;omega
     ·exact h
    have hD0:D.ae.length=0:=by rw[hD];rfl
    refine aV (bC [2,5,6,8] rfl (ar (af 3 rfl ?_)))
    refine eN (t:=62) rfl (fun aja=>?_) (fun aja=>?_)
    ·exfalso;omega
    ·refine af 1 rfl (b8 rfl (cK rfl pH) (af 3 rfl (ax [2,5,8,67] rfl ?_)))
     refine bp rfl (fun ajB=>?_) (fun ajB=>?_)
     ·exfalso;omega
     ·refine aV (bC [2,5,8] rfl (ar (af 1 rfl (aB (bK (bg ?_))))))
      refine ck (fun aZ au aR=>∃(i:Nat),aZ=l.length-i/\Env 159 [(2,.pointer (some ⟨aP,0,none⟩)),(5,.slice kA l.length kc),(8,.int .i64 r),(9,.int .i64 (i:Int))] au/\SH aR M5 X [Rs.box aP 24 [.slice bz d.ae.length bw,.int .i64 d.loops]]/\i<=l.length) rfl ?_ ?_
      ·intro au aq
       refine⟨_,⟨0,rfl,aq.su rfl,S6.pick [0] [_] (by decide) ⟨rfl,trivial⟩,?fI⟩⟩
       case fI=>omega
      ·rintro m1 a2 w7 ⟨i,rfl,cU,S7,hi⟩
       clear S6
       refine cy cU ?_
       clear cU a2
       refine cJ (ar (af 2 rfl (ag rfl (cK rfl pH) (af 1 rfl (ax [2,5,8,9,71] rfl ?_)))))
       refine bp rfl (fun ajz=>?_) (fun ajz=>?_)
       ·refine aV (bC [2,5,8,9] rfl (bg (ar (af 2 rfl (ag rfl (cN i rfl kQ hkl) (ag rfl (aU [_,_,_,_,_,_,_,_] rfl eT sF (hkl.j6 S7.m (e:=i) (by first|omega|(simp only[ls];omega)) (j:=0) ⟨rfl,rfl,rfl,rfl,rfl,rfl,rfl,rfl,trivial⟩)) ?_))))))
        refine aj rfl (bW (l:=[_,_,_,_,_,_,_,_]) rfl rfl rfl N7 rfl S7 ?_)
        intro bJ w8 S8;clear S7
        refine aj rfl (bH 0 [_,_,_,_,_,_,_,_] [_,_,_,_,_,_,_,_] [_,_] rfl S8 rfl rfl sF rfl rfl ?_)
        intro w9 S9;clear S8
        refine bM [2,5,8,9,10] rfl ?_
        obtain⟨hk1,hk2,hk3,hk4,hk5,hk6,hk7⟩:=zD _ (cY (show i<l.length by omega))
        unfold lh at hk1
        refine aH (aj rfl (bW (l:=[_,_]) rfl rfl rfl ra rfl S9 ?_))
        intro dE ld bQ;clear S9
        refine aB (sw (ag rfl (az rfl eT rfl aY aX) (ag rfl (aw rfl aG (bQ.bc 1 rfl rfl)) (af 2 rfl ?_))))
        refine lG (k':=8) (d:=85) (decide ((((ga l i).kd)≠2)/\(((ga l i).kd)≠4))) [(2,_),(5,_),(8,_),(9,_),(10,_),(11,_)] ⟨rfl,rfl,rfl,rfl,rfl,rfl,trivial⟩ (fun X4=>?_) ?_
        ·refine eN (t:=81) rfl (fun xh=>?_) (fun xh=>?_)
         ·refine b8 rfl (az rfl eT rfl aY aX) (b8 rfl (aw rfl aG (bQ.bc 1 rfl rfl)) (af 2 rfl ?_))
          exact dz 85 (.bool (decide ((((ga l i).kd)≠2)/\(((ga l i).kd)≠4)))) rfl (congrArg Value.bool (decide_eq_decide.2 ⟨fun h=>⟨xh,h⟩,fun h=>h.2⟩)) (gA [85,2,5,8,9,10,11] rfl X4)
         ·refine af 4 rfl ?_
          exact dz 85 (.bool (decide ((((ga l i).kd)≠2)/\(((ga l i).kd)≠4)))) rfl (congrArg Value.bool (decide_eq_false (fun h=>xh h.1)).symm) (gA [85,2,5,8,9,10,11] rfl X4)
        ·refine af 1 rfl ?_
         refine lG (k':=13) (d:=90) (decide (((((ga l i).kd)≠2)/\(((ga l i).kd)≠4))/\(((ga l i).kd)≠5))) [(2,_),(5,_),(8,_),(9,_),(10,_),(11,_)] ⟨rfl,rfl,rfl,rfl,rfl,rfl,trivial⟩ (fun XZ=>?_) ?_
         ·refine eN (t:=86) rfl (fun OP=>?_) (fun OP=>?_)
          ·refine b8 rfl (az rfl eT rfl aY aX) (b8 rfl (aw rfl aG (bQ.bc 1 rfl rfl)) (af 2 rfl ?_))
           exact dz 90 (.bool (decide (((((ga l i).kd)≠2)/\(((ga l i).kd)≠4))/\(((ga l i).kd)≠5)))) rfl (congrArg Value.bool (decide_eq_decide.2 ⟨fun h=>⟨OP,h⟩,fun h=>h.2⟩)) (gA [90,2,5,8,9,10,11] rfl XZ)
          ·refine af 4 rfl ?_
           exact dz 90 (.bool (decide (((((ga l i).kd)≠2)/\(((ga l i).kd)≠4))/\(((ga l i).kd)≠5)))) rfl (congrArg Value.bool (decide_eq_false (fun h=>OP h.1)).symm) (gA [90,2,5,8,9,10,11] rfl XZ)
         ·refine af 1 rfl ?_
          refine lG (k':=19) (d:=96) (decide ((((((ga l i).kd)≠2)/\(((ga l i).kd)≠4))/\(((ga l i).kd)≠5))\/(¬(((ga l i).ua)=0/\((ga l i).ub)=false)))) [(2,_),(5,_),(8,_),(9,_),(10,_),(11,_)] ⟨rfl,rfl,rfl,rfl,rfl,rfl,trivial⟩ (fun JV=>?_) ?_
          ·refine eN (t:=91) rfl (fun Dm=>?_) (fun Dm=>?_)
           ·exfalso;(rcases hk1 with h9|h9|h9<;>simp_all)
           ·refine b8 rfl (az rfl eT rfl YE Xm) (b8 rfl (aU [_,_] rfl eA gD (bQ.bs 1 rfl rfl)) (b8 rfl (aU [_,_] rfl eA gD (bQ.bs 0 rfl rfl)) (b8 rfl (TB (Q:=((ga l i).ua)=0/\((ga l i).ub)=false) rfl rfl rfl Oq ⟨_,_,_,_,rfl,rfl,⟨_,_,rfl,rfl,rfl⟩,rfl⟩) (af 1 rfl ?_))))
            exact dz 96 (.bool (decide ((((((ga l i).kd)≠2)/\(((ga l i).kd)≠4))/\(((ga l i).kd)≠5))\/(¬(((ga l i).ua)=0/\((ga l i).ub)=false))))) rfl (congrArg Value.bool (decide_eq_decide.2 ⟨.inr,fun h=>h.resolve_left Dm⟩)) (gA [96,2,5,8,9,10,11] rfl JV)
          ·refine af 1 rfl ?_
           refine lG (k':=25) (d:=102) (decide (((((((ga l i).kd)≠2)/\(((ga l i).kd)≠4))/\(((ga l i).kd)≠5))\/(¬(((ga l i).ua)=0/\((ga l i).ub)=false)))\/(¬(((ga l i).va)=0/\((ga l i).vb)=false)))) [(2,_),(5,_),(8,_),(9,_),(10,_),(11,_)] ⟨rfl,rfl,rfl,rfl,rfl,rfl,trivial⟩ (fun WV=>?_) ?_
           ·refine eN (t:=97) rfl (fun OM=>?_) (fun OM=>?_)
            ·refine af 5 rfl ?_
             exact dz 102 (.bool (decide (((((((ga l i).kd)≠2)/\(((ga l i).kd)≠4))/\(((ga l i).kd)≠5))\/(¬(((ga l i).ua)=0/\((ga l i).ub)=false)))\/(¬(((ga l i).va)=0/\((ga l i).vb)=false))))) rfl (congrArg Value.bool (decide_eq_true (.inl OM)).symm) (gA [102,2,5,8,9,10,11] rfl WV)
            ·refine b8 rfl (az rfl eT rfl YE Xm) (b8 rfl (aU [_,_] rfl eA gD (bQ.bs 1 rfl rfl)) (b8 rfl (aU [_,_] rfl eA gD (bQ.bs 0 rfl rfl)) (b8 rfl (TB (Q:=((ga l i).va)=0/\((ga l i).vb)=false) rfl rfl rfl Oq ⟨_,_,_,_,rfl,rfl,⟨_,_,rfl,rfl,rfl⟩,rfl⟩) (af 1 rfl ?_))))
             exact dz 102 (.bool (decide (((((((ga l i).kd)≠2)/\(((ga l i).kd)≠4))/\(((ga l i).kd)≠5))\/(¬(((ga l i).ua)=0/\((ga l i).ub)=false)))\/(¬(((ga l i).va)=0/\((ga l i).vb)=false))))) rfl (congrArg Value.bool (decide_eq_decide.2 ⟨.inr,fun h=>h.resolve_left OM⟩)) (gA [102,2,5,8,9,10,11] rfl WV)
           ·refine af 1 rfl ?_
            refine eN (t:=103) rfl (fun ag2=>?_) (fun ag2=>?_)
            ·exfalso;(rcases hk1 with h9|h9|h9<;>simp_all)
            ·refine b8 rfl (az rfl eT rfl lM lJ) (b8 rfl (aw rfl gY (bQ.bc 1 rfl rfl)) (af 2 rfl ?_))
             refine uE (t:=107) rfl (fun NK=>?_) (fun NK=>?_)
             ·exfalso;(rw[hk6]at NK;cases NK)
             ·refine b8 rfl (az rfl eT rfl aY aX) (b8 rfl (aw rfl aG (bQ.bc 1 rfl rfl)) (af 2 rfl ?_))
              refine lG (k':=38) (d:=115) (decide ((((ga l i).kd)≠4)/\(((ga l i).dG)≠0))) [(2,_),(5,_),(8,_),(9,_),(10,_),(107,_)] ⟨rfl,rfl,rfl,rfl,rfl,rfl,trivial⟩ (fun WU=>?_) ?_
              ·refine eN (t:=111) rfl (fun NJ=>?_) (fun NJ=>?_)
               ·refine b8 rfl (az rfl eT rfl aY aX) (b8 rfl (aw rfl aG (bQ.bc 1 rfl rfl)) (af 2 rfl ?_))
                exact dz 115 (.bool (decide ((((ga l i).kd)≠4)/\(((ga l i).dG)≠0)))) rfl (congrArg Value.bool (decide_eq_decide.2 ⟨fun h=>⟨NJ,h⟩,fun h=>h.2⟩)) (gA [115,2,5,8,9,10,107] rfl WU)
               ·refine af 4 rfl ?_
                exact dz 115 (.bool (decide ((((ga l i).kd)≠4)/\(((ga l i).dG)≠0)))) rfl (congrArg Value.bool (decide_eq_false (fun h=>NJ h.1)).symm) (gA [115,2,5,8,9,10,107] rfl WU)
              ·refine af 1 rfl (ax [2,5,8,9,116] rfl ?_)
               refine bp rfl (fun ahb=>?_) (fun ahb=>?_)
               ·exfalso;(rcases hk1 with h9|h9|h9<;>simp_all)
               ·refine aV (bE (aW [2,5,8,9] rfl (aH (af 1 rfl (ag rfl (bj rfl) (af 1 rfl (aB (br ?_))))))))
                intro au aq
                refine⟨_,?kq,⟨i+1,rfl,aq.su rfl,bQ.pick [2] [_] (by decide) ⟨rfl,trivial⟩,?iB⟩⟩
                case iB=>omega
                case kq=>omega
       ·refine bX rfl (cP [2,5,8] rfl (ag rfl (aU [_,_] rfl aM aN (S7.bs 0 rfl rfl)) (af 1 rfl (aj rfl (eo rfl rfl rfl rfl rfl rfl rfl cf8 S7 (aeo d l aC (hkl.mono (Hp.cM _ _)) (fun m hm=>(zD m hm).1) S7.aT) ?_)))))
        intro JB lI M6 iN cz yM;clear S7
        replace aC:=aC.mono iN
        replace hr1:=hr1.mono iN
        replace hkl:=hkl.mono iN
        rw[hrow]at yM
        replace yM:∃A c,JB=tup [.agg [.slice A D.ae.length c,.int .i64 D.loops].toArray,.int .i64 (l.length:Int),.int .i64 0]/\aJ bu _ A c D.ae:=yM
        obtain⟨A2,c2,rfl,hr2⟩:=yM
        refine af 4 rfl (aj rfl (bW (l:=[_,_]) rfl rfl rfl jo rfl cz ?_))
        intro lK nL cO;clear cz
        refine aj rfl (bH 0 [_,_] [_,_] [_,_] rfl cO rfl rfl aN rfl rfl ?_)
        intro ng cF;clear cO
        refine af 2 rfl (bL [2,5,8,12,13,14] rfl (ag rfl (aU [_,_] rfl aM aN (cF.bs 1 rfl rfl)) (aj rfl (eo rfl rfl rfl rfl rfl rfl rfl QD cF (RJ d (aC.mono (Hp.cM _ _)) cF.aT) ?_))))
        intro N9 lH M7 uu ct AL;clear cF
        replace aC:=aC.mono uu
        replace hr1:=hr1.mono uu
        replace hkl:=hkl.mono uu
        replace hr2:=hr2.mono uu
        obtain⟨A3,c3,rfl,hr3⟩:=AL
        refine af 1 rfl (aj rfl (eo rfl rfl rfl rfl rfl rfl rfl cf9 ct (ahO d l hr3 (hkl.mono (Hp.cM _ _)) (fun m hm=>(zD m hm).1) ct.aT) ?_))
        intro N8 ow M8 gU cS C4;clear ct
        replace aC:=aC.mono gU
        replace hr1:=hr1.mono gU
        replace hkl:=hkl.mono gU
        replace hr2:=hr2.mono gU
        replace hr3:=hr3.mono gU
        rw[hrow]at C4
        replace C4:∃A c,N8=tup [.agg [.slice A D.ae.length c,.int .i64 D.loops].toArray,.int .i64 (l.length:Int),.int .i64 0]/\aJ bu _ A c D.ae:=C4
        obtain⟨A4,c4,rfl,hr4⟩:=C4
        refine af 4 rfl (aj rfl (bW (l:=[_,_]) rfl rfl rfl jo rfl cS ?_))
        intro iI oU cC;clear cS
        refine aj rfl (bH 0 [_,_] [_,_] [_,_,_] rfl cC rfl rfl aN rfl rfl ?_)
        intro pU bY;clear cC
        refine af 2 rfl (bL [8,12,13,14,15,16,17] rfl (af 3 rfl ?_))
        refine lG (k':=6) (d:=137) (decide ((0=0)/\(0=0))) [(8,_),(12,_),(13,_),(15,_),(16,_),(17,_)] ⟨rfl,rfl,rfl,rfl,rfl,rfl,trivial⟩ (fun ahq=>?_) ?_
        ·refine eN (t:=134) rfl (fun WK=>?_) (fun WK=>?_)
         ·refine af 3 rfl ?_
          exact dz 137 (.bool (decide ((0=0)/\(0=0)))) rfl (congrArg Value.bool (decide_eq_decide.2 ⟨fun h=>⟨WK,h⟩,fun h=>h.2⟩)) (gA [137,8,12,13,15,16,17] rfl ahq)
         ·exfalso;omega
        ·refine af 1 rfl ?_
         refine lG (k':=11) (d:=142) (decide (((0=0)/\(0=0))/\((l.length:Int)=r))) [(8,_),(12,_),(13,_),(15,_),(16,_)] ⟨rfl,rfl,rfl,rfl,rfl,trivial⟩ (fun ahp=>?_) ?_
         ·refine eN (t:=138) rfl (fun WJ=>?_) (fun WJ=>?_)
          ·refine af 4 rfl ?_
           exact dz 142 (.bool (decide (((0=0)/\(0=0))/\((l.length:Int)=r)))) rfl (congrArg Value.bool (decide_eq_decide.2 ⟨fun h=>⟨WJ,h⟩,fun h=>h.2⟩)) (gA [142,8,12,13,15,16] rfl ahp)
          ·exfalso;omega
         ·refine af 1 rfl ?_
          refine lG (k':=16) (d:=147) (decide ((((0=0)/\(0=0))/\((l.length:Int)=r))/\((l.length:Int)=r))) [(8,_),(12,_),(15,_),(16,_)] ⟨rfl,rfl,rfl,rfl,trivial⟩ (fun aho=>?_) ?_
          ·refine eN (t:=143) rfl (fun WI=>?_) (fun WI=>?_)
           ·refine af 4 rfl ?_
            exact dz 147 (.bool (decide ((((0=0)/\(0=0))/\((l.length:Int)=r))/\((l.length:Int)=r)))) rfl (congrArg Value.bool (decide_eq_decide.2 ⟨fun h=>⟨WI,h⟩,fun h=>h.2⟩)) (gA [147,8,12,15,16] rfl aho)
           ·exfalso;omega
          ·refine af 1 rfl ?_
           refine eN (t:=148) rfl (fun ag1=>?_) (fun ag1=>?_)
           ·refine b8 rfl (az rfl aM rfl dN dM) (b8 rfl (aw rfl cE (bY.bc 1 rfl rfl)) (b8 rfl (cK rfl cE) (af 3 rfl ?_)))
            refine eN (t:=154) rfl (fun ag0=>?_) (fun ag0=>?_)
            ·refine b8 rfl (aU [_,_] rfl aM aN (bY.bs 1 rfl rfl)) (b8 rfl (aU [_,_] rfl aM aN (bY.bs 0 rfl rfl)) (zq 25 26 rfl rfl rfl rfl rfl rfl rfl rfl (dU rfl rfl rfl rfl rfl rfl rfl akn bY (aap D (hr2.mono (Hp.cM _ _)) (hr4.mono (Hp.cM _ _)) bY.aT) ?_)))
             rintro _ vP dW rfl;clear bY
             refine af 2 rfl (ax [4] rfl (bU hC rfl ?_))
             refine⟨_,rfl,_,(((((bh.trans hle2).trans bZ).trans cH).trans iN).trans uu).trans gU,(dW.pick [] [] (by decide) trivial),?_⟩
             rfl
            ·exfalso;omega
           ·exfalso;omega
end Go.Proofs.YtcohmplpgcddiaaGreatDoor
namespace Go.Proofs.YtcohmplpgcddiaaGreatDoor
open Go.ChangeShapes Go.WideShapes Go.ChangeAt Go.RowKit Go.Joins Go.Deep
theorem acf{H:Type}{P:Program}{ts:List TypeId}{ds:List (DataW H)}(h:(DataW.weightsEach P ts ds).all (·<=reachBytes)=true){j i:Nat}{t e:TypeId}{f:Field}{fs:Array Field}{parts:List (DataW H)}{elems spare:List (DataW H)}
  (ht:ts[j]? =some t)(hd:ds[j]? =some (.agg parts))(hu:P.underlying t=some (.struct fs))(hf:fs.toList[i]? =some f)(hp:parts[i]? =some (.slice elems spare))(he:P.underlying f.type=some (.slice e)):
  (elems.length+spare.length)*P.bytesOf e<=reachBytes:=by
 have m1:=DataW.weights_mem_each (P:=P) (ts:=fs.toList.map (·.type)) (j:=i) (t:=f.type) (by rw[List.getElem?_map,hf];rfl) hp ((elems.length+spare.length)*P.bytesOf e) (by simp[DataW.weights,he])
 have m2:=DataW.weights_mem_each (P:=P) ht hd ((elems.length+spare.length)*P.bytesOf e) (by simp only[DataW.weights,hu];exact m1)
 simpa using List.all_eq_true.1 h _ m2
theorem Xo(l:List Cr):(l.flatMap nX.f).length=l.length*5:=by
 induction l with
 |nil=>rfl
 |cons x l ih=>rw[List.flatMap_cons,List.length_append,ih,nX.hf,List.length_cons];show 5+_=_;omega
theorem V7{l:List Value}{j:Nat}{u:Value}(h:(l.drop j).take 1=[u]):l[j]? =some u:=by
 have:=congrArg (fun z=>z[0]?) h
 simpa[List.getElem?_take,List.getElem?_drop]using this
theorem pick{α:Type}[Inhabited α]{m:Nat}{Q:Nat->α->Prop}(h:∀i,i<m->∃x,Q i x):∃F:Nat->α,∀i,i<m->Q i (F i):=
 ⟨fun i=>if hi:i<m then(h i hi).choose else default,fun i hi=>by
  show Q i (if hi:i<m then(h i hi).choose else default)
  rw[dif_pos hi];exact(h i hi).choose_spec⟩
section
variable {H : Type} {enc : TypeId × Value → H} {w : World}
theorem Jt{n j:Nat}{cs:List Value}{y:DataW H×List MemPlace}(h:DataW.trod enc Tryz.prog w 0 (fun _=>true) true n 3 ((cs.drop j).take (Tryz.prog.cellsOf 3))=some y):∃a,cs[j]? =some (.int .i64 a):=by
 obtain⟨a,e,_⟩:=DataW.trod_int aG h
 rw[show Tryz.prog.cellsOf 3=1 by kernel_rfl]at e
 exact⟨a,V7 e⟩
theorem afx{n j:Nat}{cs:List Value}{y:DataW H×List MemPlace}(h:DataW.trod enc Tryz.prog w 0 (fun _=>true) true n 4 ((cs.drop j).take (Tryz.prog.cellsOf 4))=some y):∃a,cs[j]? =some (.bool a):=by
 obtain⟨a,e,_⟩:=DataW.trod_bool gY h
 rw[show Tryz.prog.cellsOf 4=1 by kernel_rfl]at e
 exact⟨a,V7 e⟩
set_option maxRecDepth 100000 in
theorem adC{n:Nat}{cs:List Value}{x:DataW H×List MemPlace}(h:DataW.trod enc Tryz.prog w 0 (fun _=>true) true n 68 cs=some x):∃c:Cr,∀j u,j<5->(u6 c)[j]? =some u->cs[j]? =some u:=by
 obtain⟨xs,k,_,_,_,hl,hf⟩:=DataW.trod_struct b6 h
 match xs,hl with
 |[y0,y1,y2,y3,y4],_=>
  have g0:=hf 0 _ rfl
  have g1:=hf 1 _ rfl
  have g2:=hf 2 _ rfl
  have g3:=hf 3 _ rfl
  have g4:=hf 4 _ rfl
  obtain⟨n0,e0⟩:=Jt (j:=0) (y:=y0) g0
  obtain⟨n1,e1⟩:=Jt (j:=1) (y:=y1) g1
  obtain⟨n2,e2⟩:=Jt (j:=2) (y:=y2) g2
  obtain⟨n3,e3⟩:=Jt (j:=3) (y:=y3) g3
  obtain⟨n4,e4⟩:=afx (j:=4) (y:=y4) g4
  refine⟨⟨n0,n1,n2,n3,n4⟩,fun j u hj hu=>?_⟩
  match j,hj with
  |0,_=>simp[u6]at hu;subst hu;exact e0
  |1,_=>simp[u6]at hu;subst hu;exact e1
  |2,_=>simp[u6]at hu;subst hu;exact e2
  |3,_=>simp[u6]at hu;subst hu;exact e3
  |4,_=>simp[u6]at hu;subst hu;exact e4
set_option maxRecDepth 100000 in
theorem adD{v:Value}{d:DataW H}{p:List MemPlace}{b0:Nat}(hv:Value.okWide Tryz.prog w .any b0 24 v)(h:DataW.Trod enc Tryz.prog w 0 (fun _=>true) true 24 v d p)(hlt:∀x∈p,x.block<w.heap.size)
  {ts:List TypeId}{ds:List (DataW H)}(hsz:(DataW.weightsEach Tryz.prog ts ds).all (·<=reachBytes)=true){j:Nat}(hj:ts[j]? =some 24)(hd:ds[j]? =some d):
  ∃g:Dg,pS w w.heap.size v g:=by
 obtain⟨v0,v1,y0,y1,n,rfl,rfl,rfl,t0,t1⟩:=open_agg2 aM (by kernel_rfl) (by kernel_rfl) hv h
 obtain⟨l,e1,_,_⟩:=DataW.trod_int aG t1
 injection e1 with e1
 subst e1
 have hs:=fun es sp (hp:y0.1=.slice es sp)=>acf hsz hj hd aM (i:=0) rfl (by rw[List.getElem?_cons_zero,hp]) cE
 rcases open_slice cE t0 with⟨hcs,hx⟩|⟨a,len,cap,m,k,D,Pl,hcs,hb,hl,hm,hmm,hx,hi⟩
 ·injection hcs with hcs
  subst hcs
  exact⟨⟨[],l⟩,none,0,rfl,Nat.le_refl _,Rd.eO⟩
 ·injection hcs with hcs
  subst hcs
  have hk:Tryz.prog.cellsOf 68=5:=by kernel_rfl
  have hby:Tryz.prog.bytesOf 68=40:=by kernel_rfl
  have hs:=hs _ _ (by rw[hx])
  rw[hby]at hs
  simp only[if_true]at hmm
  subst hmm
  simp only[List.length_map,List.length_range,reachBytes]at hs
  obtain⟨F,hF⟩:=pick (m:=m) (Q:=fun i (c:Cr)=>∀j u,j<5->(u6 c)[j]? =some u->w.cell? (a.add (i*5+j))=some u) (fun i him=>by
   obtain⟨cs',hc,ht'⟩:=hi i him
   rw[hk]at hc
   obtain⟨c,hc'⟩:=adC ht'
   obtain⟨_,hcl,hat⟩:=World.cells?_some hc
   refine⟨c,fun j u hj hu=>?_⟩
   rw[<-Go.Deep.add_add,hat j hj]
   exact hc' j u hj hu)
  have hlen:((List.range len).map F).length=len:=by simp
  refine⟨⟨(List.range len).map F,l⟩,some a,m,by rw[hlen],by rw[hlen];exact hl,?_⟩
  refine⟨Xo _,by show _*40<=_;rw[hlen];omega,fun h0=>?_⟩
  rw[hlen]at h0
  obtain⟨b,off,spot⟩:=a
  have hspot:spot=none:=by simpa[Addr.add]using World.cell?_spot (hF 0 (by omega) 0 _ (by omega) rfl)
  subst hspot
  refine⟨b,off,rfl,hlt (.cell b off) (List.mem_append_left _ (by rw[hx];exact List.mem_append_left _ (MemPlace.mem_row.2 ⟨0,by rw[hk];omega,by simp⟩))),fun i u hu=>?_⟩
  have hil:i<len*5:=by
   have:=(List.getElem?_eq_some_iff.1 hu).1
   rw[Xo,hlen]at this
   exact this
  have hu':=hu
  rw[show i=(i/5)*5+i%5 by omega]at hu'
  rw[show(5:Nat)=nX.k from rfl,pQ nX.hf (by rw[hlen];show i/5<len;omega) (by show i%5<5;omega)]at hu'
  have:=hF (i/5) (by omega) (i%5) u (by omega) (by simpa[nX]using hu')
  rw[show(i/5)*5+i%5=i by omega]at this
  rcases Nat.eq_zero_or_pos i with h1|h1
  ·subst h1;simpa[Addr.add]using this
  ·simpa[Addr.add,show¬i=0 by omega]using this
end
end Go.Proofs.YtcohmplpgcddiaaGreatDoor
namespace Go.Proofs.YtcohmplpgcddiaaGreatDoor
open Go.ChangeShapes Go.WideShapes Go.ChangeAt Go.RowKit
theorem aJ.agF{α:Type}{C:Cd α}{w:World}{B c:Nat}{A:Option Addr}{xs:List α}(hc:xs.length<=c)(hk:0<C.k)(h:Sl w B C.k C.u8 A xs.length (xs.flatMap C.f)):aJ C (hp w) A c xs:=by
 refine⟨hc,h.2.1,fun h0=>?_⟩
 obtain⟨b,off,rfl,_,hat⟩:=h.2.2 h0
 refine⟨rfl,?_⟩
 have hlen:0<(xs.flatMap C.f).length:=by rw[oq C.hf];exact Nat.mul_pos h0 hk
 have h1:=hat 0 _ (List.getElem?_eq_getElem hlen)
 show∃cs T fz,w.heap[b]? =some (.cells cs T fz)/\∀j u,(xs.flatMap C.f)[j]? =some u->cs[off+j]? =some u
 unfold World.cell? at h1
 split at h1
 ·rename_i cs T fz hb
  refine⟨cs,T,fz,hb,fun j u hu=>?_⟩
  have:=hat j u hu
  rw[cell_of_row w b _ cs T fz hb]at this
  exact this
 ·cases h1
theorem pS.rd{w:World}{B:Nat}{v:Value}{d:Dg}(h:pS w B v d):∃A c,v=.agg [.slice A d.ae.length c,.int .i64 d.loops].toArray/\aJ bu (hp w) A c d.ae:=by
 obtain⟨A,c,rfl,hc,h⟩:=h
 exact⟨A,c,rfl,aJ.agF (C:=bu) hc (by decide) h⟩
end Go.Proofs.YtcohmplpgcddiaaGreatDoor
namespace Go.Proofs.YtcohmplpgcddiaaGreatDoor
open Go.ChangeShapes Go.WideShapes Go.ChangeAt Go.RowKit
theorem aan{H:Type}{enc:TypeId×Value->H}{C:Checked}{os:Os}{f:FuncId}{fn:Func}{s:ChangeSpec}{tb:TypeId}{Z:World->Prop}(hZ:∀w w':World,w.heap=w'.heap->Z w->Z w')
  (own:ownKnob C.prog.godebug=none)(started:os.Started)(noInit:C.prog.inits.idxOf? f=none)(hfn:C.prog.funcs[f]? =some fn)
  (witness:∃(w:World) (tape:Tape) (i:Input),w.os=os/\(w.forCall tape i).Shaped C.prog/\i.vars=[]/\Input.okWide C.prog (w.forCall tape i) .any w.heap.size f i/\
   ((s.pre enc C.prog fn [] false (w.forCall tape i).memory i.args/\Z (w.forCall tape i).memory)/\sizedMet enc C.prog fn (OpenSpec.ofChange s) false (w.forCall tape i).memory i.args)/\({}:Assume).holds C.prog (lone (Frame.enter C.prog f i.args .normal) [] (w.forCall tape i)))
  (hvars:s.vars=[])(hl:laidOutB C.prog=true)(hps:(fn.params.toList.all fun t=>C.prog.readableRec t&&decide (t<C.prog.types.size))=true)
  (hres:fn.resultTypes=#[tb])(htb:C.prog.underlying tb=some .bool)
  (hspec:∀ds:List (DataW H),ds.length=fn.params.toList.length->s.fn H (ds++[])={results:=[.lit (.bool true)],args:=ds})
  (JM:∀(W:World) (base:Nat) (args:Array Value) (ds:List (DataW H)) (p:List MemPlace),
   (∀(j:Nat) t v,fn.params[j]? =some t->args[j]? =some v->Value.okWide C.prog W .any base t v)->
   DataW.TrodAll enc C.prog W 0 (fun _=>true) true fn.params.toList args.toList ds p->W.noneFrozen p->(∀x∈p,x.block<W.heap.size)->
   (DataW.weightsEach C.prog fn.params.toList ds).all (·<=reachBytes)=true->
   Calls C.prog f args W fun e W'=>e=.returned (.bool true)/\Below W.heap.size W W'):
  ReturnsInHanded {} C os f .any (fun w args=>(s.pre enc C.prog fn [] false w args/\Z w)/\sizedMet enc C.prog fn (OpenSpec.ofChange s) false w args) (s.post enc C.prog fn false true false false):=by
 refine returnsInHanded_of_change_and (conds:=[]) (X:=fun w _=>Z w) (fun w w' _ h hx=>hZ w w' h hx) own started noInit hfn witness ?_
 intro W base args ds gs before hval hW _ hsz _ _
 have hW':=hW
 obtain⟨p,q,hA,hV,rfl,hfz,_⟩:=hW
 rw[hvars]at hV
 have DZ:gs=[]/\q=[]:=by cases gs with
  |nil=>exact⟨rfl,hV⟩
  |cons g gs=>exact hV.elim
 obtain⟨rfl,rfl⟩:=DZ
 have hvt:s.plain.varTypes C.prog=[]:=by simp[DataSpec.varTypes,ChangeSpec.plain,hvars]
 rw[hvt,List.append_nil,List.append_nil]at hsz
 have hlt:∀x∈p,x.block<W.heap.size:=fun x hx=>hW'.lt x (by simp[hx])
 refine(JM W base args ds p hval hA (fun b off hm=>hfz b off (by simp[hm])) hlt hsz).mono ?_
 rintro e W' ⟨rfl,hb⟩
 have aiF:∀t∈fn.params.toList,C.prog.readableRec t=true/\t<C.prog.types.size:=by
  intro t ht
  have:=List.all_eq_true.1 hps t ht
  simpa using this
 refine⟨_,rfl,ds,[],_,[],p,[],hW',?_,?_,?_,hb.frame _,fun h=>by cases h⟩
 ·rw[hspec ds (KW _ _ _ _ hA),hres]
  exact trodAll_mk1 (shut_bool htb true)
 ·rw[hspec ds (KW _ _ _ _ hA)]
  exact aam hl hb _ _ _ _ aiF hA hlt
 ·rw[hspec ds (KW _ _ _ _ hA),hvars]
  rfl
end Go.Proofs.YtcohmplpgcddiaaGreatDoor
namespace Go.Proofs.YtcohmplpgcddiaaGreatDoor
open Go.ChangeShapes Go.WideShapes Go.ChangeAt Go.RowKit
theorem aao(v0:Value)(x0:Dg)(x1:Int)(W:World)(h0:pS W W.heap.size v0 x0):
  Calls Tryz.prog 3 #[v0,.int .i64 x1] W fun e W'=>e=.returned (.bool true)/\Below W.heap.size W W':=by
 obtain⟨A0,c0,rfl,r0⟩:=h0.rd
 exact abB (aau x0 x1 r0 (SH.start W))
def Jn:List (String×DataW Unit):=[("math/bits.deBruijn32tab",Rows.laid_math_bits_deBruijn32tab),("math/bits.deBruijn64tab",Rows.laid_math_bits_deBruijn64tab),("internal/strconv.uint64pow10",Rows.laid_internal_strconv_uint64pow10)]
theorem acP(os:Os)(args:Array Value):laidMetH Tryz.prog Jn ((World.doorLaid Tryz.prog 400 os).forCall (fun _ _=>0) ⟨#[],args,[]⟩).memory:=
 laidMetH_of_parts3 (fuel:=8) (laidMet_of_run' 8 (by kernel_rfl) (by kernel_rfl)) (by kernel_rfl) (by kernel_rfl)
set_option maxRecDepth 100000 in
theorem aac(os:Os)(started:os.Started)(H:Type)(enc:TypeId×Value->H):
  ReturnsInHanded {} Tryz.checked os 3 .any (fun w args=>(Rows.tableSeeksSpec.pre enc Tryz.prog Tryz.f3 [] false w args/\laidMetH Tryz.prog Jn w)/\sizedMet enc Tryz.prog Tryz.f3 (OpenSpec.ofChange Rows.tableSeeksSpec) false w args)
   (Rows.tableSeeksSpec.post enc Tryz.prog Tryz.f3 false true false false):=by
 refine aan (C:=Tryz.checked) (tb:=4) (Z:=laidMetH Tryz.prog Jn) (fun _ _ hh h=>h.of_heap hh) (by kernel_rfl) started (by kernel_rfl) Tryz.func3
  (ChangeSpec.witness_shaped (enc:=enc) (C:=Tryz.checked) (os:=os) (X:=fun w _=>laidMetH Tryz.prog Jn w) false (World.doorLaid Tryz.prog 400 os) #[.agg #[.slice none 0 0,.int .i64 0],.int .i64 0] 8 rfl (World.shaped_of_RefB (by kernel_rfl) (by kernel_rfl)) (by kernel_rfl) (by kernel_rfl) (by kernel_rfl) (acP os _))
  rfl (by kernel_rfl) (by kernel_rfl) rfl gY ?_ ?_
 ·intro ds hds
  match ds,hds with
  |[d0,d1],_=>rfl
 ·intro W base args ds p hval hA _ hlt hsz
  rw[Tryz.params3]at hA hval hsz
  obtain⟨v0,vs0,d0,ds0,p0,q0,hargs,rfl,rfl,h0,r0⟩:=trodAll_cons hA
  obtain⟨v1,vs1,d1,ds1,p1,q1,rfl,rfl,rfl,h1,r1⟩:=trodAll_cons r0
  obtain⟨rfl,rfl,rfl⟩:=trodAll_nil r1
  obtain rfl:args=#[v0,v1]:=by cases args;simp_all
  obtain⟨a0,i0⟩:=adD (hval 0 24 v0 rfl rfl) h0 (fun x hx=>hlt x (by simp[hx])) hsz (j:=0) rfl rfl
  obtain⟨a1,rfl,rfl,rfl,w1⟩:=open_int aG (hval 1 3 v1 rfl rfl) h1
  exact aao v0 a0 a1 W i0
theorem aah:Rows.TableSeeksSaid:=
 OpenClaim.holds_of_wide 3 Tryz.f3 rfl rfl rfl rfl rfl rfl rfl ⟨rfl,rfl,rfl,rfl,rfl⟩ rfl rfl rfl rfl rfl (by kernel_rfl) Tryz.func3 (by kernel_rfl)
  (of_decide_eq_true (by kernel_rfl)) (by unfold Func.isWrapper;first|(rw[if_pos (by decide+kernel)];kernel_rfl)|(rw[if_neg (by decide+kernel)];exact⟨rfl,rfl⟩))
  (fun os started H enc _=>aac os started H enc)
theorem tableSeeks_holds:Rows.TableSeeksCardSaid:=
 Claim7.holds_tied_plain_at .later [] [.data,.data,.data] true (true,"3f9a5de4f556fca22d6aa1ae895bcebd15692d4a40870ab53c513f9767fe658d") true
  aah (fun _ h=>by cases h) (by kernel_rfl) (fun _ h=>by cases h) tableSeeks_row_tie rfl ⟨rfl,rfl⟩ (by kernel_rfl) rfl
  (fun f fn hf hfn=>by
   obtain rfl:f=3:=Option.some.inj ((show Tryz.prog.funcNamed "knotwork/knotworklaw.TableSeeks"=some 3 by kernel_rfl).symm.trans hf)|>.symm
   obtain rfl:fn=Tryz.f3:=(Option.some.inj (Tryz.func3.symm.trans hfn)).symm
   exact⟨by kernel_rfl,fun j t ht=>by
    rw[Tryz.params3]at ht
    have hm:t∈[24,3]:=by simpa using Array.mem_of_getElem? ht
    have hall:([24,3].all fun u=>!Tryz.prog.wantsStandIn u)=true:=by kernel_rfl
    exact(show Tryz.prog.wantsStandIn t=false by simpa using List.all_eq_true.1 hall t hm)⟩)
  (by kernel_rfl)
#print axioms tableSeeks_holds
end Go.Proofs.YtcohmplpgcddiaaGreatDoor
