/- Part 13 of the proof of the law MovesRows: the walks through its functions and the plain laws that they need. -/
import Derived.Test.YthppkofceancjaaGreatMxZ12
set_option linter.unusedSimpArgs false
set_option linter.unusedVariables false
noncomputable section
namespace Go.Proofs.YthppkofceancjaaGreat
open Go.ChangeShapes Go.WideShapes Go.ChangeAt Go.RowKit
def hdN(d:Dg)(f:List Da):Nat->List Int
 |0=>[]
 |i+1=>hdN d f i++[(dS d (ga f i):Int)]
theorem abP(d:Dg)(f:List Da)(i:Nat):(hdN d f i).length=i:=by
 induction i with
 |zero=>rfl
 |succ i ih=>unfold hdN;rw[List.length_append,ih];rfl
noncomputable def JZ:=Tryz.f38.body.getD .skip
def apS:=cL JZ
def JY:=cR JZ
def apR:=cL JY
def JX:=cR JY
def JW:=cL JX
def JV:=cR JX
def apQ:=cL JW
def aeD:=cR JW
def aeC:=cL aeD
def JU:=cL aeC
def JT:=cL JU
def JS:=cR JU
def apP:=cL JT
def JR:=cR JT
def apO:=cL JR
def apN:=cR JR
def aeB:=cL JS
def apM:=cR JS
def JQ:=cL aeB
def JP:=cL JQ
def JO:=cR JQ
def apL:=cL JP
def JN:=cR JP
def apK:=cL JN
def apJ:=cR JN
def apI:=cL JO
def JM:=cR JO
def apH:=cL JM
def JL:=cR JM
def apG:=cL JL
def JK:=cR JL
def apF:=cL JK
def JJ:=cR JK
def BX:=cL JJ
def JI:=cR JJ
def aeA:=cL BX
def aez:=cR BX
def apE:=cL JV
def apD:=cR JV
set_option maxHeartbeats 2000000 in
set_option maxRecDepth 10000 in
theorem ags{w:World}{M:Hp}{X:Fr}(d:Dg){aV:Option Addr}{aU:Nat}(i:Int)(j:Int)(aC:aF aG (M.un X.h) aV aU d.ae)(hn:d.ae.length<=16)(hab:aX d=true)(S:SH w M X []):Ct Tryz.prog 38 [.agg [.slice aV d.ae.length aU,.int .i64 d.loops].toArray,.int .i64 i,.int .i64 j] w M X (fun x _=>x=.bool ((U6 d).any (iN d i j))):=by
 unfold Ct
 have gK:d.ae.length*40<=140737488355328:=aC.room
 refine Up (b:=JZ) Tryz.func38 rfl Tryz.ntmps38 rfl (fun C hC=>(bq [(0,_),(1,_),(2,_)] ⟨rfl,rfl,rfl,trivial⟩ (U2 apS JY rfl rfl rfl (U0 rfl (ak 0 1 rfl rfl rfl (bA (l:=[_,_]) rfl rfl rfl rfl rfl S ?_))))))
 intro aI w1 S1;clear S
 refine ag 1 1 rfl rfl (U5 rfl (ah [1,2,3] rfl (U3 (U2 apR JX rfl rfl rfl (U0 rfl (af 0 rfl (U8 (us:=[_,_]) rfl rfl ay rfl az (S1.ax (i:=0) rfl ⟨rfl,rfl,trivial⟩)) (ak 1 2 rfl rfl rfl (fp rfl rfl rfl rfl rfl rfl rfl BK S1 (zX d (aC.mono S1.Uw) (hn) (hab) S1.aD) ?_))))))))
 intro Df w2 M1 aL S2 pM;clear S1
 replace aC:=aC.mono (Hp.Ua aL S2.mx)
 obtain⟨A1,c1,vs1,rfl,hr1,hd1⟩:=pM
 have acL:=hd1.1
 refine ag 2 1 rfl rfl (U5 rfl (ah [1,2,3,7] rfl (U3 (U2 JW JV rfl rfl rfl (U2 apQ aeD rfl rfl rfl (U0 rfl (ag 0 1 rfl rfl (U5 rfl ?_))))))))
 refine U3 (Uc aeC 0 rfl rfl rfl ?_)
 refine Uz (fun aS au aM=>∃(k:Nat),aS=(U6 d).length-k/\Env 97 [(1,.int .i64 i),(2,.int .i64 j),(3,.pointer (some ⟨aI,0,none⟩)),(7,.slice A1 vs1.length c1),(8,.int .i64 (k:Int))] au/\SH aM M1 X [Rs.box aI 24 [.slice aV d.ae.length aU,.int .i64 d.loops]]/\k<=(U6 d).length/\(∀q,q<k->iN d i j (ga (U6 d) q)=false)) rfl ?_ ?_
 ·intro au aq
  refine⟨_,⟨0,rfl,aq.sub ⟨rfl,rfl,rfl,rfl,rfl,trivial⟩,S2.pick [0] [_] (by decide) ⟨rfl,trivial⟩,?cd,?cT⟩⟩
  case cd=>omega
  case cT=>(intro q hq;omega)
 ·rintro m1 a1 w3 ⟨k,rfl,bh,S3,hk,hno⟩
  clear S2
  refine b7 bh (c:=JU) rfl ?_
  clear bh a1
  have amt:=zN d
  refine U2 JT JS rfl rfl rfl (U2 apP JR rfl rfl rfl (U0 rfl (ag 0 2 rfl rfl (af 2 rfl (cI rfl rfl rfl rfl rfl rfl kY) (af 3 rfl (bV rfl rfl rfl) (U5 rfl (ah [1,2,3,7,8,20] rfl (U3 ?_))))))))
  refine Ue apO apN rfl rfl rfl rfl (fun pJ=>?_) (fun pJ=>?_)
  ·refine Uf rfl (ah [1,2,3,7,8] rfl (U3 (U2 aeB apM rfl rfl rfl (Uc JQ 1 rfl rfl rfl (U2 JP JO rfl rfl rfl (U2 apL JN rfl rfl rfl (U0 rfl (ag 0 2 rfl rfl ?_))))))))
   refine af 2 rfl (Uk (C:=(cB 141)) k rfl rfl rfl jF (by first|rfl|omega) hr1 (by first|omega|(simp only[ls];omega))) ?_
   obtain⟨kN,hr2⟩:=hd1.2 k (by first|omega|(simp only[ls];omega))
   have FI:(ga (U6 d) k).length*16<=140737488355328:=hr2.room
   refine af 3 rfl (U4 rfl rfl ig rfl (hr1.cell S3.m (i:=k) (by first|omega|(simp only[ls];omega)) 0 rfl (congrArg (fun n=>some (Value.slice _ n _)) kN))) ?_
   refine af 4 rfl (cI rfl rfl rfl rfl rfl rfl ig) (af 5 rfl (iT rfl rfl rfl) (U5 rfl (ah [1,2,3,7,8,28] rfl (U3 ?_))))
   refine Ue apK apJ rfl rfl rfl rfl (fun oh=>?_) (fun oh=>?_)
   ·refine bS rfl rfl (ah [1,2,3,7,8] rfl (U3 (U0 rfl (ag 0 1 rfl rfl (af 1 rfl (Ug rfl rfl rfl (by first|omega|(simp only[ls];omega))) ?_)))))
    refine ag 2 1 rfl rfl (U5 rfl (aP ?_))
    have hF:iN d i j (ga (U6 d) k)=false:=by unfold iN;rw[decide_eq_false_iff_not];omega
    intro au aq
    refine⟨_,?dJ,⟨k+1,rfl,aq.sub ⟨rfl,rfl,rfl,rfl,rfl,trivial⟩,S3.pick [0] [_] (by decide) ⟨rfl,trivial⟩,?cu,?cY⟩⟩
    case cu=>omega
    case cY=>(intro q hq;by_cases e:q=k;(subst e;exact hF);exact hno q (by omega))
    case dJ=>omega
   ·have jJ:(ga (U6 d) k)∈U6 d:=gZ (by omega)
    have za:=Ae hab jJ
    have ho0:okD d (ga (ga (U6 d) k) 0):=za _ (gZ (by omega))
    have zg:okD d (ga (ga (U6 d) k) 1):=za _ (gZ (by omega))
    have hp0:1<=(ga (ga (U6 d) k) 0).a/\(ga (ga (U6 d) k) 0).a<=2*(d.ae.length:Int):=ho0
    have hp1:1<=(ga (ga (U6 d) k) 1).a/\(ga (ga (U6 d) k) 1).a<=2*(d.ae.length:Int):=zg
    have hf2:=ald hab jJ (by omega)
    unfold dS at hf2
    refine Uf rfl (ah [1,2,3,7,8] rfl (U3 (U2 apI JM rfl rfl rfl ?_)))
    refine mA (fun au aM=>∃(uh:Nat) (O1:Nat),Env 97 [(1,.int .i64 i),(2,.int .i64 j),(3,.pointer (some ⟨aI,0,none⟩)),(7,.slice A1 vs1.length c1),(8,.int .i64 (k:Int)),(9,.pointer (some ⟨uh,0,none⟩)),(10,.pointer (some ⟨O1,0,none⟩))] au/\SH aM M1 X [Rs.box uh 26 [.int .i64 ((ga (ga (U6 d) k) 0).a),.bool ((ga (ga (U6 d) k) 0).b)],Rs.box O1 26 [.int .i64 ((ga (ga (U6 d) k) 1).a),.bool ((ga (ga (U6 d) k) 1).b)],Rs.box aI 24 [.slice aV d.ae.length aU,.int .i64 d.loops]]) ?_ ?_
    ·refine Ux rfl (by kernel_rfl) S3 16 rfl ?_
     clear S3
     refine ai 0 15 rfl (by kernel_rfl) (fun _=>run_move rfl rfl) ?_
     refine ai 1 14 rfl (by kernel_rfl) (fun _=>run_move rfl rfl) ?_
     refine aj 2 13 rfl (by kernel_rfl) (fun _ _ _ hz Sz=>.inl (Uk (C:=(cB 141)) k rfl rfl rfl jF (by first|rfl|omega) (hr1.mono hz) (by first|omega|(simp only[ls];omega)))) ?_
     obtain⟨mR,hr3⟩:=hd1.2 k (by first|omega|(simp only[ls];omega))
     have acB:(ga (U6 d) k).length*16<=140737488355328:=hr3.room
     refine aj 3 12 rfl (by kernel_rfl) (fun _ _ _ hz Sz=>.inl (U4 rfl rfl ig rfl ((hr1.mono hz).cell Sz.m (i:=k) (by first|omega|(simp only[ls];omega)) 0 rfl (congrArg (fun n=>some (Value.slice _ n _)) mR)))) ?_
     refine aj 4 11 rfl (by kernel_rfl) (fun _ _ _ hz Sz=>.inl (Uk (C:=bW) 0 rfl rfl rfl gM (by first|rfl|omega) (hr3.mono hz) (by first|omega|(simp only[ls];omega)))) ?_
     refine aj 5 10 rfl (by kernel_rfl) (fun _ _ _ hz Sz=>.inl (U8 (us:=[_,_]) rfl rfl aZ rfl cg ((hr3.mono hz).fq Sz.m (e:=0) (by first|omega|(simp only[ls];omega)) (j:=0) ⟨rfl,rfl,trivial⟩))) ?_
     refine ai 6 9 rfl (by kernel_rfl) (fun _=>run_move rfl rfl) ?_
     refine ai 7 8 rfl (by kernel_rfl) (fun _=>run_move rfl rfl) ?_
     refine aj 8 7 rfl (by kernel_rfl) (fun _ _ _ hz Sz=>.inl (Uk (C:=(cB 141)) k rfl rfl rfl jF (by first|rfl|omega) (hr1.mono hz) (by first|omega|(simp only[ls];omega)))) ?_
     obtain⟨zh,hr4⟩:=hd1.2 k (by first|omega|(simp only[ls];omega))
     have FH:(ga (U6 d) k).length*16<=140737488355328:=hr4.room
     refine aj 9 6 rfl (by kernel_rfl) (fun _ _ _ hz Sz=>.inl (U4 rfl rfl ig rfl ((hr1.mono hz).cell Sz.m (i:=k) (by first|omega|(simp only[ls];omega)) 0 rfl (congrArg (fun n=>some (Value.slice _ n _)) zh)))) ?_
     refine aj 10 5 rfl (by kernel_rfl) (fun _ _ _ hz Sz=>.inl (Uk (C:=bW) 1 rfl rfl rfl gM (by first|rfl|omega) (hr4.mono hz) (by first|omega|(simp only[ls];omega)))) ?_
     refine aj 11 4 rfl (by kernel_rfl) (fun _ _ _ hz Sz=>.inl (U8 (us:=[_,_]) rfl rfl aZ rfl cg ((hr4.mono hz).fq Sz.m (e:=1) (by first|omega|(simp only[ls];omega)) (j:=0) ⟨rfl,rfl,trivial⟩))) ?_
     refine rZ (i:=12) (j:=13) 3 rfl rfl (by kernel_rfl) rfl rfl rfl rfl (fun oq dC=>?_) (fun oq dC=>?_)
     ·refine(Uh (l:=[_,_]) rfl rfl rfl mH rfl dC ?_)
      intro aQ tS dB;clear dC
      refine aN.grow [_] (Hp.le_refl _) dB ?_;clear dB
      change WA _ _ _ _ _ _ _ _ _ _ _ _ [_,_]
      refine Un (i:=13) 2 rfl (by kernel_rfl) rfl rfl (fun vO dz=>?_)
      refine(Uh (l:=[_,_]) rfl rfl rfl mH rfl dz ?_)
      intro bE rB cW;clear dz
      refine aN.grow [_,_] (Hp.le_refl _) cW ?_;clear cW
      change WA _ _ _ _ _ _ _ _ _ _ _ _ [_,_,_]
      refine Un (i:=14) 1 rfl (by kernel_rfl) rfl rfl (fun vN cv=>?_)
      refine(U7 (i:=1) (us:=[_,_]) (l':=[_,_]) (H':=[_,_,_]) rfl rfl cv rfl rfl rfl rfl cg rfl rfl rfl rfl ?_)
      intro vM fw;clear cv
      refine aN.grow [_,_] (Hp.le_refl _) fw ?_;clear fw
      change WA _ _ _ _ _ _ _ _ _ _ _ _ [_,_,_]
      refine Un (i:=15) 0 rfl (by kernel_rfl) rfl rfl (fun l9 cy=>?_)
      refine(U7 (i:=0) (us:=[_,_]) (l':=[_,_]) (H':=[_,_,_]) rfl rfl cy rfl rfl rfl rfl cg rfl rfl rfl rfl ?_)
      intro pX dL;clear cy
      refine aN.grow [_,_] (Hp.le_refl _) dL ?_;clear dL
      change WA _ _ _ _ _ _ _ _ _ _ _ _ [_,_,_]
      refine Uu (by kernel_rfl) (fun tP kW=>?_)
      refine aP ?_
      intro au aq
      refine⟨_,_,aq.sub ⟨rfl,rfl,rfl,rfl,rfl,rfl,rfl,trivial⟩,kW.pick [1,0,2] [_,_,_] (by decide) ⟨rfl,rfl,rfl,trivial⟩⟩
     ·refine(Uh (l:=[_,_]) rfl rfl rfl mH rfl dC ?_)
      intro gY vL fu;clear dC
      refine aN.grow [_] (Hp.le_refl _) fu ?_;clear fu
      change WA _ _ _ _ _ _ _ _ _ _ _ _ [_,_]
      refine Un (i:=12) 2 rfl (by kernel_rfl) rfl rfl (fun tO gB=>?_)
      refine(Uh (l:=[_,_]) rfl rfl rfl mH rfl gB ?_)
      intro iq oo dm;clear gB
      refine aN.grow [_,_] (Hp.le_refl _) dm ?_;clear dm
      change WA _ _ _ _ _ _ _ _ _ _ _ _ [_,_,_]
      refine Un (i:=14) 1 rfl (by kernel_rfl) rfl rfl (fun tN ji=>?_)
      refine(U7 (i:=0) (us:=[_,_]) (l':=[_,_]) (H':=[_,_,_]) rfl rfl ji rfl rfl rfl rfl cg rfl rfl rfl rfl ?_)
      intro Om lM;clear ji
      refine aN.grow [_,_] (Hp.le_refl _) lM ?_;clear lM
      change WA _ _ _ _ _ _ _ _ _ _ _ _ [_,_,_]
      refine Un (i:=15) 0 rfl (by kernel_rfl) rfl rfl (fun vJ kV=>?_)
      refine(U7 (i:=1) (us:=[_,_]) (l':=[_,_]) (H':=[_,_,_]) rfl rfl kV rfl rfl rfl rfl cg rfl rfl rfl rfl ?_)
      intro tM dG;clear kV
      refine aN.grow [_,_] (Hp.le_refl _) dG ?_;clear dG
      change WA _ _ _ _ _ _ _ _ _ _ _ _ [_,_,_]
      refine Uu (by kernel_rfl) (fun vI gA=>?_)
      refine aP ?_
      intro au aq
      refine⟨_,_,aq.sub ⟨rfl,rfl,rfl,rfl,rfl,rfl,rfl,trivial⟩,gA.pick [0,1,2] [_,_,_] (by decide) ⟨rfl,rfl,rfl,trivial⟩⟩
    ·rintro a2 w4 ⟨uh,O1,cx,S4⟩
     clear S3
     refine mG cx ?_
     clear cx a2
     refine U3 (U2 apH JL rfl rfl rfl (Ux rfl (by kernel_rfl) S4 16 rfl ?_))
     clear S4
     refine aj 0 15 rfl (by kernel_rfl) (fun _ _ _ hz Sz=>.inl (U8 (us:=[_,_]) rfl rfl ay rfl az (Sz.suf.ax (i:=2) rfl ⟨rfl,rfl,trivial⟩))) ?_
     refine ai 1 14 rfl (by kernel_rfl) (fun _=>U1 rfl rfl aZ rfl (aB) (aA)) ?_
     refine aj 2 13 rfl (by kernel_rfl) (fun _ _ _ hz Sz=>.inl (U4 rfl rfl av rfl (Sz.suf.ar (i:=0) rfl rfl))) ?_
     refine ai 3 12 rfl (by kernel_rfl) (fun _=>U1 rfl rfl aZ rfl (fI) (fH)) ?_
     refine aj 4 11 rfl (by kernel_rfl) (fun _ _ _ hz Sz=>.inl (U4 rfl rfl dh rfl (Sz.suf.ar (i:=0) rfl rfl))) ?_
     refine aj 5 10 rfl (by kernel_rfl) (fun _ _ _ hz Sz=>Uq rfl rfl rfl rfl rfl lj Sz (lH d ((ga (ga (U6 d) k) 0).a) ((ga (ga (U6 d) k) 0).b) ((aC.mono (Hp.Ua hz Sz.mx)).mono Sz.Uw) Sz.aD)) ?_
     refine ai 6 9 rfl (by kernel_rfl) (fun _=>mr rfl rfl cN rfl av rfl rfl) ?_
     refine aj 7 8 rfl (by kernel_rfl) (fun _ _ _ hz Sz=>.inl (U8 (us:=[_,_]) rfl rfl ay rfl az (Sz.suf.ax (i:=2) rfl ⟨rfl,rfl,trivial⟩))) ?_
     refine ai 8 7 rfl (by kernel_rfl) (fun _=>U1 rfl rfl aZ rfl (aB) (aA)) ?_
     refine aj 9 6 rfl (by kernel_rfl) (fun _ _ _ hz Sz=>.inl (U4 rfl rfl av rfl (Sz.suf.ar (i:=1) rfl rfl))) ?_
     refine ai 10 5 rfl (by kernel_rfl) (fun _=>U1 rfl rfl aZ rfl (fI) (fH)) ?_
     refine aj 11 4 rfl (by kernel_rfl) (fun _ _ _ hz Sz=>.inl (U4 rfl rfl dh rfl (Sz.suf.ar (i:=1) rfl rfl))) ?_
     refine aj 12 3 rfl (by kernel_rfl) (fun _ _ _ hz Sz=>Uq rfl rfl rfl rfl rfl lj Sz (lH d ((ga (ga (U6 d) k) 1).a) ((ga (ga (U6 d) k) 1).b) ((aC.mono (Hp.Ua hz Sz.mx)).mono Sz.Uw) Sz.aD)) ?_
     refine ai 13 2 rfl (by kernel_rfl) (fun _=>mr rfl rfl cN rfl av rfl rfl) ?_
     refine ai 14 1 rfl (by kernel_rfl) (fun _=>run_assign rfl rfl) ?_
     refine ai 15 0 rfl (by kernel_rfl) (fun _=>run_assign rfl rfl) ?_
     refine Uu (by kernel_rfl) (fun Dc ni=>?_)
     refine ah [1,2,3,7,8,9,10,11,12] rfl (U3 (U2 apG JK rfl rfl rfl (Ux rfl (by kernel_rfl) ni 10 rfl ?_)))
     clear ni
     refine aj 0 9 rfl (by kernel_rfl) (fun _ _ _ hz Sz=>.inl (U8 (us:=[_,_]) rfl rfl ay rfl az (Sz.suf.ax (i:=2) rfl ⟨rfl,rfl,trivial⟩))) ?_
     refine ai 1 8 rfl (by kernel_rfl) (fun _=>U1 rfl rfl aZ rfl (aB) (aA)) ?_
     refine aj 2 7 rfl (by kernel_rfl) (fun _ _ _ hz Sz=>.inl (U4 rfl rfl av rfl (Sz.suf.ar (i:=0) rfl rfl))) ?_
     refine aj 3 6 rfl (by kernel_rfl) (fun _ _ _ hz Sz=>Uq rfl rfl rfl rfl rfl Hg Sz (D6 d ((ga (ga (U6 d) k) 0).a) ((aC.mono (Hp.Ua hz Sz.mx)).mono Sz.Uw) (hab) (by first|assumption|omega) Sz.aD)) ?_
     refine aj 4 5 rfl (by kernel_rfl) (fun _ _ _ hz Sz=>.inl (U8 (us:=[_,_]) rfl rfl ay rfl az (Sz.suf.ax (i:=2) rfl ⟨rfl,rfl,trivial⟩))) ?_
     refine ai 5 4 rfl (by kernel_rfl) (fun _=>U1 rfl rfl aZ rfl (aB) (aA)) ?_
     refine aj 6 3 rfl (by kernel_rfl) (fun _ _ _ hz Sz=>.inl (U4 rfl rfl av rfl (Sz.suf.ar (i:=1) rfl rfl))) ?_
     refine aj 7 2 rfl (by kernel_rfl) (fun _ _ _ hz Sz=>Uq rfl rfl rfl rfl rfl Hg Sz (D6 d ((ga (ga (U6 d) k) 1).a) ((aC.mono (Hp.Ua hz Sz.mx)).mono Sz.Uw) (hab) (by first|assumption|omega) Sz.aD)) ?_
     refine ai 8 1 rfl (by kernel_rfl) (fun _=>run_assign rfl rfl) ?_
     refine ai 9 0 rfl (by kernel_rfl) (fun _=>run_assign rfl rfl) ?_
     refine Uu (by kernel_rfl) (fun N7 eZ=>?_)
     refine ah [1,2,3,7,8,11,12,13,14] rfl (U3 (U2 apF JJ rfl rfl rfl (U0 rfl (ag 0 2 rfl rfl (af 2 rfl (bP rfl rfl rfl) (ag 3 1 rfl rfl ?_))))))
     refine jt (k':=8) (d:=70) (decide ((((Ud d ((ga (ga (U6 d) k) 0).a) ((ga (ga (U6 d) k) 0).b)).1:Int)=i)/\(((Ud d ((ga (ga (U6 d) k) 1).a) ((ga (ga (U6 d) k) 1).b)).1:Int)=j))) [(1,_),(2,_),(3,_),(7,_),(8,_),(11,_),(12,_),(13,_),(14,_)] ⟨rfl,rfl,rfl,rfl,rfl,rfl,rfl,rfl,rfl,trivial⟩ (fun adL=>?_) ?_
     ·refine Ut (t:=66) rfl (fun x4=>?_) (fun x4=>?_)
      ·refine ag 4 2 rfl rfl (aH 6 7 rfl rfl rfl rfl rfl rfl rfl rfl (Ub rfl rfl (bP rfl rfl rfl) (ag 7 1 rfl rfl ?_)))
       exact b6 70 (.bool (decide ((((Ud d ((ga (ga (U6 d) k) 0).a) ((ga (ga (U6 d) k) 0).b)).1:Int)=i)/\(((Ud d ((ga (ga (U6 d) k) 1).a) ((ga (ga (U6 d) k) 1).b)).1:Int)=j)))) rfl (congrArg Value.bool (decide_eq_decide.2 ⟨fun h=>⟨x4,h⟩,fun h=>h.2⟩)) (eo [(70,_),(1,_),(2,_),(3,_),(7,_),(8,_),(11,_),(12,_),(13,_),(14,_)] ⟨rfl,rfl,rfl,rfl,rfl,rfl,rfl,rfl,rfl,rfl,trivial⟩ adL)
      ·refine ag 4 4 rfl rfl ?_
       exact b6 70 (.bool (decide ((((Ud d ((ga (ga (U6 d) k) 0).a) ((ga (ga (U6 d) k) 0).b)).1:Int)=i)/\(((Ud d ((ga (ga (U6 d) k) 1).a) ((ga (ga (U6 d) k) 1).b)).1:Int)=j)))) rfl (congrArg Value.bool (decide_eq_false (fun h=>x4 h.1)).symm) (eo [(70,_),(1,_),(2,_),(3,_),(7,_),(8,_),(11,_),(12,_),(13,_),(14,_)] ⟨rfl,rfl,rfl,rfl,rfl,rfl,rfl,rfl,rfl,rfl,trivial⟩ adL)
     ·refine ag 8 1 rfl rfl ?_
      refine jt (k':=18) (d:=80) (decide (((((Ud d ((ga (ga (U6 d) k) 0).a) ((ga (ga (U6 d) k) 0).b)).1:Int)=i)/\(((Ud d ((ga (ga (U6 d) k) 1).a) ((ga (ga (U6 d) k) 1).b)).1:Int)=j))\/((((Ud d ((ga (ga (U6 d) k) 0).a) ((ga (ga (U6 d) k) 0).b)).1:Int)=j)/\(((Ud d ((ga (ga (U6 d) k) 1).a) ((ga (ga (U6 d) k) 1).b)).1:Int)=i)))) [(1,_),(2,_),(3,_),(7,_),(8,_),(11,_),(12,_),(13,_),(14,_)] ⟨rfl,rfl,rfl,rfl,rfl,rfl,rfl,rfl,rfl,trivial⟩ (fun adI=>?_) ?_
      ·refine Ut (t:=71) rfl (fun xZ=>?_) (fun xZ=>?_)
       ·refine ag 9 6 rfl rfl (ag 15 3 rfl rfl ?_)
        exact b6 80 (.bool (decide (((((Ud d ((ga (ga (U6 d) k) 0).a) ((ga (ga (U6 d) k) 0).b)).1:Int)=i)/\(((Ud d ((ga (ga (U6 d) k) 1).a) ((ga (ga (U6 d) k) 1).b)).1:Int)=j))\/((((Ud d ((ga (ga (U6 d) k) 0).a) ((ga (ga (U6 d) k) 0).b)).1:Int)=j)/\(((Ud d ((ga (ga (U6 d) k) 1).a) ((ga (ga (U6 d) k) 1).b)).1:Int)=i))))) rfl (congrArg Value.bool (decide_eq_true (.inl xZ)).symm) (eo [(80,_),(1,_),(2,_),(3,_),(7,_),(8,_),(11,_),(12,_),(13,_),(14,_)] ⟨rfl,rfl,rfl,rfl,rfl,rfl,rfl,rfl,rfl,rfl,trivial⟩ adI)
       ·refine ag 9 2 rfl rfl (aH 11 12 rfl rfl rfl rfl rfl rfl rfl rfl (Ub rfl rfl (bP rfl rfl rfl) (ag 12 1 rfl rfl ?_)))
        refine jt (k':=17) (d:=79) (decide ((((Ud d ((ga (ga (U6 d) k) 0).a) ((ga (ga (U6 d) k) 0).b)).1:Int)=j)/\(((Ud d ((ga (ga (U6 d) k) 1).a) ((ga (ga (U6 d) k) 1).b)).1:Int)=i))) [(1,_),(2,_),(3,_),(7,_),(8,_),(11,_),(12,_),(13,_),(14,_),(71,_)] ⟨rfl,rfl,rfl,rfl,rfl,rfl,rfl,rfl,rfl,rfl,trivial⟩ (fun adJ=>?_) ?_
        ·refine Ut (t:=75) rfl (fun GI=>?_) (fun GI=>?_)
         ·refine ag 13 2 rfl rfl (aH 15 16 rfl rfl rfl rfl rfl rfl rfl rfl (Ub rfl rfl (bP rfl rfl rfl) (ag 16 1 rfl rfl ?_)))
          exact b6 79 (.bool (decide ((((Ud d ((ga (ga (U6 d) k) 0).a) ((ga (ga (U6 d) k) 0).b)).1:Int)=j)/\(((Ud d ((ga (ga (U6 d) k) 1).a) ((ga (ga (U6 d) k) 1).b)).1:Int)=i)))) rfl (congrArg Value.bool (decide_eq_decide.2 ⟨fun h=>⟨GI,h⟩,fun h=>h.2⟩)) (eo [(79,_),(1,_),(2,_),(3,_),(7,_),(8,_),(11,_),(12,_),(13,_),(14,_),(71,_)] ⟨rfl,rfl,rfl,rfl,rfl,rfl,rfl,rfl,rfl,rfl,rfl,trivial⟩ adJ)
         ·refine ag 13 4 rfl rfl ?_
          exact b6 79 (.bool (decide ((((Ud d ((ga (ga (U6 d) k) 0).a) ((ga (ga (U6 d) k) 0).b)).1:Int)=j)/\(((Ud d ((ga (ga (U6 d) k) 1).a) ((ga (ga (U6 d) k) 1).b)).1:Int)=i)))) rfl (congrArg Value.bool (decide_eq_false (fun h=>GI h.1)).symm) (eo [(79,_),(1,_),(2,_),(3,_),(7,_),(8,_),(11,_),(12,_),(13,_),(14,_),(71,_)] ⟨rfl,rfl,rfl,rfl,rfl,rfl,rfl,rfl,rfl,rfl,rfl,trivial⟩ adJ)
        ·refine ag 17 1 rfl rfl ?_
         exact b6 80 (.bool (decide (((((Ud d ((ga (ga (U6 d) k) 0).a) ((ga (ga (U6 d) k) 0).b)).1:Int)=i)/\(((Ud d ((ga (ga (U6 d) k) 1).a) ((ga (ga (U6 d) k) 1).b)).1:Int)=j))\/((((Ud d ((ga (ga (U6 d) k) 0).a) ((ga (ga (U6 d) k) 0).b)).1:Int)=j)/\(((Ud d ((ga (ga (U6 d) k) 1).a) ((ga (ga (U6 d) k) 1).b)).1:Int)=i))))) rfl (congrArg Value.bool (decide_eq_decide.2 ⟨.inr,fun h=>h.resolve_left xZ⟩)) (eo [(80,_),(1,_),(2,_),(3,_),(7,_),(8,_),(11,_),(12,_),(13,_),(14,_)] ⟨rfl,rfl,rfl,rfl,rfl,rfl,rfl,rfl,rfl,rfl,trivial⟩ adI)
      ·refine ag 18 1 rfl rfl ?_
       refine jt (k':=34) (d:=96) (decide ((((((Ud d ((ga (ga (U6 d) k) 0).a) ((ga (ga (U6 d) k) 0).b)).1:Int)=i)/\(((Ud d ((ga (ga (U6 d) k) 1).a) ((ga (ga (U6 d) k) 1).b)).1:Int)=j))\/((((Ud d ((ga (ga (U6 d) k) 0).a) ((ga (ga (U6 d) k) 0).b)).1:Int)=j)/\(((Ud d ((ga (ga (U6 d) k) 1).a) ((ga (ga (U6 d) k) 1).b)).1:Int)=i)))/\((((hgt d ((ga (ga (U6 d) k) 0).a):Int)=2)/\((hgt d ((ga (ga (U6 d) k) 1).a):Int)=0))\/(((hgt d ((ga (ga (U6 d) k) 0).a):Int)=0)/\((hgt d ((ga (ga (U6 d) k) 1).a):Int)=2))))) [(1,_),(2,_),(3,_),(7,_),(8,_),(13,_),(14,_)] ⟨rfl,rfl,rfl,rfl,rfl,rfl,rfl,trivial⟩ (fun av1=>?_) ?_
       ·refine Ut (t:=81) rfl (fun GG=>?_) (fun GG=>?_)
        ·refine ag 19 1 rfl rfl (aH 20 21 rfl rfl rfl rfl rfl rfl rfl rfl (Ub rfl rfl (bP rfl rfl rfl) (ag 21 1 rfl rfl ?_)))
         refine jt (k':=25) (d:=87) (decide (((hgt d ((ga (ga (U6 d) k) 0).a):Int)=2)/\((hgt d ((ga (ga (U6 d) k) 1).a):Int)=0))) [(1,_),(2,_),(3,_),(7,_),(8,_),(13,_),(14,_),(81,_)] ⟨rfl,rfl,rfl,rfl,rfl,rfl,rfl,rfl,trivial⟩ (fun adF=>?_) ?_
         ·refine Ut (t:=84) rfl (fun GF=>?_) (fun GF=>?_)
          ·refine ag 22 1 rfl rfl (aH 23 24 rfl rfl rfl rfl rfl rfl rfl rfl (Ub rfl rfl (bP rfl rfl rfl) (ag 24 1 rfl rfl ?_)))
           exact b6 87 (.bool (decide (((hgt d ((ga (ga (U6 d) k) 0).a):Int)=2)/\((hgt d ((ga (ga (U6 d) k) 1).a):Int)=0)))) rfl (congrArg Value.bool (decide_eq_decide.2 ⟨fun h=>⟨GF,h⟩,fun h=>h.2⟩)) (eo [(87,_),(1,_),(2,_),(3,_),(7,_),(8,_),(13,_),(14,_),(81,_)] ⟨rfl,rfl,rfl,rfl,rfl,rfl,rfl,rfl,rfl,trivial⟩ adF)
          ·refine ag 22 3 rfl rfl ?_
           exact b6 87 (.bool (decide (((hgt d ((ga (ga (U6 d) k) 0).a):Int)=2)/\((hgt d ((ga (ga (U6 d) k) 1).a):Int)=0)))) rfl (congrArg Value.bool (decide_eq_false (fun h=>GF h.1)).symm) (eo [(87,_),(1,_),(2,_),(3,_),(7,_),(8,_),(13,_),(14,_),(81,_)] ⟨rfl,rfl,rfl,rfl,rfl,rfl,rfl,rfl,rfl,trivial⟩ adF)
         ·refine ag 25 1 rfl rfl ?_
          refine jt (k':=33) (d:=95) (decide ((((hgt d ((ga (ga (U6 d) k) 0).a):Int)=2)/\((hgt d ((ga (ga (U6 d) k) 1).a):Int)=0))\/(((hgt d ((ga (ga (U6 d) k) 0).a):Int)=0)/\((hgt d ((ga (ga (U6 d) k) 1).a):Int)=2)))) [(1,_),(2,_),(3,_),(7,_),(8,_),(13,_),(14,_),(81,_)] ⟨rfl,rfl,rfl,rfl,rfl,rfl,rfl,rfl,trivial⟩ (fun adD=>?_) ?_
          ·refine Ut (t:=88) rfl (fun GD=>?_) (fun GD=>?_)
           ·refine ag 26 6 rfl rfl (ag 32 1 rfl rfl ?_)
            exact b6 95 (.bool (decide ((((hgt d ((ga (ga (U6 d) k) 0).a):Int)=2)/\((hgt d ((ga (ga (U6 d) k) 1).a):Int)=0))\/(((hgt d ((ga (ga (U6 d) k) 0).a):Int)=0)/\((hgt d ((ga (ga (U6 d) k) 1).a):Int)=2))))) rfl (congrArg Value.bool (decide_eq_true (.inl GD)).symm) (eo [(95,_),(1,_),(2,_),(3,_),(7,_),(8,_),(13,_),(14,_),(81,_)] ⟨rfl,rfl,rfl,rfl,rfl,rfl,rfl,rfl,rfl,trivial⟩ adD)
           ·refine ag 26 1 rfl rfl (aH 27 28 rfl rfl rfl rfl rfl rfl rfl rfl (Ub rfl rfl (bP rfl rfl rfl) (ag 28 1 rfl rfl ?_)))
            refine jt (k':=32) (d:=94) (decide (((hgt d ((ga (ga (U6 d) k) 0).a):Int)=0)/\((hgt d ((ga (ga (U6 d) k) 1).a):Int)=2))) [(1,_),(2,_),(3,_),(7,_),(8,_),(13,_),(14,_),(81,_),(88,_)] ⟨rfl,rfl,rfl,rfl,rfl,rfl,rfl,rfl,rfl,trivial⟩ (fun adE=>?_) ?_
            ·refine Ut (t:=91) rfl (fun GA=>?_) (fun GA=>?_)
             ·refine ag 29 1 rfl rfl (aH 30 31 rfl rfl rfl rfl rfl rfl rfl rfl (Ub rfl rfl (bP rfl rfl rfl) (ag 31 1 rfl rfl ?_)))
              exact b6 94 (.bool (decide (((hgt d ((ga (ga (U6 d) k) 0).a):Int)=0)/\((hgt d ((ga (ga (U6 d) k) 1).a):Int)=2)))) rfl (congrArg Value.bool (decide_eq_decide.2 ⟨fun h=>⟨GA,h⟩,fun h=>h.2⟩)) (eo [(94,_),(1,_),(2,_),(3,_),(7,_),(8,_),(13,_),(14,_),(81,_),(88,_)] ⟨rfl,rfl,rfl,rfl,rfl,rfl,rfl,rfl,rfl,rfl,trivial⟩ adE)
             ·refine ag 29 3 rfl rfl ?_
              exact b6 94 (.bool (decide (((hgt d ((ga (ga (U6 d) k) 0).a):Int)=0)/\((hgt d ((ga (ga (U6 d) k) 1).a):Int)=2)))) rfl (congrArg Value.bool (decide_eq_false (fun h=>GA h.1)).symm) (eo [(94,_),(1,_),(2,_),(3,_),(7,_),(8,_),(13,_),(14,_),(81,_),(88,_)] ⟨rfl,rfl,rfl,rfl,rfl,rfl,rfl,rfl,rfl,rfl,trivial⟩ adE)
            ·refine ag 32 1 rfl rfl ?_
             exact b6 95 (.bool (decide ((((hgt d ((ga (ga (U6 d) k) 0).a):Int)=2)/\((hgt d ((ga (ga (U6 d) k) 1).a):Int)=0))\/(((hgt d ((ga (ga (U6 d) k) 0).a):Int)=0)/\((hgt d ((ga (ga (U6 d) k) 1).a):Int)=2))))) rfl (congrArg Value.bool (decide_eq_decide.2 ⟨.inr,fun h=>h.resolve_left GD⟩)) (eo [(95,_),(1,_),(2,_),(3,_),(7,_),(8,_),(13,_),(14,_),(81,_)] ⟨rfl,rfl,rfl,rfl,rfl,rfl,rfl,rfl,rfl,trivial⟩ adD)
          ·refine ag 33 1 rfl rfl (U5 rfl (ah [1,2,3,7,8,96] rfl (U3 ?_)))
           refine Ue BX JI rfl rfl rfl rfl (fun iZ=>?_) (fun iZ=>?_)
           ·refine U2 aeA aez rfl rfl rfl (U0 rfl (ag 0 1 rfl rfl (U5 rfl (ah [6] rfl (U3 (Uj hC [_] rfl rfl ⟨rfl,trivial⟩ ?_))))))
            refine⟨_,rfl,_,aL,(eZ.pick [] [] (by decide) trivial),?_⟩
            have hT:iN d i j (ga (U6 d) k)=true:=by unfold iN;rw[decide_eq_true_iff];omega
            show Value.bool _=Value.bool _
            rw[List.any_eq_true.2 ⟨_,jJ,hT⟩]
           ·refine Uf rfl (bk (ah [1,2,3,7,8] rfl (U3 (U0 rfl (ag 0 1 rfl rfl (af 1 rfl (Ug rfl rfl rfl (by first|omega|(simp only[ls];omega))) ?_))))))
            refine ag 2 1 rfl rfl (U5 rfl (aP ?_))
            have hF:iN d i j (ga (U6 d) k)=false:=by unfold iN;rw[decide_eq_false_iff_not];omega
            intro au aq
            refine⟨_,?kB,⟨k+1,rfl,aq.sub ⟨rfl,rfl,rfl,rfl,rfl,trivial⟩,eZ.pick [2] [_] (by decide) ⟨rfl,trivial⟩,?fB,?gP⟩⟩
            case fB=>omega
            case gP=>(intro q hq;by_cases e:q=k;(subst e;exact hF);exact hno q (by omega))
            case kB=>omega
        ·refine ag 19 6 rfl rfl (ag 25 6 rfl rfl (ag 31 3 rfl rfl (U5 rfl (ah [1,2,3,7,8,96] rfl (U3 (lK JI rfl rfl rfl (Uf rfl (bk ?_))))))))
         refine ah [1,2,3,7,8] rfl (U3 (U0 rfl (ag 0 1 rfl rfl (af 1 rfl (Ug rfl rfl rfl (by first|omega|(simp only[ls];omega))) ?_))))
         refine ag 2 1 rfl rfl (U5 rfl (aP ?_))
         have hF:iN d i j (ga (U6 d) k)=false:=by unfold iN;rw[decide_eq_false_iff_not];omega
         intro au aq
         refine⟨_,?lZ,⟨k+1,rfl,aq.sub ⟨rfl,rfl,rfl,rfl,rfl,trivial⟩,eZ.pick [2] [_] (by decide) ⟨rfl,trivial⟩,?iz,?jB⟩⟩
         case iz=>omega
         case jB=>(intro q hq;by_cases e:q=k;(subst e;exact hF);exact hno q (by omega))
         case lZ=>omega
       ·refine U5 rfl (ah [1,2,3,7,8,96] rfl (U3 ?_))
        refine Ue BX JI rfl rfl rfl rfl (fun iZ=>?_) (fun iZ=>?_)
        ·refine U2 aeA aez rfl rfl rfl (U0 rfl (ag 0 1 rfl rfl (U5 rfl (ah [6] rfl (U3 (Uj hC [_] rfl rfl ⟨rfl,trivial⟩ ?_))))))
         refine⟨_,rfl,_,aL,(eZ.pick [] [] (by decide) trivial),?_⟩
         have hT:iN d i j (ga (U6 d) k)=true:=by unfold iN;rw[decide_eq_true_iff];omega
         show Value.bool _=Value.bool _
         rw[List.any_eq_true.2 ⟨_,jJ,hT⟩]
        ·refine Uf rfl (bk (ah [1,2,3,7,8] rfl (U3 (U0 rfl (ag 0 1 rfl rfl (af 1 rfl (Ug rfl rfl rfl (by first|omega|(simp only[ls];omega))) ?_))))))
         refine ag 2 1 rfl rfl (U5 rfl (aP ?_))
         have hF:iN d i j (ga (U6 d) k)=false:=by unfold iN;rw[decide_eq_false_iff_not];omega
         intro au aq
         refine⟨_,?lY,⟨k+1,rfl,aq.sub ⟨rfl,rfl,rfl,rfl,rfl,trivial⟩,eZ.pick [2] [_] (by decide) ⟨rfl,trivial⟩,?iX,?kr⟩⟩
         case iX=>omega
         case kr=>(intro q hq;by_cases e:q=k;(subst e;exact hF);exact hno q (by omega))
         case lY=>omega
  ·refine bS rfl rfl (bL [] trivial (U3 (U2 apE apD rfl rfl rfl (U0 rfl (ag 0 1 rfl rfl (U5 rfl (U3 (Uj hC [_] rfl rfl ⟨rfl,trivial⟩ ?_))))))))
   refine⟨_,rfl,_,aL,(S3.pick [] [] (by decide) trivial),?_⟩
   show Value.bool _=Value.bool _
   rw[List.any_eq_false.2 (fun x hx=>by obtain⟨q,hq,rfl⟩:=List.mem_iff_getElem.1 hx;rw[<-fJ hq,hno q (by omega)];decide)]
noncomputable def JH:=Tryz.f39.body.getD .skip
def apC:=cL JH
def JG:=cR JH
def apB:=cL JG
def JF:=cR JG
def JE:=cL JF
def JD:=cR JF
def apA:=cL JE
def JC:=cR JE
def BW:=cL JC
def apz:=cR JC
def aey:=cL BW
def aex:=cR BW
def apy:=cL JD
def JB:=cR JD
def JA:=cL JB
def Jz:=cR JB
def apx:=cL JA
def Jy:=cR JA
def Jx:=cL Jy
def apw:=cR Jy
def apv:=cL Jx
def apu:=cR Jx
def apt:=cL Jz
def Jw:=cR Jz
def aps:=cL Jw
def Jv:=cR Jw
def Ju:=cL Jv
def Jt:=cR Jv
def apr:=cL Ju
def aew:=cR Ju
def aev:=cL aew
def Js:=cL aev
def Jr:=cL Js
def Jq:=cR Js
def apq:=cL Jr
def Jp:=cR Jr
def apo:=cL Jp
def apn:=cR Jp
def aeu:=cL Jq
def apm:=cR Jq
def Jo:=cL aeu
def apl:=cL Jo
def apk:=cR Jo
def Jn:=cL Jt
def Jm:=cR Jt
def apj:=cL Jn
def Jl:=cR Jn
def qY:=cL Jl
def aph:=cR Jl
def ve:=cL qY
def u7:=cR qY
def apg:=cL Jm
def Jk:=cR Jm
def Jj:=cL Jk
def Ji:=cR Jk
def apf:=cL Jj
def aet:=cR Jj
def aes:=cL aet
def Jh:=cL aes
def Jg:=cL Jh
def Jf:=cR Jh
def ape:=cL Jg
def Je:=cR Jg
def apd:=cL Je
def apc:=cR Je
def aer:=cL Jf
def apb:=cR Jf
def Jd:=cL aer
def apa:=cL Jd
def Jc:=cR Jd
def ao9:=cL Jc
def Jb:=cR Jc
def ao8:=cL Jb
def Ja:=cR Jb
def ao7:=cL Ja
def I9:=cR Ja
def ao6:=cL I9
def I8:=cR I9
def ao5:=cL I8
def ao4:=cR I8
def ao3:=cL Ji
def ao2:=cR Ji
set_option maxHeartbeats 2000000 in
set_option maxRecDepth 10000 in
theorem agJ{w:World}{M:Hp}{X:Fr}(d:Dg){aV:Option Addr}{aU:Nat}(m:Mv)(aC:aF aG (M.un X.h) aV aU d.ae)(hn:d.ae.length<=16)(hab:aX d=true)(S:SH w M X []):Ct Tryz.prog 39 [.agg [.slice aV d.ae.length aU,.int .i64 d.loops].toArray,.int .i64 m.at_] w M X (qq (kL (gF d m) (p6 d m))):=by
 unfold Ct
 have gK:d.ae.length*40<=140737488355328:=aC.room
 refine Up (b:=JH) Tryz.func39 rfl Tryz.ntmps39 rfl (fun C hC=>(bq [(0,_),(1,_)] ⟨rfl,rfl,trivial⟩ (U2 apC JG rfl rfl rfl (U0 rfl (ak 0 1 rfl rfl rfl (bA (l:=[_,_]) rfl rfl rfl rfl rfl S ?_))))))
 intro aI w1 S1;clear S
 refine ak 1 2 rfl rfl rfl (Uh (l:=[_,_]) rfl rfl rfl fQ rfl S1 ?_)
 intro aQ w2 S2;clear S1
 refine ag 2 1 rfl rfl (U5 rfl (ah [1,2,4] rfl (U3 (U2 apB JF rfl rfl rfl (U0 rfl (af 0 rfl (U8 (us:=[_,_]) rfl rfl ay rfl az (S2.ax (i:=1) rfl ⟨rfl,rfl,trivial⟩)) (ak 1 2 rfl rfl rfl (fp rfl rfl rfl rfl rfl rfl rfl BK S2 (zX d (aC.mono S2.Uw) (hn) (hab) S2.aD) ?_))))))))
 intro Ou w3 M1 aL S3 tD;clear S2
 replace aC:=aC.mono (Hp.Ua aL S3.mx)
 obtain⟨A1,c1,vs1,rfl,hr1,hd1⟩:=tD
 have acL:=hd1.1
 refine ag 2 1 rfl rfl (U5 rfl (ah [1,2,4,6] rfl (U3 (U2 JE JD rfl rfl rfl (U2 apA JC rfl rfl rfl (U0 rfl (ag 0 1 rfl rfl (af 1 rfl (bV rfl rfl rfl) ?_))))))))
 refine ag 2 1 rfl rfl ?_
 refine Ut (t:=22) rfl (fun amR=>?_) (fun amR=>?_)
 ·refine ag 3 5 rfl rfl (U5 rfl (ah [1,2,4,6,27] rfl (U3 (fM BW rfl rfl rfl (U2 aey aex rfl rfl rfl (U0 rfl (af 0 rfl (run_build (l:=[_,_]) rfl rfl cJ rfl rfl) (ak 1 2 rfl rfl rfl (U7 (i:=0) (us:=[_,_]) (l':=[_,_]) (H':=[_,_]) rfl rfl S3 rfl rfl rfl rfl az rfl rfl rfl rfl ?_)))))))))
  intro w4 S4;clear S3
  refine ag 2 1 rfl rfl (U5 rfl (ah [4,5] rfl (U3 (Uj hC [_,_] rfl rfl ⟨⟨_,rfl,Um (us:=[_,_]) ay rfl az (S4.ax (i:=0) rfl ⟨rfl,rfl,trivial⟩)⟩,rfl,trivial⟩ ?_))))
  refine⟨_,rfl,_,aL,(S4.pick [] [] (by decide) trivial),?_⟩
  rw[eH (c:=3) (by unfold gF;rw[if_neg (by omega)]) (by decide)]
  exact dU 3
 ·refine ag 3 2 rfl rfl (aH 5 6 rfl rfl rfl rfl rfl rfl rfl rfl (Ub rfl rfl (cI rfl rfl rfl rfl rfl rfl kY) (aH 6 7 rfl rfl rfl rfl rfl rfl rfl rfl (Ub rfl rfl (kf rfl rfl rfl) (ag 7 1 rfl rfl (U5 rfl (ah [1,2,4,6,27] rfl (U3 ?_))))))))
  refine Ue BW apz rfl rfl rfl rfl (fun yc=>?_) (fun yc=>?_)
  ·refine U2 aey aex rfl rfl rfl (U0 rfl (af 0 rfl (run_build (l:=[_,_]) rfl rfl cJ rfl rfl) (ak 1 2 rfl rfl rfl (U7 (i:=0) (us:=[_,_]) (l':=[_,_]) (H':=[_,_]) rfl rfl S3 rfl rfl rfl rfl az rfl rfl rfl rfl ?_))))
   intro w5 S5;clear S3
   refine ag 2 1 rfl rfl (U5 rfl (ah [4,5] rfl (U3 (Uj hC [_,_] rfl rfl ⟨⟨_,rfl,Um (us:=[_,_]) ay rfl az (S5.ax (i:=0) rfl ⟨rfl,rfl,trivial⟩)⟩,rfl,trivial⟩ ?_))))
   refine⟨_,rfl,_,aL,(S5.pick [] [] (by decide) trivial),?_⟩
   rw[eH (c:=3) (by unfold gF;rw[if_neg (by omega)]) (by decide)]
   exact dU 3
  ·refine Uf rfl (ah [1,2,4,6] rfl (U3 (U2 apy JB rfl rfl rfl ?_)))
   have fR:0<=m.at_/\m.at_<((U6 d).length:Int):=by omega
   have jJ:(ga (U6 d) m.at_.toNat)∈U6 d:=gZ (by omega)
   have hok:∀x∈(ga (U6 d) m.at_.toNat),okD d x:=Ae hab jJ
   refine U0 rfl (ag 0 2 rfl rfl (b6 30 (.int .i64 ((m.at_.toNat:Nat):Int)) rfl (int_eq (by omega)) ?_))
   refine af 2 rfl (Uk (C:=(cB 141)) m.at_.toNat rfl rfl rfl jF (by first|rfl|omega) hr1 (by first|omega|(simp only[ls];omega))) ?_
   obtain⟨kN,hr2⟩:=hd1.2 m.at_.toNat (by first|omega|(simp only[ls];omega))
   have FI:(ga (U6 d) m.at_.toNat).length*16<=140737488355328:=hr2.room
   refine af 3 rfl (U4 rfl rfl ig rfl (hr1.cell S3.m (i:=m.at_.toNat) (by first|omega|(simp only[ls];omega)) 0 rfl (congrArg (fun n=>some (Value.slice _ n _)) kN))) ?_
   refine ag 4 1 rfl rfl (U5 rfl (ah [2,4,7] rfl (U3 (U2 JA Jz rfl rfl rfl (U2 apx Jy rfl rfl rfl (U0 rfl (ag 0 1 rfl rfl (af 1 rfl (cI rfl rfl rfl rfl rfl rfl ig) ?_))))))))
   refine af 2 rfl (iT rfl rfl rfl) (U5 rfl (ah [2,4,7,35] rfl (U3 ?_)))
   refine Ue Jx apw rfl rfl rfl rfl (fun tv=>?_) (fun tv=>?_)
   ·refine U2 apv apu rfl rfl rfl (U0 rfl (af 0 rfl (run_build (l:=[_,_]) rfl rfl cJ rfl rfl) (ak 1 2 rfl rfl rfl (U7 (i:=0) (us:=[_,_]) (l':=[_,_]) (H':=[_,_]) rfl rfl S3 rfl rfl rfl rfl az rfl rfl rfl rfl ?_))))
    intro w6 S6;clear S3
    refine ag 2 1 rfl rfl (U5 rfl (ah [4,5] rfl (U3 (Uj hC [_,_] rfl rfl ⟨⟨_,rfl,Um (us:=[_,_]) ay rfl az (S6.ax (i:=0) rfl ⟨rfl,rfl,trivial⟩)⟩,rfl,trivial⟩ ?_))))
    refine⟨_,rfl,_,aL,(S6.pick [] [] (by decide) trivial),?_⟩
    rw[eH (c:=8) (by unfold gF;rw[if_pos fR,if_neg (by first|(unfold j6;rw[decide_eq_true_iff];omega)|(rw[rQ hab jJ (by omega),decide_eq_true_iff];omega))]) (by decide)]
    exact dU 8
   ·refine Uf rfl (ah [2,4,7] rfl (U3 (U2 apt Jw rfl rfl rfl (U0 rfl (ak 0 1 rfl rfl rfl (Uh (l:=[_,_,_]) rfl rfl rfl qE rfl S3 ?_))))))
    intro bE w7 S7;clear S3
    refine U5 rfl (U3 (U2 aps Jv rfl rfl rfl (U0 rfl (ag 0 1 rfl rfl (U5 rfl (U3 (U2 Ju Jt rfl rfl rfl (U2 apr aew rfl rfl rfl ?_))))))))
    refine U0 rfl (ag 0 1 rfl rfl (U5 rfl (U3 (Uc aev 0 rfl rfl rfl ?_))))
    have S8:=S7.np Uv;clear S7
    refine Uz (fun aS au aM=>∃(k:Nat) (mF:Nat->Int) (es:List Int) (Oy:Value),aS=3-k/\Env 161 [(2,.pointer (some ⟨aI,0,none⟩)),(4,.pointer (some ⟨aQ,0,none⟩)),(7,.slice ((ga vs1 m.at_.toNat).A) (ga (U6 d) m.at_.toNat).length ((ga vs1 m.at_.toNat).c)),(8,.pointer (some ⟨bE,0,none⟩)),(9,Oy),(10,.int .i64 (k:Int))] au/\SH aM M1 X [Rs.row Uv Oy es,Rs.box bE 150 [.int .i64 (mF 0),.int .i64 (mF 1),.int .i64 (mF 2)],Rs.box aQ 24 [.slice none 0 0,.int .i64 0],Rs.box aI 24 [.slice aV d.ae.length aU,.int .i64 d.loops]]/\k<=3/\(∀q,q<3->mF q=(il d (ga (U6 d) m.at_.toNat) q k:Int))/\es=hdN d (ga (U6 d) m.at_.toNat) k) rfl ?_ ?_
    ·intro au aq
     refine⟨_,⟨0,(fun _=>0),[],_,rfl,aq.sub ⟨rfl,rfl,rfl,rfl,rfl,rfl,trivial⟩,S8.pick [0,1,2,3] [_,_,_,_] (by decide) ⟨rfl,rfl,rfl,rfl,trivial⟩,?cd,?cT,?lS⟩⟩
     case cd=>omega
     case cT=>(intro q hq;rfl)
     case lS=>rfl
    ·rintro m1 a1 w8 ⟨k,mF,es,Oy,rfl,bh,S9,hk,zk,hes⟩
     clear S8
     refine b7 bh (c:=Js) rfl ?_
     clear bh a1
     have hel:es.length=k:=by rw[hes];exact abP _ _ _
     have hgl:=acg d (ga (ga (U6 d) m.at_.toNat) k).a
     have hmb:=zk (hgt d (ga (ga (U6 d) m.at_.toNat) k).a) (by omega)
     have zj:=Fq d (ga (U6 d) m.at_.toNat) (hgt d (ga (ga (U6 d) m.at_.toNat) k).a) k
     refine U2 Jr Jq rfl rfl rfl (U2 apq Jp rfl rfl rfl (U0 rfl (ag 0 1 rfl rfl (af 1 rfl (bV rfl rfl rfl) (U5 rfl (ah [2,4,7,8,9,10,38] rfl (U3 ?_)))))))
     refine Ue apo apn rfl rfl rfl rfl (fun tq=>?_) (fun tq=>?_)
     ·have ho:okD d (ga (ga (U6 d) m.at_.toNat) k):=hok _ (gZ (by omega))
      have hpo:1<=(ga (ga (U6 d) m.at_.toNat) k).a/\(ga (ga (U6 d) m.at_.toNat) k).a<=2*(d.ae.length:Int):=ho
      refine Uf rfl (ah [2,4,7,8,9,10] rfl (U3 (U2 aeu apm rfl rfl rfl (Uc Jo 1 rfl rfl rfl (U2 apl apk rfl rfl rfl (Ux rfl (by kernel_rfl) S9 12 rfl ?_))))))
      clear S9
      refine aj 0 11 rfl (by kernel_rfl) (fun _ _ _ hz Sz=>.inl (U8 (us:=[_,_]) rfl rfl ay rfl az (Sz.suf.ax (i:=3) rfl ⟨rfl,rfl,trivial⟩))) ?_
      refine ai 1 10 rfl (by kernel_rfl) (fun _=>run_move rfl rfl) ?_
      refine ai 2 9 rfl (by kernel_rfl) (fun _=>run_move rfl rfl) ?_
      refine aj 3 8 rfl (by kernel_rfl) (fun _ _ _ hz Sz=>.inl (Uk (C:=bW) k rfl rfl rfl gM (by first|rfl|omega) (hr2.mono hz) (by first|omega|(simp only[ls];omega)))) ?_
      refine ai 4 7 rfl (by kernel_rfl) (fun _=>U1 rfl rfl aZ rfl (aB) (aA)) ?_
      refine aj 5 6 rfl (by kernel_rfl) (fun _ _ _ hz Sz=>.inl (U4 rfl rfl av rfl ((hr2.mono hz).cell Sz.m (i:=k) (by first|omega|(simp only[ls];omega)) 0 rfl rfl))) ?_
      refine aj 6 5 rfl (by kernel_rfl) (fun _ _ _ hz Sz=>Uq rfl rfl rfl rfl rfl Hg Sz (D6 d ((ga (ga (U6 d) m.at_.toNat) k).a) ((aC.mono (Hp.Ua hz Sz.mx)).mono Sz.Uw) (hab) (by first|assumption|omega) Sz.aD)) ?_
      refine aj 7 4 rfl (by kernel_rfl) (fun _ _ _ hz Sz=>.inl (gJ (e:=hgt d ((ga (ga (U6 d) m.at_.toNat) k).a)) (k:=1) rfl rfl rfl iW aY (by first|rfl|omega) (by first|omega|(simp only[ls];omega)))) ?_
      refine aj 8 3 rfl (by kernel_rfl) (fun _ _ _ hz Sz=>.inl (U4 rfl rfl av rfl (Sz.suf.ar (i:=1) rfl (aip (fun k=>Value.int .i64 (mF k)) (by first|omega|(simp only[ls];omega)))))) ?_
      refine ai 9 2 rfl (by kernel_rfl) (fun _=>Ug rfl rfl rfl (by first|omega|(simp only[ls];omega))) ?_
      refine aj 10 1 rfl (by kernel_rfl) (fun _ _ _ hz Sz=>.inl (gJ (e:=hgt d ((ga (ga (U6 d) m.at_.toNat) k).a)) (k:=1) rfl rfl rfl iW aY (by first|rfl|omega) (by first|omega|(simp only[ls];omega)))) ?_
      refine Un (i:=11) 0 rfl (by kernel_rfl) rfl rfl (fun tQ dz=>?_)
      refine(U7 (i:=1) (us:=[_]) (l':=[.int .i64 (upd mF (hgt d ((ga (ga (U6 d) m.at_.toNat) k).a)) ((mF (hgt d ((ga (ga (U6 d) m.at_.toNat) k).a)))+1) 0),.int .i64 (upd mF (hgt d ((ga (ga (U6 d) m.at_.toNat) k).a)) ((mF (hgt d ((ga (ga (U6 d) m.at_.toNat) k).a)))+1) 1),.int .i64 (upd mF (hgt d ((ga (ga (U6 d) m.at_.toNat) k).a)) ((mF (hgt d ((ga (ga (U6 d) m.at_.toNat) k).a)))+1) 2)]) (H':=[_,_,_,_]) rfl rfl dz rfl rfl rfl rfl aY (aiK (fun k=>Value.int .i64 (mF k)) _ (by first|omega|(simp only[ls];omega))) rfl (ai4 mF ((mF (hgt d ((ga (ga (U6 d) m.at_.toNat) k).a)))+1) (by first|omega|(simp only[ls];omega))) rfl ?_)
      intro vO cW;clear dz
      refine aN.turn (by kernel_rfl) cW ?_;clear cW
      change WA _ _ _ _ _ _ _ _ _ _ _ _ [_,_,_,_]
      refine Uu (by kernel_rfl) (fun rB cK=>?_)
      refine ah [2,4,7,8,9,10] rfl (U3 ?_)
      have cv:=cK.pick [0,1,2,3] [_,_,_,_] (by decide) ⟨rfl,rfl,rfl,rfl,trivial⟩;clear cK
      refine ki [_] [_,_,_] rfl (by kernel_rfl) cv 17 rfl ?_
      clear cv
      change WA _ _ _ _ _ _ _ _ _ _ _ _ [_,_,_,_]
      refine ai 0 16 rfl (by kernel_rfl) (fun _=>run_move rfl rfl) ?_
      refine aj 1 15 rfl (by kernel_rfl) (fun _ _ _ hz Sz=>.inl (U8 (us:=[_,_]) rfl rfl ay rfl az (Sz.suf.ax (i:=2) rfl ⟨rfl,rfl,trivial⟩))) ?_
      refine ai 2 14 rfl (by kernel_rfl) (fun _=>run_move rfl rfl) ?_
      refine ai 3 13 rfl (by kernel_rfl) (fun _=>run_move rfl rfl) ?_
      refine aj 4 12 rfl (by kernel_rfl) (fun _ _ _ hz Sz=>.inl (Uk (C:=bW) k rfl rfl rfl gM (by first|rfl|omega) (hr2.mono hz) (by first|omega|(simp only[ls];omega)))) ?_
      refine ai 5 11 rfl (by kernel_rfl) (fun _=>U1 rfl rfl aZ rfl (aB) (aA)) ?_
      refine aj 6 10 rfl (by kernel_rfl) (fun _ _ _ hz Sz=>.inl (U4 rfl rfl av rfl ((hr2.mono hz).cell Sz.m (i:=k) (by first|omega|(simp only[ls];omega)) 0 rfl rfl))) ?_
      refine ai 7 9 rfl (by kernel_rfl) (fun _=>run_move rfl rfl) ?_
      refine ai 8 8 rfl (by kernel_rfl) (fun _=>run_move rfl rfl) ?_
      refine aj 9 7 rfl (by kernel_rfl) (fun _ _ _ hz Sz=>.inl (Uk (C:=bW) k rfl rfl rfl gM (by first|rfl|omega) (hr2.mono hz) (by first|omega|(simp only[ls];omega)))) ?_
      refine ai 10 6 rfl (by kernel_rfl) (fun _=>U1 rfl rfl aZ rfl (fI) (fH)) ?_
      refine aj 11 5 rfl (by kernel_rfl) (fun _ _ _ hz Sz=>.inl (U4 rfl rfl dh rfl ((hr2.mono hz).cell Sz.m (i:=k) (by first|omega|(simp only[ls];omega)) 1 rfl rfl))) ?_
      refine aj 12 4 rfl (by kernel_rfl) (fun _ _ _ hz Sz=>Uq rfl rfl rfl rfl rfl lj Sz (lH d ((ga (ga (U6 d) m.at_.toNat) k).a) ((ga (ga (U6 d) m.at_.toNat) k).b) ((aC.mono (Hp.Ua hz Sz.mx)).mono Sz.Uw) Sz.aD)) ?_
      refine ai 13 3 rfl (by kernel_rfl) (fun _=>mr rfl rfl cN rfl av rfl rfl) ?_
      refine Un (i:=14) 2 rfl (by kernel_rfl) rfl rfl (fun vJ gA=>?_)
      refine(iy (C:=Uv) (l:=[_]) rfl rfl rfl rfl bw rfl rfl rfl rfl gA ?_)
      intro gY tM fO;clear gA
      refine aN.grow [_,_] (Hp.le_refl _) fO ?_;clear fO
      change WA _ _ _ _ _ _ _ _ _ _ _ _ [_,_,_,_,_]
      refine Un (i:=15) 1 rfl (by kernel_rfl) rfl rfl (fun tL fN=>?_)
      refine(jg (C:=Uv) (i:=1) (q:=0) ((Ud d ((ga (ga (U6 d) m.at_.toNat) k).a) ((ga (ga (U6 d) m.at_.toNat) k).b)).1:Int) rfl rfl rfl rfl rfl rfl rfl rfl bw fN rfl rfl rfl (by show(_+1)*8<=_;first|omega|(simp only[ls];omega)) ?_)
      intro avD vH eN;clear fN
      have iK:=eN.pick [1,2,3,4] [_,_,_,_] (by decide) ⟨rfl,rfl,rfl,rfl,trivial⟩;clear eN
      refine aN.grow [_] (Hp.le_refl _) iK ?_;clear iK
      change WA _ _ _ _ _ _ _ _ _ _ _ _ [_,_,_,_]
      refine ai 16 0 rfl (by kernel_rfl) (fun _=>run_assign rfl rfl) ?_
      refine Uu (by kernel_rfl) (fun tK iJ=>?_)
      refine bk (ah [2,4,7,8,9,10] rfl (U3 (U0 rfl (ag 0 1 rfl rfl (af 1 rfl (Ug rfl rfl rfl (by first|omega|(simp only[ls];omega))) ?_)))))
      refine ag 2 1 rfl rfl (U5 rfl (aP ?_))
      intro au aq
      refine⟨_,?dJ,⟨k+1,(upd mF (hgt d (ga (ga (U6 d) m.at_.toNat) k).a) (mF (hgt d (ga (ga (U6 d) m.at_.toNat) k).a)+1)),es++[((Ud d ((ga (ga (U6 d) m.at_.toNat) k).a) ((ga (ga (U6 d) m.at_.toNat) k).b)).1:Int)],_,rfl,aq.sub ⟨rfl,rfl,rfl,rfl,rfl,rfl,trivial⟩,iJ.pick [0,1,2,3] [_,_,_,_] (by decide) ⟨rfl,rfl,rfl,rfl,trivial⟩,?cu,?cY,?ku⟩⟩
      case cu=>omega
      case cY=>(intro q hq;have h9:=zk q hq;unfold upd il;by_cases e:(hgt d (ga (ga (U6 d) m.at_.toNat) k).a)=q;(subst e;rw[if_pos rfl,if_pos rfl,h9];rfl);(rw[if_neg (fun h=>e h.symm),if_neg e,h9];rfl))
      case ku=>(rw[hes];rfl)
      case dJ=>omega
     ·refine bS rfl rfl (ah [2,4,7,8,9] rfl (U3 (U2 Jn Jm rfl rfl rfl (U2 apj Jl rfl rfl rfl ?_))))
      obtain rfl:k=3:=by omega
      have hel:es.length=3:=by rw[hes];exact abP _ _ _
      have hm0:=zk 0 (by omega)
      have Dp:=zk 1 (by omega)
      have hm2:=zk 2 (by omega)
      have hg0:ga es 0=(dS d (ga (ga (U6 d) m.at_.toNat) 0):Int):=by rw[hes];rfl
      have hg1:ga es 1=(dS d (ga (ga (U6 d) m.at_.toNat) 1):Int):=by rw[hes];rfl
      have hg2:ga es 2=(dS d (ga (ga (U6 d) m.at_.toNat) 2):Int):=by rw[hes];rfl
      refine Ux rfl (by kernel_rfl) S9 40 rfl ?_
      clear S9
      refine aj 0 39 rfl (by kernel_rfl) (fun _ _ _ hz Sz=>.inl (gJ (e:=0) (k:=1) rfl rfl rfl iW aY (by first|rfl|omega) (by first|omega|(simp only[ls];omega)))) ?_
      refine aj 1 38 rfl (by kernel_rfl) (fun _ _ _ hz Sz=>.inl (U4 rfl rfl av rfl (Sz.suf.ar (i:=1) rfl rfl))) ?_
      refine ai 2 37 rfl (by kernel_rfl) (fun _=>iT rfl rfl rfl) ?_
      refine ai 3 36 rfl (by kernel_rfl) (fun _=>run_move rfl rfl) ?_
      refine kj (t:=71) rfl (fun xZ=>?_) (fun xZ=>?_)
      ·refine Ur (i:=4) (d:=72) 35 rfl (by kernel_rfl) (by kernel_rfl) (by kernel_rfl) ⟨_,_,_,rfl,rfl,rfl,rfl⟩ rfl rfl ?_
       refine Ur (i:=5) (d:=73) 34 rfl (by kernel_rfl) (by kernel_rfl) (by kernel_rfl) ⟨_,_,_,rfl,rfl,rfl,rfl⟩ rfl rfl ?_
       refine Ur (i:=6) (d:=74) 33 rfl (by kernel_rfl) (by kernel_rfl) (by kernel_rfl) ⟨_,_,_,rfl,rfl,rfl,rfl⟩ rfl rfl ?_
       refine ai 7 32 rfl (by kernel_rfl) (fun _=>fL rfl rfl rfl) ?_
       refine ai 8 31 rfl (by kernel_rfl) (fun _=>run_move rfl rfl) ?_
       refine Ur (i:=9) (d:=77) 30 rfl (by kernel_rfl) (by kernel_rfl) (by kernel_rfl) ⟨_,_,_,rfl,rfl,rfl,rfl⟩ rfl rfl ?_
       refine Ur (i:=10) (d:=78) 29 rfl (by kernel_rfl) (by kernel_rfl) (by kernel_rfl) ⟨_,_,_,rfl,rfl,rfl,rfl⟩ rfl rfl ?_
       refine Ur (i:=11) (d:=79) 28 rfl (by kernel_rfl) (by kernel_rfl) (by kernel_rfl) ⟨_,_,_,rfl,rfl,rfl,rfl⟩ rfl rfl ?_
       refine ai 12 27 rfl (by kernel_rfl) (fun _=>fL rfl rfl rfl) ?_
       refine ai 13 26 rfl (by kernel_rfl) (fun _=>run_move rfl rfl) ?_
       refine Ur (i:=14) (d:=82) 25 rfl (by kernel_rfl) (by kernel_rfl) (by kernel_rfl) ⟨_,_,_,rfl,rfl,rfl,rfl⟩ rfl rfl ?_
       refine Ur (i:=15) (d:=83) 24 rfl (by kernel_rfl) (by kernel_rfl) (by kernel_rfl) ⟨_,_,_,rfl,rfl,rfl,rfl⟩ rfl rfl ?_
       refine Ur (i:=16) (d:=84) 23 rfl (by kernel_rfl) (by kernel_rfl) (by kernel_rfl) ⟨_,_,_,rfl,rfl,rfl,rfl⟩ rfl rfl ?_
       refine Ur (i:=17) (d:=85) 22 rfl (by kernel_rfl) (by kernel_rfl) (by kernel_rfl) ⟨_,_,_,rfl,rfl,rfl,rfl⟩ rfl rfl ?_
       refine Ur (i:=18) (d:=86) 21 rfl (by kernel_rfl) (by kernel_rfl) (by kernel_rfl) ⟨_,_,_,rfl,rfl,rfl,rfl⟩ rfl rfl ?_
       refine Ur (i:=19) (d:=87) 20 rfl (by kernel_rfl) (by kernel_rfl) (by kernel_rfl) ⟨_,_,_,rfl,rfl,rfl,rfl⟩ rfl rfl ?_
       refine Ur (i:=20) (d:=88) 19 rfl (by kernel_rfl) (by kernel_rfl) (by kernel_rfl) ⟨_,_,_,rfl,rfl,rfl,rfl⟩ rfl rfl ?_
       refine ai 21 18 rfl (by kernel_rfl) (fun _=>fL rfl rfl rfl) ?_
       refine ai 22 17 rfl (by kernel_rfl) (fun _=>run_move rfl rfl) ?_
       refine Ur (i:=23) (d:=91) 16 rfl (by kernel_rfl) (by kernel_rfl) (by kernel_rfl) ⟨_,_,_,rfl,rfl,rfl,rfl⟩ rfl rfl ?_
       refine Ur (i:=24) (d:=92) 15 rfl (by kernel_rfl) (by kernel_rfl) (by kernel_rfl) ⟨_,_,_,rfl,rfl,rfl,rfl⟩ rfl rfl ?_
       refine Ur (i:=25) (d:=93) 14 rfl (by kernel_rfl) (by kernel_rfl) (by kernel_rfl) ⟨_,_,_,rfl,rfl,rfl,rfl⟩ rfl rfl ?_
       refine Ur (i:=26) (d:=94) 13 rfl (by kernel_rfl) (by kernel_rfl) (by kernel_rfl) ⟨_,_,_,rfl,rfl,rfl,rfl⟩ rfl rfl ?_
       refine Ur (i:=27) (d:=95) 12 rfl (by kernel_rfl) (by kernel_rfl) (by kernel_rfl) ⟨_,_,_,rfl,rfl,rfl,rfl⟩ rfl rfl ?_
       refine Ur (i:=28) (d:=96) 11 rfl (by kernel_rfl) (by kernel_rfl) (by kernel_rfl) ⟨_,_,_,rfl,rfl,rfl,rfl⟩ rfl rfl ?_
       refine Ur (i:=29) (d:=97) 10 rfl (by kernel_rfl) (by kernel_rfl) (by kernel_rfl) ⟨_,_,_,rfl,rfl,rfl,rfl⟩ rfl rfl ?_
       refine ai 30 9 rfl (by kernel_rfl) (fun _=>fL rfl rfl rfl) ?_
       refine ai 31 8 rfl (by kernel_rfl) (fun _=>run_move rfl rfl) ?_
       refine Ur (i:=32) (d:=100) 7 rfl (by kernel_rfl) (by kernel_rfl) (by kernel_rfl) ⟨_,_,_,rfl,rfl,rfl,rfl⟩ rfl rfl ?_
       refine Ur (i:=33) (d:=101) 6 rfl (by kernel_rfl) (by kernel_rfl) (by kernel_rfl) ⟨_,_,_,rfl,rfl,rfl,rfl⟩ rfl rfl ?_
       refine Ur (i:=34) (d:=102) 5 rfl (by kernel_rfl) (by kernel_rfl) (by kernel_rfl) ⟨_,_,_,rfl,rfl,rfl,rfl⟩ rfl rfl ?_
       refine Ur (i:=35) (d:=103) 4 rfl (by kernel_rfl) (by kernel_rfl) (by kernel_rfl) ⟨_,_,_,rfl,rfl,rfl,rfl⟩ rfl rfl ?_
       refine Ur (i:=36) (d:=104) 3 rfl (by kernel_rfl) (by kernel_rfl) (by kernel_rfl) ⟨_,_,_,rfl,rfl,rfl,rfl⟩ rfl rfl ?_
       refine Ur (i:=37) (d:=105) 2 rfl (by kernel_rfl) (by kernel_rfl) (by kernel_rfl) ⟨_,_,_,rfl,rfl,rfl,rfl⟩ rfl rfl ?_
       refine Ur (i:=38) (d:=106) 1 rfl (by kernel_rfl) (by kernel_rfl) (by kernel_rfl) ⟨_,_,_,rfl,rfl,rfl,rfl⟩ rfl rfl ?_
       refine ai 39 0 rfl (by kernel_rfl) (fun _=>fL rfl rfl rfl) ?_
       refine Uu (by kernel_rfl) (fun Oc kU=>?_)
       refine ah [2,4,7,107] rfl (U3 (fM qY rfl rfl rfl (U2 ve u7 rfl rfl rfl (U0 rfl (af 0 rfl (run_build (l:=[_,_]) rfl rfl cJ rfl rfl) (ak 1 2 rfl rfl rfl (U7 (i:=2) (us:=[_,_]) (l':=[_,_]) (H':=[_,_,_,_]) rfl rfl kU rfl rfl rfl rfl az rfl rfl rfl rfl ?_)))))))
       intro Ob jN;clear kU
       refine ag 2 1 rfl rfl (U5 rfl (ah [4,5] rfl (U3 (Uj hC [_,_] rfl rfl ⟨⟨_,rfl,Um (us:=[_,_]) ay rfl az (jN.ax (i:=2) rfl ⟨rfl,rfl,trivial⟩)⟩,rfl,trivial⟩ ?_))))
       refine⟨_,rfl,_,aL,(jN.pick [] [] (by decide) trivial),?_⟩
       rw[eH (c:=8) (by unfold gF;rw[if_pos fR,if_neg (by first|(unfold j6;rw[decide_eq_true_iff];omega)|(rw[rQ hab jJ (by omega),decide_eq_true_iff];omega))]) (by decide)]
       exact dU 8
      ·refine aj 4 35 rfl (by kernel_rfl) (fun _ _ _ hz Sz=>.inl (gJ (e:=1) (k:=1) rfl rfl rfl iW aY (by first|rfl|omega) (by first|omega|(simp only[ls];omega)))) ?_
       refine aj 5 34 rfl (by kernel_rfl) (fun _ _ _ hz Sz=>.inl (U4 rfl rfl av rfl (Sz.suf.ar (i:=1) rfl rfl))) ?_
       refine ai 6 33 rfl (by kernel_rfl) (fun _=>iT rfl rfl rfl) ?_
       refine ai 7 32 rfl (by kernel_rfl) (fun _=>iU rfl rfl rfl) ?_
       refine ai 8 31 rfl (by kernel_rfl) (fun _=>run_move rfl rfl) ?_
       refine kj (t:=76) rfl (fun amP=>?_) (fun amP=>?_)
       ·refine Ur (i:=9) (d:=77) 30 rfl (by kernel_rfl) (by kernel_rfl) (by kernel_rfl) ⟨_,_,_,rfl,rfl,rfl,rfl⟩ rfl rfl ?_
        refine Ur (i:=10) (d:=78) 29 rfl (by kernel_rfl) (by kernel_rfl) (by kernel_rfl) ⟨_,_,_,rfl,rfl,rfl,rfl⟩ rfl rfl ?_
        refine Ur (i:=11) (d:=79) 28 rfl (by kernel_rfl) (by kernel_rfl) (by kernel_rfl) ⟨_,_,_,rfl,rfl,rfl,rfl⟩ rfl rfl ?_
        refine ai 12 27 rfl (by kernel_rfl) (fun _=>fL rfl rfl rfl) ?_
        refine ai 13 26 rfl (by kernel_rfl) (fun _=>run_move rfl rfl) ?_
        refine Ur (i:=14) (d:=82) 25 rfl (by kernel_rfl) (by kernel_rfl) (by kernel_rfl) ⟨_,_,_,rfl,rfl,rfl,rfl⟩ rfl rfl ?_
        refine Ur (i:=15) (d:=83) 24 rfl (by kernel_rfl) (by kernel_rfl) (by kernel_rfl) ⟨_,_,_,rfl,rfl,rfl,rfl⟩ rfl rfl ?_
        refine Ur (i:=16) (d:=84) 23 rfl (by kernel_rfl) (by kernel_rfl) (by kernel_rfl) ⟨_,_,_,rfl,rfl,rfl,rfl⟩ rfl rfl ?_
        refine Ur (i:=17) (d:=85) 22 rfl (by kernel_rfl) (by kernel_rfl) (by kernel_rfl) ⟨_,_,_,rfl,rfl,rfl,rfl⟩ rfl rfl ?_
        refine Ur (i:=18) (d:=86) 21 rfl (by kernel_rfl) (by kernel_rfl) (by kernel_rfl) ⟨_,_,_,rfl,rfl,rfl,rfl⟩ rfl rfl ?_
        refine Ur (i:=19) (d:=87) 20 rfl (by kernel_rfl) (by kernel_rfl) (by kernel_rfl) ⟨_,_,_,rfl,rfl,rfl,rfl⟩ rfl rfl ?_
        refine Ur (i:=20) (d:=88) 19 rfl (by kernel_rfl) (by kernel_rfl) (by kernel_rfl) ⟨_,_,_,rfl,rfl,rfl,rfl⟩ rfl rfl ?_
        refine ai 21 18 rfl (by kernel_rfl) (fun _=>fL rfl rfl rfl) ?_
        refine ai 22 17 rfl (by kernel_rfl) (fun _=>run_move rfl rfl) ?_
        refine Ur (i:=23) (d:=91) 16 rfl (by kernel_rfl) (by kernel_rfl) (by kernel_rfl) ⟨_,_,_,rfl,rfl,rfl,rfl⟩ rfl rfl ?_
        refine Ur (i:=24) (d:=92) 15 rfl (by kernel_rfl) (by kernel_rfl) (by kernel_rfl) ⟨_,_,_,rfl,rfl,rfl,rfl⟩ rfl rfl ?_
        refine Ur (i:=25) (d:=93) 14 rfl (by kernel_rfl) (by kernel_rfl) (by kernel_rfl) ⟨_,_,_,rfl,rfl,rfl,rfl⟩ rfl rfl ?_
        refine Ur (i:=26) (d:=94) 13 rfl (by kernel_rfl) (by kernel_rfl) (by kernel_rfl) ⟨_,_,_,rfl,rfl,rfl,rfl⟩ rfl rfl ?_
        refine Ur (i:=27) (d:=95) 12 rfl (by kernel_rfl) (by kernel_rfl) (by kernel_rfl) ⟨_,_,_,rfl,rfl,rfl,rfl⟩ rfl rfl ?_
        refine Ur (i:=28) (d:=96) 11 rfl (by kernel_rfl) (by kernel_rfl) (by kernel_rfl) ⟨_,_,_,rfl,rfl,rfl,rfl⟩ rfl rfl ?_
        refine Ur (i:=29) (d:=97) 10 rfl (by kernel_rfl) (by kernel_rfl) (by kernel_rfl) ⟨_,_,_,rfl,rfl,rfl,rfl⟩ rfl rfl ?_
        refine ai 30 9 rfl (by kernel_rfl) (fun _=>fL rfl rfl rfl) ?_
        refine ai 31 8 rfl (by kernel_rfl) (fun _=>run_move rfl rfl) ?_
        refine Ur (i:=32) (d:=100) 7 rfl (by kernel_rfl) (by kernel_rfl) (by kernel_rfl) ⟨_,_,_,rfl,rfl,rfl,rfl⟩ rfl rfl ?_
        refine Ur (i:=33) (d:=101) 6 rfl (by kernel_rfl) (by kernel_rfl) (by kernel_rfl) ⟨_,_,_,rfl,rfl,rfl,rfl⟩ rfl rfl ?_
        refine Ur (i:=34) (d:=102) 5 rfl (by kernel_rfl) (by kernel_rfl) (by kernel_rfl) ⟨_,_,_,rfl,rfl,rfl,rfl⟩ rfl rfl ?_
        refine Ur (i:=35) (d:=103) 4 rfl (by kernel_rfl) (by kernel_rfl) (by kernel_rfl) ⟨_,_,_,rfl,rfl,rfl,rfl⟩ rfl rfl ?_
        refine Ur (i:=36) (d:=104) 3 rfl (by kernel_rfl) (by kernel_rfl) (by kernel_rfl) ⟨_,_,_,rfl,rfl,rfl,rfl⟩ rfl rfl ?_
        refine Ur (i:=37) (d:=105) 2 rfl (by kernel_rfl) (by kernel_rfl) (by kernel_rfl) ⟨_,_,_,rfl,rfl,rfl,rfl⟩ rfl rfl ?_
        refine Ur (i:=38) (d:=106) 1 rfl (by kernel_rfl) (by kernel_rfl) (by kernel_rfl) ⟨_,_,_,rfl,rfl,rfl,rfl⟩ rfl rfl ?_
        refine ai 39 0 rfl (by kernel_rfl) (fun _=>fL rfl rfl rfl) ?_
        refine Uu (by kernel_rfl) (fun w73 rV=>?_)
        refine ah [2,4,7,107] rfl (U3 (fM qY rfl rfl rfl (U2 ve u7 rfl rfl rfl (U0 rfl (af 0 rfl (run_build (l:=[_,_]) rfl rfl cJ rfl rfl) (ak 1 2 rfl rfl rfl (U7 (i:=2) (us:=[_,_]) (l':=[_,_]) (H':=[_,_,_,_]) rfl rfl rV rfl rfl rfl rfl az rfl rfl rfl rfl ?_)))))))
        intro N5 nU;clear rV
        refine ag 2 1 rfl rfl (U5 rfl (ah [4,5] rfl (U3 (Uj hC [_,_] rfl rfl ⟨⟨_,rfl,Um (us:=[_,_]) ay rfl az (nU.ax (i:=2) rfl ⟨rfl,rfl,trivial⟩)⟩,rfl,trivial⟩ ?_))))
        refine⟨_,rfl,_,aL,(nU.pick [] [] (by decide) trivial),?_⟩
        rw[eH (c:=8) (by unfold gF;rw[if_pos fR,if_neg (by first|(unfold j6;rw[decide_eq_true_iff];omega)|(rw[rQ hab jJ (by omega),decide_eq_true_iff];omega))]) (by decide)]
        exact dU 8
       ·refine aj 9 30 rfl (by kernel_rfl) (fun _ _ _ hz Sz=>.inl (gJ (e:=2) (k:=1) rfl rfl rfl iW aY (by first|rfl|omega) (by first|omega|(simp only[ls];omega)))) ?_
        refine aj 10 29 rfl (by kernel_rfl) (fun _ _ _ hz Sz=>.inl (U4 rfl rfl av rfl (Sz.suf.ar (i:=1) rfl rfl))) ?_
        refine ai 11 28 rfl (by kernel_rfl) (fun _=>iT rfl rfl rfl) ?_
        refine ai 12 27 rfl (by kernel_rfl) (fun _=>iU rfl rfl rfl) ?_
        refine ai 13 26 rfl (by kernel_rfl) (fun _=>run_move rfl rfl) ?_
        refine kj (t:=81) rfl (fun GG=>?_) (fun GG=>?_)
        ·refine Ur (i:=14) (d:=82) 25 rfl (by kernel_rfl) (by kernel_rfl) (by kernel_rfl) ⟨_,_,_,rfl,rfl,rfl,rfl⟩ rfl rfl ?_
         refine Ur (i:=15) (d:=83) 24 rfl (by kernel_rfl) (by kernel_rfl) (by kernel_rfl) ⟨_,_,_,rfl,rfl,rfl,rfl⟩ rfl rfl ?_
         refine Ur (i:=16) (d:=84) 23 rfl (by kernel_rfl) (by kernel_rfl) (by kernel_rfl) ⟨_,_,_,rfl,rfl,rfl,rfl⟩ rfl rfl ?_
         refine Ur (i:=17) (d:=85) 22 rfl (by kernel_rfl) (by kernel_rfl) (by kernel_rfl) ⟨_,_,_,rfl,rfl,rfl,rfl⟩ rfl rfl ?_
         refine Ur (i:=18) (d:=86) 21 rfl (by kernel_rfl) (by kernel_rfl) (by kernel_rfl) ⟨_,_,_,rfl,rfl,rfl,rfl⟩ rfl rfl ?_
         refine Ur (i:=19) (d:=87) 20 rfl (by kernel_rfl) (by kernel_rfl) (by kernel_rfl) ⟨_,_,_,rfl,rfl,rfl,rfl⟩ rfl rfl ?_
         refine Ur (i:=20) (d:=88) 19 rfl (by kernel_rfl) (by kernel_rfl) (by kernel_rfl) ⟨_,_,_,rfl,rfl,rfl,rfl⟩ rfl rfl ?_
         refine ai 21 18 rfl (by kernel_rfl) (fun _=>fL rfl rfl rfl) ?_
         refine ai 22 17 rfl (by kernel_rfl) (fun _=>run_move rfl rfl) ?_
         refine Ur (i:=23) (d:=91) 16 rfl (by kernel_rfl) (by kernel_rfl) (by kernel_rfl) ⟨_,_,_,rfl,rfl,rfl,rfl⟩ rfl rfl ?_
         refine Ur (i:=24) (d:=92) 15 rfl (by kernel_rfl) (by kernel_rfl) (by kernel_rfl) ⟨_,_,_,rfl,rfl,rfl,rfl⟩ rfl rfl ?_
         refine Ur (i:=25) (d:=93) 14 rfl (by kernel_rfl) (by kernel_rfl) (by kernel_rfl) ⟨_,_,_,rfl,rfl,rfl,rfl⟩ rfl rfl ?_
         refine Ur (i:=26) (d:=94) 13 rfl (by kernel_rfl) (by kernel_rfl) (by kernel_rfl) ⟨_,_,_,rfl,rfl,rfl,rfl⟩ rfl rfl ?_
         refine Ur (i:=27) (d:=95) 12 rfl (by kernel_rfl) (by kernel_rfl) (by kernel_rfl) ⟨_,_,_,rfl,rfl,rfl,rfl⟩ rfl rfl ?_
         refine Ur (i:=28) (d:=96) 11 rfl (by kernel_rfl) (by kernel_rfl) (by kernel_rfl) ⟨_,_,_,rfl,rfl,rfl,rfl⟩ rfl rfl ?_
         refine Ur (i:=29) (d:=97) 10 rfl (by kernel_rfl) (by kernel_rfl) (by kernel_rfl) ⟨_,_,_,rfl,rfl,rfl,rfl⟩ rfl rfl ?_
         refine ai 30 9 rfl (by kernel_rfl) (fun _=>fL rfl rfl rfl) ?_
         refine ai 31 8 rfl (by kernel_rfl) (fun _=>run_move rfl rfl) ?_
         refine Ur (i:=32) (d:=100) 7 rfl (by kernel_rfl) (by kernel_rfl) (by kernel_rfl) ⟨_,_,_,rfl,rfl,rfl,rfl⟩ rfl rfl ?_
         refine Ur (i:=33) (d:=101) 6 rfl (by kernel_rfl) (by kernel_rfl) (by kernel_rfl) ⟨_,_,_,rfl,rfl,rfl,rfl⟩ rfl rfl ?_
         refine Ur (i:=34) (d:=102) 5 rfl (by kernel_rfl) (by kernel_rfl) (by kernel_rfl) ⟨_,_,_,rfl,rfl,rfl,rfl⟩ rfl rfl ?_
         refine Ur (i:=35) (d:=103) 4 rfl (by kernel_rfl) (by kernel_rfl) (by kernel_rfl) ⟨_,_,_,rfl,rfl,rfl,rfl⟩ rfl rfl ?_
         refine Ur (i:=36) (d:=104) 3 rfl (by kernel_rfl) (by kernel_rfl) (by kernel_rfl) ⟨_,_,_,rfl,rfl,rfl,rfl⟩ rfl rfl ?_
         refine Ur (i:=37) (d:=105) 2 rfl (by kernel_rfl) (by kernel_rfl) (by kernel_rfl) ⟨_,_,_,rfl,rfl,rfl,rfl⟩ rfl rfl ?_
         refine Ur (i:=38) (d:=106) 1 rfl (by kernel_rfl) (by kernel_rfl) (by kernel_rfl) ⟨_,_,_,rfl,rfl,rfl,rfl⟩ rfl rfl ?_
         refine ai 39 0 rfl (by kernel_rfl) (fun _=>fL rfl rfl rfl) ?_
         refine Uu (by kernel_rfl) (fun w85 wF=>?_)
         refine ah [2,4,7,107] rfl (U3 (fM qY rfl rfl rfl (U2 ve u7 rfl rfl rfl (U0 rfl (af 0 rfl (run_build (l:=[_,_]) rfl rfl cJ rfl rfl) (ak 1 2 rfl rfl rfl (U7 (i:=2) (us:=[_,_]) (l':=[_,_]) (H':=[_,_,_,_]) rfl rfl wF rfl rfl rfl rfl az rfl rfl rfl rfl ?_)))))))
         intro w86 na;clear wF
         refine ag 2 1 rfl rfl (U5 rfl (ah [4,5] rfl (U3 (Uj hC [_,_] rfl rfl ⟨⟨_,rfl,Um (us:=[_,_]) ay rfl az (na.ax (i:=2) rfl ⟨rfl,rfl,trivial⟩)⟩,rfl,trivial⟩ ?_))))
         refine⟨_,rfl,_,aL,(na.pick [] [] (by decide) trivial),?_⟩
         rw[eH (c:=8) (by unfold gF;rw[if_pos fR,if_neg (by first|(unfold j6;rw[decide_eq_true_iff];omega)|(rw[rQ hab jJ (by omega),decide_eq_true_iff];omega))]) (by decide)]
         exact dU 8
        ·refine ai 14 25 rfl (by kernel_rfl) (fun _=>run_move rfl rfl) ?_
         refine aj 15 24 rfl (by kernel_rfl) (fun _ _ _ hz Sz=>.inl (Ui (C:=Uv) (i:=0) 0 rfl rfl rfl bw Sz.suf rfl (by first|rfl|omega) (by first|omega|(simp only[ls];omega)))) ?_
         refine aj 16 23 rfl (by kernel_rfl) (fun _ _ _ hz Sz=>.inl (U4 rfl rfl av rfl (Sz.suf.dv (i:=0) (e:=0) (j:=0) rfl (by first|omega|(simp only[ls];omega)) rfl rfl))) ?_
         refine ai 17 22 rfl (by kernel_rfl) (fun _=>run_move rfl rfl) ?_
         refine aj 18 21 rfl (by kernel_rfl) (fun _ _ _ hz Sz=>.inl (Ui (C:=Uv) (i:=0) 1 rfl rfl rfl bw Sz.suf rfl (by first|rfl|omega) (by first|omega|(simp only[ls];omega)))) ?_
         refine aj 19 20 rfl (by kernel_rfl) (fun _ _ _ hz Sz=>.inl (U4 rfl rfl av rfl (Sz.suf.dv (i:=0) (e:=1) (j:=0) rfl (by first|omega|(simp only[ls];omega)) rfl rfl))) ?_
         refine ai 20 19 rfl (by kernel_rfl) (fun _=>bP rfl rfl rfl) ?_
         refine ai 21 18 rfl (by kernel_rfl) (fun _=>iU rfl rfl rfl) ?_
         refine ai 22 17 rfl (by kernel_rfl) (fun _=>run_move rfl rfl) ?_
         refine kj (t:=90) rfl (fun amN=>?_) (fun amN=>?_)
         ·refine Ur (i:=23) (d:=91) 16 rfl (by kernel_rfl) (by kernel_rfl) (by kernel_rfl) ⟨_,_,_,rfl,rfl,rfl,rfl⟩ rfl rfl ?_
          refine Ur (i:=24) (d:=92) 15 rfl (by kernel_rfl) (by kernel_rfl) (by kernel_rfl) ⟨_,_,_,rfl,rfl,rfl,rfl⟩ rfl rfl ?_
          refine Ur (i:=25) (d:=93) 14 rfl (by kernel_rfl) (by kernel_rfl) (by kernel_rfl) ⟨_,_,_,rfl,rfl,rfl,rfl⟩ rfl rfl ?_
          refine Ur (i:=26) (d:=94) 13 rfl (by kernel_rfl) (by kernel_rfl) (by kernel_rfl) ⟨_,_,_,rfl,rfl,rfl,rfl⟩ rfl rfl ?_
          refine Ur (i:=27) (d:=95) 12 rfl (by kernel_rfl) (by kernel_rfl) (by kernel_rfl) ⟨_,_,_,rfl,rfl,rfl,rfl⟩ rfl rfl ?_
          refine Ur (i:=28) (d:=96) 11 rfl (by kernel_rfl) (by kernel_rfl) (by kernel_rfl) ⟨_,_,_,rfl,rfl,rfl,rfl⟩ rfl rfl ?_
          refine Ur (i:=29) (d:=97) 10 rfl (by kernel_rfl) (by kernel_rfl) (by kernel_rfl) ⟨_,_,_,rfl,rfl,rfl,rfl⟩ rfl rfl ?_
          refine ai 30 9 rfl (by kernel_rfl) (fun _=>fL rfl rfl rfl) ?_
          refine ai 31 8 rfl (by kernel_rfl) (fun _=>run_move rfl rfl) ?_
          refine Ur (i:=32) (d:=100) 7 rfl (by kernel_rfl) (by kernel_rfl) (by kernel_rfl) ⟨_,_,_,rfl,rfl,rfl,rfl⟩ rfl rfl ?_
          refine Ur (i:=33) (d:=101) 6 rfl (by kernel_rfl) (by kernel_rfl) (by kernel_rfl) ⟨_,_,_,rfl,rfl,rfl,rfl⟩ rfl rfl ?_
          refine Ur (i:=34) (d:=102) 5 rfl (by kernel_rfl) (by kernel_rfl) (by kernel_rfl) ⟨_,_,_,rfl,rfl,rfl,rfl⟩ rfl rfl ?_
          refine Ur (i:=35) (d:=103) 4 rfl (by kernel_rfl) (by kernel_rfl) (by kernel_rfl) ⟨_,_,_,rfl,rfl,rfl,rfl⟩ rfl rfl ?_
          refine Ur (i:=36) (d:=104) 3 rfl (by kernel_rfl) (by kernel_rfl) (by kernel_rfl) ⟨_,_,_,rfl,rfl,rfl,rfl⟩ rfl rfl ?_
          refine Ur (i:=37) (d:=105) 2 rfl (by kernel_rfl) (by kernel_rfl) (by kernel_rfl) ⟨_,_,_,rfl,rfl,rfl,rfl⟩ rfl rfl ?_
          refine Ur (i:=38) (d:=106) 1 rfl (by kernel_rfl) (by kernel_rfl) (by kernel_rfl) ⟨_,_,_,rfl,rfl,rfl,rfl⟩ rfl rfl ?_
          refine ai 39 0 rfl (by kernel_rfl) (fun _=>fL rfl rfl rfl) ?_
          refine Uu (by kernel_rfl) (fun w99 pS=>?_)
          refine ah [2,4,7,107] rfl (U3 (fM qY rfl rfl rfl (U2 ve u7 rfl rfl rfl (U0 rfl (af 0 rfl (run_build (l:=[_,_]) rfl rfl cJ rfl rfl) (ak 1 2 rfl rfl rfl (U7 (i:=2) (us:=[_,_]) (l':=[_,_]) (H':=[_,_,_,_]) rfl rfl pS rfl rfl rfl rfl az rfl rfl rfl rfl ?_)))))))
          intro ac8 tJ;clear pS
          refine ag 2 1 rfl rfl (U5 rfl (ah [4,5] rfl (U3 (Uj hC [_,_] rfl rfl ⟨⟨_,rfl,Um (us:=[_,_]) ay rfl az (tJ.ax (i:=2) rfl ⟨rfl,rfl,trivial⟩)⟩,rfl,trivial⟩ ?_))))
          refine⟨_,rfl,_,aL,(tJ.pick [] [] (by decide) trivial),?_⟩
          rw[eH (c:=8) (by unfold gF;rw[if_pos fR,if_neg (by first|(unfold j6;rw[decide_eq_true_iff];omega)|(rw[rQ hab jJ (by omega),decide_eq_true_iff];omega))]) (by decide)]
          exact dU 8
         ·refine ai 23 16 rfl (by kernel_rfl) (fun _=>run_move rfl rfl) ?_
          refine aj 24 15 rfl (by kernel_rfl) (fun _ _ _ hz Sz=>.inl (Ui (C:=Uv) (i:=0) 0 rfl rfl rfl bw Sz.suf rfl (by first|rfl|omega) (by first|omega|(simp only[ls];omega)))) ?_
          refine aj 25 14 rfl (by kernel_rfl) (fun _ _ _ hz Sz=>.inl (U4 rfl rfl av rfl (Sz.suf.dv (i:=0) (e:=0) (j:=0) rfl (by first|omega|(simp only[ls];omega)) rfl rfl))) ?_
          refine ai 26 13 rfl (by kernel_rfl) (fun _=>run_move rfl rfl) ?_
          refine aj 27 12 rfl (by kernel_rfl) (fun _ _ _ hz Sz=>.inl (Ui (C:=Uv) (i:=0) 2 rfl rfl rfl bw Sz.suf rfl (by first|rfl|omega) (by first|omega|(simp only[ls];omega)))) ?_
          refine aj 28 11 rfl (by kernel_rfl) (fun _ _ _ hz Sz=>.inl (U4 rfl rfl av rfl (Sz.suf.dv (i:=0) (e:=2) (j:=0) rfl (by first|omega|(simp only[ls];omega)) rfl rfl))) ?_
          refine ai 29 10 rfl (by kernel_rfl) (fun _=>bP rfl rfl rfl) ?_
          refine ai 30 9 rfl (by kernel_rfl) (fun _=>iU rfl rfl rfl) ?_
          refine ai 31 8 rfl (by kernel_rfl) (fun _=>run_move rfl rfl) ?_
          refine kj (t:=99) rfl (fun amM=>?_) (fun amM=>?_)
          ·refine Ur (i:=32) (d:=100) 7 rfl (by kernel_rfl) (by kernel_rfl) (by kernel_rfl) ⟨_,_,_,rfl,rfl,rfl,rfl⟩ rfl rfl ?_
           refine Ur (i:=33) (d:=101) 6 rfl (by kernel_rfl) (by kernel_rfl) (by kernel_rfl) ⟨_,_,_,rfl,rfl,rfl,rfl⟩ rfl rfl ?_
           refine Ur (i:=34) (d:=102) 5 rfl (by kernel_rfl) (by kernel_rfl) (by kernel_rfl) ⟨_,_,_,rfl,rfl,rfl,rfl⟩ rfl rfl ?_
           refine Ur (i:=35) (d:=103) 4 rfl (by kernel_rfl) (by kernel_rfl) (by kernel_rfl) ⟨_,_,_,rfl,rfl,rfl,rfl⟩ rfl rfl ?_
           refine Ur (i:=36) (d:=104) 3 rfl (by kernel_rfl) (by kernel_rfl) (by kernel_rfl) ⟨_,_,_,rfl,rfl,rfl,rfl⟩ rfl rfl ?_
           refine Ur (i:=37) (d:=105) 2 rfl (by kernel_rfl) (by kernel_rfl) (by kernel_rfl) ⟨_,_,_,rfl,rfl,rfl,rfl⟩ rfl rfl ?_
           refine Ur (i:=38) (d:=106) 1 rfl (by kernel_rfl) (by kernel_rfl) (by kernel_rfl) ⟨_,_,_,rfl,rfl,rfl,rfl⟩ rfl rfl ?_
           refine ai 39 0 rfl (by kernel_rfl) (fun _=>fL rfl rfl rfl) ?_
           refine Uu (by kernel_rfl) (fun ac7 lu=>?_)
           refine ah [2,4,7,107] rfl (U3 (fM qY rfl rfl rfl (U2 ve u7 rfl rfl rfl (U0 rfl (af 0 rfl (run_build (l:=[_,_]) rfl rfl cJ rfl rfl) (ak 1 2 rfl rfl rfl (U7 (i:=2) (us:=[_,_]) (l':=[_,_]) (H':=[_,_,_,_]) rfl rfl lu rfl rfl rfl rfl az rfl rfl rfl rfl ?_)))))))
           intro ac6 rA;clear lu
           refine ag 2 1 rfl rfl (U5 rfl (ah [4,5] rfl (U3 (Uj hC [_,_] rfl rfl ⟨⟨_,rfl,Um (us:=[_,_]) ay rfl az (rA.ax (i:=2) rfl ⟨rfl,rfl,trivial⟩)⟩,rfl,trivial⟩ ?_))))
           refine⟨_,rfl,_,aL,(rA.pick [] [] (by decide) trivial),?_⟩
           rw[eH (c:=8) (by unfold gF;rw[if_pos fR,if_neg (by first|(unfold j6;rw[decide_eq_true_iff];omega)|(rw[rQ hab jJ (by omega),decide_eq_true_iff];omega))]) (by decide)]
           exact dU 8
          ·refine ai 32 7 rfl (by kernel_rfl) (fun _=>run_move rfl rfl) ?_
           refine aj 33 6 rfl (by kernel_rfl) (fun _ _ _ hz Sz=>.inl (Ui (C:=Uv) (i:=0) 1 rfl rfl rfl bw Sz.suf rfl (by first|rfl|omega) (by first|omega|(simp only[ls];omega)))) ?_
           refine aj 34 5 rfl (by kernel_rfl) (fun _ _ _ hz Sz=>.inl (U4 rfl rfl av rfl (Sz.suf.dv (i:=0) (e:=1) (j:=0) rfl (by first|omega|(simp only[ls];omega)) rfl rfl))) ?_
           refine ai 35 4 rfl (by kernel_rfl) (fun _=>run_move rfl rfl) ?_
           refine aj 36 3 rfl (by kernel_rfl) (fun _ _ _ hz Sz=>.inl (Ui (C:=Uv) (i:=0) 2 rfl rfl rfl bw Sz.suf rfl (by first|rfl|omega) (by first|omega|(simp only[ls];omega)))) ?_
           refine aj 37 2 rfl (by kernel_rfl) (fun _ _ _ hz Sz=>.inl (U4 rfl rfl av rfl (Sz.suf.dv (i:=0) (e:=2) (j:=0) rfl (by first|omega|(simp only[ls];omega)) rfl rfl))) ?_
           refine ai 38 1 rfl (by kernel_rfl) (fun _=>bP rfl rfl rfl) ?_
           refine ai 39 0 rfl (by kernel_rfl) (fun _=>iU rfl rfl rfl) ?_
           refine Uu (by kernel_rfl) (fun avg tI=>?_)
           refine ah [2,4,7,107] rfl (U3 ?_)
           refine Ue qY aph rfl rfl rfl rfl (fun gT=>?_) (fun gT=>?_)
           ·refine U2 ve u7 rfl rfl rfl (U0 rfl (af 0 rfl (run_build (l:=[_,_]) rfl rfl cJ rfl rfl) (ak 1 2 rfl rfl rfl (U7 (i:=2) (us:=[_,_]) (l':=[_,_]) (H':=[_,_,_,_]) rfl rfl tI rfl rfl rfl rfl az rfl rfl rfl rfl ?_))))
            intro avf yN;clear tI
            refine ag 2 1 rfl rfl (U5 rfl (ah [4,5] rfl (U3 (Uj hC [_,_] rfl rfl ⟨⟨_,rfl,Um (us:=[_,_]) ay rfl az (yN.ax (i:=2) rfl ⟨rfl,rfl,trivial⟩)⟩,rfl,trivial⟩ ?_))))
            refine⟨_,rfl,_,aL,(yN.pick [] [] (by decide) trivial),?_⟩
            rw[eH (c:=8) (by unfold gF;rw[if_pos fR,if_neg (by first|(unfold j6;rw[decide_eq_true_iff];omega)|(rw[rQ hab jJ (by omega),decide_eq_true_iff];omega))]) (by decide)]
            exact dU 8
           ·refine Uf rfl (ah [2,4,7] rfl (U3 (U2 apg Jk rfl rfl rfl (U0 rfl (af 0 rfl (U8 (us:=[_,_]) rfl rfl ay rfl az (tI.ax (i:=3) rfl ⟨rfl,rfl,trivial⟩)) (ak 1 2 rfl rfl rfl (uO rfl rfl rfl rfl rfl rfl rfl zC tI (Aw d (aC.mono tI.Uw) tI.aD) ?_)))))))
            intro at5 alZ aup pR ajw;clear tI
            obtain⟨mI,rfl,rfl⟩:=ajw
            have yM:SH _ _ _ [_,_,_,_,_]:=pR;clear pR
            refine ak 2 3 rfl rfl rfl (Uh (l:=[_,_]) rfl rfl rfl fQ rfl yM ?_)
            intro iq alY rz;clear yM
            refine ak 3 4 rfl rfl rfl (U7 (i:=0) (us:=[_,_]) (l':=[_,_]) (H':=[_,_,_,_,_,_]) rfl rfl rz rfl rfl rfl rfl az rfl (Uy (rz.one (i:=1) rfl) (Uy rfl rfl)) rfl rfl ?_)
            intro ave pQ;clear rz
            refine U5 rfl (ah [2,4,7,11] rfl (U3 (U2 Jj Ji rfl rfl rfl (U2 apf aet rfl rfl rfl (U0 rfl (ag 0 1 rfl rfl (U5 rfl (U3 ?_))))))))
            refine Uc aes 2 rfl rfl rfl ?_
            refine Uz (fun aS au aM=>∃(k2:Nat) (xs:List Cr),aS=3-k2/\Env 161 [(2,.pointer (some ⟨aI,0,none⟩)),(4,.pointer (some ⟨aQ,0,none⟩)),(7,.slice ((ga vs1 m.at_.toNat).A) (ga (U6 d) m.at_.toNat).length ((ga vs1 m.at_.toNat).c)),(11,.pointer (some ⟨iq,0,none⟩)),(12,.int .i64 (k2:Int))] au/\SH aM M1 X [Rs.box iq 24 [mI,.int .i64 d.loops],Rs.row aG mI xs,Rs.box aQ 24 [.slice none 0 0,.int .i64 0],Rs.box aI 24 [.slice aV d.ae.length aU,.int .i64 d.loops]]/\k2<=3/\xs=docN d (ga (U6 d) m.at_.toNat) k2) rfl ?_ ?_
            ·intro au aq
             refine⟨_,⟨0,d.ae,rfl,aq.sub ⟨rfl,rfl,rfl,rfl,rfl,trivial⟩,pQ.pick [0,1,4,5] [_,_,_,_] (by decide) ⟨rfl,rfl,rfl,rfl,trivial⟩,?dO,?gh⟩⟩
             case dO=>omega
             case gh=>rfl
            ·rintro m2 a2 avd ⟨k2,xs,rfl,cx,iE,hk2,hxs⟩
             clear pQ
             refine b7 cx (c:=Jh) rfl ?_
             clear cx a2
             have hxl:xs.length=d.ae.length:=by rw[hxs];exact abk _ _ _
             refine U2 Jg Jf rfl rfl rfl (U2 ape Je rfl rfl rfl (U0 rfl (ag 0 1 rfl rfl (af 1 rfl (bV rfl rfl rfl) (U5 rfl (ah [2,4,7,11,12,112] rfl (U3 ?_)))))))
             refine Ue apd apc rfl rfl rfl rfl (fun pd=>?_) (fun pd=>?_)
             ·refine Uf rfl (ah [2,4,7,11,12] rfl (U3 (U2 aer apb rfl rfl rfl (Uc Jd 3 rfl rfl rfl (U2 apa Jc rfl rfl rfl ?_)))))
              have ho2:okD d (ga (ga (U6 d) m.at_.toNat) k2):=hok _ (gZ (by omega))
              obtain⟨ht1,ht2,_⟩:=fe hab ho2 true
              obtain⟨Du,hf2,_⟩:=fe hab ho2 false
              refine U0 rfl (ag 0 2 rfl rfl (af 2 rfl (Uk (C:=bW) k2 rfl rfl rfl gM (by first|rfl|omega) hr2 (by first|omega|(simp only[ls];omega))) ?_))
              refine af 3 rfl (U1 rfl rfl aZ rfl (aB) (aA)) (af 4 rfl (U4 rfl rfl av rfl (hr2.cell iE.m (i:=k2) (by first|omega|(simp only[ls];omega)) 0 rfl rfl)) ?_)
              refine ag 5 1 rfl rfl (U5 rfl (ah [2,4,7,11,12,13] rfl (U3 (U2 ao9 Jb rfl rfl rfl ?_))))
              refine mA (fun au aM=>∃(zB:Nat) (zA:Nat),Env 161 [(2,.pointer (some ⟨aI,0,none⟩)),(4,.pointer (some ⟨aQ,0,none⟩)),(7,.slice ((ga vs1 m.at_.toNat).A) (ga (U6 d) m.at_.toNat).length ((ga vs1 m.at_.toNat).c)),(11,.pointer (some ⟨iq,0,none⟩)),(12,.int .i64 (k2:Int)),(13,.int .i64 ((ga (ga (U6 d) m.at_.toNat) k2).a)),(14,.pointer (some ⟨zB,0,none⟩)),(15,.pointer (some ⟨zA,0,none⟩))] au/\SH aM M1 X [Rs.box zB 120 [.int .i64 ((Ud d (ga (ga (U6 d) m.at_.toNat) k2).a true).1:Int),.int .i64 ((Ud d (ga (ga (U6 d) m.at_.toNat) k2).a true).2:Int)],Rs.box zA 120 [.int .i64 ((Ud d (ga (ga (U6 d) m.at_.toNat) k2).a false).1:Int),.int .i64 ((Ud d (ga (ga (U6 d) m.at_.toNat) k2).a false).2:Int)],Rs.box iq 24 [mI,.int .i64 d.loops],Rs.row aG mI xs,Rs.box aQ 24 [.slice none 0 0,.int .i64 0],Rs.box aI 24 [.slice aV d.ae.length aU,.int .i64 d.loops]]) ?_ ?_
              ·refine Ux rfl (by kernel_rfl) iE 10 rfl ?_
               clear iE
               refine aj 0 9 rfl (by kernel_rfl) (fun _ _ _ hz Sz=>.inl (U8 (us:=[_,_]) rfl rfl ay rfl az (Sz.suf.ax (i:=3) rfl ⟨rfl,rfl,trivial⟩))) ?_
               refine ai 1 8 rfl (by kernel_rfl) (fun _=>run_move rfl rfl) ?_
               refine aj 2 7 rfl (by kernel_rfl) (fun _ _ _ hz Sz=>Uq rfl rfl rfl rfl rfl lj Sz (lH d ((ga (ga (U6 d) m.at_.toNat) k2).a) true ((aC.mono (Hp.Ua hz Sz.mx)).mono Sz.Uw) Sz.aD)) ?_
               refine aj 3 6 rfl (by kernel_rfl) (fun _ _ _ hz Sz=>.inl (U8 (us:=[_,_]) rfl rfl ay rfl az (Sz.suf.ax (i:=3) rfl ⟨rfl,rfl,trivial⟩))) ?_
               refine ai 4 5 rfl (by kernel_rfl) (fun _=>run_move rfl rfl) ?_
               refine aj 5 4 rfl (by kernel_rfl) (fun _ _ _ hz Sz=>Uq rfl rfl rfl rfl rfl lj Sz (lH d ((ga (ga (U6 d) m.at_.toNat) k2).a) false ((aC.mono (Hp.Ua hz Sz.mx)).mono Sz.Uw) Sz.aD)) ?_
               refine rZ (i:=6) (j:=7) 3 rfl rfl (by kernel_rfl) rfl rfl rfl rfl (fun Ge rh=>?_) (fun Ge rh=>?_)
               ·refine(Uh (l:=[_,_]) rfl rfl rfl mD rfl rh ?_)
                intro rJ ac4 vF;clear rh
                refine aN.grow [_] (Hp.le_refl _) vF ?_;clear vF
                change WA _ _ _ _ _ _ _ _ _ _ _ _ [_,_,_,_,_]
                refine Un (i:=7) 2 rfl (by kernel_rfl) rfl rfl (fun au7 tH=>?_)
                refine(Uh (l:=[_,_]) rfl rfl rfl mD rfl tH ?_)
                intro rI au6 C3;clear tH
                refine aN.grow [_,_] (Hp.le_refl _) C3 ?_;clear C3
                change WA _ _ _ _ _ _ _ _ _ _ _ _ [_,_,_,_,_,_]
                refine Un (i:=8) 1 rfl (by kernel_rfl) rfl rfl (fun au5 C2=>?_)
                refine(U7 (i:=1) (us:=[_,_]) (l':=[_,_]) (H':=[_,_,_,_,_,_]) rfl rfl C2 rfl rfl rfl rfl fP rfl rfl rfl rfl ?_)
                intro au4 afL;clear C2
                refine aN.grow [_,_] (Hp.le_refl _) afL ?_;clear afL
                change WA _ _ _ _ _ _ _ _ _ _ _ _ [_,_,_,_,_,_]
                refine Un (i:=9) 0 rfl (by kernel_rfl) rfl rfl (fun au3 rf=>?_)
                refine(U7 (i:=0) (us:=[_,_]) (l':=[_,_]) (H':=[_,_,_,_,_,_]) rfl rfl rf rfl rfl rfl rfl fP rfl rfl rfl rfl ?_)
                intro alT ra;clear rf
                refine aN.grow [_,_] (Hp.le_refl _) ra ?_;clear ra
                change WA _ _ _ _ _ _ _ _ _ _ _ _ [_,_,_,_,_,_]
                refine Uu (by kernel_rfl) (fun alS nM=>?_)
                refine aP ?_
                intro au aq
                refine⟨_,_,aq.sub ⟨rfl,rfl,rfl,rfl,rfl,rfl,rfl,rfl,trivial⟩,nM.pick [1,0,2,3,4,5] [_,_,_,_,_,_] (by decide) ⟨rfl,rfl,rfl,rfl,rfl,rfl,trivial⟩⟩
               ·refine(Uh (l:=[_,_]) rfl rfl rfl mD rfl rh ?_)
                intro vW alR q9;clear rh
                refine aN.grow [_] (Hp.le_refl _) q9 ?_;clear q9
                change WA _ _ _ _ _ _ _ _ _ _ _ _ [_,_,_,_,_]
                refine Un (i:=6) 2 rfl (by kernel_rfl) rfl rfl (fun alQ q8=>?_)
                refine(Uh (l:=[_,_]) rfl rfl rfl mD rfl q8 ?_)
                intro vV alP lq;clear q8
                refine aN.grow [_,_] (Hp.le_refl _) lq ?_;clear lq
                change WA _ _ _ _ _ _ _ _ _ _ _ _ [_,_,_,_,_,_]
                refine Un (i:=8) 1 rfl (by kernel_rfl) rfl rfl (fun au1 yI=>?_)
                refine(U7 (i:=0) (us:=[_,_]) (l':=[_,_]) (H':=[_,_,_,_,_,_]) rfl rfl yI rfl rfl rfl rfl fP rfl rfl rfl rfl ?_)
                intro au0 CY;clear yI
                refine aN.grow [_,_] (Hp.le_refl _) CY ?_;clear CY
                change WA _ _ _ _ _ _ _ _ _ _ _ _ [_,_,_,_,_,_]
                refine Un (i:=9) 0 rfl (by kernel_rfl) rfl rfl (fun auZ afJ=>?_)
                refine(U7 (i:=1) (us:=[_,_]) (l':=[_,_]) (H':=[_,_,_,_,_,_]) rfl rfl afJ rfl rfl rfl rfl fP rfl rfl rfl rfl ?_)
                intro auY afI;clear afJ
                refine aN.grow [_,_] (Hp.le_refl _) afI ?_;clear afI
                change WA _ _ _ _ _ _ _ _ _ _ _ _ [_,_,_,_,_,_]
                refine Uu (by kernel_rfl) (fun auX atG=>?_)
                refine aP ?_
                intro au aq
                refine⟨_,_,aq.sub ⟨rfl,rfl,rfl,rfl,rfl,rfl,rfl,rfl,trivial⟩,atG.pick [0,1,2,3,4,5] [_,_,_,_,_,_] (by decide) ⟨rfl,rfl,rfl,rfl,rfl,rfl,trivial⟩⟩
              ·rintro a3 ac5 ⟨zB,zA,fU,pP⟩
               clear iE
               refine mG fU ?_
               clear fU a3
               refine U3 (U2 ao8 Ja rfl rfl rfl ?_)
               refine mA (fun au aM=>∃(O4:Nat) (O5:Nat),Env 161 [(2,.pointer (some ⟨aI,0,none⟩)),(4,.pointer (some ⟨aQ,0,none⟩)),(7,.slice ((ga vs1 m.at_.toNat).A) (ga (U6 d) m.at_.toNat).length ((ga vs1 m.at_.toNat).c)),(11,.pointer (some ⟨iq,0,none⟩)),(12,.int .i64 (k2:Int)),(13,.int .i64 ((ga (ga (U6 d) m.at_.toNat) k2).a)),(14,.pointer (some ⟨zB,0,none⟩)),(15,.pointer (some ⟨zA,0,none⟩)),(16,.pointer (some ⟨O4,0,none⟩)),(17,.pointer (some ⟨O5,0,none⟩))] au/\SH aM M1 X [Rs.box O4 120 [.int .i64 ((Ud d (ga (ga (U6 d) m.at_.toNat) k2).a true).1:Int),.int .i64 ((((Ud d (ga (ga (U6 d) m.at_.toNat) k2).a true).2+2)%4:Nat):Int)],Rs.box O5 120 [.int .i64 ((Ud d (ga (ga (U6 d) m.at_.toNat) k2).a false).1:Int),.int .i64 ((((Ud d (ga (ga (U6 d) m.at_.toNat) k2).a false).2+2)%4:Nat):Int)],Rs.box zB 120 [.int .i64 ((Ud d (ga (ga (U6 d) m.at_.toNat) k2).a true).1:Int),.int .i64 ((Ud d (ga (ga (U6 d) m.at_.toNat) k2).a true).2:Int)],Rs.box zA 120 [.int .i64 ((Ud d (ga (ga (U6 d) m.at_.toNat) k2).a false).1:Int),.int .i64 ((Ud d (ga (ga (U6 d) m.at_.toNat) k2).a false).2:Int)],Rs.box iq 24 [mI,.int .i64 d.loops],Rs.row aG mI xs,Rs.box aQ 24 [.slice none 0 0,.int .i64 0],Rs.box aI 24 [.slice aV d.ae.length aU,.int .i64 d.loops]]) ?_ ?_
               ·refine Ux rfl (by kernel_rfl) pP 18 rfl ?_
                clear pP
                refine ai 0 17 rfl (by kernel_rfl) (fun _=>U1 rfl rfl cN rfl (aB) (aA)) ?_
                refine aj 1 16 rfl (by kernel_rfl) (fun _ _ _ hz Sz=>.inl (U4 rfl rfl av rfl (Sz.suf.ar (i:=0) rfl rfl))) ?_
                refine ai 2 15 rfl (by kernel_rfl) (fun _=>U1 rfl rfl cN rfl (aB) (aA)) ?_
                refine aj 3 14 rfl (by kernel_rfl) (fun _ _ _ hz Sz=>.inl (U4 rfl rfl av rfl (Sz.suf.ar (i:=0) rfl rfl))) ?_
                refine ai 4 13 rfl (by kernel_rfl) (fun _=>Ug rfl rfl rfl (by first|omega|(simp only[ls];omega))) ?_
                refine ai 5 12 rfl (by kernel_rfl) (fun _=>jq rfl rfl rfl (by first|omega|(simp only[ls];omega))) ?_
                refine jz 131 (.int .i64 ((((Ud d (ga (ga (U6 d) m.at_.toNat) k2).a true).2+2)%4:Nat):Int)) rfl (int_eq (by omega)) ?_
                refine aj 6 11 rfl (by kernel_rfl) (fun _ _ _ hz Sz=>.inl (run_build (l:=[_,_]) rfl rfl oa rfl rfl)) ?_
                refine ai 7 10 rfl (by kernel_rfl) (fun _=>U1 rfl rfl cN rfl (aB) (aA)) ?_
                refine aj 8 9 rfl (by kernel_rfl) (fun _ _ _ hz Sz=>.inl (U4 rfl rfl av rfl (Sz.suf.ar (i:=1) rfl rfl))) ?_
                refine ai 9 8 rfl (by kernel_rfl) (fun _=>U1 rfl rfl cN rfl (aB) (aA)) ?_
                refine aj 10 7 rfl (by kernel_rfl) (fun _ _ _ hz Sz=>.inl (U4 rfl rfl av rfl (Sz.suf.ar (i:=1) rfl rfl))) ?_
                refine ai 11 6 rfl (by kernel_rfl) (fun _=>Ug rfl rfl rfl (by first|omega|(simp only[ls];omega))) ?_
                refine ai 12 5 rfl (by kernel_rfl) (fun _=>jq rfl rfl rfl (by first|omega|(simp only[ls];omega))) ?_
                refine jz 138 (.int .i64 ((((Ud d (ga (ga (U6 d) m.at_.toNat) k2).a false).2+2)%4:Nat):Int)) rfl (int_eq (by omega)) ?_
                refine aj 13 4 rfl (by kernel_rfl) (fun _ _ _ hz Sz=>.inl (run_build (l:=[_,_]) rfl rfl oa rfl rfl)) ?_
                refine rZ (i:=14) (j:=15) 3 rfl rfl (by kernel_rfl) rfl rfl rfl rfl (fun ac3 q7=>?_) (fun ac3 q7=>?_)
                ·refine(Uh (l:=[_,_]) rfl rfl rfl mD rfl q7 ?_)
                 intro Hf auS yH;clear q7
                 refine aN.grow [_] (Hp.le_refl _) yH ?_;clear yH
                 change WA _ _ _ _ _ _ _ _ _ _ _ _ [_,_,_,_,_,_,_]
                 refine Un (i:=15) 2 rfl (by kernel_rfl) rfl rfl (fun auR yG=>?_)
                 refine(Uh (l:=[_,_]) rfl rfl rfl mD rfl yG ?_)
                 intro anl auQ yF;clear yG
                 refine aN.grow [_,_] (Hp.le_refl _) yF ?_;clear yF
                 change WA _ _ _ _ _ _ _ _ _ _ _ _ [_,_,_,_,_,_,_,_]
                 refine Un (i:=16) 1 rfl (by kernel_rfl) rfl rfl (fun alO afF=>?_)
                 refine(U7 (i:=1) (us:=[_,_]) (l':=[_,_]) (H':=[_,_,_,_,_,_,_,_]) rfl rfl afF rfl rfl rfl rfl fP rfl rfl rfl rfl ?_)
                 intro alN afE;clear afF
                 refine aN.grow [_,_] (Hp.le_refl _) afE ?_;clear afE
                 change WA _ _ _ _ _ _ _ _ _ _ _ _ [_,_,_,_,_,_,_,_]
                 refine Un (i:=17) 0 rfl (by kernel_rfl) rfl rfl (fun auO afD=>?_)
                 refine(U7 (i:=0) (us:=[_,_]) (l':=[_,_]) (H':=[_,_,_,_,_,_,_,_]) rfl rfl afD rfl rfl rfl rfl fP rfl rfl rfl rfl ?_)
                 intro auN tG;clear afD
                 refine aN.grow [_,_] (Hp.le_refl _) tG ?_;clear tG
                 change WA _ _ _ _ _ _ _ _ _ _ _ _ [_,_,_,_,_,_,_,_]
                 refine Uu (by kernel_rfl) (fun auM CX=>?_)
                 refine aP ?_
                 intro au aq
                 refine⟨_,_,aq.sub ⟨rfl,rfl,rfl,rfl,rfl,rfl,rfl,rfl,rfl,rfl,trivial⟩,CX.pick [1,0,2,3,4,5,6,7] [_,_,_,_,_,_,_,_] (by decide) ⟨rfl,rfl,rfl,rfl,rfl,rfl,rfl,rfl,trivial⟩⟩
                ·refine(Uh (l:=[_,_]) rfl rfl rfl mD rfl q7 ?_)
                 intro He auL yE;clear q7
                 refine aN.grow [_] (Hp.le_refl _) yE ?_;clear yE
                 change WA _ _ _ _ _ _ _ _ _ _ _ _ [_,_,_,_,_,_,_]
                 refine Un (i:=14) 2 rfl (by kernel_rfl) rfl rfl (fun auK afC=>?_)
                 refine(Uh (l:=[_,_]) rfl rfl rfl mD rfl afC ?_)
                 intro ank auJ afB;clear afC
                 refine aN.grow [_,_] (Hp.le_refl _) afB ?_;clear afB
                 change WA _ _ _ _ _ _ _ _ _ _ _ _ [_,_,_,_,_,_,_,_]
                 refine Un (i:=16) 1 rfl (by kernel_rfl) rfl rfl (fun auI afA=>?_)
                 refine(U7 (i:=0) (us:=[_,_]) (l':=[_,_]) (H':=[_,_,_,_,_,_,_,_]) rfl rfl afA rfl rfl rfl rfl fP rfl rfl rfl rfl ?_)
                 intro auH afz;clear afA
                 refine aN.grow [_,_] (Hp.le_refl _) afz ?_;clear afz
                 change WA _ _ _ _ _ _ _ _ _ _ _ _ [_,_,_,_,_,_,_,_]
                 refine Un (i:=17) 0 rfl (by kernel_rfl) rfl rfl (fun auG afy=>?_)
                 refine(U7 (i:=1) (us:=[_,_]) (l':=[_,_]) (H':=[_,_,_,_,_,_,_,_]) rfl rfl afy rfl rfl rfl rfl fP rfl rfl rfl rfl ?_)
                 intro auF afx;clear afy
                 refine aN.grow [_,_] (Hp.le_refl _) afx ?_;clear afx
                 change WA _ _ _ _ _ _ _ _ _ _ _ _ [_,_,_,_,_,_,_,_]
                 refine Uu (by kernel_rfl) (fun auE atE=>?_)
                 refine aP ?_
                 intro au aq
                 refine⟨_,_,aq.sub ⟨rfl,rfl,rfl,rfl,rfl,rfl,rfl,rfl,rfl,rfl,trivial⟩,atE.pick [0,1,2,3,4,5,6,7] [_,_,_,_,_,_,_,_] (by decide) ⟨rfl,rfl,rfl,rfl,rfl,rfl,rfl,rfl,trivial⟩⟩
               ·rintro a4 auW ⟨O4,O5,lC,afH⟩
                clear pP
                refine mG lC ?_
                clear lC a4
                refine U3 (U2 ao7 I9 rfl rfl rfl (Ux rfl (by kernel_rfl) afH 6 rfl ?_))
                clear afH
                refine aj 0 5 rfl (by kernel_rfl) (fun _ _ _ hz Sz=>.inl (U8 (us:=[_,_]) rfl rfl ay rfl az (Sz.suf.ax (i:=4) rfl ⟨rfl,rfl,trivial⟩))) ?_
                refine aj 1 4 rfl (by kernel_rfl) (fun _ _ _ hz Sz=>.inl (U8 (us:=[_,_]) rfl rfl cN rfl fP (Sz.suf.ax (i:=3) rfl ⟨rfl,rfl,trivial⟩))) ?_
                refine aj 2 3 rfl (by kernel_rfl) (fun _ _ _ hz Sz=>.inl (U8 (us:=[_,_]) rfl rfl ay rfl az (Sz.suf.ax (i:=7) rfl ⟨rfl,rfl,trivial⟩))) ?_
                refine aj 3 2 rfl (by kernel_rfl) (fun _ _ _ hz Sz=>.inl (U8 (us:=[_,_]) rfl rfl cN rfl fP (Sz.suf.ax (i:=0) rfl ⟨rfl,rfl,trivial⟩))) ?_
                refine aj 4 1 rfl (by kernel_rfl) (fun _ _ _ hz Sz=>Uq rfl rfl rfl rfl rfl pN Sz (oY d ((Ud d (ga (ga (U6 d) m.at_.toNat) k2).a true).1) (((Ud d (ga (ga (U6 d) m.at_.toNat) k2).a true).2+2)%4) ((aC.mono (Hp.Ua hz Sz.mx)).mono Sz.Uw) (by omega) (by omega) Sz.aD)) ?_
                refine Un (i:=5) 0 rfl (by kernel_rfl) rfl rfl (fun auD afw=>?_)
                have afv:=afw.pick [5,0,1,2,3,4,6,7] [_,_,_,_,_,_,_,_] (by decide) ⟨rfl,rfl,rfl,rfl,rfl,rfl,rfl,rfl,trivial⟩;clear afw
                have CW:SH _ _ _ (Rs.aW [_]::[_,_,_,_,_,_,_]):=SH.iD (A:=[_]) (B:=[_,_,_,_,_,_,_]) afv;clear afv
                have atD:SH _ _ _ [_,_,_,_,_,_,_,_]:=CW.less (i:=0) rfl
                have gL:=sj xs d.loops ((Ud d (ga (ga (U6 d) m.at_.toNat) k2).a false).1) ((Ud d (ga (ga (U6 d) m.at_.toNat) k2).a false).2) (bt d ((Ud d (ga (ga (U6 d) m.at_.toNat) k2).a true).1) (((Ud d (ga (ga (U6 d) m.at_.toNat) k2).a true).2+2)%4)) (by rw[hxl];exact Du) (by exact hf2) (CW.gN (i:=0) rfl);clear atD
                refine(jk (i:=0) rfl rfl rfl rfl rfl rfl rfl tE CW rfl gL ?_)
                intro at1 auC awa auc atV yD jc;clear CW
                obtain⟨kq,gX,kP⟩:=jc
                rw[gX]at yD
                clear gX
                subst kq
                subst kP
                replace yD:SH _ _ _ (Rs.aW [_]::[_,_,_,_,_,_,_]):=yD
                have afu:SH _ _ _ [_,_,_,_,_,_,_,_]:=SH.je (A:=[_]) (B:=[_,_,_,_,_,_,_]) yD;clear yD
                refine aN.turn (by kernel_rfl) afu ?_;clear afu
                change WA _ _ _ _ _ _ _ _ _ _ _ _ [_,_,_,_,_,_,_,_]
                refine Uu (by kernel_rfl) (fun auB CV=>?_)
                refine ah [2,4,7,11,12,13,14,16,17] rfl (U3 (U2 ao6 I8 rfl rfl rfl (U0 rfl (af 0 rfl (U8 (us:=[_,_]) rfl rfl ay rfl az (CV.ax (i:=5) rfl ⟨rfl,rfl,trivial⟩)) (af 1 rfl (U8 (us:=[_,_]) rfl rfl cN rfl fP (CV.ax (i:=2) rfl ⟨rfl,rfl,trivial⟩)) (ag 2 1 rfl rfl ?_))))))
                have aft:=CV.pick [0,1,2,3,4,5,6,7] [_,_,_,_,_,_,_,_] (by decide) ⟨rfl,rfl,rfl,rfl,rfl,rfl,rfl,rfl,trivial⟩;clear CV
                have CU:SH _ _ _ (Rs.aW [_]::[_,_,_,_,_,_,_]):=SH.iD (A:=[_]) (B:=[_,_,_,_,_,_,_]) aft;clear aft
                have atC:SH _ _ _ [_,_,_,_,_,_,_,_]:=CU.less (i:=0) rfl
                have lN:=sj (bg xs ((Ud d (ga (ga (U6 d) m.at_.toNat) k2).a false).1) ((Ud d (ga (ga (U6 d) m.at_.toNat) k2).a false).2) (bt d ((Ud d (ga (ga (U6 d) m.at_.toNat) k2).a true).1) (((Ud d (ga (ga (U6 d) m.at_.toNat) k2).a true).2+2)%4))) d.loops ((Ud d (ga (ga (U6 d) m.at_.toNat) k2).a false).1) (((Ud d (ga (ga (U6 d) m.at_.toNat) k2).a false).2+2)%4) ((ga (ga (U6 d) m.at_.toNat) k2).a) (by rw[iw,hxl];exact Du) (by omega) (CU.gN (i:=0) rfl);clear atC
                refine ak 3 4 rfl rfl rfl (jk (i:=0) rfl rfl rfl rfl rfl rfl rfl tE CU rfl lN ?_)
                intro at0 auA av9 aub atU yC ug;clear CU
                obtain⟨se,nJ,uf⟩:=ug
                rw[nJ]at yC
                clear nJ
                subst se
                subst uf
                replace yC:SH _ _ _ (Rs.aW [_]::[_,_,_,_,_,_,_]):=yC
                have CT:SH _ _ _ [_,_,_,_,_,_,_,_]:=SH.je (A:=[_]) (B:=[_,_,_,_,_,_,_]) yC;clear yC
                refine U5 rfl (ah [2,4,7,11,12,13,14,16,17] rfl (U3 (U2 ao5 ao4 rfl rfl rfl (U0 rfl (af 0 rfl (U8 (us:=[_,_]) rfl rfl ay rfl az (CT.ax (i:=5) rfl ⟨rfl,rfl,trivial⟩)) (af 1 rfl (U8 (us:=[_,_]) rfl rfl cN rfl fP (CT.ax (i:=1) rfl ⟨rfl,rfl,trivial⟩)) (ag 2 1 rfl rfl ?_)))))))
                have afs:=CT.pick [0,1,2,3,4,5,6,7] [_,_,_,_,_,_,_,_] (by decide) ⟨rfl,rfl,rfl,rfl,rfl,rfl,rfl,rfl,trivial⟩;clear CT
                have CS:SH _ _ _ (Rs.aW [_]::[_,_,_,_,_,_,_]):=SH.iD (A:=[_]) (B:=[_,_,_,_,_,_,_]) afs;clear afs
                have atB:SH _ _ _ [_,_,_,_,_,_,_,_]:=CS.less (i:=0) rfl
                have Fp:=sj (bg (bg xs ((Ud d (ga (ga (U6 d) m.at_.toNat) k2).a false).1) ((Ud d (ga (ga (U6 d) m.at_.toNat) k2).a false).2) (bt d ((Ud d (ga (ga (U6 d) m.at_.toNat) k2).a true).1) (((Ud d (ga (ga (U6 d) m.at_.toNat) k2).a true).2+2)%4))) ((Ud d (ga (ga (U6 d) m.at_.toNat) k2).a false).1) (((Ud d (ga (ga (U6 d) m.at_.toNat) k2).a false).2+2)%4) ((ga (ga (U6 d) m.at_.toNat) k2).a)) d.loops ((Ud d (ga (ga (U6 d) m.at_.toNat) k2).a true).1) (((Ud d (ga (ga (U6 d) m.at_.toNat) k2).a true).2+2)%4) ((ga (ga (U6 d) m.at_.toNat) k2).a) (by rw[iw,iw,hxl];exact ht1) (by omega) (CS.gN (i:=0) rfl);clear atB
                refine ak 3 4 rfl rfl rfl (jk (i:=0) rfl rfl rfl rfl rfl rfl rfl tE CS rfl Fp ?_)
                intro atZ auz av8 aua atT yB zx;clear CS
                obtain⟨ajj,BJ,zw⟩:=zx
                rw[BJ]at yB
                clear BJ
                subst ajj
                subst zw
                replace yB:SH _ _ _ (Rs.aW [_]::[_,_,_,_,_,_,_]):=yB
                have afr:SH _ _ _ [_,_,_,_,_,_,_,_]:=SH.je (A:=[_]) (B:=[_,_,_,_,_,_,_]) yB;clear yB
                refine U5 rfl (ah [2,4,7,11,12,14,17] rfl (U3 (Ux rfl (by kernel_rfl) afr 6 rfl ?_)))
                clear afr
                refine aj 0 5 rfl (by kernel_rfl) (fun _ _ _ hz Sz=>.inl (U8 (us:=[_,_]) rfl rfl ay rfl az (Sz.suf.ax (i:=5) rfl ⟨rfl,rfl,trivial⟩))) ?_
                refine aj 1 4 rfl (by kernel_rfl) (fun _ _ _ hz Sz=>.inl (U8 (us:=[_,_]) rfl rfl cN rfl fP (Sz.suf.ax (i:=3) rfl ⟨rfl,rfl,trivial⟩))) ?_
                refine aj 2 3 rfl (by kernel_rfl) (fun _ _ _ hz Sz=>.inl (U8 (us:=[_,_]) rfl rfl ay rfl az (Sz.suf.ax (i:=7) rfl ⟨rfl,rfl,trivial⟩))) ?_
                refine aj 3 2 rfl (by kernel_rfl) (fun _ _ _ hz Sz=>.inl (U8 (us:=[_,_]) rfl rfl cN rfl fP (Sz.suf.ax (i:=2) rfl ⟨rfl,rfl,trivial⟩))) ?_
                refine aj 4 1 rfl (by kernel_rfl) (fun _ _ _ hz Sz=>Uq rfl rfl rfl rfl rfl pN Sz (oY d ((Ud d (ga (ga (U6 d) m.at_.toNat) k2).a false).1) (((Ud d (ga (ga (U6 d) m.at_.toNat) k2).a false).2+2)%4) ((aC.mono (Hp.Ua hz Sz.mx)).mono Sz.Uw) (by omega) (by omega) Sz.aD)) ?_
                refine Un (i:=5) 0 rfl (by kernel_rfl) rfl rfl (fun auy afq=>?_)
                have afp:=afq.pick [0,1,2,3,4,5,6,7] [_,_,_,_,_,_,_,_] (by decide) ⟨rfl,rfl,rfl,rfl,rfl,rfl,rfl,rfl,trivial⟩;clear afq
                have CR:SH _ _ _ (Rs.aW [_]::[_,_,_,_,_,_,_]):=SH.iD (A:=[_]) (B:=[_,_,_,_,_,_,_]) afp;clear afp
                have atA:SH _ _ _ [_,_,_,_,_,_,_,_]:=CR.less (i:=0) rfl
                have Fm:=sj (bg (bg (bg xs ((Ud d (ga (ga (U6 d) m.at_.toNat) k2).a false).1) ((Ud d (ga (ga (U6 d) m.at_.toNat) k2).a false).2) (bt d ((Ud d (ga (ga (U6 d) m.at_.toNat) k2).a true).1) (((Ud d (ga (ga (U6 d) m.at_.toNat) k2).a true).2+2)%4))) ((Ud d (ga (ga (U6 d) m.at_.toNat) k2).a false).1) (((Ud d (ga (ga (U6 d) m.at_.toNat) k2).a false).2+2)%4) ((ga (ga (U6 d) m.at_.toNat) k2).a)) ((Ud d (ga (ga (U6 d) m.at_.toNat) k2).a true).1) (((Ud d (ga (ga (U6 d) m.at_.toNat) k2).a true).2+2)%4) ((ga (ga (U6 d) m.at_.toNat) k2).a)) d.loops ((Ud d (ga (ga (U6 d) m.at_.toNat) k2).a true).1) ((Ud d (ga (ga (U6 d) m.at_.toNat) k2).a true).2) (bt d ((Ud d (ga (ga (U6 d) m.at_.toNat) k2).a false).1) (((Ud d (ga (ga (U6 d) m.at_.toNat) k2).a false).2+2)%4)) (by rw[iw,iw,iw,hxl];exact ht1) (by exact ht2) (CR.gN (i:=0) rfl);clear atA
                refine(jk (i:=0) rfl rfl rfl rfl rfl rfl rfl tE CR rfl Fm ?_)
                intro atY auw av6 at8 atS yA hR7;clear CR
                obtain⟨aji,BH,hR8⟩:=hR7
                rw[BH]at yA
                clear BH
                subst aji
                subst hR8
                replace yA:SH _ _ _ (Rs.aW [_]::[_,_,_,_,_,_,_]):=yA
                have afo:SH _ _ _ [_,_,_,_,_,_,_,_]:=SH.je (A:=[_]) (B:=[_,_,_,_,_,_,_]) yA;clear yA
                refine aN.turn (by kernel_rfl) afo ?_;clear afo
                change WA _ _ _ _ _ _ _ _ _ _ _ _ [_,_,_,_,_,_,_,_]
                refine Uu (by kernel_rfl) (fun auv atz=>?_)
                refine bk (ah [2,4,7,11,12] rfl (U3 (U0 rfl (ag 0 1 rfl rfl (af 1 rfl (Ug rfl rfl rfl (by first|omega|(simp only[ls];omega))) ?_)))))
                refine ag 2 1 rfl rfl (U5 rfl (aP ?_))
                intro au aq
                refine⟨_,?lX,⟨k2+1,bg (bg (bg (bg xs ((Ud d (ga (ga (U6 d) m.at_.toNat) k2).a false).1) ((Ud d (ga (ga (U6 d) m.at_.toNat) k2).a false).2) (bt d ((Ud d (ga (ga (U6 d) m.at_.toNat) k2).a true).1) (((Ud d (ga (ga (U6 d) m.at_.toNat) k2).a true).2+2)%4))) ((Ud d (ga (ga (U6 d) m.at_.toNat) k2).a false).1) (((Ud d (ga (ga (U6 d) m.at_.toNat) k2).a false).2+2)%4) ((ga (ga (U6 d) m.at_.toNat) k2).a)) ((Ud d (ga (ga (U6 d) m.at_.toNat) k2).a true).1) (((Ud d (ga (ga (U6 d) m.at_.toNat) k2).a true).2+2)%4) ((ga (ga (U6 d) m.at_.toNat) k2).a)) ((Ud d (ga (ga (U6 d) m.at_.toNat) k2).a true).1) ((Ud d (ga (ga (U6 d) m.at_.toNat) k2).a true).2) (bt d ((Ud d (ga (ga (U6 d) m.at_.toNat) k2).a false).1) (((Ud d (ga (ga (U6 d) m.at_.toNat) k2).a false).2+2)%4)),rfl,aq.sub ⟨rfl,rfl,rfl,rfl,rfl,trivial⟩,atz.pick [5,0,6,7] [_,_,_,_] (by decide) ⟨rfl,rfl,rfl,rfl,trivial⟩,?jA,?lR⟩⟩
                case jA=>omega
                case lR=>(rw[hxs];rfl)
                case lX=>omega
             ·refine bS rfl rfl (ah [4,11] rfl (U3 (U2 ao3 ao2 rfl rfl rfl ?_)))
              obtain rfl:k2=3:=by omega
              have avR:xs.length=d.ae.length:=by rw[hxs];exact abk _ _ _
              refine U0 rfl (af 0 rfl (U8 (us:=[_,_]) rfl rfl ay rfl az (iE.ax (i:=0) rfl ⟨rfl,rfl,trivial⟩)) (ak 1 2 rfl rfl rfl (U7 (i:=2) (us:=[_,_]) (l':=[_,_]) (H':=[_,_,_,_]) rfl rfl iE rfl rfl rfl rfl az rfl (Uy (iE.one (i:=1) rfl) (Uy rfl rfl)) rfl rfl ?_)))
              intro auu afn;clear iE
              refine ag 2 1 rfl rfl (U5 rfl (ah [4,5] rfl (U3 ?_)))
              obtain⟨av5,xn,NW,⟨A2,c2,e1,hr3⟩⟩:=afn.fZ (i:=1) (H':=[_,_,_,_]) rfl rfl (by show _*40<=_;first|omega|(simp only[ls];omega))
              clear afn;subst e1
              replace aC:=aC.mono (Hp.Ua xn NW.mx)
              replace hr1:=hr1.mono xn
              replace hd1:=hd1.mono xn
              replace hr2:=hr2.mono xn
              refine Uj hC [_,_] rfl rfl ⟨⟨_,rfl,Um (us:=[_,_]) ay rfl az (NW.ax (i:=2) rfl ⟨rfl,rfl,trivial⟩)⟩,rfl,trivial⟩ ?_
              refine⟨_,rfl,_,aL.trans xn,(NW.pick [] [] (by decide) trivial),?_⟩
              have hsl:j6 d (ga (U6 d) m.at_.toNat)=true:=by rw[rQ hab jJ (by omega),decide_eq_true_iff];omega
              rw[r9 (E:=⟨xs,d.loops⟩) (by unfold gF;rw[if_pos fR,if_pos hsl]) (by unfold p6;rw[hxs,aiC hab hok 3 (by omega)])]
              exact⟨_,_,rfl,hr3⟩
end Go.Proofs.YthppkofceancjaaGreat
