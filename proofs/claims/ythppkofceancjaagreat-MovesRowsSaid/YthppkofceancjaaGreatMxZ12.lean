/- Part 12 of the proof of the law MovesRows: the walks through its functions and the plain laws that they need. -/
import Derived.Test.YthppkofceancjaaGreatMxZ11
set_option linter.unusedSimpArgs false
set_option linter.unusedVariables false
noncomputable section
namespace Go.Proofs.YthppkofceancjaaGreat
open Go.ChangeShapes Go.WideShapes Go.ChangeAt Go.RowKit
noncomputable def Kr:=Tryz.f33.body.getD .skip
def aqc:=cL Kr
def Kq:=cR Kr
def aqb:=cL Kq
def Ko:=cR Kq
def Kn:=cL Ko
def Km:=cR Ko
def aqa:=cL Kn
def Kl:=cR Kn
def yx:=cL Kl
def aeQ:=cR Kl
def Kk:=cL yx
def Kj:=cR yx
def CI:=cL Km
def CH:=cR Km
def aeP:=cL CI
def CG:=cR CI
def CF:=cL CG
def aeO:=cR CG
def aeN:=cL CF
def aeM:=cR CF
def aeL:=cL CH
def CD:=cR CH
def aeK:=cL CD
def CC:=cR CD
def CB:=cL CC
def CA:=cR CC
def aeJ:=cL CB
def Cz:=cR CB
def Cy:=cL Cz
def aeI:=cR Cz
def aeH:=cL Cy
def aeG:=cR Cy
def Cx:=cL CA
def vE:=cR CA
def Cw:=cL vE
def vD:=cR vE
def vC:=cL vD
def vB:=cR vD
def Cv:=cL vC
def vA:=cR vC
def vz:=cL vA
def vw:=cR vA
def Cu:=cL vz
def vt:=cR vz
def Cs:=cL vt
def vq:=cR vt
def Cn:=cL vq
def Cl:=cR vq
def Ck:=cL vw
def vp:=cR vw
def Cj:=cL vp
def vk:=cR vp
def Ci:=cL vk
def Ch:=cR vk
def Cg:=cL vB
def vh:=cR vB
def Cf:=cL vh
def Ce:=cR vh
set_option maxHeartbeats 1000000 in
set_option maxRecDepth 10000 in
theorem ahO{w:World}{M:Hp}{X:Fr}(d:Dg){aV:Option Addr}{aU:Nat}(m:Mv)(aC:aF aG (M.un X.h) aV aU d.ae)(hn:d.ae.length<=16)(hab:aX d=true)(hlo:0<=d.loops/\d.loops<=16)(S:SH w M X []):Ct Tryz.prog 33 [.agg [.slice aV d.ae.length aU,.int .i64 d.loops].toArray,.agg [.int .i64 m.kd,.int .i64 m.at_,.int .i64 m.aJ,.int .i64 m.ua,.bool m.ub,.int .i64 m.va,.bool m.vb,.bool m.ov].toArray] w M X (qq (kL (dP d m) (lh d m))):=by
 unfold Ct
 have gK:d.ae.length*40<=140737488355328:=aC.room
 refine Up (b:=Kr) Tryz.func33 rfl Tryz.ntmps33 rfl (fun C hC=>(bq [(0,_),(1,_)] ⟨rfl,rfl,trivial⟩ (U2 aqc Kq rfl rfl rfl (U0 rfl (ak 0 1 rfl rfl rfl (bA (l:=[_,_]) rfl rfl rfl rfl rfl S ?_))))))
 intro aI w1 S1;clear S
 refine ak 1 2 rfl rfl rfl (bA (l:=[_,_,_,_,_,_,_,_]) rfl rfl rfl rfl rfl S1 ?_)
 intro aQ w2 S2;clear S1
 refine ak 2 3 rfl rfl rfl (Uh (l:=[_,_]) rfl rfl rfl fQ rfl S2 ?_)
 intro bE w3 S3;clear S2
 refine ag 3 1 rfl rfl (U5 rfl (ah [2,3,4] rfl (U3 (U2 aqb Ko rfl rfl rfl (U0 rfl (af 0 rfl (U1 rfl rfl ay rfl (bK) (bJ)) (af 1 rfl (U4 rfl rfl bG rfl (S3.ar (i:=2) rfl rfl)) (af 2 rfl (cI rfl rfl rfl rfl rfl rfl bG) ?_))))))))
 refine ag 3 1 rfl rfl (U5 rfl (ah [2,3,4,6] rfl (U3 (U2 Kn Km rfl rfl rfl (U2 aqa Kl rfl rfl rfl (U0 rfl (af 0 rfl (U1 rfl rfl aR rfl (aB) (aA)) (af 1 rfl (U4 rfl rfl av rfl (S3.ar (i:=1) rfl rfl)) ?_))))))))
 refine af 2 rfl (bV rfl rfl rfl) (ag 3 1 rfl rfl ?_)
 refine jt (k':=8) (d:=23) (decide ((m.aJ<0)\/(3<m.aJ))) [(2,_),(3,_),(4,_),(6,_)] ⟨rfl,rfl,rfl,rfl,trivial⟩ (fun adT=>?_) ?_
 ·refine Ut (t:=19) rfl (fun x8=>?_) (fun x8=>?_)
  ·refine ag 4 4 rfl rfl ?_
   exact b6 23 (.bool (decide ((m.aJ<0)\/(3<m.aJ)))) rfl (congrArg Value.bool (decide_eq_true (.inl x8)).symm) (eo [(23,_),(2,_),(3,_),(4,_),(6,_)] ⟨rfl,rfl,rfl,rfl,rfl,trivial⟩ adT)
  ·refine aH 4 5 rfl rfl rfl rfl rfl rfl rfl rfl (Ub rfl rfl (U1 rfl rfl aR rfl (aB) (aA)) (aH 5 6 rfl rfl rfl rfl rfl rfl rfl rfl (Ub rfl rfl (U4 rfl rfl av rfl (S3.ar (i:=1) rfl rfl)) (aH 6 7 rfl rfl rfl rfl rfl rfl rfl rfl (Ub rfl rfl (oW rfl rfl rfl) (ag 7 1 rfl rfl ?_))))))
   exact b6 23 (.bool (decide ((m.aJ<0)\/(3<m.aJ)))) rfl (congrArg Value.bool (decide_eq_decide.2 ⟨.inr,fun h=>h.resolve_left x8⟩)) (eo [(23,_),(2,_),(3,_),(4,_),(6,_)] ⟨rfl,rfl,rfl,rfl,rfl,trivial⟩ adT)
 ·refine ag 8 1 rfl rfl ?_
  refine jt (k':=13) (d:=28) (decide (((m.aJ<0)\/(3<m.aJ))\/(m.at_<0))) [(2,_),(3,_),(4,_),(6,_)] ⟨rfl,rfl,rfl,rfl,trivial⟩ (fun adS=>?_) ?_
  ·refine Ut (t:=24) rfl (fun GQ=>?_) (fun GQ=>?_)
   ·refine ag 9 4 rfl rfl ?_
    exact b6 28 (.bool (decide (((m.aJ<0)\/(3<m.aJ))\/(m.at_<0)))) rfl (congrArg Value.bool (decide_eq_true (.inl GQ)).symm) (eo [(28,_),(2,_),(3,_),(4,_),(6,_)] ⟨rfl,rfl,rfl,rfl,rfl,trivial⟩ adS)
   ·refine aH 9 10 rfl rfl rfl rfl rfl rfl rfl rfl (Ub rfl rfl (U1 rfl rfl aR rfl (aB) (aA)) (aH 10 11 rfl rfl rfl rfl rfl rfl rfl rfl (Ub rfl rfl (U4 rfl rfl av rfl (S3.ar (i:=1) rfl rfl)) (aH 11 12 rfl rfl rfl rfl rfl rfl rfl rfl (Ub rfl rfl (bV rfl rfl rfl) (ag 12 1 rfl rfl ?_))))))
    exact b6 28 (.bool (decide (((m.aJ<0)\/(3<m.aJ))\/(m.at_<0)))) rfl (congrArg Value.bool (decide_eq_decide.2 ⟨.inr,fun h=>h.resolve_left GQ⟩)) (eo [(28,_),(2,_),(3,_),(4,_),(6,_)] ⟨rfl,rfl,rfl,rfl,rfl,trivial⟩ adS)
  ·refine ag 13 1 rfl rfl ?_
   refine jt (k':=20) (d:=35) (decide ((((m.aJ<0)\/(3<m.aJ))\/(m.at_<0))\/((2*(d.ae.length:Int))<m.at_))) [(2,_),(3,_),(4,_),(6,_)] ⟨rfl,rfl,rfl,rfl,trivial⟩ (fun adR=>?_) ?_
   ·refine Ut (t:=29) rfl (fun sY=>?_) (fun sY=>?_)
    ·refine ag 14 6 rfl rfl ?_
     exact b6 35 (.bool (decide ((((m.aJ<0)\/(3<m.aJ))\/(m.at_<0))\/((2*(d.ae.length:Int))<m.at_)))) rfl (congrArg Value.bool (decide_eq_true (.inl sY)).symm) (eo [(35,_),(2,_),(3,_),(4,_),(6,_)] ⟨rfl,rfl,rfl,rfl,rfl,trivial⟩ adR)
    ·refine aH 14 15 rfl rfl rfl rfl rfl rfl rfl rfl (Ub rfl rfl (U1 rfl rfl aR rfl (aB) (aA)) (aH 15 16 rfl rfl rfl rfl rfl rfl rfl rfl (Ub rfl rfl (U4 rfl rfl av rfl (S3.ar (i:=1) rfl rfl)) (ag 16 1 rfl rfl (aH 17 18 rfl rfl rfl rfl rfl rfl rfl rfl (Ub rfl rfl (iH rfl rfl rfl (by first|omega|(simp only[ls];omega))) ?_))))))
     refine aH 18 19 rfl rfl rfl rfl rfl rfl rfl rfl (Ub rfl rfl (oW rfl rfl rfl) (ag 19 1 rfl rfl ?_))
     exact b6 35 (.bool (decide ((((m.aJ<0)\/(3<m.aJ))\/(m.at_<0))\/((2*(d.ae.length:Int))<m.at_)))) rfl (congrArg Value.bool (decide_eq_decide.2 ⟨.inr,fun h=>h.resolve_left sY⟩)) (eo [(35,_),(2,_),(3,_),(4,_),(6,_)] ⟨rfl,rfl,rfl,rfl,rfl,trivial⟩ adR)
   ·refine ag 20 1 rfl rfl ?_
    refine jt (k':=30) (d:=45) (decide (((((m.aJ<0)\/(3<m.aJ))\/(m.at_<0))\/((2*(d.ae.length:Int))<m.at_))\/((m.at_=0)/\(d.loops=0)))) [(2,_),(3,_),(4,_),(6,_)] ⟨rfl,rfl,rfl,rfl,trivial⟩ (fun av2=>?_) ?_
    ·refine Ut (t:=36) rfl (fun x7=>?_) (fun x7=>?_)
     ·refine ag 21 6 rfl rfl (ag 27 3 rfl rfl (U5 rfl (ah [2,3,4,6,45] rfl (U3 (fM yx rfl rfl rfl (U2 Kk Kj rfl rfl rfl (U0 rfl (af 0 rfl (run_build (l:=[_,_]) rfl rfl cJ rfl rfl) ?_))))))))
      refine ak 1 2 rfl rfl rfl (U7 (i:=0) (us:=[_,_]) (l':=[_,_]) (H':=[_,_,_]) rfl rfl S3 rfl rfl rfl rfl az rfl rfl rfl rfl ?_)
      intro w4 S4;clear S3
      refine ag 2 1 rfl rfl (U5 rfl (ah [4,5] rfl (U3 (Uj hC [_,_] rfl rfl ⟨⟨_,rfl,Um (us:=[_,_]) ay rfl az (S4.ax (i:=0) rfl ⟨rfl,rfl,trivial⟩)⟩,rfl,trivial⟩ ?_))))
      refine⟨_,rfl,_,Hp.le_refl _,(S4.pick [] [] (by decide) trivial),?_⟩
      rw[eH (c:=3) (by unfold dP;rw[if_neg (by omega)]) (by decide)]
      exact dU 3
     ·refine aH 21 22 rfl rfl rfl rfl rfl rfl rfl rfl (Ub rfl rfl (U1 rfl rfl aR rfl (aB) (aA)) (aH 22 23 rfl rfl rfl rfl rfl rfl rfl rfl (Ub rfl rfl (U4 rfl rfl av rfl (S3.ar (i:=1) rfl rfl)) (aH 23 24 rfl rfl rfl rfl rfl rfl rfl rfl (Ub rfl rfl (bP rfl rfl rfl) (ag 24 1 rfl rfl ?_))))))
      refine jt (k':=29) (d:=44) (decide ((m.at_=0)/\(d.loops=0))) [(2,_),(3,_),(4,_),(6,_),(36,_)] ⟨rfl,rfl,rfl,rfl,rfl,trivial⟩ (fun adP=>?_) ?_
      ·refine Ut (t:=40) rfl (fun nH=>?_) (fun nH=>?_)
       ·refine aH 25 26 rfl rfl rfl rfl rfl rfl rfl rfl (Ub rfl rfl (U1 rfl rfl ay rfl (aB) (aA)) (aH 26 27 rfl rfl rfl rfl rfl rfl rfl rfl (Ub rfl rfl (U4 rfl rfl av rfl (S3.ar (i:=2) rfl rfl)) (aH 27 28 rfl rfl rfl rfl rfl rfl rfl rfl (Ub rfl rfl (bP rfl rfl rfl) (ag 28 1 rfl rfl ?_))))))
        exact b6 44 (.bool (decide ((m.at_=0)/\(d.loops=0)))) rfl (congrArg Value.bool (decide_eq_decide.2 ⟨fun h=>⟨nH,h⟩,fun h=>h.2⟩)) (eo [(44,_),(2,_),(3,_),(4,_),(6,_),(36,_)] ⟨rfl,rfl,rfl,rfl,rfl,rfl,trivial⟩ adP)
       ·refine ag 25 4 rfl rfl ?_
        exact b6 44 (.bool (decide ((m.at_=0)/\(d.loops=0)))) rfl (congrArg Value.bool (decide_eq_false (fun h=>nH h.1)).symm) (eo [(44,_),(2,_),(3,_),(4,_),(6,_),(36,_)] ⟨rfl,rfl,rfl,rfl,rfl,rfl,trivial⟩ adP)
      ·refine ag 29 1 rfl rfl (U5 rfl (ah [2,3,4,6,45] rfl (U3 ?_)))
       refine Ue yx aeQ rfl rfl rfl rfl (fun G3=>?_) (fun G3=>?_)
       ·refine U2 Kk Kj rfl rfl rfl (U0 rfl (af 0 rfl (run_build (l:=[_,_]) rfl rfl cJ rfl rfl) (ak 1 2 rfl rfl rfl (U7 (i:=0) (us:=[_,_]) (l':=[_,_]) (H':=[_,_,_]) rfl rfl S3 rfl rfl rfl rfl az rfl rfl rfl rfl ?_))))
        intro w5 S5;clear S3
        refine ag 2 1 rfl rfl (U5 rfl (ah [4,5] rfl (U3 (Uj hC [_,_] rfl rfl ⟨⟨_,rfl,Um (us:=[_,_]) ay rfl az (S5.ax (i:=0) rfl ⟨rfl,rfl,trivial⟩)⟩,rfl,trivial⟩ ?_))))
        refine⟨_,rfl,_,Hp.le_refl _,(S5.pick [] [] (by decide) trivial),?_⟩
        rw[eH (c:=3) (by unfold dP;rw[if_neg (by omega)]) (by decide)]
        exact dU 3
       ·refine Uf rfl (ah [2,3,4,6] rfl (U3 (U2 CI CH rfl rfl rfl (U2 aeP CG rfl rfl rfl (U0 rfl (ag 0 1 rfl rfl (af 1 rfl (bP rfl rfl rfl) (U5 rfl ?_))))))))
        refine ah [2,3,4,6,48] rfl (U3 ?_)
        refine Ue CF aeO rfl rfl rfl rfl (fun hb48=>?_) (fun hb48=>?_)
        ·refine U2 aeN aeM rfl rfl rfl (U0 rfl (af 0 rfl (run_build (l:=[_,_]) rfl rfl cJ rfl rfl) (ak 1 2 rfl rfl rfl (U7 (i:=0) (us:=[_,_]) (l':=[_,_]) (H':=[_,_,_]) rfl rfl S3 rfl rfl rfl rfl az rfl rfl rfl rfl ?_))))
         intro w6 S6;clear S3
         refine ag 2 1 rfl rfl (U5 rfl (ah [4,5] rfl (U3 (Uj hC [_,_] rfl rfl ⟨⟨_,rfl,Um (us:=[_,_]) ay rfl az (S6.ax (i:=0) rfl ⟨rfl,rfl,trivial⟩)⟩,rfl,trivial⟩ ?_))))
         refine⟨_,rfl,_,Hp.le_refl _,(S6.pick [] [] (by decide) trivial),?_⟩
         rw[eH (c:=2) (by unfold dP;rw[if_pos (by omega),if_neg (by omega)]) (by decide)]
         exact dU 2
        ·refine Uf rfl (ah [2,3,4,6] rfl (U3 (U2 aeL CD rfl rfl rfl (U0 rfl (af 0 rfl (U8 (us:=[_,_]) rfl rfl ay rfl az (S3.ax (i:=2) rfl ⟨rfl,rfl,trivial⟩)) (ak 1 2 rfl rfl rfl (uO rfl rfl rfl rfl rfl rfl rfl zC S3 (Aw d (aC.mono S3.Uw) S3.aD) ?_)))))))
         intro vw7 w7 Nw7 S7 yj;clear S3
         obtain⟨mI,rfl,rfl⟩:=yj
         have S8:SH _ _ _ [_,_,_,_]:=S7;clear S7
         refine ak 2 3 rfl rfl rfl (Uh (l:=[_,_]) rfl rfl rfl fQ rfl S8 ?_)
         intro gY w8 S9;clear S8
         refine ak 3 4 rfl rfl rfl (U7 (i:=0) (us:=[_,_]) (l':=[_,_]) (H':=[_,_,_,_,_]) rfl rfl S9 rfl rfl rfl rfl az rfl (Uy (S9.one (i:=1) rfl) (Uy rfl rfl)) rfl rfl ?_)
         intro w9 bF;clear S9
         refine U5 rfl (ah [2,3,4,6,7] rfl (U3 (U2 aeK CC rfl rfl rfl (U0 rfl (af 0 rfl (U1 rfl rfl aR rfl (aB) (aA)) (af 1 rfl (U4 rfl rfl av rfl (bF.ar (i:=3) rfl rfl)) (ag 2 1 rfl rfl (af 3 rfl (iH rfl rfl rfl (by first|omega|(simp only[ls];omega))) ?_))))))))
         refine af 4 rfl (Ug rfl rfl rfl (by first|omega|(simp only[ls];omega))) ?_
         refine ag 5 1 rfl rfl (af 6 rfl (iH rfl rfl rfl (by first|omega|(simp only[ls];omega))) ?_)
         refine af 7 rfl (Ug rfl rfl rfl (by first|omega|(simp only[ls];omega))) ?_
         refine ag 8 3 rfl rfl (U5 rfl (ah [2,3,4,6,7,8,9,10] rfl (U3 (U2 CB CA rfl rfl rfl (U2 aeJ Cz rfl rfl rfl (U0 rfl (af 0 rfl (U1 rfl rfl aR rfl (aB) (aA)) (af 1 rfl (U4 rfl rfl av rfl (bF.ar (i:=3) rfl rfl)) ?_))))))))
         refine af 2 rfl (bP rfl rfl rfl) (U5 rfl (ah [2,3,4,6,7,8,9,10,62] rfl (U3 ?_)))
         refine Ue Cy aeI rfl rfl rfl rfl (fun jX=>?_) (fun jX=>?_)
         ·refine U2 aeH aeG rfl rfl rfl (U0 rfl (ag 0 1 rfl rfl (af 1 rfl (iH rfl rfl rfl (by first|omega|(simp only[ls];omega))) ?_)))
          refine af 2 rfl (Ug rfl rfl rfl (by first|omega|(simp only[ls];omega))) ?_
          refine ag 3 1 rfl rfl (af 4 rfl (iH rfl rfl rfl (by first|omega|(simp only[ls];omega))) ?_)
          refine af 5 rfl (Ug rfl rfl rfl (by first|omega|(simp only[ls];omega))) ?_
          refine ag 6 1 rfl rfl (af 7 rfl (iH rfl rfl rfl (by first|omega|(simp only[ls];omega))) ?_)
          refine af 8 rfl (Ug rfl rfl rfl (by first|omega|(simp only[ls];omega))) ?_
          refine ag 9 3 rfl rfl (U5 rfl (ah [3,4,7,8,9,10] rfl (U3 (U0 rfl (af 0 rfl (U1 rfl rfl ay rfl (aB) (aA)) (af 1 rfl (U4 rfl rfl av rfl (bF.ar (i:=0) rfl rfl)) (af 2 rfl (qw rfl rfl rfl (by first|omega|(simp only[ls];omega))) ?_)))))))
          refine af 3 rfl (U1 rfl rfl ay rfl (aB) (aA)) (ak 4 5 rfl rfl rfl (U7 (i:=0) (us:=[_]) (l':=[_,_]) (H':=[_,_,_,_,_]) rfl rfl bF rfl rfl rfl rfl aY rfl rfl rfl rfl ?_))
          intro jZ bQ;clear bF
          refine U5 rfl (ah [3,4,7,8,9,10] rfl (U3 (U2 Cx vE rfl rfl rfl (U0 rfl (af 0 rfl (U1 rfl rfl aR rfl (aB) (aA)) (af 1 rfl (U4 rfl rfl av rfl (bQ.ar (i:=3) rfl rfl)) (af 2 rfl (jq rfl rfl rfl (by first|omega|(simp only[ls];omega))) ?_)))))))
          refine af 3 rfl (bP rfl rfl rfl) (ag 4 1 rfl rfl (U5 rfl (ah [3,4,7,8,9,10,11] rfl (U3 (U2 Cw vD rfl rfl rfl (U0 rfl (ak 0 1 rfl rfl rfl (Uh (l:=[_,_,_,_,_]) rfl rfl rfl kz rfl bQ ?_))))))))
          intro iq kH cw;clear bQ
          refine U5 rfl (U3 (U2 vC vB rfl rfl rfl ?_))
          refine mA (fun au aM=>∃(cc:Cr),Env 119 [(4,.pointer (some ⟨bE,0,none⟩)),(7,.pointer (some ⟨gY,0,none⟩)),(12,.pointer (some ⟨iq,0,none⟩))] au/\SH aM M X [Rs.box iq 77 [.int .i64 cc.a,.int .i64 cc.b,.int .i64 cc.c,.int .i64 cc.d,.bool cc.plus],Rs.box gY 24 [mI,.int .i64 (d.loops-1)],Rs.row aG mI d.ae,Rs.box bE 24 [.slice none 0 0,.int .i64 0],Rs.box aQ 28 [.int .i64 m.kd,.int .i64 m.at_,.int .i64 m.aJ,.int .i64 m.ua,.bool m.ub,.int .i64 m.va,.bool m.vb,.bool m.ov],Rs.box aI 24 [.slice aV d.ae.length aU,.int .i64 d.loops]]/\cc=fh ((2*(d.ae.length:Int))+1) ((2*(d.ae.length:Int))+2) ((2*(d.ae.length:Int))+2) ((2*(d.ae.length:Int))+1) m.aJ) ?_ ?_
          ·refine U2 Cv vA rfl rfl rfl (U0 rfl (af 0 rfl (U1 rfl rfl aR rfl (aB) (aA)) (af 1 rfl (U4 rfl rfl av rfl (cw.ar (i:=4) rfl rfl)) (af 2 rfl (kf rfl rfl rfl) (U5 rfl (ah [4,7,8,9,10,11,12,89] rfl (U3 ?_)))))))
           refine Ue vz vw rfl rfl rfl rfl (fun pF=>?_) (fun pF=>?_)
           ·refine U2 Cu vt rfl rfl rfl (U0 rfl (ag 0 5 rfl rfl (af 5 rfl (run_build (l:=[_,_,_,_,_]) rfl rfl lW rfl rfl) (ak 6 7 rfl rfl rfl (U7 (i:=0) (us:=[_,_,_,_,_]) (l':=[_,_,_,_,_]) (H':=[_,_,_,_,_,_]) rfl rfl cw rfl rfl rfl rfl bT rfl rfl rfl rfl ?_)))))
            intro lB bN;clear cw
            refine U5 rfl (ah [4,7,8,9,11,12] rfl (U3 (U2 Cs vq rfl rfl rfl (U0 rfl (ag 0 1 rfl rfl (U5 rfl (ah [4,7,8,9,12,96] rfl (U3 ?_))))))))
            refine Ue Cn Cl rfl rfl rfl rfl (fun iZ=>?_) (fun iZ=>?_)
            ·refine U0 rfl (ag 0 2 rfl rfl (af 2 rfl (U1 rfl rfl aT rfl (aB) (aA)) (ak 3 4 rfl rfl rfl (U7 (i:=0) (us:=[_]) (l':=[_,_,_,_,_]) (H':=[_,_,_,_,_,_]) rfl rfl bN rfl rfl rfl rfl aY rfl rfl rfl rfl ?_))))
             intro jY bX;clear bN
             refine af 4 rfl (U1 rfl rfl aT rfl (aB) (aA)) (ak 5 6 rfl rfl rfl (U7 (i:=0) (us:=[_]) (l':=[_,_,_,_,_]) (H':=[_,_,_,_,_,_]) rfl rfl bX rfl rfl rfl rfl aY rfl rfl rfl rfl ?_))
             intro ot bM;clear bX
             refine U5 rfl (aP ?_)
             intro au aq
             refine⟨(⟨(2*(d.ae.length:Int))+2,(2*(d.ae.length:Int))+2,(2*(d.ae.length:Int))+1,(2*(d.ae.length:Int))+1,decide ((m.aJ%2)=1)⟩:Cr),aq.sub ⟨rfl,rfl,rfl,trivial⟩,bM.pick [0,1,2,3,4,5] [_,_,_,_,_,_] (by decide) ⟨rfl,rfl,rfl,rfl,rfl,rfl,trivial⟩,?cd⟩
             case cd=>(unfold fh di;rw[if_pos (by omega),decide_eq_true iZ,if_pos rfl])
            ·refine Uf rfl (aP ?_)
             intro au aq
             refine⟨(⟨(2*(d.ae.length:Int))+2,(2*(d.ae.length:Int))+1,(2*(d.ae.length:Int))+1,(2*(d.ae.length:Int))+2,decide ((m.aJ%2)=1)⟩:Cr),aq.sub ⟨rfl,rfl,rfl,trivial⟩,bN.pick [0,1,2,3,4,5] [_,_,_,_,_,_] (by decide) ⟨rfl,rfl,rfl,rfl,rfl,rfl,trivial⟩,?cu⟩
             case cu=>(unfold fh di;rw[if_pos (by omega),decide_eq_false iZ,if_neg Bool.false_ne_true])
           ·refine U2 Ck vp rfl rfl rfl (U0 rfl (ag 0 5 rfl rfl (af 5 rfl (run_build (l:=[_,_,_,_,_]) rfl rfl lW rfl rfl) (ak 6 7 rfl rfl rfl (U7 (i:=0) (us:=[_,_,_,_,_]) (l':=[_,_,_,_,_]) (H':=[_,_,_,_,_,_]) rfl rfl cw rfl rfl rfl rfl bT rfl rfl rfl rfl ?_)))))
            intro ma bI;clear cw
            refine U5 rfl (ah [4,7,9,10,11,12] rfl (U3 (U2 Cj vk rfl rfl rfl (U0 rfl (ag 0 1 rfl rfl (U5 rfl (ah [4,7,9,10,12,107] rfl (U3 ?_))))))))
            refine Ue Ci Ch rfl rfl rfl rfl (fun gT=>?_) (fun gT=>?_)
            ·refine U0 rfl (ag 0 2 rfl rfl (af 2 rfl (U1 rfl rfl aT rfl (aB) (aA)) (ak 3 4 rfl rfl rfl (U7 (i:=0) (us:=[_]) (l':=[_,_,_,_,_]) (H':=[_,_,_,_,_,_]) rfl rfl bI rfl rfl rfl rfl aY rfl rfl rfl rfl ?_))))
             intro lv bY;clear bI
             refine af 4 rfl (U1 rfl rfl aT rfl (aB) (aA)) (ak 5 6 rfl rfl rfl (U7 (i:=0) (us:=[_]) (l':=[_,_,_,_,_]) (H':=[_,_,_,_,_,_]) rfl rfl bY rfl rfl rfl rfl aY rfl rfl rfl rfl ?_))
             intro rC dC;clear bY
             refine U5 rfl (aP ?_)
             intro au aq
             refine⟨(⟨(2*(d.ae.length:Int))+1,(2*(d.ae.length:Int))+1,(2*(d.ae.length:Int))+2,(2*(d.ae.length:Int))+2,decide ((m.aJ%2)=1)⟩:Cr),aq.sub ⟨rfl,rfl,rfl,trivial⟩,dC.pick [0,1,2,3,4,5] [_,_,_,_,_,_] (by decide) ⟨rfl,rfl,rfl,rfl,rfl,rfl,trivial⟩,?dO⟩
             case dO=>(unfold fh di;rw[if_neg (by omega),decide_eq_true gT,if_pos rfl])
            ·refine Uf rfl (aP ?_)
             intro au aq
             refine⟨(⟨(2*(d.ae.length:Int))+1,(2*(d.ae.length:Int))+2,(2*(d.ae.length:Int))+2,(2*(d.ae.length:Int))+1,decide ((m.aJ%2)=1)⟩:Cr),aq.sub ⟨rfl,rfl,rfl,trivial⟩,bI.pick [0,1,2,3,4,5] [_,_,_,_,_,_] (by decide) ⟨rfl,rfl,rfl,rfl,rfl,rfl,trivial⟩,?eU⟩
             case eU=>(unfold fh di;rw[if_neg (by omega),decide_eq_false gT,if_neg Bool.false_ne_true])
          ·rintro a1 mb ⟨cc,bh,bZ,hcc⟩
           clear cw
           refine mG bh ?_
           clear bh a1
           refine U3 (U2 Cg vh rfl rfl rfl (U0 rfl (af 0 rfl (U1 rfl rfl ay rfl (bK) (bJ)) (af 1 rfl (U4 rfl rfl bG rfl (bZ.ar (i:=1) rfl rfl)) (af 2 rfl (U8 (us:=[_,_,_,_,_]) rfl rfl aT rfl bT (bZ.ax (i:=0) rfl ⟨rfl,rfl,rfl,rfl,rfl,trivial⟩)) (ak 3 4 rfl rfl rfl (iy (C:=aG) (l:=[_,_,_,_,_]) rfl rfl rfl rfl b8 rfl rfl rfl rfl bZ ?_)))))))
           intro rJ oq dB;clear bZ
           refine ak 4 5 rfl rfl rfl (jg (C:=aG) (i:=3) (q:=0) (⟨cc.a,cc.b,cc.c,cc.d,cc.plus⟩:Cr) rfl rfl rfl rfl rfl rfl rfl rfl b8 dB rfl rfl rfl (by show(_+1)*40<=_;first|omega|(simp only[ls];omega)) ?_)
           intro al6 tS dt;clear dB
           have dz:=dt.pick [1,2,3,4,5,6] [_,_,_,_,_,_] (by decide) ⟨rfl,rfl,rfl,rfl,rfl,rfl,trivial⟩;clear dt
           refine af 5 rfl (U1 rfl rfl ay rfl (bK) (bJ)) (ak 6 7 rfl rfl rfl (U7 (i:=1) (us:=[_]) (l':=[_,_]) (H':=[_,_,_,_,_,_]) rfl rfl dz rfl rfl rfl (dz.jx (i:=2) rfl) kZ rfl (Uy (dz.one (i:=2) rfl) rfl) rfl rfl ?_))
           intro tQ cW;clear dz
           refine U5 rfl (ah [4,7] rfl (U3 (U2 Cf Ce rfl rfl rfl (U0 rfl (af 0 rfl (U8 (us:=[_,_]) rfl rfl ay rfl az (cW.ax (i:=1) rfl ⟨rfl,rfl,trivial⟩)) (ak 1 2 rfl rfl rfl (U7 (i:=3) (us:=[_,_]) (l':=[_,_]) (H':=[_,_,_,_,_,_]) rfl rfl cW rfl rfl rfl rfl az rfl (Uy (cW.one (i:=2) rfl) (Uy rfl rfl)) rfl rfl ?_)))))))
           intro vO cK;clear cW
           refine ag 2 1 rfl rfl (U5 rfl (ah [4,5] rfl (U3 ?_)))
           obtain⟨M2,hle2,cv,⟨A1,c1,e1,hr1⟩⟩:=cK.fZ (i:=2) (H':=[_,_,_,_,_,_]) rfl rfl (by show _*40<=_;first|omega|(simp only[ls];omega))
           clear cK;subst e1
           replace aC:=aC.mono (Hp.Ua hle2 cv.mx)
           refine Uj hC [_,_] rfl rfl ⟨⟨_,rfl,Um (us:=[_,_]) ay rfl az (cv.ax (i:=3) rfl ⟨rfl,rfl,trivial⟩)⟩,rfl,trivial⟩ ?_
           refine⟨_,rfl,_,hle2,(cv.pick [] [] (by decide) trivial),?_⟩
           rw[r9 (E:=⟨d.ae++[(⟨cc.a,cc.b,cc.c,cc.d,cc.plus⟩:Cr)],d.loops-1⟩) (by unfold dP;rw[if_pos (by omega),if_pos (by omega)]) (by subst hcc;unfold lh;rw[if_pos (by omega)])]
           exact⟨_,_,rfl,hr1⟩
         ·obtain⟨bh,cx,_⟩:=fe hab (a:=m.at_) (by omega) false
          refine Ux rfl (by kernel_rfl) bF 7 rfl ?_
          clear bF
          refine aj 0 6 rfl (by kernel_rfl) (fun _ _ _ hz Sz=>.inl (U8 (us:=[_,_]) rfl rfl ay rfl az (Sz.suf.ax (i:=0) rfl ⟨rfl,rfl,trivial⟩))) ?_
          refine aj 1 5 rfl (by kernel_rfl) (fun _ _ _ hz Sz=>.inl (U8 (us:=[_,_]) rfl rfl ay rfl az (Sz.suf.ax (i:=4) rfl ⟨rfl,rfl,trivial⟩))) ?_
          refine ai 2 4 rfl (by kernel_rfl) (fun _=>U1 rfl rfl aR rfl (aB) (aA)) ?_
          refine aj 3 3 rfl (by kernel_rfl) (fun _ _ _ hz Sz=>.inl (U4 rfl rfl av rfl (Sz.suf.ar (i:=3) rfl rfl))) ?_
          refine aj 4 2 rfl (by kernel_rfl) (fun _ _ _ hz Sz=>Uq rfl rfl rfl rfl rfl lj Sz (lH d m.at_ false ((aC.mono (Hp.Ua hz Sz.mx)).mono Sz.Uw) Sz.aD)) ?_
          refine ai 5 1 rfl (by kernel_rfl) (fun _=>run_move rfl rfl) ?_
          refine Un (i:=6) 0 rfl (by kernel_rfl) rfl rfl (fun tP gB=>?_)
          have dm:=gB.pick [1,0,2,3,4] [_,_,_,_,_] (by decide) ⟨rfl,rfl,rfl,rfl,rfl,trivial⟩;clear gB
          have ib:SH _ _ _ (Rs.aW [_]::[_,_,_,_]):=SH.iD (A:=[_]) (B:=[_,_,_,_]) dm;clear dm
          have ji:SH _ _ _ [_,_,_,_,_]:=ib.less (i:=0) rfl
          have gL:=sj d.ae d.loops ((Ud d m.at_ false).1) ((Ud d m.at_ false).2) ((2*(d.ae.length:Int))+2) (by exact bh) (by exact cx) (ib.gN (i:=0) rfl);clear ji
          refine(jk (i:=0) rfl rfl rfl rfl rfl rfl rfl tE ib rfl gL ?_)
          intro avu vL M10 avJ sK lM jc;clear ib
          obtain⟨kq,gX,kP⟩:=jc
          rw[gX]at lM
          clear gX
          subst kq
          subst kP
          replace lM:SH _ _ _ (Rs.aW [_]::[_,_,_,_]):=lM
          have uy:SH _ _ _ [_,_,_,_,_]:=SH.je (A:=[_]) (B:=[_,_,_,_]) lM;clear lM
          refine aN.turn (by kernel_rfl) uy ?_;clear uy
          change WA _ _ _ _ _ _ _ _ _ _ _ _ [_,_,_,_,_]
          refine Uu (by kernel_rfl) (fun Oo kV=>?_)
          refine ah [3,4,7,8,9,10] rfl (U3 (U2 Cx vE rfl rfl rfl ?_))
          have hsl:=iw d.ae (Ud d m.at_ false).1 (Ud d m.at_ false).2 (2*(d.ae.length:Int)+2)
          refine U0 rfl (af 0 rfl (U1 rfl rfl aR rfl (aB) (aA)) (af 1 rfl (U4 rfl rfl av rfl (kV.ar (i:=3) rfl rfl)) (af 2 rfl (jq rfl rfl rfl (by first|omega|(simp only[ls];omega))) ?_)))
          refine af 3 rfl (bP rfl rfl rfl) (ag 4 1 rfl rfl (U5 rfl (ah [3,4,7,8,9,10,11] rfl (U3 (U2 Cw vD rfl rfl rfl (U0 rfl (ak 0 1 rfl rfl rfl (Uh (l:=[_,_,_,_,_]) rfl rfl rfl kz rfl kV ?_))))))))
          intro rI tO dG;clear kV
          refine U5 rfl (U3 (U2 vC vB rfl rfl rfl ?_))
          refine mA (fun au aM=>∃(cc:Cr),Env 119 [(4,.pointer (some ⟨bE,0,none⟩)),(7,.pointer (some ⟨gY,0,none⟩)),(12,.pointer (some ⟨rI,0,none⟩))] au/\SH aM M X [Rs.box rI 77 [.int .i64 cc.a,.int .i64 cc.b,.int .i64 cc.c,.int .i64 cc.d,.bool cc.plus],Rs.row aG mI (bg d.ae ((Ud d m.at_ false).1) ((Ud d m.at_ false).2) ((2*(d.ae.length:Int))+2)),Rs.box gY 24 [mI,.int .i64 d.loops],Rs.box bE 24 [.slice none 0 0,.int .i64 0],Rs.box aQ 28 [.int .i64 m.kd,.int .i64 m.at_,.int .i64 m.aJ,.int .i64 m.ua,.bool m.ub,.int .i64 m.va,.bool m.vb,.bool m.ov],Rs.box aI 24 [.slice aV d.ae.length aU,.int .i64 d.loops]]/\cc=fh m.at_ ((2*(d.ae.length:Int))+1) ((2*(d.ae.length:Int))+1) ((2*(d.ae.length:Int))+2) m.aJ) ?_ ?_
          ·refine U2 Cv vA rfl rfl rfl (U0 rfl (af 0 rfl (U1 rfl rfl aR rfl (aB) (aA)) (af 1 rfl (U4 rfl rfl av rfl (dG.ar (i:=4) rfl rfl)) (af 2 rfl (kf rfl rfl rfl) (U5 rfl (ah [4,7,8,9,10,11,12,89] rfl (U3 ?_)))))))
           refine Ue vz vw rfl rfl rfl rfl (fun pF=>?_) (fun pF=>?_)
           ·refine U2 Cu vt rfl rfl rfl (U0 rfl (ag 0 5 rfl rfl (af 5 rfl (run_build (l:=[_,_,_,_,_]) rfl rfl lW rfl rfl) (ak 6 7 rfl rfl rfl (U7 (i:=0) (us:=[_,_,_,_,_]) (l':=[_,_,_,_,_]) (H':=[_,_,_,_,_,_]) rfl rfl dG rfl rfl rfl rfl bT rfl rfl rfl rfl ?_)))))
            intro vK fO;clear dG
            refine U5 rfl (ah [4,7,8,9,11,12] rfl (U3 (U2 Cs vq rfl rfl rfl (U0 rfl (ag 0 1 rfl rfl (U5 rfl (ah [4,7,8,9,12,96] rfl (U3 ?_))))))))
            refine Ue Cn Cl rfl rfl rfl rfl (fun iZ=>?_) (fun iZ=>?_)
            ·refine U0 rfl (ag 0 2 rfl rfl (af 2 rfl (U1 rfl rfl aT rfl (aB) (aA)) (ak 3 4 rfl rfl rfl (U7 (i:=0) (us:=[_]) (l':=[_,_,_,_,_]) (H':=[_,_,_,_,_,_]) rfl rfl fO rfl rfl rfl rfl aY rfl rfl rfl rfl ?_))))
             intro tN lL;clear fO
             refine af 4 rfl (U1 rfl rfl aT rfl (aB) (aA)) (ak 5 6 rfl rfl rfl (U7 (i:=0) (us:=[_]) (l':=[_,_,_,_,_]) (H':=[_,_,_,_,_,_]) rfl rfl lL rfl rfl rfl rfl aY rfl rfl rfl rfl ?_))
             intro Om fN;clear lL
             refine U5 rfl (aP ?_)
             intro au aq
             refine⟨(⟨(2*(d.ae.length:Int))+1,(2*(d.ae.length:Int))+1,(2*(d.ae.length:Int))+2,m.at_,decide ((m.aJ%2)=1)⟩:Cr),aq.sub ⟨rfl,rfl,rfl,trivial⟩,fN.pick [0,1,2,3,4,5] [_,_,_,_,_,_] (by decide) ⟨rfl,rfl,rfl,rfl,rfl,rfl,trivial⟩,?fB⟩
             case fB=>(unfold fh di;rw[if_pos (by omega),decide_eq_true iZ,if_pos rfl])
            ·refine Uf rfl (aP ?_)
             intro au aq
             refine⟨(⟨(2*(d.ae.length:Int))+1,m.at_,(2*(d.ae.length:Int))+2,(2*(d.ae.length:Int))+1,decide ((m.aJ%2)=1)⟩:Cr),aq.sub ⟨rfl,rfl,rfl,trivial⟩,fO.pick [0,1,2,3,4,5] [_,_,_,_,_,_] (by decide) ⟨rfl,rfl,rfl,rfl,rfl,rfl,trivial⟩,?iz⟩
             case iz=>(unfold fh di;rw[if_pos (by omega),decide_eq_false iZ,if_neg Bool.false_ne_true])
           ·refine U2 Ck vp rfl rfl rfl (U0 rfl (ag 0 5 rfl rfl (af 5 rfl (run_build (l:=[_,_,_,_,_]) rfl rfl lW rfl rfl) (ak 6 7 rfl rfl rfl (U7 (i:=0) (us:=[_,_,_,_,_]) (l':=[_,_,_,_,_]) (H':=[_,_,_,_,_,_]) rfl rfl dG rfl rfl rfl rfl bT rfl rfl rfl rfl ?_)))))
            intro Ol eN;clear dG
            refine U5 rfl (ah [4,7,9,10,11,12] rfl (U3 (U2 Cj vk rfl rfl rfl (U0 rfl (ag 0 1 rfl rfl (U5 rfl (ah [4,7,9,10,12,107] rfl (U3 ?_))))))))
            refine Ue Ci Ch rfl rfl rfl rfl (fun gT=>?_) (fun gT=>?_)
            ·refine U0 rfl (ag 0 2 rfl rfl (af 2 rfl (U1 rfl rfl aT rfl (aB) (aA)) (ak 3 4 rfl rfl rfl (U7 (i:=0) (us:=[_]) (l':=[_,_,_,_,_]) (H':=[_,_,_,_,_,_]) rfl rfl eN rfl rfl rfl rfl aY rfl rfl rfl rfl ?_))))
             intro vJ iK;clear eN
             refine af 4 rfl (U1 rfl rfl aT rfl (aB) (aA)) (ak 5 6 rfl rfl rfl (U7 (i:=0) (us:=[_]) (l':=[_,_,_,_,_]) (H':=[_,_,_,_,_,_]) rfl rfl iK rfl rfl rfl rfl aY rfl rfl rfl rfl ?_))
             intro tM jQ;clear iK
             refine U5 rfl (aP ?_)
             intro au aq
             refine⟨(⟨m.at_,(2*(d.ae.length:Int))+2,(2*(d.ae.length:Int))+1,(2*(d.ae.length:Int))+1,decide ((m.aJ%2)=1)⟩:Cr),aq.sub ⟨rfl,rfl,rfl,trivial⟩,jQ.pick [0,1,2,3,4,5] [_,_,_,_,_,_] (by decide) ⟨rfl,rfl,rfl,rfl,rfl,rfl,trivial⟩,?iX⟩
             case iX=>(unfold fh di;rw[if_neg (by omega),decide_eq_true gT,if_pos rfl])
            ·refine Uf rfl (aP ?_)
             intro au aq
             refine⟨(⟨m.at_,(2*(d.ae.length:Int))+1,(2*(d.ae.length:Int))+1,(2*(d.ae.length:Int))+2,decide ((m.aJ%2)=1)⟩:Cr),aq.sub ⟨rfl,rfl,rfl,trivial⟩,eN.pick [0,1,2,3,4,5] [_,_,_,_,_,_] (by decide) ⟨rfl,rfl,rfl,rfl,rfl,rfl,trivial⟩,?jA⟩
             case jA=>(unfold fh di;rw[if_neg (by omega),decide_eq_false gT,if_neg Bool.false_ne_true])
          ·rintro a2 oo ⟨cc,cx,gA,hcc⟩
           clear dG
           refine mG cx ?_
           clear cx a2
           refine U3 (U2 Cg vh rfl rfl rfl (U0 rfl (af 0 rfl (U1 rfl rfl ay rfl (bK) (bJ)) (af 1 rfl (U4 rfl rfl bG rfl (gA.ar (i:=2) rfl rfl)) (af 2 rfl (U8 (us:=[_,_,_,_,_]) rfl rfl aT rfl bT (gA.ax (i:=0) rfl ⟨rfl,rfl,rfl,rfl,rfl,trivial⟩)) (ak 3 4 rfl rfl rfl (iy (C:=aG) (l:=[_,_,_,_,_]) rfl rfl rfl rfl b8 rfl rfl rfl rfl gA ?_)))))))
           intro vW vI iJ;clear gA
           refine ak 4 5 rfl rfl rfl (jg (C:=aG) (i:=2) (q:=0) (⟨cc.a,cc.b,cc.c,cc.d,cc.plus⟩:Cr) rfl rfl rfl rfl rfl rfl rfl rfl b8 iJ rfl rfl rfl (by show(_+1)*40<=_;first|omega|(simp only[ls];omega)) ?_)
           intro al5 tL iI;clear iJ
           have jP:=iI.pick [1,2,3,4,5,6] [_,_,_,_,_,_] (by decide) ⟨rfl,rfl,rfl,rfl,rfl,rfl,trivial⟩;clear iI
           refine af 5 rfl (U1 rfl rfl ay rfl (bK) (bJ)) (ak 6 7 rfl rfl rfl (U7 (i:=2) (us:=[_]) (l':=[_,_]) (H':=[_,_,_,_,_,_]) rfl rfl jP rfl rfl rfl (jP.jx (i:=1) rfl) kZ rfl (Uy (jP.one (i:=1) rfl) rfl) rfl rfl ?_))
           intro vH jh;clear jP
           refine U5 rfl (ah [4,7] rfl (U3 (U2 Cf Ce rfl rfl rfl (U0 rfl (af 0 rfl (U8 (us:=[_,_]) rfl rfl ay rfl az (jh.ax (i:=2) rfl ⟨rfl,rfl,trivial⟩)) (ak 1 2 rfl rfl rfl (U7 (i:=3) (us:=[_,_]) (l':=[_,_]) (H':=[_,_,_,_,_,_]) rfl rfl jh rfl rfl rfl rfl az rfl (Uy (jh.one (i:=1) rfl) (Uy rfl rfl)) rfl rfl ?_)))))))
           intro yT oQ;clear jh
           refine ag 2 1 rfl rfl (U5 rfl (ah [4,5] rfl (U3 ?_)))
           obtain⟨M12,acK,jO,⟨A2,c2,e2,hr2⟩⟩:=oQ.fZ (i:=1) (H':=[_,_,_,_,_,_]) rfl rfl (by show _*40<=_;first|omega|(simp only[ls];omega))
           clear oQ;subst e2
           replace aC:=aC.mono (Hp.Ua acK jO.mx)
           refine Uj hC [_,_] rfl rfl ⟨⟨_,rfl,Um (us:=[_,_]) ay rfl az (jO.ax (i:=3) rfl ⟨rfl,rfl,trivial⟩)⟩,rfl,trivial⟩ ?_
           refine⟨_,rfl,_,acK,(jO.pick [] [] (by decide) trivial),?_⟩
           rw[r9 (E:=⟨(bg d.ae ((Ud d m.at_ false).1) ((Ud d m.at_ false).2) ((2*(d.ae.length:Int))+2))++[(⟨cc.a,cc.b,cc.c,cc.d,cc.plus⟩:Cr)],d.loops⟩) (by unfold dP;rw[if_pos (by omega),if_pos (by omega)]) (by subst hcc;unfold lh;rw[if_neg (by omega)])]
           exact⟨_,_,rfl,hr2⟩
    ·refine U5 rfl (ah [2,3,4,6,45] rfl (U3 ?_))
     refine Ue yx aeQ rfl rfl rfl rfl (fun G3=>?_) (fun G3=>?_)
     ·refine U2 Kk Kj rfl rfl rfl (U0 rfl (af 0 rfl (run_build (l:=[_,_]) rfl rfl cJ rfl rfl) (ak 1 2 rfl rfl rfl (U7 (i:=0) (us:=[_,_]) (l':=[_,_]) (H':=[_,_,_]) rfl rfl S3 rfl rfl rfl rfl az rfl rfl rfl rfl ?_))))
      intro tK qp;clear S3
      refine ag 2 1 rfl rfl (U5 rfl (ah [4,5] rfl (U3 (Uj hC [_,_] rfl rfl ⟨⟨_,rfl,Um (us:=[_,_]) ay rfl az (qp.ax (i:=0) rfl ⟨rfl,rfl,trivial⟩)⟩,rfl,trivial⟩ ?_))))
      refine⟨_,rfl,_,Hp.le_refl _,(qp.pick [] [] (by decide) trivial),?_⟩
      rw[eH (c:=3) (by unfold dP;rw[if_neg (by omega)]) (by decide)]
      exact dU 3
     ·refine Uf rfl (ah [2,3,4,6] rfl (U3 (U2 CI CH rfl rfl rfl (U2 aeP CG rfl rfl rfl (U0 rfl (ag 0 1 rfl rfl (af 1 rfl (bP rfl rfl rfl) (U5 rfl ?_))))))))
      refine ah [2,3,4,6,48] rfl (U3 ?_)
      refine Ue CF aeO rfl rfl rfl rfl (fun hb48=>?_) (fun hb48=>?_)
      ·refine U2 aeN aeM rfl rfl rfl (U0 rfl (af 0 rfl (run_build (l:=[_,_]) rfl rfl cJ rfl rfl) (ak 1 2 rfl rfl rfl (U7 (i:=0) (us:=[_,_]) (l':=[_,_]) (H':=[_,_,_]) rfl rfl S3 rfl rfl rfl rfl az rfl rfl rfl rfl ?_))))
       intro Oj nX;clear S3
       refine ag 2 1 rfl rfl (U5 rfl (ah [4,5] rfl (U3 (Uj hC [_,_] rfl rfl ⟨⟨_,rfl,Um (us:=[_,_]) ay rfl az (nX.ax (i:=0) rfl ⟨rfl,rfl,trivial⟩)⟩,rfl,trivial⟩ ?_))))
       refine⟨_,rfl,_,Hp.le_refl _,(nX.pick [] [] (by decide) trivial),?_⟩
       rw[eH (c:=2) (by unfold dP;rw[if_pos (by omega),if_neg (by omega)]) (by decide)]
       exact dU 2
      ·refine Uf rfl (ah [2,3,4,6] rfl (U3 (U2 aeL CD rfl rfl rfl (U0 rfl (af 0 rfl (U8 (us:=[_,_]) rfl rfl ay rfl az (S3.ax (i:=2) rfl ⟨rfl,rfl,trivial⟩)) (ak 1 2 rfl rfl rfl (uO rfl rfl rfl rfl rfl rfl rfl zC S3 (Aw d (aC.mono S3.Uw) S3.aD) ?_)))))))
       intro avq Oi av3 nW akY;clear S3
       obtain⟨Bo,rfl,rfl⟩:=akY
       have mv:SH _ _ _ [_,_,_,_]:=nW;clear nW
       refine ak 2 3 rfl rfl rfl (Uh (l:=[_,_]) rfl rfl rfl fQ rfl mv ?_)
       intro vV Oh ni;clear mv
       refine ak 3 4 rfl rfl rfl (U7 (i:=0) (us:=[_,_]) (l':=[_,_]) (H':=[_,_,_,_,_]) rfl rfl ni rfl rfl rfl rfl az rfl (Uy (ni.one (i:=1) rfl) (Uy rfl rfl)) rfl rfl ?_)
       intro Og oP;clear ni
       refine U5 rfl (ah [2,3,4,6,7] rfl (U3 (U2 aeK CC rfl rfl rfl (U0 rfl (af 0 rfl (U1 rfl rfl aR rfl (aB) (aA)) (af 1 rfl (U4 rfl rfl av rfl (oP.ar (i:=3) rfl rfl)) (ag 2 1 rfl rfl (af 3 rfl (iH rfl rfl rfl (by first|omega|(simp only[ls];omega))) ?_))))))))
       refine af 4 rfl (Ug rfl rfl rfl (by first|omega|(simp only[ls];omega))) ?_
       refine ag 5 1 rfl rfl (af 6 rfl (iH rfl rfl rfl (by first|omega|(simp only[ls];omega))) ?_)
       refine af 7 rfl (Ug rfl rfl rfl (by first|omega|(simp only[ls];omega))) ?_
       refine ag 8 3 rfl rfl (U5 rfl (ah [2,3,4,6,7,8,9,10] rfl (U3 (U2 CB CA rfl rfl rfl (U2 aeJ Cz rfl rfl rfl (U0 rfl (af 0 rfl (U1 rfl rfl aR rfl (aB) (aA)) (af 1 rfl (U4 rfl rfl av rfl (oP.ar (i:=3) rfl rfl)) ?_))))))))
       refine af 2 rfl (bP rfl rfl rfl) (U5 rfl (ah [2,3,4,6,7,8,9,10,62] rfl (U3 ?_)))
       refine Ue Cy aeI rfl rfl rfl rfl (fun jX=>?_) (fun jX=>?_)
       ·refine U2 aeH aeG rfl rfl rfl (U0 rfl (ag 0 1 rfl rfl (af 1 rfl (iH rfl rfl rfl (by first|omega|(simp only[ls];omega))) ?_)))
        refine af 2 rfl (Ug rfl rfl rfl (by first|omega|(simp only[ls];omega))) ?_
        refine ag 3 1 rfl rfl (af 4 rfl (iH rfl rfl rfl (by first|omega|(simp only[ls];omega))) ?_)
        refine af 5 rfl (Ug rfl rfl rfl (by first|omega|(simp only[ls];omega))) ?_
        refine ag 6 1 rfl rfl (af 7 rfl (iH rfl rfl rfl (by first|omega|(simp only[ls];omega))) ?_)
        refine af 8 rfl (Ug rfl rfl rfl (by first|omega|(simp only[ls];omega))) ?_
        refine ag 9 3 rfl rfl (U5 rfl (ah [3,4,7,8,9,10] rfl (U3 (U0 rfl (af 0 rfl (U1 rfl rfl ay rfl (aB) (aA)) (af 1 rfl (U4 rfl rfl av rfl (oP.ar (i:=0) rfl rfl)) (af 2 rfl (qw rfl rfl rfl (by first|omega|(simp only[ls];omega))) ?_)))))))
        refine af 3 rfl (U1 rfl rfl ay rfl (aB) (aA)) (ak 4 5 rfl rfl rfl (U7 (i:=0) (us:=[_]) (l':=[_,_]) (H':=[_,_,_,_,_]) rfl rfl oP rfl rfl rfl rfl aY rfl rfl rfl rfl ?_))
        intro Dd wG;clear oP
        refine U5 rfl (ah [3,4,7,8,9,10] rfl (U3 (U2 Cx vE rfl rfl rfl (U0 rfl (af 0 rfl (U1 rfl rfl aR rfl (aB) (aA)) (af 1 rfl (U4 rfl rfl av rfl (wG.ar (i:=3) rfl rfl)) (af 2 rfl (jq rfl rfl rfl (by first|omega|(simp only[ls];omega))) ?_)))))))
        refine af 3 rfl (bP rfl rfl rfl) (ag 4 1 rfl rfl (U5 rfl (ah [3,4,7,8,9,10,11] rfl (U3 (U2 Cw vD rfl rfl rfl (U0 rfl (ak 0 1 rfl rfl rfl (Uh (l:=[_,_,_,_,_]) rfl rfl rfl kz rfl wG ?_))))))))
        intro Hf w51 ng;clear wG
        refine U5 rfl (U3 (U2 vC vB rfl rfl rfl ?_))
        refine mA (fun au aM=>∃(cc:Cr),Env 119 [(4,.pointer (some ⟨bE,0,none⟩)),(7,.pointer (some ⟨vV,0,none⟩)),(12,.pointer (some ⟨Hf,0,none⟩))] au/\SH aM M X [Rs.box Hf 77 [.int .i64 cc.a,.int .i64 cc.b,.int .i64 cc.c,.int .i64 cc.d,.bool cc.plus],Rs.box vV 24 [Bo,.int .i64 (d.loops-1)],Rs.row aG Bo d.ae,Rs.box bE 24 [.slice none 0 0,.int .i64 0],Rs.box aQ 28 [.int .i64 m.kd,.int .i64 m.at_,.int .i64 m.aJ,.int .i64 m.ua,.bool m.ub,.int .i64 m.va,.bool m.vb,.bool m.ov],Rs.box aI 24 [.slice aV d.ae.length aU,.int .i64 d.loops]]/\cc=fh ((2*(d.ae.length:Int))+1) ((2*(d.ae.length:Int))+2) ((2*(d.ae.length:Int))+2) ((2*(d.ae.length:Int))+1) m.aJ) ?_ ?_
        ·refine U2 Cv vA rfl rfl rfl (U0 rfl (af 0 rfl (U1 rfl rfl aR rfl (aB) (aA)) (af 1 rfl (U4 rfl rfl av rfl (ng.ar (i:=4) rfl rfl)) (af 2 rfl (kf rfl rfl rfl) (U5 rfl (ah [4,7,8,9,10,11,12,89] rfl (U3 ?_)))))))
         refine Ue vz vw rfl rfl rfl rfl (fun pF=>?_) (fun pF=>?_)
         ·refine U2 Cu vt rfl rfl rfl (U0 rfl (ag 0 5 rfl rfl (af 5 rfl (run_build (l:=[_,_,_,_,_]) rfl rfl lW rfl rfl) (ak 6 7 rfl rfl rfl (U7 (i:=0) (us:=[_,_,_,_,_]) (l':=[_,_,_,_,_]) (H':=[_,_,_,_,_,_]) rfl rfl ng rfl rfl rfl rfl bT rfl rfl rfl rfl ?_)))))
          intro w53 jN;clear ng
          refine U5 rfl (ah [4,7,8,9,11,12] rfl (U3 (U2 Cs vq rfl rfl rfl (U0 rfl (ag 0 1 rfl rfl (U5 rfl (ah [4,7,8,9,12,96] rfl (U3 ?_))))))))
          refine Ue Cn Cl rfl rfl rfl rfl (fun iZ=>?_) (fun iZ=>?_)
          ·refine U0 rfl (ag 0 2 rfl rfl (af 2 rfl (U1 rfl rfl aT rfl (aB) (aA)) (ak 3 4 rfl rfl rfl (U7 (i:=0) (us:=[_]) (l':=[_,_,_,_,_]) (H':=[_,_,_,_,_,_]) rfl rfl jN rfl rfl rfl rfl aY rfl rfl rfl rfl ?_))))
           intro w54 S64;clear jN
           refine af 4 rfl (U1 rfl rfl aT rfl (aB) (aA)) (ak 5 6 rfl rfl rfl (U7 (i:=0) (us:=[_]) (l':=[_,_,_,_,_]) (H':=[_,_,_,_,_,_]) rfl rfl S64 rfl rfl rfl rfl aY rfl rfl rfl rfl ?_))
           intro w55 S65;clear S64
           refine U5 rfl (aP ?_)
           intro au aq
           refine⟨(⟨(2*(d.ae.length:Int))+2,(2*(d.ae.length:Int))+2,(2*(d.ae.length:Int))+1,(2*(d.ae.length:Int))+1,decide ((m.aJ%2)=1)⟩:Cr),aq.sub ⟨rfl,rfl,rfl,trivial⟩,S65.pick [0,1,2,3,4,5] [_,_,_,_,_,_] (by decide) ⟨rfl,rfl,rfl,rfl,rfl,rfl,trivial⟩,?sI⟩
           case sI=>(unfold fh di;rw[if_pos (by omega),decide_eq_true iZ,if_pos rfl])
          ·refine Uf rfl (aP ?_)
           intro au aq
           refine⟨(⟨(2*(d.ae.length:Int))+2,(2*(d.ae.length:Int))+1,(2*(d.ae.length:Int))+1,(2*(d.ae.length:Int))+2,decide ((m.aJ%2)=1)⟩:Cr),aq.sub ⟨rfl,rfl,rfl,trivial⟩,jN.pick [0,1,2,3,4,5] [_,_,_,_,_,_] (by decide) ⟨rfl,rfl,rfl,rfl,rfl,rfl,trivial⟩,?xm⟩
           case xm=>(unfold fh di;rw[if_pos (by omega),decide_eq_false iZ,if_neg Bool.false_ne_true])
         ·refine U2 Ck vp rfl rfl rfl (U0 rfl (ag 0 5 rfl rfl (af 5 rfl (run_build (l:=[_,_,_,_,_]) rfl rfl lW rfl rfl) (ak 6 7 rfl rfl rfl (U7 (i:=0) (us:=[_,_,_,_,_]) (l':=[_,_,_,_,_]) (H':=[_,_,_,_,_,_]) rfl rfl ng rfl rfl rfl rfl bT rfl rfl rfl rfl ?_)))))
          intro w56 qo;clear ng
          refine U5 rfl (ah [4,7,9,10,11,12] rfl (U3 (U2 Cj vk rfl rfl rfl (U0 rfl (ag 0 1 rfl rfl (U5 rfl (ah [4,7,9,10,12,107] rfl (U3 ?_))))))))
          refine Ue Ci Ch rfl rfl rfl rfl (fun gT=>?_) (fun gT=>?_)
          ·refine U0 rfl (ag 0 2 rfl rfl (af 2 rfl (U1 rfl rfl aT rfl (aB) (aA)) (ak 3 4 rfl rfl rfl (U7 (i:=0) (us:=[_]) (l':=[_,_,_,_,_]) (H':=[_,_,_,_,_,_]) rfl rfl qo rfl rfl rfl rfl aY rfl rfl rfl rfl ?_))))
           intro Od oO;clear qo
           refine af 4 rfl (U1 rfl rfl aT rfl (aB) (aA)) (ak 5 6 rfl rfl rfl (U7 (i:=0) (us:=[_]) (l':=[_,_,_,_,_]) (H':=[_,_,_,_,_,_]) rfl rfl oO rfl rfl rfl rfl aY rfl rfl rfl rfl ?_))
           intro Dc ux;clear oO
           refine U5 rfl (aP ?_)
           intro au aq
           refine⟨(⟨(2*(d.ae.length:Int))+1,(2*(d.ae.length:Int))+1,(2*(d.ae.length:Int))+2,(2*(d.ae.length:Int))+2,decide ((m.aJ%2)=1)⟩:Cr),aq.sub ⟨rfl,rfl,rfl,trivial⟩,ux.pick [0,1,2,3,4,5] [_,_,_,_,_,_] (by decide) ⟨rfl,rfl,rfl,rfl,rfl,rfl,trivial⟩,?xk⟩
           case xk=>(unfold fh di;rw[if_neg (by omega),decide_eq_true gT,if_pos rfl])
          ·refine Uf rfl (aP ?_)
           intro au aq
           refine⟨(⟨(2*(d.ae.length:Int))+1,(2*(d.ae.length:Int))+2,(2*(d.ae.length:Int))+2,(2*(d.ae.length:Int))+1,decide ((m.aJ%2)=1)⟩:Cr),aq.sub ⟨rfl,rfl,rfl,trivial⟩,qo.pick [0,1,2,3,4,5] [_,_,_,_,_,_] (by decide) ⟨rfl,rfl,rfl,rfl,rfl,rfl,trivial⟩,?xj⟩
           case xj=>(unfold fh di;rw[if_neg (by omega),decide_eq_false gT,if_neg Bool.false_ne_true])
        ·rintro a3 Oe ⟨cc,fU,kU,hcc⟩
         clear ng
         refine mG fU ?_
         clear fU a3
         refine U3 (U2 Cg vh rfl rfl rfl (U0 rfl (af 0 rfl (U1 rfl rfl ay rfl (bK) (bJ)) (af 1 rfl (U4 rfl rfl bG rfl (kU.ar (i:=1) rfl rfl)) (af 2 rfl (U8 (us:=[_,_,_,_,_]) rfl rfl aT rfl bT (kU.ax (i:=0) rfl ⟨rfl,rfl,rfl,rfl,rfl,trivial⟩)) (ak 3 4 rfl rfl rfl (iy (C:=aG) (l:=[_,_,_,_,_]) rfl rfl rfl rfl b8 rfl rfl rfl rfl kU ?_)))))))
         intro anl Oc eZ;clear kU
         refine ak 4 5 rfl rfl rfl (jg (C:=aG) (i:=3) (q:=0) (⟨cc.a,cc.b,cc.c,cc.d,cc.plus⟩:Cr) rfl rfl rfl rfl rfl rfl rfl rfl b8 eZ rfl rfl rfl (by show(_+1)*40<=_;first|omega|(simp only[ls];omega)) ?_)
         intro avF Ob zK;clear eZ
         have oN:=zK.pick [1,2,3,4,5,6] [_,_,_,_,_,_] (by decide) ⟨rfl,rfl,rfl,rfl,rfl,rfl,trivial⟩;clear zK
         refine af 5 rfl (U1 rfl rfl ay rfl (bK) (bJ)) (ak 6 7 rfl rfl rfl (U7 (i:=1) (us:=[_]) (l':=[_,_]) (H':=[_,_,_,_,_,_]) rfl rfl oN rfl rfl rfl (oN.jx (i:=2) rfl) kZ rfl (Uy (oN.one (i:=2) rfl) rfl) rfl rfl ?_))
         intro Oa jw;clear oN
         refine U5 rfl (ah [4,7] rfl (U3 (U2 Cf Ce rfl rfl rfl (U0 rfl (af 0 rfl (U8 (us:=[_,_]) rfl rfl ay rfl az (jw.ax (i:=1) rfl ⟨rfl,rfl,trivial⟩)) (ak 1 2 rfl rfl rfl (U7 (i:=3) (us:=[_,_]) (l':=[_,_]) (H':=[_,_,_,_,_,_]) rfl rfl jw rfl rfl rfl rfl az rfl (Uy (jw.one (i:=2) rfl) (Uy rfl rfl)) rfl rfl ?_)))))))
         intro N9 kT;clear jw
         refine ag 2 1 rfl rfl (U5 rfl (ah [4,5] rfl (U3 ?_)))
         obtain⟨M14,acJ,jv,⟨A3,c3,e3,hr3⟩⟩:=kT.fZ (i:=2) (H':=[_,_,_,_,_,_]) rfl rfl (by show _*40<=_;first|omega|(simp only[ls];omega))
         clear kT;subst e3
         replace aC:=aC.mono (Hp.Ua acJ jv.mx)
         refine Uj hC [_,_] rfl rfl ⟨⟨_,rfl,Um (us:=[_,_]) ay rfl az (jv.ax (i:=3) rfl ⟨rfl,rfl,trivial⟩)⟩,rfl,trivial⟩ ?_
         refine⟨_,rfl,_,acJ,(jv.pick [] [] (by decide) trivial),?_⟩
         rw[r9 (E:=⟨d.ae++[(⟨cc.a,cc.b,cc.c,cc.d,cc.plus⟩:Cr)],d.loops-1⟩) (by unfold dP;rw[if_pos (by omega),if_pos (by omega)]) (by subst hcc;unfold lh;rw[if_pos (by omega)])]
         exact⟨_,_,rfl,hr3⟩
       ·obtain⟨bh,cx,_⟩:=fe hab (a:=m.at_) (by omega) false
        refine Ux rfl (by kernel_rfl) oP 7 rfl ?_
        clear oP
        refine aj 0 6 rfl (by kernel_rfl) (fun _ _ _ hz Sz=>.inl (U8 (us:=[_,_]) rfl rfl ay rfl az (Sz.suf.ax (i:=0) rfl ⟨rfl,rfl,trivial⟩))) ?_
        refine aj 1 5 rfl (by kernel_rfl) (fun _ _ _ hz Sz=>.inl (U8 (us:=[_,_]) rfl rfl ay rfl az (Sz.suf.ax (i:=4) rfl ⟨rfl,rfl,trivial⟩))) ?_
        refine ai 2 4 rfl (by kernel_rfl) (fun _=>U1 rfl rfl aR rfl (aB) (aA)) ?_
        refine aj 3 3 rfl (by kernel_rfl) (fun _ _ _ hz Sz=>.inl (U4 rfl rfl av rfl (Sz.suf.ar (i:=3) rfl rfl))) ?_
        refine aj 4 2 rfl (by kernel_rfl) (fun _ _ _ hz Sz=>Uq rfl rfl rfl rfl rfl lj Sz (lH d m.at_ false ((aC.mono (Hp.Ua hz Sz.mx)).mono Sz.Uw) Sz.aD)) ?_
        refine ai 5 1 rfl (by kernel_rfl) (fun _=>run_move rfl rfl) ?_
        refine Un (i:=6) 0 rfl (by kernel_rfl) rfl rfl (fun w70 jM=>?_)
        have oM:=jM.pick [1,0,2,3,4] [_,_,_,_,_] (by decide) ⟨rfl,rfl,rfl,rfl,rfl,trivial⟩;clear jM
        have ju:SH _ _ _ (Rs.aW [_]::[_,_,_,_]):=SH.iD (A:=[_]) (B:=[_,_,_,_]) oM;clear oM
        have qm:SH _ _ _ [_,_,_,_,_]:=ju.less (i:=0) rfl
        have lN:=sj d.ae d.loops ((Ud d m.at_ false).1) ((Ud d m.at_ false).2) ((2*(d.ae.length:Int))+2) (by exact bh) (by exact cx) (ju.gN (i:=0) rfl);clear qm
        refine(jk (i:=0) rfl rfl rfl rfl rfl rfl rfl tE ju rfl lN ?_)
        intro avp Db M22 avH aun ko ug;clear ju
        obtain⟨se,nJ,uf⟩:=ug
        rw[nJ]at ko
        clear nJ
        subst se
        subst uf
        replace ko:SH _ _ _ (Rs.aW [_]::[_,_,_,_]):=ko
        have zI:SH _ _ _ [_,_,_,_,_]:=SH.je (A:=[_]) (B:=[_,_,_,_]) ko;clear ko
        refine aN.turn (by kernel_rfl) zI ?_;clear zI
        change WA _ _ _ _ _ _ _ _ _ _ _ _ [_,_,_,_,_]
        refine Uu (by kernel_rfl) (fun C9 wF=>?_)
        refine ah [3,4,7,8,9,10] rfl (U3 (U2 Cx vE rfl rfl rfl ?_))
        have hsl:=iw d.ae (Ud d m.at_ false).1 (Ud d m.at_ false).2 (2*(d.ae.length:Int)+2)
        refine U0 rfl (af 0 rfl (U1 rfl rfl aR rfl (aB) (aA)) (af 1 rfl (U4 rfl rfl av rfl (wF.ar (i:=3) rfl rfl)) (af 2 rfl (jq rfl rfl rfl (by first|omega|(simp only[ls];omega))) ?_)))
        refine af 3 rfl (bP rfl rfl rfl) (ag 4 1 rfl rfl (U5 rfl (ah [3,4,7,8,9,10,11] rfl (U3 (U2 Cw vD rfl rfl rfl (U0 rfl (ak 0 1 rfl rfl rfl (Uh (l:=[_,_,_,_,_]) rfl rfl rfl kz rfl wF ?_))))))))
        intro He w73 na;clear wF
        refine U5 rfl (U3 (U2 vC vB rfl rfl rfl ?_))
        refine mA (fun au aM=>∃(cc:Cr),Env 119 [(4,.pointer (some ⟨bE,0,none⟩)),(7,.pointer (some ⟨vV,0,none⟩)),(12,.pointer (some ⟨He,0,none⟩))] au/\SH aM M X [Rs.box He 77 [.int .i64 cc.a,.int .i64 cc.b,.int .i64 cc.c,.int .i64 cc.d,.bool cc.plus],Rs.row aG Bo (bg d.ae ((Ud d m.at_ false).1) ((Ud d m.at_ false).2) ((2*(d.ae.length:Int))+2)),Rs.box vV 24 [Bo,.int .i64 d.loops],Rs.box bE 24 [.slice none 0 0,.int .i64 0],Rs.box aQ 28 [.int .i64 m.kd,.int .i64 m.at_,.int .i64 m.aJ,.int .i64 m.ua,.bool m.ub,.int .i64 m.va,.bool m.vb,.bool m.ov],Rs.box aI 24 [.slice aV d.ae.length aU,.int .i64 d.loops]]/\cc=fh m.at_ ((2*(d.ae.length:Int))+1) ((2*(d.ae.length:Int))+1) ((2*(d.ae.length:Int))+2) m.aJ) ?_ ?_
        ·refine U2 Cv vA rfl rfl rfl (U0 rfl (af 0 rfl (U1 rfl rfl aR rfl (aB) (aA)) (af 1 rfl (U4 rfl rfl av rfl (na.ar (i:=4) rfl rfl)) (af 2 rfl (kf rfl rfl rfl) (U5 rfl (ah [4,7,8,9,10,11,12,89] rfl (U3 ?_)))))))
         refine Ue vz vw rfl rfl rfl rfl (fun pF=>?_) (fun pF=>?_)
         ·refine U2 Cu vt rfl rfl rfl (U0 rfl (ag 0 5 rfl rfl (af 5 rfl (run_build (l:=[_,_,_,_,_]) rfl rfl lW rfl rfl) (ak 6 7 rfl rfl rfl (U7 (i:=0) (us:=[_,_,_,_,_]) (l':=[_,_,_,_,_]) (H':=[_,_,_,_,_,_]) rfl rfl na rfl rfl rfl rfl bT rfl rfl rfl rfl ?_)))))
          intro w75 wE;clear na
          refine U5 rfl (ah [4,7,8,9,11,12] rfl (U3 (U2 Cs vq rfl rfl rfl (U0 rfl (ag 0 1 rfl rfl (U5 rfl (ah [4,7,8,9,12,96] rfl (U3 ?_))))))))
          refine Ue Cn Cl rfl rfl rfl rfl (fun iZ=>?_) (fun iZ=>?_)
          ·refine U0 rfl (ag 0 2 rfl rfl (af 2 rfl (U1 rfl rfl aT rfl (aB) (aA)) (ak 3 4 rfl rfl rfl (U7 (i:=0) (us:=[_]) (l':=[_,_,_,_,_]) (H':=[_,_,_,_,_,_]) rfl rfl wE rfl rfl rfl rfl aY rfl rfl rfl rfl ?_))))
           intro w76 S92;clear wE
           refine af 4 rfl (U1 rfl rfl aT rfl (aB) (aA)) (ak 5 6 rfl rfl rfl (U7 (i:=0) (us:=[_]) (l':=[_,_,_,_,_]) (H':=[_,_,_,_,_,_]) rfl rfl S92 rfl rfl rfl rfl aY rfl rfl rfl rfl ?_))
           intro w77 S93;clear S92
           refine U5 rfl (aP ?_)
           intro au aq
           refine⟨(⟨(2*(d.ae.length:Int))+1,(2*(d.ae.length:Int))+1,(2*(d.ae.length:Int))+2,m.at_,decide ((m.aJ%2)=1)⟩:Cr),aq.sub ⟨rfl,rfl,rfl,trivial⟩,S93.pick [0,1,2,3,4,5] [_,_,_,_,_,_] (by decide) ⟨rfl,rfl,rfl,rfl,rfl,rfl,trivial⟩,?xh⟩
           case xh=>(unfold fh di;rw[if_pos (by omega),decide_eq_true iZ,if_pos rfl])
          ·refine Uf rfl (aP ?_)
           intro au aq
           refine⟨(⟨(2*(d.ae.length:Int))+1,m.at_,(2*(d.ae.length:Int))+2,(2*(d.ae.length:Int))+1,decide ((m.aJ%2)=1)⟩:Cr),aq.sub ⟨rfl,rfl,rfl,trivial⟩,wE.pick [0,1,2,3,4,5] [_,_,_,_,_,_] (by decide) ⟨rfl,rfl,rfl,rfl,rfl,rfl,trivial⟩,?xg⟩
           case xg=>(unfold fh di;rw[if_pos (by omega),decide_eq_false iZ,if_neg Bool.false_ne_true])
         ·refine U2 Ck vp rfl rfl rfl (U0 rfl (ag 0 5 rfl rfl (af 5 rfl (run_build (l:=[_,_,_,_,_]) rfl rfl lW rfl rfl) (ak 6 7 rfl rfl rfl (U7 (i:=0) (us:=[_,_,_,_,_]) (l':=[_,_,_,_,_]) (H':=[_,_,_,_,_,_]) rfl rfl na rfl rfl rfl rfl bT rfl rfl rfl rfl ?_)))))
          intro w78 rU;clear na
          refine U5 rfl (ah [4,7,9,10,11,12] rfl (U3 (U2 Cj vk rfl rfl rfl (U0 rfl (ag 0 1 rfl rfl (U5 rfl (ah [4,7,9,10,12,107] rfl (U3 ?_))))))))
          refine Ue Ci Ch rfl rfl rfl rfl (fun gT=>?_) (fun gT=>?_)
          ·refine U0 rfl (ag 0 2 rfl rfl (af 2 rfl (U1 rfl rfl aT rfl (aB) (aA)) (ak 3 4 rfl rfl rfl (U7 (i:=0) (us:=[_]) (l':=[_,_,_,_,_]) (H':=[_,_,_,_,_,_]) rfl rfl rU rfl rfl rfl rfl aY rfl rfl rfl rfl ?_))))
           intro w79 zH;clear rU
           refine af 4 rfl (U1 rfl rfl aT rfl (aB) (aA)) (ak 5 6 rfl rfl rfl (U7 (i:=0) (us:=[_]) (l':=[_,_,_,_,_]) (H':=[_,_,_,_,_,_]) rfl rfl zH rfl rfl rfl rfl aY rfl rfl rfl rfl ?_))
           intro w80 S96;clear zH
           refine U5 rfl (aP ?_)
           intro au aq
           refine⟨(⟨m.at_,(2*(d.ae.length:Int))+2,(2*(d.ae.length:Int))+1,(2*(d.ae.length:Int))+1,decide ((m.aJ%2)=1)⟩:Cr),aq.sub ⟨rfl,rfl,rfl,trivial⟩,S96.pick [0,1,2,3,4,5] [_,_,_,_,_,_] (by decide) ⟨rfl,rfl,rfl,rfl,rfl,rfl,trivial⟩,?xe⟩
           case xe=>(unfold fh di;rw[if_neg (by omega),decide_eq_true gT,if_pos rfl])
          ·refine Uf rfl (aP ?_)
           intro au aq
           refine⟨(⟨m.at_,(2*(d.ae.length:Int))+1,(2*(d.ae.length:Int))+1,(2*(d.ae.length:Int))+2,decide ((m.aJ%2)=1)⟩:Cr),aq.sub ⟨rfl,rfl,rfl,trivial⟩,rU.pick [0,1,2,3,4,5] [_,_,_,_,_,_] (by decide) ⟨rfl,rfl,rfl,rfl,rfl,rfl,trivial⟩,?wZ⟩
           case wZ=>(unfold fh di;rw[if_neg (by omega),decide_eq_false gT,if_neg Bool.false_ne_true])
        ·rintro a4 N5 ⟨cc,lC,uw,hcc⟩
         clear na
         refine mG lC ?_
         clear lC a4
         refine U3 (U2 Cg vh rfl rfl rfl (U0 rfl (af 0 rfl (U1 rfl rfl ay rfl (bK) (bJ)) (af 1 rfl (U4 rfl rfl bG rfl (uw.ar (i:=2) rfl rfl)) (af 2 rfl (U8 (us:=[_,_,_,_,_]) rfl rfl aT rfl bT (uw.ax (i:=0) rfl ⟨rfl,rfl,rfl,rfl,rfl,trivial⟩)) (ak 3 4 rfl rfl rfl (iy (C:=aG) (l:=[_,_,_,_,_]) rfl rfl rfl rfl b8 rfl rfl rfl rfl uw ?_)))))))
         intro ank w81 zG;clear uw
         refine ak 4 5 rfl rfl rfl (jg (C:=aG) (i:=2) (q:=0) (⟨cc.a,cc.b,cc.c,cc.d,cc.plus⟩:Cr) rfl rfl rfl rfl rfl rfl rfl rfl b8 zG rfl rfl rfl (by show(_+1)*40<=_;first|omega|(simp only[ls];omega)) ?_)
         intro avE w82 oL;clear zG
         have uv:=oL.pick [1,2,3,4,5,6] [_,_,_,_,_,_] (by decide) ⟨rfl,rfl,rfl,rfl,rfl,rfl,trivial⟩;clear oL
         refine af 5 rfl (U1 rfl rfl ay rfl (bK) (bJ)) (ak 6 7 rfl rfl rfl (U7 (i:=2) (us:=[_]) (l':=[_,_]) (H':=[_,_,_,_,_,_]) rfl rfl uv rfl rfl rfl (uv.jx (i:=1) rfl) kZ rfl (Uy (uv.one (i:=1) rfl) rfl) rfl rfl ?_))
         intro w83 C5;clear uv
         refine U5 rfl (ah [4,7] rfl (U3 (U2 Cf Ce rfl rfl rfl (U0 rfl (af 0 rfl (U8 (us:=[_,_]) rfl rfl ay rfl az (C5.ax (i:=2) rfl ⟨rfl,rfl,trivial⟩)) (ak 1 2 rfl rfl rfl (U7 (i:=3) (us:=[_,_]) (l':=[_,_]) (H':=[_,_,_,_,_,_]) rfl rfl C5 rfl rfl rfl rfl az rfl (Uy (C5.one (i:=1) rfl) (Uy rfl rfl)) rfl rfl ?_)))))))
         intro w84 yR;clear C5
         refine ag 2 1 rfl rfl (U5 rfl (ah [4,5] rfl (U3 ?_)))
         obtain⟨M24,acH,pS,⟨A4,c4,e4,hr4⟩⟩:=yR.fZ (i:=1) (H':=[_,_,_,_,_,_]) rfl rfl (by show _*40<=_;first|omega|(simp only[ls];omega))
         clear yR;subst e4
         replace aC:=aC.mono (Hp.Ua acH pS.mx)
         refine Uj hC [_,_] rfl rfl ⟨⟨_,rfl,Um (us:=[_,_]) ay rfl az (pS.ax (i:=3) rfl ⟨rfl,rfl,trivial⟩)⟩,rfl,trivial⟩ ?_
         refine⟨_,rfl,_,acH,(pS.pick [] [] (by decide) trivial),?_⟩
         rw[r9 (E:=⟨(bg d.ae ((Ud d m.at_ false).1) ((Ud d m.at_ false).2) ((2*(d.ae.length:Int))+2))++[(⟨cc.a,cc.b,cc.c,cc.d,cc.plus⟩:Cr)],d.loops⟩) (by unfold dP;rw[if_pos (by omega),if_pos (by omega)]) (by subst hcc;unfold lh;rw[if_neg (by omega)])]
         exact⟨_,_,rfl,hr4⟩
noncomputable def Ki:=Tryz.f37.body.getD .skip
def ap9:=cL Ki
def Kh:=cR Ki
def ap8:=cL Kh
def Kg:=cR Kh
def Kf:=cL Kg
def Ke:=cR Kg
def ap7:=cL Kf
def Kc:=cR Kf
def vg:=cL Kc
def ap6:=cR Kc
def Cb:=cL vg
def Ca:=cR vg
def Kb:=cL Ke
def Ka:=cR Ke
def ap5:=cL Kb
def J9:=cR Kb
def BZ:=cL J9
def ap4:=cR J9
def aeF:=cL BZ
def aeE:=cR BZ
def J8:=cL Ka
def J7:=cR Ka
def ap3:=cL J8
def J6:=cR J8
def J5:=cL J6
def ap2:=cR J6
def ap1:=cL J5
def ap0:=cR J5
def apZ:=cL J7
def J4:=cR J7
def apY:=cL J4
def J3:=cR J4
def apX:=cL J3
def J2:=cR J3
def apW:=cL J2
def J1:=cR J2
def apV:=cL J1
def J0:=cR J1
def apU:=cL J0
def apT:=cR J0
set_option maxHeartbeats 1000000 in
set_option maxRecDepth 10000 in
theorem ahu{w:World}{M:Hp}{X:Fr}(d:Dg){aV:Option Addr}{aU:Nat}(m:Mv)(aC:aF aG (M.un X.h) aV aU d.ae)(hn:d.ae.length<=16)(hab:aX d=true)(hlo:0<=d.loops/\d.loops<=16)(S:SH w M X []):Ct Tryz.prog 37 [.agg [.slice aV d.ae.length aU,.int .i64 d.loops].toArray,.agg [.int .i64 m.kd,.int .i64 m.at_,.int .i64 m.aJ,.int .i64 m.ua,.bool m.ub,.int .i64 m.va,.bool m.vb,.bool m.ov].toArray] w M X (qq (kL (fT d m) (tU d m))):=by
 unfold Ct
 have gK:d.ae.length*40<=140737488355328:=aC.room
 refine Up (b:=Ki) Tryz.func37 rfl Tryz.ntmps37 rfl (fun C hC=>(bq [(0,_),(1,_)] ⟨rfl,rfl,trivial⟩ (U2 ap9 Kh rfl rfl rfl (U0 rfl (ak 0 1 rfl rfl rfl (bA (l:=[_,_]) rfl rfl rfl rfl rfl S ?_))))))
 intro aI w1 S1;clear S
 refine ak 1 2 rfl rfl rfl (bA (l:=[_,_,_,_,_,_,_,_]) rfl rfl rfl rfl rfl S1 ?_)
 intro aQ w2 S2;clear S1
 refine ak 2 3 rfl rfl rfl (Uh (l:=[_,_]) rfl rfl rfl fQ rfl S2 ?_)
 intro bE w3 S3;clear S2
 refine ag 3 1 rfl rfl (U5 rfl (ah [2,3,4] rfl (U3 (U2 ap8 Kg rfl rfl rfl (U0 rfl (af 0 rfl (U1 rfl rfl ay rfl (bK) (bJ)) (af 1 rfl (U4 rfl rfl bG rfl (S3.ar (i:=2) rfl rfl)) (af 2 rfl (cI rfl rfl rfl rfl rfl rfl bG) ?_))))))))
 refine ag 3 1 rfl rfl (U5 rfl (ah [2,3,4,6] rfl (U3 (U2 Kf Ke rfl rfl rfl (U2 ap7 Kc rfl rfl rfl (U0 rfl (af 0 rfl (U1 rfl rfl aR rfl (fF) (fC)) (af 1 rfl (U1 rfl rfl aZ rfl (aB) (aA)) ?_))))))))
 refine af 2 rfl (U4 rfl rfl av rfl (S3.ar (i:=1) rfl rfl)) (af 3 rfl (bV rfl rfl rfl) (ag 4 1 rfl rfl ?_))
 refine Ut (t:=21) rfl (fun amS=>?_) (fun amS=>?_)
 ·refine ag 5 6 rfl rfl (ag 11 6 rfl rfl (ag 17 6 rfl rfl (ag 23 3 rfl rfl (U5 rfl (ah [2,3,4,6,42] rfl (U3 (fM vg rfl rfl rfl (U2 Cb Ca rfl rfl rfl ?_))))))))
  refine U0 rfl (af 0 rfl (run_build (l:=[_,_]) rfl rfl cJ rfl rfl) (ak 1 2 rfl rfl rfl (U7 (i:=0) (us:=[_,_]) (l':=[_,_]) (H':=[_,_,_]) rfl rfl S3 rfl rfl rfl rfl az rfl rfl rfl rfl ?_)))
  intro w4 S4;clear S3
  refine ag 2 1 rfl rfl (U5 rfl (ah [4,5] rfl (U3 (Uj hC [_,_] rfl rfl ⟨⟨_,rfl,Um (us:=[_,_]) ay rfl az (S4.ax (i:=0) rfl ⟨rfl,rfl,trivial⟩)⟩,rfl,trivial⟩ ?_))))
  refine⟨_,rfl,_,Hp.le_refl _,(S4.pick [] [] (by decide) trivial),?_⟩
  rw[eH (c:=3) (by unfold fT;rw[if_neg (by omega)]) (by decide)]
  exact dU 3
 ·refine aH 5 6 rfl rfl rfl rfl rfl rfl rfl rfl (Ub rfl rfl (U1 rfl rfl aR rfl (fF) (fC)) (aH 6 7 rfl rfl rfl rfl rfl rfl rfl rfl (Ub rfl rfl (U1 rfl rfl aZ rfl (aB) (aA)) (aH 7 8 rfl rfl rfl rfl rfl rfl rfl rfl (Ub rfl rfl (U4 rfl rfl av rfl (S3.ar (i:=1) rfl rfl)) (ag 8 1 rfl rfl (aH 9 10 rfl rfl rfl rfl rfl rfl rfl rfl (Ub rfl rfl (iH rfl rfl rfl (by first|omega|(simp only[ls];omega))) ?_))))))))
  refine aH 10 11 rfl rfl rfl rfl rfl rfl rfl rfl (Ub rfl rfl (oW rfl rfl rfl) (ag 11 2 rfl rfl ?_))
  refine Ut (t:=29) rfl (fun sY=>?_) (fun sY=>?_)
  ·refine ag 13 6 rfl rfl (ag 19 6 rfl rfl (ag 25 1 rfl rfl (U5 rfl (ah [2,3,4,6,42] rfl (U3 (fM vg rfl rfl rfl (U2 Cb Ca rfl rfl rfl (U0 rfl ?_))))))))
   refine af 0 rfl (run_build (l:=[_,_]) rfl rfl cJ rfl rfl) (ak 1 2 rfl rfl rfl (U7 (i:=0) (us:=[_,_]) (l':=[_,_]) (H':=[_,_,_]) rfl rfl S3 rfl rfl rfl rfl az rfl rfl rfl rfl ?_))
   intro w5 S5;clear S3
   refine ag 2 1 rfl rfl (U5 rfl (ah [4,5] rfl (U3 (Uj hC [_,_] rfl rfl ⟨⟨_,rfl,Um (us:=[_,_]) ay rfl az (S5.ax (i:=0) rfl ⟨rfl,rfl,trivial⟩)⟩,rfl,trivial⟩ ?_))))
   refine⟨_,rfl,_,Hp.le_refl _,(S5.pick [] [] (by decide) trivial),?_⟩
   rw[eH (c:=3) (by unfold fT;rw[if_neg (by omega)]) (by decide)]
   exact dU 3
  ·refine aH 13 14 rfl rfl rfl rfl rfl rfl rfl rfl (Ub rfl rfl (U1 rfl rfl aR rfl (fF) (fC)) (aH 14 15 rfl rfl rfl rfl rfl rfl rfl rfl (Ub rfl rfl (U1 rfl rfl aZ rfl (aB) (aA)) (aH 15 16 rfl rfl rfl rfl rfl rfl rfl rfl (Ub rfl rfl (U4 rfl rfl av rfl (S3.ar (i:=1) rfl rfl)) (aH 16 17 rfl rfl rfl rfl rfl rfl rfl rfl (Ub rfl rfl (bV rfl rfl rfl) (ag 17 2 rfl rfl ?_))))))))
   refine Ut (t:=35) rfl (fun u6=>?_) (fun u6=>?_)
   ·refine ag 19 6 rfl rfl (ag 25 1 rfl rfl (U5 rfl (ah [2,3,4,6,42] rfl (U3 (fM vg rfl rfl rfl (U2 Cb Ca rfl rfl rfl (U0 rfl (af 0 rfl (run_build (l:=[_,_]) rfl rfl cJ rfl rfl) ?_))))))))
    refine ak 1 2 rfl rfl rfl (U7 (i:=0) (us:=[_,_]) (l':=[_,_]) (H':=[_,_,_]) rfl rfl S3 rfl rfl rfl rfl az rfl rfl rfl rfl ?_)
    intro w6 S6;clear S3
    refine ag 2 1 rfl rfl (U5 rfl (ah [4,5] rfl (U3 (Uj hC [_,_] rfl rfl ⟨⟨_,rfl,Um (us:=[_,_]) ay rfl az (S6.ax (i:=0) rfl ⟨rfl,rfl,trivial⟩)⟩,rfl,trivial⟩ ?_))))
    refine⟨_,rfl,_,Hp.le_refl _,(S6.pick [] [] (by decide) trivial),?_⟩
    rw[eH (c:=3) (by unfold fT;rw[if_neg (by omega)]) (by decide)]
    exact dU 3
   ·refine aH 19 20 rfl rfl rfl rfl rfl rfl rfl rfl (Ub rfl rfl (U1 rfl rfl aR rfl (fF) (fC)) (aH 20 21 rfl rfl rfl rfl rfl rfl rfl rfl (Ub rfl rfl (U1 rfl rfl aZ rfl (aB) (aA)) (aH 21 22 rfl rfl rfl rfl rfl rfl rfl rfl (Ub rfl rfl (U4 rfl rfl av rfl (S3.ar (i:=1) rfl rfl)) (ag 22 1 rfl rfl (aH 23 24 rfl rfl rfl rfl rfl rfl rfl rfl (Ub rfl rfl (iH rfl rfl rfl (by first|omega|(simp only[ls];omega))) ?_))))))))
    refine aH 24 25 rfl rfl rfl rfl rfl rfl rfl rfl (Ub rfl rfl (oW rfl rfl rfl) (ag 25 1 rfl rfl (U5 rfl (ah [2,3,4,6,42] rfl (U3 ?_)))))
    refine Ue vg ap6 rfl rfl rfl rfl (fun td=>?_) (fun td=>?_)
    ·refine U2 Cb Ca rfl rfl rfl (U0 rfl (af 0 rfl (run_build (l:=[_,_]) rfl rfl cJ rfl rfl) (ak 1 2 rfl rfl rfl (U7 (i:=0) (us:=[_,_]) (l':=[_,_]) (H':=[_,_,_]) rfl rfl S3 rfl rfl rfl rfl az rfl rfl rfl rfl ?_))))
     intro w7 S7;clear S3
     refine ag 2 1 rfl rfl (U5 rfl (ah [4,5] rfl (U3 (Uj hC [_,_] rfl rfl ⟨⟨_,rfl,Um (us:=[_,_]) ay rfl az (S7.ax (i:=0) rfl ⟨rfl,rfl,trivial⟩)⟩,rfl,trivial⟩ ?_))))
     refine⟨_,rfl,_,Hp.le_refl _,(S7.pick [] [] (by decide) trivial),?_⟩
     rw[eH (c:=3) (by unfold fT;rw[if_neg (by omega)]) (by decide)]
     exact dU 3
    ·refine Uf rfl (ah [2,3,4,6] rfl (U3 (U2 Kb Ka rfl rfl rfl (U2 ap5 J9 rfl rfl rfl (U0 rfl (af 0 rfl (U1 rfl rfl aR rfl (fF) (fC)) (af 1 rfl (U1 rfl rfl aZ rfl (aB) (aA)) (af 2 rfl (U4 rfl rfl av rfl (S3.ar (i:=1) rfl rfl)) ?_))))))))
     refine af 3 rfl (U1 rfl rfl aR rfl (fF) (fC)) (af 4 rfl (U1 rfl rfl aZ rfl (aB) (aA)) (af 5 rfl (U4 rfl rfl av rfl (S3.ar (i:=1) rfl rfl)) (af 6 rfl (bP rfl rfl rfl) (ag 7 1 rfl rfl ?_))))
     refine Ut (t:=51) rfl (fun uZ=>?_) (fun uZ=>?_)
     ·refine ag 8 6 rfl rfl (ag 14 2 rfl rfl (U5 rfl (ah [2,3,4,6,59] rfl (U3 (fM BZ rfl rfl rfl (U2 aeF aeE rfl rfl rfl (U0 rfl (af 0 rfl (run_build (l:=[_,_]) rfl rfl cJ rfl rfl) ?_))))))))
      refine ak 1 2 rfl rfl rfl (U7 (i:=0) (us:=[_,_]) (l':=[_,_]) (H':=[_,_,_]) rfl rfl S3 rfl rfl rfl rfl az rfl rfl rfl rfl ?_)
      intro w8 S8;clear S3
      refine ag 2 1 rfl rfl (U5 rfl (ah [4,5] rfl (U3 (Uj hC [_,_] rfl rfl ⟨⟨_,rfl,Um (us:=[_,_]) ay rfl az (S8.ax (i:=0) rfl ⟨rfl,rfl,trivial⟩)⟩,rfl,trivial⟩ ?_))))
      refine⟨_,rfl,_,Hp.le_refl _,(S8.pick [] [] (by decide) trivial),?_⟩
      rw[eH (c:=8) (by unfold fT;rw[if_pos ((by omega:(1<=m.ua/\m.ua<=2*(d.ae.length:Int))/\(1<=m.va/\m.va<=2*(d.ae.length:Int)))),if_neg (fun h=>h.1 uZ)]) (by decide)]
      exact dU 8
     ·refine aH 8 9 rfl rfl rfl rfl rfl rfl rfl rfl (Ub rfl rfl (U8 (us:=[_,_]) rfl rfl ay rfl az (S3.ax (i:=2) rfl ⟨rfl,rfl,trivial⟩)) (aH 9 10 rfl rfl rfl rfl rfl rfl rfl rfl (Ub rfl rfl (U1 rfl rfl aR rfl (fF) (fC)) (aH 10 11 rfl rfl rfl rfl rfl rfl rfl rfl (Ub rfl rfl (U8 (us:=[_,_]) rfl rfl aZ rfl cg (S3.ax (i:=1) rfl ⟨rfl,rfl,trivial⟩)) (aH 11 12 rfl rfl rfl rfl rfl rfl rfl rfl (Ub rfl rfl (U1 rfl rfl aR rfl (fF) (fC)) (aH 12 13 rfl rfl rfl rfl rfl rfl rfl rfl (Ub rfl rfl (U8 (us:=[_,_]) rfl rfl aZ rfl cg (S3.ax (i:=1) rfl ⟨rfl,rfl,trivial⟩)) (aH 13 14 rfl rfl rfl rfl rfl rfl rfl rfl (fp rfl rfl rfl rfl rfl rfl rfl anq S3 (agh d (⟨m.ua,m.ub⟩:Da) (⟨m.va,m.vb⟩:Da) (aC.mono S3.Uw) (hn) (hab) S3.aD) ?_)))))))))))
      intro vw9 w9 M1 aL S9 anh;clear S3
      replace aC:=aC.mono (Hp.Ua aL S9.mx)
      obtain rfl:=anh
      refine aH 14 15 rfl rfl rfl rfl rfl rfl rfl rfl (Ub rfl rfl (dE rfl rfl) (ag 15 1 rfl rfl (U5 rfl (ah [2,3,4,6,59] rfl (U3 ?_)))))
      refine cS BZ ap4 rfl rfl rfl rfl (fun s6=>?_) (fun s6=>?_)
      ·simp only[Bool.and_eq_true,Bool.or_eq_true,Bool.and_eq_false_iff,Bool.or_eq_false_iff,decide_eq_true_eq,decide_eq_false_iff_not,Bool.not_eq_true',Bool.not_eq_false']at s6
       refine U2 aeF aeE rfl rfl rfl (U0 rfl (af 0 rfl (run_build (l:=[_,_]) rfl rfl cJ rfl rfl) (ak 1 2 rfl rfl rfl (U7 (i:=0) (us:=[_,_]) (l':=[_,_]) (H':=[_,_,_]) rfl rfl S9 rfl rfl rfl rfl az rfl rfl rfl rfl ?_))))
       intro jZ bF;clear S9
       refine ag 2 1 rfl rfl (U5 rfl (ah [4,5] rfl (U3 (Uj hC [_,_] rfl rfl ⟨⟨_,rfl,Um (us:=[_,_]) ay rfl az (bF.ax (i:=0) rfl ⟨rfl,rfl,trivial⟩)⟩,rfl,trivial⟩ ?_))))
       refine⟨_,rfl,_,aL,(bF.pick [] [] (by decide) trivial),?_⟩
       rw[eH (c:=8) (by unfold fT;rw[if_pos ((by omega:(1<=m.ua/\m.ua<=2*(d.ae.length:Int))/\(1<=m.va/\m.va<=2*(d.ae.length:Int)))),if_neg (fun h=>by rw[h.2]at s6;cases s6)]) (by decide)]
       exact dU 8
      ·simp only[Bool.and_eq_true,Bool.or_eq_true,Bool.and_eq_false_iff,Bool.or_eq_false_iff,decide_eq_true_eq,decide_eq_false_iff_not,Bool.not_eq_true',Bool.not_eq_false']at s6
       refine Uf rfl (ah [2,3,4,6] rfl (U3 (U2 J8 J7 rfl rfl rfl (U2 ap3 J6 rfl rfl rfl (U0 rfl (ag 0 1 rfl rfl (af 1 rfl (Ug rfl rfl rfl (by first|omega|(simp only[ls];omega))) ?_)))))))
       refine af 2 rfl (oW rfl rfl rfl) (U5 rfl (ah [2,3,4,6,63] rfl (U3 ?_)))
       refine Ue J5 ap2 rfl rfl rfl rfl (fun am4=>?_) (fun am4=>?_)
       ·refine U2 ap1 ap0 rfl rfl rfl (U0 rfl (af 0 rfl (run_build (l:=[_,_]) rfl rfl cJ rfl rfl) (ak 1 2 rfl rfl rfl (U7 (i:=0) (us:=[_,_]) (l':=[_,_]) (H':=[_,_,_]) rfl rfl S9 rfl rfl rfl rfl az rfl rfl rfl rfl ?_))))
        intro kH bQ;clear S9
        refine ag 2 1 rfl rfl (U5 rfl (ah [4,5] rfl (U3 (Uj hC [_,_] rfl rfl ⟨⟨_,rfl,Um (us:=[_,_]) ay rfl az (bQ.ax (i:=0) rfl ⟨rfl,rfl,trivial⟩)⟩,rfl,trivial⟩ ?_))))
        refine⟨_,rfl,_,aL,(bQ.pick [] [] (by decide) trivial),?_⟩
        rw[eH (c:=2) (by unfold fT;rw[if_pos ((by omega:(1<=m.ua/\m.ua<=2*(d.ae.length:Int))/\(1<=m.va/\m.va<=2*(d.ae.length:Int)))),if_pos ⟨uZ,(by simpa using s6)⟩,if_neg (by omega)]) (by decide)]
        exact dU 2
       ·refine Uf rfl (ah [2,3,4,6] rfl (U3 (U2 apZ J4 rfl rfl rfl (U0 rfl (af 0 rfl (U8 (us:=[_,_]) rfl rfl ay rfl az (S9.ax (i:=2) rfl ⟨rfl,rfl,trivial⟩)) (ak 1 2 rfl rfl rfl (uO rfl rfl rfl rfl rfl rfl rfl zC S9 (Aw d (aC.mono S9.Uw) S9.aD) ?_)))))))
        intro avA mb av4 cw ak8;clear S9
        obtain⟨mI,rfl,rfl⟩:=ak8
        have bZ:SH _ _ _ [_,_,_,_]:=cw;clear cw
        refine ak 2 3 rfl rfl rfl (Uh (l:=[_,_]) rfl rfl rfl fQ rfl bZ ?_)
        intro gY lB bN;clear bZ
        refine ak 3 4 rfl rfl rfl (U7 (i:=0) (us:=[_,_]) (l':=[_,_]) (H':=[_,_,_,_,_]) rfl rfl bN rfl rfl rfl rfl az rfl (Uy (bN.one (i:=1) rfl) (Uy rfl rfl)) rfl rfl ?_)
        intro jY bX;clear bN
        refine U5 rfl (ah [2,3,4,6,7] rfl (U3 (U2 apY J3 rfl rfl rfl ?_)))
        obtain⟨hu1,hu2,_⟩:=fe hab (a:=m.ua) (by omega) false
        obtain⟨hv1,hv2,_⟩:=fe hab (a:=m.va) (by omega) false
        refine U0 rfl (af 0 rfl (U8 (us:=[_,_]) rfl rfl ay rfl az (bX.ax (i:=4) rfl ⟨rfl,rfl,trivial⟩)) (af 1 rfl (U8 (us:=[_,_]) rfl rfl ay rfl az (bX.ax (i:=0) rfl ⟨rfl,rfl,trivial⟩)) (af 2 rfl (U1 rfl rfl aR rfl (fF) (fC)) (af 3 rfl (U8 (us:=[_,_]) rfl rfl aZ rfl cg (bX.ax (i:=3) rfl ⟨rfl,rfl,trivial⟩)) (ag 4 1 rfl rfl (af 5 rfl (iH rfl rfl rfl (by first|omega|(simp only[ls];omega))) ?_))))))
        refine af 6 rfl (Ug rfl rfl rfl (by first|omega|(simp only[ls];omega))) ?_
        have bM:=bX.pick [1,0,2,3,4] [_,_,_,_,_] (by decide) ⟨rfl,rfl,rfl,rfl,rfl,trivial⟩;clear bX
        have bI:SH _ _ _ (Rs.aW [_]::[_,_,_,_]):=SH.iD (A:=[_]) (B:=[_,_,_,_]) bM;clear bM
        have bY:SH _ _ _ [_,_,_,_,_]:=bI.less (i:=0) rfl
        have gL:=abY d d.ae d.loops (⟨m.ua,m.ub⟩:Da) ((2*(d.ae.length:Int))+1) (aC.mono bY.Uw) (by first|omega|(simp only[ls];omega)) (⟨hu1,hu2⟩) (bI.gN (i:=0) rfl);clear bY
        refine ak 7 8 rfl rfl rfl (jk (i:=0) rfl rfl rfl rfl rfl rfl rfl adW bI rfl gL ?_)
        intro al2 ot M2 avL hle2 dC jc;clear bI
        obtain⟨kq,gX,kP⟩:=jc
        rw[gX]at dC
        clear gX
        subst kq
        subst kP
        replace dC:SH _ _ _ (Rs.aW [_]::[_,_,_,_]):=dC
        have dB:SH _ _ _ [_,_,_,_,_]:=SH.je (A:=[_]) (B:=[_,_,_,_]) dC;clear dC
        refine ag 8 1 rfl rfl (af 9 rfl (Ul rfl rfl rfl) (af 10 rfl (Ul rfl rfl rfl) (af 11 rfl (Ul rfl rfl rfl) (ag 12 3 rfl rfl (U5 rfl (ah [2,3,4,6,7,8,9,10] rfl (U3 (U2 apX J2 rfl rfl rfl ?_))))))))
        have qV:bg d.ae (Ud d (⟨m.ua,m.ub⟩:Da).a false).1 (Ud d (⟨m.ua,m.ub⟩:Da).a false).2 (((2*(d.ae.length:Int))+1)+1)=bg d.ae (Ud d m.ua false).1 (Ud d m.ua false).2 (2*(d.ae.length:Int)+2):=congrArg (fun z=>bg d.ae (Ud d m.ua false).1 (Ud d m.ua false).2 z) (by omega)
        rw[qV]at dB;clear qV
        have tZ:(bg d.ae (Ud d m.ua false).1 (Ud d m.ua false).2 (2*(d.ae.length:Int)+2)).length=d.ae.length:=iw _ _ _ _
        refine U0 rfl (af 0 rfl (U8 (us:=[_,_]) rfl rfl ay rfl az (dB.ax (i:=4) rfl ⟨rfl,rfl,trivial⟩)) (af 1 rfl (U8 (us:=[_,_]) rfl rfl ay rfl az (dB.ax (i:=1) rfl ⟨rfl,rfl,trivial⟩)) (af 2 rfl (U1 rfl rfl aR rfl (fF) (fC)) (af 3 rfl (U8 (us:=[_,_]) rfl rfl aZ rfl cg (dB.ax (i:=3) rfl ⟨rfl,rfl,trivial⟩)) (ag 4 1 rfl rfl (af 5 rfl (iH rfl rfl rfl (by first|omega|(simp only[ls];omega))) ?_))))))
        refine af 6 rfl (Ug rfl rfl rfl (by first|omega|(simp only[ls];omega))) ?_
        have dt:=dB.pick [0,1,2,3,4] [_,_,_,_,_] (by decide) ⟨rfl,rfl,rfl,rfl,rfl,trivial⟩;clear dB
        have dz:SH _ _ _ (Rs.aW [_]::[_,_,_,_]):=SH.iD (A:=[_]) (B:=[_,_,_,_]) dt;clear dt
        have cW:SH _ _ _ [_,_,_,_,_]:=dz.less (i:=0) rfl
        have lN:=abY d (bg d.ae (Ud d m.ua false).1 (Ud d m.ua false).2 (2*(d.ae.length:Int)+2)) d.loops (⟨m.va,m.vb⟩:Da) ((2*(d.ae.length:Int))+3) (aC.mono cW.Uw) (by first|omega|(simp only[ls];omega)) (⟨by rw[tZ];exact hv1,hv2⟩) (dz.gN (i:=0) rfl);clear cW
        refine ak 7 8 rfl rfl rfl (jk (i:=0) rfl rfl rfl rfl rfl rfl rfl adW dz rfl lN ?_)
        intro al1 ma M3 avK dw cK ug;clear dz
        obtain⟨se,nJ,uf⟩:=ug
        rw[nJ]at cK
        clear nJ
        subst se
        subst uf
        replace cK:SH _ _ _ (Rs.aW [_]::[_,_,_,_]):=cK
        have cv:SH _ _ _ [_,_,_,_,_]:=SH.je (A:=[_]) (B:=[_,_,_,_]) cK;clear cK
        refine ag 8 1 rfl rfl (af 9 rfl (Ul rfl rfl rfl) (af 10 rfl (Ul rfl rfl rfl) (af 11 rfl (Ul rfl rfl rfl) (ag 12 3 rfl rfl (U5 rfl (ah [3,4,7,8,9,10,11,12,13] rfl (U3 (U2 apW J1 rfl rfl rfl ?_))))))))
        have xU:bg (bg d.ae (Ud d m.ua false).1 (Ud d m.ua false).2 (2*(d.ae.length:Int)+2)) (Ud d (⟨m.va,m.vb⟩:Da).a false).1 (Ud d (⟨m.va,m.vb⟩:Da).a false).2 (((2*(d.ae.length:Int))+3)+1)=bg (bg d.ae (Ud d m.ua false).1 (Ud d m.ua false).2 (2*(d.ae.length:Int)+2)) (Ud d m.va false).1 (Ud d m.va false).2 (2*(d.ae.length:Int)+4):=congrArg (fun z=>bg (bg d.ae (Ud d m.ua false).1 (Ud d m.ua false).2 (2*(d.ae.length:Int)+2)) (Ud d m.va false).1 (Ud d m.va false).2 z) (by omega)
        rw[xU]at cv;clear xU
        have hl2:(bg (bg d.ae (Ud d m.ua false).1 (Ud d m.ua false).2 (2*(d.ae.length:Int)+2)) (Ud d m.va false).1 (Ud d m.va false).2 (2*(d.ae.length:Int)+4)).length=d.ae.length:=(iw _ _ _ _).trans tZ
        have fw:=cv.pick [0,1,2,3,4] [_,_,_,_,_] (by decide) ⟨rfl,rfl,rfl,rfl,rfl,trivial⟩;clear cv
        refine ki [_] [_,_,_,_] rfl (by kernel_rfl) fw 21 rfl ?_
        clear fw
        change WA _ _ _ _ _ _ _ _ _ _ _ _ [_,_,_,_,_]
        refine ai 0 20 rfl (by kernel_rfl) (fun _=>U1 rfl rfl ay rfl (bK) (bJ)) ?_
        refine aj 1 19 rfl (by kernel_rfl) (fun _ _ _ hz Sz=>.inl (U4 rfl rfl bG rfl (Sz.suf.ar (i:=0) rfl rfl))) ?_
        refine ai 2 18 rfl (by kernel_rfl) (fun _=>run_move rfl rfl) ?_
        refine ai 3 17 rfl (by kernel_rfl) (fun _=>run_move rfl rfl) ?_
        refine ai 4 16 rfl (by kernel_rfl) (fun _=>run_move rfl rfl) ?_
        refine ai 5 15 rfl (by kernel_rfl) (fun _=>run_move rfl rfl) ?_
        refine ai 6 14 rfl (by kernel_rfl) (fun _=>U1 rfl rfl aR rfl (fF) (fC)) ?_
        refine ai 7 13 rfl (by kernel_rfl) (fun _=>U1 rfl rfl aZ rfl (fI) (fH)) ?_
        refine aj 8 12 rfl (by kernel_rfl) (fun _ _ _ hz Sz=>.inl (U4 rfl rfl dh rfl (Sz.suf.ar (i:=2) rfl rfl))) ?_
        refine ai 9 11 rfl (by kernel_rfl) (fun _=>dE rfl rfl) ?_
        refine ai 10 10 rfl (by kernel_rfl) (fun _=>U1 rfl rfl aR rfl (fF) (fC)) ?_
        refine ai 11 9 rfl (by kernel_rfl) (fun _=>U1 rfl rfl aZ rfl (fI) (fH)) ?_
        refine aj 12 8 rfl (by kernel_rfl) (fun _ _ _ hz Sz=>.inl (U4 rfl rfl dh rfl (Sz.suf.ar (i:=2) rfl rfl))) ?_
        refine ai 13 7 rfl (by kernel_rfl) (fun _=>dE rfl rfl) ?_
        refine ai 14 6 rfl (by kernel_rfl) (fun _=>U1 rfl rfl aR rfl (fI) (fH)) ?_
        refine aj 15 5 rfl (by kernel_rfl) (fun _ _ _ hz Sz=>.inl (U4 rfl rfl dh rfl (Sz.suf.ar (i:=2) rfl rfl))) ?_
        refine aj 16 4 rfl (by kernel_rfl) (fun _ _ _ hz Sz=>Uq rfl rfl rfl rfl rfl adV Sz (acf (aO (⟨m.va,m.vb⟩:Da) ((2*(d.ae.length:Int))+3) 1) (aO (⟨m.ua,m.ub⟩:Da) ((2*(d.ae.length:Int))+1) 1) (aO (⟨m.va,m.vb⟩:Da) ((2*(d.ae.length:Int))+3) 2) (aO (⟨m.ua,m.ub⟩:Da) ((2*(d.ae.length:Int))+1) 0) (!m.ub) (!m.vb) (m.ov) Sz.aD)) ?_
        refine Un (i:=17) 3 rfl (by kernel_rfl) rfl rfl (fun vK eN=>?_)
        refine(iy (C:=aG) (l:=[_,_,_,_,_]) rfl rfl rfl rfl b8 rfl rfl rfl rfl eN ?_)
        intro iq tN iK;clear eN
        refine aN.grow [_,_] (Hp.le_refl _) iK ?_;clear iK
        change WA _ _ _ _ _ _ _ _ _ _ _ _ [_,_,_,_,_,_]
        refine Un (i:=18) 2 rfl (by kernel_rfl) rfl rfl (fun Ol iJ=>?_)
        refine(jg (C:=aG) (i:=1) (q:=0) (⟨(fW (aO (⟨m.va,m.vb⟩:Da) ((2*(d.ae.length:Int))+3) 1) (aO (⟨m.ua,m.ub⟩:Da) ((2*(d.ae.length:Int))+1) 1) (aO (⟨m.va,m.vb⟩:Da) ((2*(d.ae.length:Int))+3) 2) (aO (⟨m.ua,m.ub⟩:Da) ((2*(d.ae.length:Int))+1) 0) (!m.ub) (!m.vb) (m.ov)).a,(fW (aO (⟨m.va,m.vb⟩:Da) ((2*(d.ae.length:Int))+3) 1) (aO (⟨m.ua,m.ub⟩:Da) ((2*(d.ae.length:Int))+1) 1) (aO (⟨m.va,m.vb⟩:Da) ((2*(d.ae.length:Int))+3) 2) (aO (⟨m.ua,m.ub⟩:Da) ((2*(d.ae.length:Int))+1) 0) (!m.ub) (!m.vb) (m.ov)).b,(fW (aO (⟨m.va,m.vb⟩:Da) ((2*(d.ae.length:Int))+3) 1) (aO (⟨m.ua,m.ub⟩:Da) ((2*(d.ae.length:Int))+1) 1) (aO (⟨m.va,m.vb⟩:Da) ((2*(d.ae.length:Int))+3) 2) (aO (⟨m.ua,m.ub⟩:Da) ((2*(d.ae.length:Int))+1) 0) (!m.ub) (!m.vb) (m.ov)).c,(fW (aO (⟨m.va,m.vb⟩:Da) ((2*(d.ae.length:Int))+3) 1) (aO (⟨m.ua,m.ub⟩:Da) ((2*(d.ae.length:Int))+1) 1) (aO (⟨m.va,m.vb⟩:Da) ((2*(d.ae.length:Int))+3) 2) (aO (⟨m.ua,m.ub⟩:Da) ((2*(d.ae.length:Int))+1) 0) (!m.ub) (!m.vb) (m.ov)).d,(fW (aO (⟨m.va,m.vb⟩:Da) ((2*(d.ae.length:Int))+3) 1) (aO (⟨m.ua,m.ub⟩:Da) ((2*(d.ae.length:Int))+1) 1) (aO (⟨m.va,m.vb⟩:Da) ((2*(d.ae.length:Int))+3) 2) (aO (⟨m.ua,m.ub⟩:Da) ((2*(d.ae.length:Int))+1) 0) (!m.ub) (!m.vb) (m.ov)).plus⟩:Cr) rfl rfl rfl rfl rfl rfl rfl rfl b8 iJ rfl rfl rfl (by show(_+1)*40<=_;first|omega|(simp only[ls];omega)) ?_)
        intro al6 vJ iI;clear iJ
        have jP:=iI.pick [1,2,3,4,5] [_,_,_,_,_] (by decide) ⟨rfl,rfl,rfl,rfl,rfl,trivial⟩;clear iI
        refine aN.grow [_] (Hp.le_refl _) jP ?_;clear jP
        change WA _ _ _ _ _ _ _ _ _ _ _ _ [_,_,_,_,_]
        refine ai 19 1 rfl (by kernel_rfl) (fun _=>U1 rfl rfl ay rfl (bK) (bJ)) ?_
        refine Un (i:=20) 0 rfl (by kernel_rfl) rfl rfl (fun tL jO=>?_)
        refine(U7 (i:=1) (us:=[_]) (l':=[_,_]) (H':=[_,_,_,_,_]) rfl rfl jO rfl rfl rfl (jO.jx (i:=0) rfl) kZ rfl (Uy (jO.one (i:=0) rfl) rfl) rfl rfl ?_)
        intro vH qp;clear jO
        refine aN.turn (by kernel_rfl) qp ?_;clear qp
        change WA _ _ _ _ _ _ _ _ _ _ _ _ [_,_,_,_,_]
        refine Uu (by kernel_rfl) (fun yT nX=>?_)
        refine ah [3,4,7,9,10,11,12] rfl (U3 (U2 apV J0 rfl rfl rfl ?_))
        have nW:=nX.pick [0,1,2,3,4] [_,_,_,_,_] (by decide) ⟨rfl,rfl,rfl,rfl,rfl,trivial⟩;clear nX
        refine ki [_] [_,_,_,_] rfl (by kernel_rfl) nW 20 rfl ?_
        clear nW
        change WA _ _ _ _ _ _ _ _ _ _ _ _ [_,_,_,_,_]
        refine ai 0 19 rfl (by kernel_rfl) (fun _=>U1 rfl rfl ay rfl (bK) (bJ)) ?_
        refine aj 1 18 rfl (by kernel_rfl) (fun _ _ _ hz Sz=>.inl (U4 rfl rfl bG rfl (Sz.suf.ar (i:=0) rfl rfl))) ?_
        refine ai 2 17 rfl (by kernel_rfl) (fun _=>run_move rfl rfl) ?_
        refine ai 3 16 rfl (by kernel_rfl) (fun _=>run_move rfl rfl) ?_
        refine ai 4 15 rfl (by kernel_rfl) (fun _=>run_move rfl rfl) ?_
        refine ai 5 14 rfl (by kernel_rfl) (fun _=>run_move rfl rfl) ?_
        refine ai 6 13 rfl (by kernel_rfl) (fun _=>U1 rfl rfl aR rfl (fF) (fC)) ?_
        refine ai 7 12 rfl (by kernel_rfl) (fun _=>U1 rfl rfl aZ rfl (fI) (fH)) ?_
        refine aj 8 11 rfl (by kernel_rfl) (fun _ _ _ hz Sz=>.inl (U4 rfl rfl dh rfl (Sz.suf.ar (i:=2) rfl rfl))) ?_
        refine ai 9 10 rfl (by kernel_rfl) (fun _=>U1 rfl rfl aR rfl (fF) (fC)) ?_
        refine ai 10 9 rfl (by kernel_rfl) (fun _=>U1 rfl rfl aZ rfl (fI) (fH)) ?_
        refine aj 11 8 rfl (by kernel_rfl) (fun _ _ _ hz Sz=>.inl (U4 rfl rfl dh rfl (Sz.suf.ar (i:=2) rfl rfl))) ?_
        refine ai 12 7 rfl (by kernel_rfl) (fun _=>dE rfl rfl) ?_
        refine ai 13 6 rfl (by kernel_rfl) (fun _=>U1 rfl rfl aR rfl (fI) (fH)) ?_
        refine aj 14 5 rfl (by kernel_rfl) (fun _ _ _ hz Sz=>.inl (U4 rfl rfl dh rfl (Sz.suf.ar (i:=2) rfl rfl))) ?_
        refine aj 15 4 rfl (by kernel_rfl) (fun _ _ _ hz Sz=>Uq rfl rfl rfl rfl rfl adV Sz (acf (aO (⟨m.va,m.vb⟩:Da) ((2*(d.ae.length:Int))+3) 0) (aO (⟨m.ua,m.ub⟩:Da) ((2*(d.ae.length:Int))+1) 1) (aO (⟨m.va,m.vb⟩:Da) ((2*(d.ae.length:Int))+3) 1) (aO (⟨m.ua,m.ub⟩:Da) ((2*(d.ae.length:Int))+1) 2) (m.ub) (!m.vb) (m.ov) Sz.aD)) ?_
        refine Un (i:=16) 3 rfl (by kernel_rfl) rfl rfl (fun N9 jv=>?_)
        refine(iy (C:=aG) (l:=[_,_,_,_,_]) rfl rfl rfl rfl b8 rfl rfl rfl rfl jv ?_)
        intro rJ N8 nV;clear jv
        refine aN.grow [_,_] (Hp.le_refl _) nV ?_;clear nV
        change WA _ _ _ _ _ _ _ _ _ _ _ _ [_,_,_,_,_,_]
        refine Un (i:=17) 2 rfl (by kernel_rfl) rfl rfl (fun w65 nU=>?_)
        refine(jg (C:=aG) (i:=1) (q:=0) (⟨(fW (aO (⟨m.va,m.vb⟩:Da) ((2*(d.ae.length:Int))+3) 0) (aO (⟨m.ua,m.ub⟩:Da) ((2*(d.ae.length:Int))+1) 1) (aO (⟨m.va,m.vb⟩:Da) ((2*(d.ae.length:Int))+3) 1) (aO (⟨m.ua,m.ub⟩:Da) ((2*(d.ae.length:Int))+1) 2) (m.ub) (!m.vb) (m.ov)).a,(fW (aO (⟨m.va,m.vb⟩:Da) ((2*(d.ae.length:Int))+3) 0) (aO (⟨m.ua,m.ub⟩:Da) ((2*(d.ae.length:Int))+1) 1) (aO (⟨m.va,m.vb⟩:Da) ((2*(d.ae.length:Int))+3) 1) (aO (⟨m.ua,m.ub⟩:Da) ((2*(d.ae.length:Int))+1) 2) (m.ub) (!m.vb) (m.ov)).b,(fW (aO (⟨m.va,m.vb⟩:Da) ((2*(d.ae.length:Int))+3) 0) (aO (⟨m.ua,m.ub⟩:Da) ((2*(d.ae.length:Int))+1) 1) (aO (⟨m.va,m.vb⟩:Da) ((2*(d.ae.length:Int))+3) 1) (aO (⟨m.ua,m.ub⟩:Da) ((2*(d.ae.length:Int))+1) 2) (m.ub) (!m.vb) (m.ov)).c,(fW (aO (⟨m.va,m.vb⟩:Da) ((2*(d.ae.length:Int))+3) 0) (aO (⟨m.ua,m.ub⟩:Da) ((2*(d.ae.length:Int))+1) 1) (aO (⟨m.va,m.vb⟩:Da) ((2*(d.ae.length:Int))+3) 1) (aO (⟨m.ua,m.ub⟩:Da) ((2*(d.ae.length:Int))+1) 2) (m.ub) (!m.vb) (m.ov)).d,(fW (aO (⟨m.va,m.vb⟩:Da) ((2*(d.ae.length:Int))+3) 0) (aO (⟨m.ua,m.ub⟩:Da) ((2*(d.ae.length:Int))+1) 1) (aO (⟨m.va,m.vb⟩:Da) ((2*(d.ae.length:Int))+3) 1) (aO (⟨m.ua,m.ub⟩:Da) ((2*(d.ae.length:Int))+1) 2) (m.ub) (!m.vb) (m.ov)).plus⟩:Cr) rfl rfl rfl rfl rfl rfl rfl rfl b8 nU rfl rfl rfl (by show(_+1)*40<=_;first|omega|(simp only[ls];omega)) ?_)
        intro al5 w66 zJ;clear nU
        have DU:=zJ.pick [1,2,3,4,5] [_,_,_,_,_] (by decide) ⟨rfl,rfl,rfl,rfl,rfl,trivial⟩;clear zJ
        refine aN.grow [_] (Hp.le_refl _) DU ?_;clear DU
        change WA _ _ _ _ _ _ _ _ _ _ _ _ [_,_,_,_,_]
        refine ai 18 1 rfl (by kernel_rfl) (fun _=>U1 rfl rfl ay rfl (bK) (bJ)) ?_
        refine Un (i:=19) 0 rfl (by kernel_rfl) rfl rfl (fun N7 jM=>?_)
        refine(U7 (i:=1) (us:=[_]) (l':=[_,_]) (H':=[_,_,_,_,_]) rfl rfl jM rfl rfl rfl (jM.jx (i:=0) rfl) kZ rfl (Uy (jM.one (i:=0) rfl) rfl) rfl rfl ?_)
        intro w70 oM;clear jM
        refine aN.turn (by kernel_rfl) oM ?_;clear oM
        change WA _ _ _ _ _ _ _ _ _ _ _ _ [_,_,_,_,_]
        refine Uu (by kernel_rfl) (fun Db ju=>?_)
        refine ah [4,7] rfl (U3 (U2 apU apT rfl rfl rfl (U0 rfl (af 0 rfl (U8 (us:=[_,_]) rfl rfl ay rfl az (ju.ax (i:=1) rfl ⟨rfl,rfl,trivial⟩)) (ak 1 2 rfl rfl rfl (U7 (i:=2) (us:=[_,_]) (l':=[_,_]) (H':=[_,_,_,_,_]) rfl rfl ju rfl rfl rfl rfl az rfl (Uy (ju.one (i:=0) rfl) (Uy rfl rfl)) rfl rfl ?_))))))
        intro C9 qm;clear ju
        refine ag 2 1 rfl rfl (U5 rfl (ah [4,5] rfl (U3 ?_)))
        obtain⟨M45,acG,ko,⟨A1,c1,e1,hr1⟩⟩:=qm.fZ (i:=0) (H':=[_,_,_,_,_]) rfl rfl (by show _*40<=_;first|omega|(simp only[ls];omega))
        clear qm;subst e1
        replace aC:=aC.mono (Hp.Ua acG ko.mx)
        refine Uj hC [_,_] rfl rfl ⟨⟨_,rfl,Um (us:=[_,_]) ay rfl az (ko.ax (i:=2) rfl ⟨rfl,rfl,trivial⟩)⟩,rfl,trivial⟩ ?_
        refine⟨_,rfl,_,aL.trans acG,(ko.pick [] [] (by decide) trivial),?_⟩
        rw[r9 (E:=⟨((bg (bg d.ae (Ud d m.ua false).1 (Ud d m.ua false).2 (2*(d.ae.length:Int)+2)) (Ud d m.va false).1 (Ud d m.va false).2 (2*(d.ae.length:Int)+4))++[(⟨(fW (aO (⟨m.va,m.vb⟩:Da) ((2*(d.ae.length:Int))+3) 1) (aO (⟨m.ua,m.ub⟩:Da) ((2*(d.ae.length:Int))+1) 1) (aO (⟨m.va,m.vb⟩:Da) ((2*(d.ae.length:Int))+3) 2) (aO (⟨m.ua,m.ub⟩:Da) ((2*(d.ae.length:Int))+1) 0) (!m.ub) (!m.vb) (m.ov)).a,(fW (aO (⟨m.va,m.vb⟩:Da) ((2*(d.ae.length:Int))+3) 1) (aO (⟨m.ua,m.ub⟩:Da) ((2*(d.ae.length:Int))+1) 1) (aO (⟨m.va,m.vb⟩:Da) ((2*(d.ae.length:Int))+3) 2) (aO (⟨m.ua,m.ub⟩:Da) ((2*(d.ae.length:Int))+1) 0) (!m.ub) (!m.vb) (m.ov)).b,(fW (aO (⟨m.va,m.vb⟩:Da) ((2*(d.ae.length:Int))+3) 1) (aO (⟨m.ua,m.ub⟩:Da) ((2*(d.ae.length:Int))+1) 1) (aO (⟨m.va,m.vb⟩:Da) ((2*(d.ae.length:Int))+3) 2) (aO (⟨m.ua,m.ub⟩:Da) ((2*(d.ae.length:Int))+1) 0) (!m.ub) (!m.vb) (m.ov)).c,(fW (aO (⟨m.va,m.vb⟩:Da) ((2*(d.ae.length:Int))+3) 1) (aO (⟨m.ua,m.ub⟩:Da) ((2*(d.ae.length:Int))+1) 1) (aO (⟨m.va,m.vb⟩:Da) ((2*(d.ae.length:Int))+3) 2) (aO (⟨m.ua,m.ub⟩:Da) ((2*(d.ae.length:Int))+1) 0) (!m.ub) (!m.vb) (m.ov)).d,(fW (aO (⟨m.va,m.vb⟩:Da) ((2*(d.ae.length:Int))+3) 1) (aO (⟨m.ua,m.ub⟩:Da) ((2*(d.ae.length:Int))+1) 1) (aO (⟨m.va,m.vb⟩:Da) ((2*(d.ae.length:Int))+3) 2) (aO (⟨m.ua,m.ub⟩:Da) ((2*(d.ae.length:Int))+1) 0) (!m.ub) (!m.vb) (m.ov)).plus⟩:Cr)])++[(⟨(fW (aO (⟨m.va,m.vb⟩:Da) ((2*(d.ae.length:Int))+3) 0) (aO (⟨m.ua,m.ub⟩:Da) ((2*(d.ae.length:Int))+1) 1) (aO (⟨m.va,m.vb⟩:Da) ((2*(d.ae.length:Int))+3) 1) (aO (⟨m.ua,m.ub⟩:Da) ((2*(d.ae.length:Int))+1) 2) (m.ub) (!m.vb) (m.ov)).a,(fW (aO (⟨m.va,m.vb⟩:Da) ((2*(d.ae.length:Int))+3) 0) (aO (⟨m.ua,m.ub⟩:Da) ((2*(d.ae.length:Int))+1) 1) (aO (⟨m.va,m.vb⟩:Da) ((2*(d.ae.length:Int))+3) 1) (aO (⟨m.ua,m.ub⟩:Da) ((2*(d.ae.length:Int))+1) 2) (m.ub) (!m.vb) (m.ov)).b,(fW (aO (⟨m.va,m.vb⟩:Da) ((2*(d.ae.length:Int))+3) 0) (aO (⟨m.ua,m.ub⟩:Da) ((2*(d.ae.length:Int))+1) 1) (aO (⟨m.va,m.vb⟩:Da) ((2*(d.ae.length:Int))+3) 1) (aO (⟨m.ua,m.ub⟩:Da) ((2*(d.ae.length:Int))+1) 2) (m.ub) (!m.vb) (m.ov)).c,(fW (aO (⟨m.va,m.vb⟩:Da) ((2*(d.ae.length:Int))+3) 0) (aO (⟨m.ua,m.ub⟩:Da) ((2*(d.ae.length:Int))+1) 1) (aO (⟨m.va,m.vb⟩:Da) ((2*(d.ae.length:Int))+3) 1) (aO (⟨m.ua,m.ub⟩:Da) ((2*(d.ae.length:Int))+1) 2) (m.ub) (!m.vb) (m.ov)).d,(fW (aO (⟨m.va,m.vb⟩:Da) ((2*(d.ae.length:Int))+3) 0) (aO (⟨m.ua,m.ub⟩:Da) ((2*(d.ae.length:Int))+1) 1) (aO (⟨m.va,m.vb⟩:Da) ((2*(d.ae.length:Int))+3) 1) (aO (⟨m.ua,m.ub⟩:Da) ((2*(d.ae.length:Int))+1) 2) (m.ub) (!m.vb) (m.ov)).plus⟩:Cr)],d.loops⟩) (by unfold fT;rw[if_pos ((by omega:(1<=m.ua/\m.ua<=2*(d.ae.length:Int))/\(1<=m.va/\m.va<=2*(d.ae.length:Int)))),if_pos ⟨uZ,(by simpa using s6)⟩,if_pos (by omega)]) (by unfold tU;rw[ahz,ahy])]
        exact⟨_,_,rfl,hr1⟩
end Go.Proofs.YthppkofceancjaaGreat
namespace Go.Proofs.YthppkofceancjaaGreat
open Go.RowKit
section
variable (e1 e2 : Nat → Nat)
end
def prJ(j:Nat):Nat:=4*(j/4)+(j%4+3)%4
structure Mp4(n:Nat)(h1 h2 hA F:Nat->Nat):Prop where
 lt:∀a,a<2*n->h1 a<4*n/\h2 a<4*n/\h1 a≠h2 a/\hA (h1 a)=a/\hA (h2 a)=a
 at_:∀j,j<4*n->hA j<2*n/\(j=h1 (hA j)\/j=h2 (hA j))
 nx:∀a,a<2*n->F (h1 a)=F (prJ (h2 a))/\F (h2 a)=F (prJ (h1 a))
 fl:∀j,j<4*n->F j<n+2
 fs:∀i,i<n+2->∃j,j<4*n/\F j=i
 con:∀Z:Nat->Prop,(∀a,a<2*n->(Z (h1 a/4)<->Z (h2 a/4)))->∀x y,x<n->y<n->Z x->Z y
section
variable {n : Nat} {h1 h2 hA F : Nat → Nat}
theorem Mp4.hs(m:Mp4 n h1 h2 hA F)(P:Nat->Bool):cn P (4*n)=cn (fun a=>P (h1 a)) (2*n)+cn (fun a=>P (h2 a)) (2*n):=by
 have hp:((List.range (2*n)).map h1++(List.range (2*n)).map h2).Perm (List.range (4*n)):=by
  rw[List.perm_ext_iff_of_nodup]
  ·intro j
   rw[List.mem_append,List.mem_map,List.mem_map,List.mem_range]
   constructor
   ·rintro(⟨a,ha,rfl⟩|⟨a,ha,rfl⟩)
    ·exact(m.lt a (List.mem_range.1 ha)).1
    ·exact(m.lt a (List.mem_range.1 ha)).2.1
   ·intro hj
    obtain⟨h3,h4|h4⟩:=m.at_ j hj
    ·exact .inl ⟨hA j,List.mem_range.2 h3,h4.symm⟩
    ·exact .inr ⟨hA j,List.mem_range.2 h3,h4.symm⟩
  ·rw[List.nodup_append]
   have inj:∀h:Nat->Nat,(∀a,a<2*n->hA (h a)=a)->((List.range (2*n)).map h).Nodup:=fun h hh=>by
    rw[List.nodup_iff_pairwise_ne,List.pairwise_map]
    refine List.Pairwise.imp_of_mem ?_ List.nodup_range
    intro a b ha hb hab e
    have h3:=hh a (List.mem_range.1 ha)
    have h4:=hh b (List.mem_range.1 hb)
    rw[e]at h3
    exact hab (h3.symm.trans h4)
   refine⟨inj h1 fun a ha=>(m.lt a ha).2.2.2.1,inj h2 fun a ha=>(m.lt a ha).2.2.2.2,?_⟩
   intro x hx y hy
   obtain⟨a,ha,rfl⟩:=List.mem_map.1 hx
   obtain⟨b,hb,rfl⟩:=List.mem_map.1 hy
   intro e
   have h3:=(m.lt a (List.mem_range.1 ha)).2.2
   have h4:=(m.lt b (List.mem_range.1 hb)).2.2
   have e2:a=b:=by rw[<-h3.2.1,e,h4.2.2]
   subst e2
   exact h3.1 e
  ·exact List.nodup_range
 have h3:=hp.countP_eq P
 rw[List.countP_append,List.countP_map,List.countP_map]at h3
 rw[zV,zV,zV,<-List.countP_eq_length_filter,<-List.countP_eq_length_filter,<-List.countP_eq_length_filter,<-h3]
 rfl
end
end Go.Proofs.YthppkofceancjaaGreat
namespace Go.Proofs.YthppkofceancjaaGreat
open Go.RowKit
def Marks(seen:List Bool)(L:List Int):Prop:=L.Nodup/\∀y:Int,y∈L<->∃x:Nat,y=(x:Int)/\x<seen.length/\ga seen x=true
theorem aaL{seen:List Bool}{L:List Int}{x:Nat}(h:Marks seen L)(hx:x<seen.length)(hf:ga seen x=false):Marks (seen.set x true) (L++[(x:Int)]):=by
 obtain⟨h1,h2⟩:=h
 refine⟨?_,fun y=>?_⟩
 ·rw[List.nodup_append]
  refine⟨h1,by simp,?_⟩
  intro a ha b hb e
  rw[List.mem_singleton]at hb
  subst hb
  subst e
  obtain⟨x',e,_,h4⟩:=(h2 _).1 ha
  obtain rfl:x=x':=by omega
  rw[hf]at h4
  cases h4
 ·rw[List.mem_append,List.mem_singleton,h2]
  constructor
  ·rintro(⟨x',e,h3,h4⟩|rfl)
   ·refine⟨x',e,by rw[List.length_set];exact h3,?_⟩
    rw[dV _ _ _ _ hx]
    split<;>simp[h4]
   ·exact⟨x,rfl,by rw[List.length_set];exact hx,by rw[dV _ _ _ _ hx];simp⟩
  ·rintro⟨x',e,h3,h4⟩
   rw[List.length_set]at h3
   rw[dV _ _ _ _ hx]at h4
   by_cases hxx:x=x'
   ·subst hxx;exact .inr e
   ·rw[if_neg hxx]at h4;exact .inl ⟨x',e,h3,h4⟩
theorem agd{nx:Nat->Nat}(P:List Int)(seen:List Bool)(x:Nat)(acc:List Int)(h:Marks seen (P++acc)):
  Marks (eY nx seen x acc).1 (P++(eY nx seen x acc).2)/\(∀y,ga seen y=true->ga (eY nx seen x acc).1 y=true)/\(x<seen.length->ga (eY nx seen x acc).1 x=true):=by
 induction hk:free seen using Nat.strongRecOn generalizing seen x acc with
 |_ k ih=>
  by_cases hx:x<seen.length/\ga seen x=false
  ·rw[rP hx.1 hx.2]
   have hf:=mW hx.1 hx.2
   obtain⟨r1,r2,_⟩:=ih (free (seen.set x true)) (by omega) (seen.set x true) (nx x) (acc++[(x:Int)]) (by rw[<-List.append_assoc];exact aaL h hx.1 hx.2) rfl
   refine⟨r1,fun y hy=>r2 y ?_,fun _=>r2 x ?_⟩
   ·rw[dV _ _ _ _ hx.1];split<;>simp[hy]
   ·rw[dV _ _ _ _ hx.1];simp
  ·have e:eY nx seen x acc=(seen,acc):=by rw[eY];simp[hx]
   rw[e]
   refine⟨h,fun y hy=>hy,fun hl=>?_⟩
   cases hg:ga seen x
   ·exact absurd ⟨hl,hg⟩ hx
   ·rfl
def p7(d:Dg)(c:Nat):Prop:=2<=c/\c<4*d.ae.length+2
def yt(d:Dg)(P:List Int):Prop:=∀y∈P,((dN d y.toNat:Nat):Int)∈P
theorem uF{d:Dg}(h:aX d=true){c e:Nat}(hc:p7 d c)(he:p7 d e)(heq:dN d c=dN d e):c=e:=by
 have h1:=congrArg dA heq
 rw[xw h hc,xw h he]at h1
 have o1:=od hc
 have o2:=od he
 have key:∀x:Da,okD d x->(Ud d x.a x.b)=((Ud d (jU d x).a (!(jU d x).b)).1,((Ud d (jU d x).a (!(jU d x).b)).2+1)%4):=fun x hx=>by
  obtain⟨q1,q2,_⟩:=fe h hx x.b
  have e1:=zD h (c:=(Ud d x.a x.b).1) (k:=((Ud d x.a x.b).2+3)%4) (b:=!(jU d x).b) q1 (Nat.mod_lt _ (by decide)) (by show cH d _ _=!!(cH d _ _);rw[Bool.not_not])
  rw[show(jU d x).a=bt d (Ud d x.a x.b).1 (((Ud d x.a x.b).2+3)%4)from rfl,e1]
  exact Prod.ext rfl (by show _=(((Ud d x.a x.b).2+3)%4+1)%4;omega)
 have k1:=key _ o1
 have k2:=key _ o2
 rw[h1]at k1
 have k3:=k1.trans k2.symm
 have t1:=zO h o1 (dA c).b
 have t2:=zO h o2 (dA e).b
 rw[k3]at t1
 have ea:(dA c).a=(dA e).a:=t1.1.symm.trans t2.1
 have eb:(dA c).b=(dA e).b:=by
  have:=t1.2.symm.trans t2.2
  cases h7:(dA c).b<;>cases h8:(dA e).b<;>simp_all
 refine acm ?_
 cases h7:dA c
 cases h8:dA e
 rw[h7,h8]at ea eb
 simp only at ea eb
 rw[ea,eb]
theorem agf{P:List Int}(f:Int->Int)(hnd:P.Nodup)(hf:∀y∈P,f y∈P)(hinj:∀a∈P,∀b∈P,f a=f b->a=b){x:Int}(hx:x∈P):∃z∈P,f z=x:=by
 refine Classical.byContradiction fun hno=>?_
 have h1:(P.map f).Nodup:=by
  rw[List.nodup_iff_pairwise_ne,List.pairwise_map]
  exact List.Pairwise.imp_of_mem (fun ha hb hab e=>hab (hinj _ ha _ hb e)) hnd
 have h2:x∉P.map f:=fun h=>by
  obtain⟨z,hz,e⟩:=List.mem_map.1 h
  exact hno ⟨z,hz,e⟩
 have h3:=Ac (List.nodup_cons.2 ⟨h2,h1⟩) (ys:=P) (fun y hy=>by
  rcases List.mem_cons.1 hy with e|hy
  ·rw[e];exact hx
  ·obtain⟨z,hz,e⟩:=List.mem_map.1 hy
   rw[<-e];exact hf z hz)
 rw[List.length_cons,List.length_map]at h3
 omega
theorem agR{d:Dg}(h:aX d=true)(P:List Int)(hP:yt d P)(OT:∀y∈P,∃c:Nat,y=(c:Int)/\p7 d c)(seen:List Bool)(x:Nat)(acc:List Int)(hm:Marks seen (P++acc))(hl:seen.length=4*d.ae.length+2)(hx:p7 d x)
  (hacc:∀y∈acc,(∃c:Nat,y=(c:Int)/\p7 d c)/\(((dN d y.toNat:Nat):Int)∈acc\/dN d y.toNat=x))(hlast:acc=[]\/∃y∈acc,dN d y.toNat=x):
  yt d (eY (dN d) seen x acc).2/\∀y∈(eY (dN d) seen x acc).2,∃c:Nat,y=(c:Int)/\p7 d c:=by
 induction hk:free seen using Nat.strongRecOn generalizing seen x acc with
 |_ k ih=>
  by_cases hg:x<seen.length/\ga seen x=false
  ·rw[rP hg.1 hg.2]
   have hf:=mW hg.1 hg.2
   refine ih (free (seen.set x true)) (by omega) (seen.set x true) (dN d x) (acc++[(x:Int)]) (by rw[<-List.append_assoc];exact aaL hm hg.1 hg.2) (by rw[List.length_set];exact hl) (Ap h hx) ?_ (.inr ⟨(x:Int),by simp,rfl⟩) rfl
   intro y hy
   rw[List.mem_append,List.mem_singleton]at hy
   rcases hy with hy|rfl
   ·obtain⟨h1,h2⟩:=hacc y hy
    refine⟨h1,.inl ?_⟩
    rw[List.mem_append,List.mem_singleton]
    rcases h2 with h2|h2
    ·exact .inl h2
    ·exact .inr (by rw[h2])
   ·exact⟨⟨x,rfl,hx⟩,.inr rfl⟩
  ·have e:eY (dN d) seen x acc=(seen,acc):=by rw[eY];simp[hg]
   rw[e]
   refine⟨?_,fun y hy=>(hacc y hy).1⟩
   have hs:ga seen x=true:=by
    cases hq:ga seen x with
    |true=>rfl
    |false=>exact absurd ⟨by rw[hl];exact hx.2,hq⟩ hg
   have jJ:(x:Int)∈P++acc:=(hm.2 _).2 ⟨x,rfl,by rw[hl];exact hx.2,hs⟩
   have hxa:(x:Int)∈acc\/acc=[]:=by
    rcases List.mem_append.1 jJ with hp|ha
    ·right
     rcases hlast with h0|⟨y,hy,hyx⟩
     ·exact h0
     ·exfalso
      -- an element of P comes before x
      obtain⟨z,hz,hzx⟩:=agf (fun y=>((dN d y.toNat:Nat):Int)) (List.nodup_append.1 hm.1).1 hP (fun a ha b hb e9=>by
       obtain⟨c1,rfl,r1⟩:=OT a ha
       obtain⟨c2,rfl,r2⟩:=OT b hb
       simp only[Int.toNat_natCast]at e9
       rw[uF h r1 r2 (by omega)]) hp
      obtain⟨c1,rfl,r1⟩:=OT z hz
      obtain⟨⟨c2,rfl,r2⟩,_⟩:=hacc y hy
      simp only[Int.toNat_natCast]at hzx hyx
      have:=uF h r1 r2 (by omega)
      subst this
      exact(List.nodup_append.1 hm.1).2.2 _ hz _ hy rfl
    ·exact .inl ha
   intro y hy
   rcases hxa with ha|ha
   ·rcases(hacc y hy).2 with h2|h2
    ·exact h2
    ·rw[h2];exact ha
   ·have hy':y∈acc:=hy
    rw[ha]at hy'
    cases hy'
theorem af4 {d : Dg} (h : aX d = true) (k : Nat) (hk : k ≤ 4 * d.ae.length) : Marks (dQ d k).1 (dQ d k).2.flatten ∧ (∀ c, 2 ≤ c → c < k + 2 → ga (dQ d k).1 c = true) ∧ (∀ r ∈ (dQ d k).2, yt d r ∧ ∀ y ∈ r, ∃ c : Nat, y = (c : Int) ∧ p7 d c) := by
  induction k with
  | zero =>
    refine ⟨⟨by simp [dQ], fun y => ?_⟩, fun c h1 h2 => by omega, fun r hr => by simp [dQ] at hr⟩
    simp only [dQ, List.flatten_nil, List.not_mem_nil, List.length_replicate, false_iff]
    rintro ⟨x, _, h1, h2⟩
    rw [uL _ _ _ h1] at h2
    cases h2
  | succ k ih =>
    obtain ⟨i1, i2, i3⟩ := ih (by omega)
    have hlen := zE d k
    cases hg : ga (dQ d k).1 (k + 2) with
    | true =>
      rw [rT rfl hg]
      refine ⟨i1, fun c h1 h2 => ?_, i3⟩
      by_cases e : c = k + 2
      · subst e; exact hg
      · exact i2 c h1 (by omega)
    | false =>
      rw [rS rfl hg rfl]
      dsimp only
      obtain ⟨r1, r2, r3⟩ := agd (nx := dN d) (dQ d k).2.flatten (dQ d k).1 (k + 2) [] (by simpa using i1)
      have hc := agR h (dQ d k).2.flatten (fun y hy => by
          obtain ⟨r, hr, OD⟩ := List.mem_flatten.1 hy
          exact List.mem_flatten.2 ⟨r, hr, (i3 r hr).1 y OD⟩) (fun y hy => by
          obtain ⟨r, hr, OD⟩ := List.mem_flatten.1 hy
          exact (i3 r hr).2 y OD) (dQ d k).1 (k + 2) [] (by simpa using i1) hlen ⟨by omega, by omega⟩ (fun y hy => by cases hy) (.inl rfl)
      refine ⟨by rw [List.flatten_append]; simpa using r1, fun c h1 h2 => ?_, fun r hr => ?_⟩
      · by_cases e : c = k + 2
        · subst e; exact r3 (by omega)
        · exact r2 c (i2 c h1 (by omega))
      · rcases List.mem_append.1 hr with hr | hr
        · exact i3 r hr
        · rw [List.mem_singleton.1 hr]; exact hc
def anm(d:Dg):List (List Int):=(dQ d (4*d.ae.length)).2
theorem ahJ(d:Dg):U6 d=(anm d).map ik:=rfl
end Go.Proofs.YthppkofceancjaaGreat
namespace Go.Proofs.YthppkofceancjaaGreat
open Go.ChangeShapes Go.WideShapes Go.ChangeAt Go.RowKit
def dS(d:Dg)(x:Da):Nat:=(Ud d x.a x.b).1
theorem akQ{d:Dg}(h:aX d=true){x:Da}(hx:okD d x):dS d x=dx d (jU d x):=by
 obtain⟨q1,q2,_⟩:=fe h hx x.b
 have e1:=zD h (c:=(Ud d x.a x.b).1) (k:=((Ud d x.a x.b).2+3)%4) (b:=!(jU d x).b) q1 (Nat.mod_lt _ (by decide)) (by show cH d _ _=!!(cH d _ _);rw[Bool.not_not])
 unfold dS dx
 rw[show(jU d x).a=bt d (Ud d x.a x.b).1 (((Ud d x.a x.b).2+3)%4)from rfl,e1]
theorem aaU{d:Dg}(h:aX d=true){x:List Da}(hx:x∈U6 d):∃r:List Int,x=ik r/\r.Nodup/\yt d r/\∀y∈r,∃c:Nat,y=(c:Int)/\p7 d c:=by
 rw[ahJ]at hx
 obtain⟨r,hr,rfl⟩:=List.mem_map.1 hx
 obtain⟨i1,_,i3⟩:=af4 h _ (Nat.le_refl _)
 exact⟨r,rfl,(List.pairwise_flatten.1 i1.1).1 r hr,(i3 r hr).1,(i3 r hr).2⟩
theorem xD{d:Dg}(h:aX d=true){c:Nat}(hc:p7 d c):dS d (dA c)=dx d (dA (dN d c)):=by
 rw[xw h hc]
 exact akQ h (od hc)
theorem wX{d:Dg}{r:List Int}(h:yt d r){c:Nat}(hc:(c:Int)∈r):((dN d c:Nat):Int)∈r:=by
 have h9:=h _ hc
 rwa [Int.toNat_natCast]at h9
theorem amj{l:List Int}(h:l.length=2):∃a b,l=[a,b]:=by
 match l,h with
 |[a,b],_=>exact⟨a,b,rfl⟩
theorem ami{l:List Int}(h:l.length=3):∃a b c,l=[a,b,c]:=by
 match l,h with
 |[a,b,c],_=>exact⟨a,b,c,rfl⟩
theorem ald{d:Dg}(h:aX d=true){x:List Da}(hx:x∈U6 d)(hl:x.length=2):(dS d (ga x 0)=dx d (ga x 0)/\dS d (ga x 1)=dx d (ga x 1))\/(dS d (ga x 0)=dx d (ga x 1)/\dS d (ga x 1)=dx d (ga x 0)):=by
 obtain⟨r,rfl,hn,hc,hr⟩:=aaU h hx
 have hl2:r.length=2:=by unfold ik at hl;rwa [List.length_map]at hl
 obtain⟨y0,y1,rfl⟩:=amj hl2
 obtain⟨c0,rfl,h0⟩:=hr y0 (by simp)
 obtain⟨c1,rfl,h1⟩:=hr y1 (by simp)
 have n0:=wX hc (c:=c0) (by simp)
 have n1:=wX hc (c:=c1) (by simp)
 have hn':(c0:Int)≠c1:=by simpa using hn
 have hne:c0≠c1:=fun e=>hn' (by rw[e])
 have k01:dN d c0≠dN d c1:=fun e=>hne (uF h h0 h1 e)
 have t0:=xD h h0
 have t1:=xD h h1
 simp only[List.mem_cons,List.not_mem_nil,or_false,Int.ofNat_inj]at n0 n1
 show(dS d (dA c0)=dx d (dA c0)/\dS d (dA c1)=dx d (dA c1))\/(dS d (dA c0)=dx d (dA c1)/\dS d (dA c1)=dx d (dA c0))
 rcases n0 with e0|e0<;>rcases n1 with e1|e1<;>first|(exfalso;omega)|(rw[e0]at t0;rw[e1]at t1;omega)
theorem alc{d:Dg}(h:aX d=true){x:List Da}(hx:x∈U6 d)(hl:x.length=3):(dx d (ga x 0)≠dx d (ga x 1)/\dx d (ga x 0)≠dx d (ga x 2)/\dx d (ga x 1)≠dx d (ga x 2))<->(dS d (ga x 0)≠dS d (ga x 1)/\dS d (ga x 0)≠dS d (ga x 2)/\dS d (ga x 1)≠dS d (ga x 2)):=by
 obtain⟨r,rfl,hn,hc,hr⟩:=aaU h hx
 have hl2:r.length=3:=by unfold ik at hl;rwa [List.length_map]at hl
 obtain⟨y0,y1,y2,rfl⟩:=ami hl2
 obtain⟨c0,rfl,h0⟩:=hr y0 (by simp)
 obtain⟨c1,rfl,h1⟩:=hr y1 (by simp)
 obtain⟨c2,rfl,h2⟩:=hr y2 (by simp)
 have n0:=wX hc (c:=c0) (by simp)
 have n1:=wX hc (c:=c1) (by simp)
 have n2:=wX hc (c:=c2) (by simp)
 have mR:((c0:Int)≠c1/\(c0:Int)≠c2)/\(c1:Int)≠c2:=by simpa using hn
 obtain⟨⟨i01,i02⟩,i12⟩:=mR
 have h01:c0≠c1:=fun e=>i01 (by rw[e])
 have h02:c0≠c2:=fun e=>i02 (by rw[e])
 have h12:c1≠c2:=fun e=>i12 (by rw[e])
 have k01:dN d c0≠dN d c1:=fun e=>h01 (uF h h0 h1 e)
 have k02:dN d c0≠dN d c2:=fun e=>h02 (uF h h0 h2 e)
 have k12:dN d c1≠dN d c2:=fun e=>h12 (uF h h1 h2 e)
 have t0:=xD h h0
 have t1:=xD h h1
 have t2:=xD h h2
 simp only[List.mem_cons,List.not_mem_nil,or_false,Int.ofNat_inj]at n0 n1 n2
 show(dx d (dA c0)≠dx d (dA c1)/\dx d (dA c0)≠dx d (dA c2)/\dx d (dA c1)≠dx d (dA c2))<->(dS d (dA c0)≠dS d (dA c1)/\dS d (dA c0)≠dS d (dA c2)/\dS d (dA c1)≠dS d (dA c2))
 rcases n0 with e0|e0|e0<;>rcases n1 with e1|e1|e1<;>rcases n2 with e2|e2|e2<;>first|(exfalso;omega)|(rw[e0]at t0;rw[e1]at t1;rw[e2]at t2;constructor<;>(intro h9;refine⟨?_,?_,?_⟩<;>omega))
theorem es3(d:Dg)(f:List Da):(esN d f 3).length=3<->(dx d (ga f 0)≠dx d (ga f 1)/\dx d (ga f 0)≠dx d (ga f 2)/\dx d (ga f 1)≠dx d (ga f 2)):=by
 simp only[esN]
 generalize dx d (ga f 0)=a
 generalize dx d (ga f 1)=b
 generalize dx d (ga f 2)=c
 have e1:mp (a:Int) true ([]:List (Int×Bool))=[((a:Int),true)]:=rfl
 rw[e1]
 by_cases h1:b=a
 ·subst h1
  have e2:mp (b:Int) true [((b:Int),true)]=[((b:Int),true)]:=by unfold mp;rw[if_pos rfl]
  rw[e2]
  by_cases h2:c=b
  ·subst h2
   rw[e2]
   simp
  ·have e3:mp (c:Int) true [((b:Int),true)]=[((b:Int),true),((c:Int),true)]:=by unfold mp;rw[if_neg (by simp;omega)];rfl
   rw[e3]
   simp
 ·have e2:mp (b:Int) true [((a:Int),true)]=[((a:Int),true),((b:Int),true)]:=by unfold mp;rw[if_neg (by simp;omega)];rfl
  rw[e2]
  by_cases h2:c=a
  ·subst h2
   have e3:mp (c:Int) true [((c:Int),true),((b:Int),true)]=[((c:Int),true),((b:Int),true)]:=by unfold mp;rw[if_pos rfl]
   rw[e3]
   simp
  ·by_cases h3:c=b
   ·subst h3
    have e3:mp (c:Int) true [((a:Int),true),((c:Int),true)]=[((a:Int),true),((c:Int),true)]:=by unfold mp;rw[if_neg (by simp;omega)];unfold mp;rw[if_pos rfl]
    rw[e3]
    simp
   ·have e3:mp (c:Int) true [((a:Int),true),((b:Int),true)]=[((a:Int),true),((b:Int),true),((c:Int),true)]:=by unfold mp;rw[if_neg (by simp;omega)];unfold mp;rw[if_neg (by simp;omega)];rfl
    rw[e3]
    simp only[List.length_cons,List.length_nil,true_iff]
    exact⟨fun e=>h1 e.symm,fun e=>h2 e.symm,fun e=>h3 e.symm⟩
theorem acg(d:Dg)(a:Int):hgt d a<=2:=by unfold hgt;omega
theorem ajv(d:Dg)(f:List Da)(i:Nat):il d f 0 i+il d f 1 i+il d f 2 i=i:=by
 induction i with
 |zero=>rfl
 |succ i ih=>
  unfold il
  have:=acg d (ga f i).a
  split<;>split<;>split<;>omega
theorem rQ{d:Dg}(h:aX d=true){x:List Da}(hx:x∈U6 d)(hl:x.length=3):j6 d x=decide ((il d x 0 3=1/\il d x 1 3=1/\il d x 2 3=1)/\(dS d (ga x 0)≠dS d (ga x 1)/\dS d (ga x 0)≠dS d (ga x 2)/\dS d (ga x 1)≠dS d (ga x 2))):=by
 unfold j6
 refine decide_eq_decide.2 ?_
 have hs:=ajv d x 3
 rw[es3,alc h hx hl]
 constructor
 ·rintro⟨_,hD,h2,h0⟩
  exact⟨⟨h0,by omega,h2⟩,hD⟩
 ·rintro⟨⟨h0,_,h2⟩,hD⟩
  exact⟨hl,hD,h2,h0⟩
theorem agV(x:Cr)(k:Nat)(a b:Int):pn (pn x k a) k b=pn x k b:=by
 unfold pn
 split
 ·rfl
 ·split
  ·rfl
  ·split<;>rfl
theorem aga{xs:List Cr}{c:Nat}(hc:c<xs.length)(k:Nat)(a b:Int):bg (bg xs c k a) c k b=bg xs c k b:=by
 unfold bg
 rw[dV _ _ _ _ hc,if_pos rfl,List.set_set,agV]
theorem aao{n:Nat}{k:Nat×Nat}(hk:k.1<n/\k.2<4)(v:Int):∀(r:List ((Nat×Nat)×Int)) (ys:List Cr),ys.length=n->(∀q∈r.map Prod.fst,(q.1<n/\q.2<4)/\k≠q)->bg (fX ys r) k.1 k.2 v=fX (bg ys k.1 k.2 v) r
 |[],_,_,_=>rfl
 |p::r,ys,hy,hr=>by
  obtain⟨h1,h2⟩:=hr p.1 (by simp)
  show bg (fX (bg ys p.1.1 p.1.2 p.2) r) k.1 k.2 v=fX (bg (bg ys k.1 k.2 v) p.1.1 p.1.2 p.2) r
  rw[aao hk v r _ ((iw _ _ _ _).trans hy) (fun q hq=>hr q (by rw[List.map_cons];exact List.mem_cons_of_mem _ hq)),aap hy hk h1 h2]
theorem aaF{d:Dg}{k:Nat×Nat}(hk:pO d k)(v:Int):∀(r:List ((Nat×Nat)×Int)) (xs:List Cr),xs.length=d.ae.length->nY d r->fX xs (mp k v r)=bg (fX xs r) k.1 k.2 v
 |[],_,_,_=>rfl
 |p::r,xs,hx,hr=>by
  obtain⟨h1,h2⟩:=hr
  rw[List.map_cons,List.nodup_cons]at h1
  have hr2:nY d r:=⟨h1.2,fun q hq=>h2 q (by rw[List.map_cons];exact List.mem_cons_of_mem _ hq)⟩
  unfold mp
  by_cases e:k=p.1
  ·rw[if_pos e]
   show fX (bg xs k.1 k.2 v) r=bg (fX (bg xs p.1.1 p.1.2 p.2) r) k.1 k.2 v
   rw[aao (n:=d.ae.length) hk v r _ ((iw _ _ _ _).trans hx) (fun q hq=>⟨hr2.2 q hq,fun e2=>h1.1 (by rw[<-e,e2];exact hq)⟩),<-e,aga (by rw[hx];exact hk.1)]
  ·rw[if_neg e]
   show fX (bg xs p.1.1 p.1.2 p.2) (mp k v r)=bg (fX (bg xs p.1.1 p.1.2 p.2) r) k.1 k.2 v
   exact aaF hk v r _ ((iw _ _ _ _).trans hx) hr2
theorem zZ{d:Dg}{es:List ((Nat×Nat)×Int)}(h:nY d es){k:Nat×Nat}(hk:pO d k)(v:Int):fX d.ae (mp k v es)=bg (fX d.ae es) k.1 k.2 v:=aaF hk v es d.ae rfl h
def docN(d:Dg)(f:List Da):Nat->List Cr
 |0=>d.ae
 |i+1=>bg (bg (bg (bg (docN d f i) (Ud d (ga f i).a false).1 (Ud d (ga f i).a false).2 (bt d (bC (Ud d (ga f i).a true)).1 (bC (Ud d (ga f i).a true)).2)) (bC (Ud d (ga f i).a false)).1 (bC (Ud d (ga f i).a false)).2 (ga f i).a) (bC (Ud d (ga f i).a true)).1 (bC (Ud d (ga f i).a true)).2 (ga f i).a) (Ud d (ga f i).a true).1 (Ud d (ga f i).a true).2 (bt d (bC (Ud d (ga f i).a false)).1 (bC (Ud d (ga f i).a false)).2)
theorem abk(d:Dg)(f:List Da)(i:Nat):(docN d f i).length=d.ae.length:=by
 induction i with
 |zero=>rfl
 |succ i ih=>unfold docN;rw[iw,iw,iw,iw];exact ih
theorem aiC{d:Dg}(hab:aX d=true){f:List Da}(hf:∀x∈f,okD d x):∀i,i<=f.length->docN d f i=fX d.ae (mJ d f i):=by
 intro i
 induction i with
 |zero=>intro _;rfl
 |succ i ih=>
  intro hi
  have hx:=hf _ (gZ (show i<f.length by omega))
  have h1:=Af hab hx true
  have h2:=Af hab hx false
  have p0:=abJ hab hf i (by omega)
  unfold docN mJ
  rw[ih (by omega),zZ (((p0.put h2 _).put (nS h2) _).put (nS h1) _) h1,zZ ((p0.put h2 _).put (nS h2) _) (nS h1),zZ (p0.put h2 _) (nS h2),zZ p0 h2]
theorem aip{e:Nat}(f:Nat->Value)(h:e<3):nth [f 0,f 1,f 2] (0+e*1)=some (f e):=by
 have:e=0\/e=1\/e=2:=by omega
 rcases this with rfl|rfl|rfl<;>rfl
theorem aiK{e:Nat}(f:Nat->Value)(v:Value)(h:e<3):Nat.ble (0+e*1+[v].length) [f 0,f 1,f 2].length=true:=by
 have:e=0\/e=1\/e=2:=by omega
 rcases this with rfl|rfl|rfl<;>rfl
theorem ai4{e:Nat}(h:Nat->Int)(v:Int)(he:e<3):spl [Value.int .i64 (h 0),Value.int .i64 (h 1),Value.int .i64 (h 2)] (0+e*1) [Value.int .i64 v]=[Value.int .i64 (upd h e v 0),Value.int .i64 (upd h e v 1),Value.int .i64 (upd h e v 2)]:=by
 have:e=0\/e=1\/e=2:=by omega
 rcases this with rfl|rfl|rfl<;>rfl
end Go.Proofs.YthppkofceancjaaGreat
