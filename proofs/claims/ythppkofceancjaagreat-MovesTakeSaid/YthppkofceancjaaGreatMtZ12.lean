/- Part 12 of the proof of the law MovesTake: the walks through its functions and the plain laws that they need. -/
import Derived.Test.YthppkofceancjaaGreatMtZ11
set_option linter.unusedSimpArgs false
set_option linter.unusedVariables false
noncomputable section
namespace Go.Proofs.YthppkofceancjaaGreat
open Go.ChangeShapes Go.WideShapes Go.ChangeAt Go.RowKit
noncomputable def Nw:=Tryz.f33.body.getD .skip
def as1:=cL Nw
def Nv:=cR Nw
def as0:=cL Nv
def Nu:=cR Nv
def Nt:=cL Nu
def Ns:=cR Nu
def asZ:=cL Nt
def Nr:=cR Nt
def Ad:=cL Nr
def afY:=cR Nr
def Nq:=cL Ad
def Np:=cR Ad
def Ey:=cL Ns
def Ex:=cR Ns
def afX:=cL Ey
def Ew:=cR Ey
def Ev:=cL Ew
def afW:=cR Ew
def afV:=cL Ev
def afU:=cR Ev
def afT:=cL Ex
def Eu:=cR Ex
def afS:=cL Eu
def Et:=cR Eu
def Es:=cL Et
def Er:=cR Et
def afR:=cL Es
def Ep:=cR Es
def Eo:=cL Ep
def afQ:=cR Ep
def afP:=cL Eo
def afO:=cR Eo
def En:=cL Er
def xL:=cR Er
def Em:=cL xL
def xK:=cR xL
def xJ:=cL xK
def xI:=cR xK
def El:=cL xJ
def xH:=cR xJ
def xG:=cL xH
def xF:=cR xH
def Ek:=cL xG
def xE:=cR xG
def Ej:=cL xE
def xD:=cR xE
def Ei:=cL xD
def Eh:=cR xD
def Eg:=cL xF
def xC:=cR xF
def Ef:=cL xC
def xB:=cR xC
def Ee:=cL xB
def Ed:=cR xB
def Ec:=cL xI
def xA:=cR xI
def Eb:=cL xA
def Ea:=cR xA
set_option maxHeartbeats 1000000 in
set_option maxRecDepth 10000 in
theorem ajh{w:World}{M:Hp}{X:Fr}(d:Dg){aV:Option Addr}{aU:Nat}(m:Mv)(az:aG aF (M.un X.h) aV aU d.ae)(hn:d.ae.length<=16)(hab:aN d=true)(hlo:0<=d.loops/\d.loops<=16)(S:SH w M X []):Ct Tryz.prog 33 [.agg [.slice aV d.ae.length aU,.int .i64 d.loops].toArray,.agg [.int .i64 m.kd,.int .i64 m.at_,.int .i64 m.aJ,.int .i64 m.ua,.bool m.ub,.int .i64 m.va,.bool m.vb,.bool m.ov].toArray] w M X (rO (kA (eH d m) (mD d m))):=by
 unfold Ct
 have gV:d.ae.length*40<=140737488355328:=az.room
 refine Up (b:=Nw) Tryz.func33 rfl Tryz.ntmps33 rfl (fun C hC=>(bq [(0,_),(1,_)] ⟨rfl,rfl,trivial⟩ (U2 as1 Nv rfl rfl rfl (U0 rfl (ak 0 1 rfl rfl rfl (bE (l:=[_,_]) rfl rfl rfl rfl rfl S ?_))))))
 intro aI w1 S1;clear S
 refine ak 1 2 rfl rfl rfl (bE (l:=[_,_,_,_,_,_,_,_]) rfl rfl rfl rfl rfl S1 ?_)
 intro aQ w2 S2;clear S1
 refine ak 2 3 rfl rfl rfl (Uh (l:=[_,_]) rfl rfl rfl fR rfl S2 ?_)
 intro bz w3 S3;clear S2
 refine ag 3 1 rfl rfl (U5 rfl (ah [2,3,4] rfl (U3 (U2 as0 Nu rfl rfl rfl (U0 rfl (af 0 rfl (U1 rfl rfl ay rfl (bK) (bJ)) (af 1 rfl (U4 rfl rfl bt rfl (S3.ar (i:=2) rfl rfl)) (af 2 rfl (cU rfl rfl rfl rfl rfl rfl bt) ?_))))))))
 refine ag 3 1 rfl rfl (U5 rfl (ah [2,3,4,6] rfl (U3 (U2 Nt Ns rfl rfl rfl (U2 asZ Nr rfl rfl rfl (U0 rfl (af 0 rfl (U1 rfl rfl aT rfl (aC) (aB)) (af 1 rfl (U4 rfl rfl av rfl (S3.ar (i:=1) rfl rfl)) ?_))))))))
 refine af 2 rfl (bS rfl rfl rfl) (ag 3 1 rfl rfl ?_)
 refine jZ (k':=8) (d:=23) (decide ((m.aJ<0)\/(3<m.aJ))) [(2,_),(3,_),(4,_),(6,_)] ⟨rfl,rfl,rfl,rfl,trivial⟩ (fun aeH=>?_) ?_
 ·refine Uw (t:=19) rfl (fun zO=>?_) (fun zO=>?_)
  ·refine ag 4 4 rfl rfl ?_
   exact cy 23 (.bool (decide ((m.aJ<0)\/(3<m.aJ)))) rfl (congrArg Value.bool (decide_eq_true (.inl zO)).symm) (fx [(23,_),(2,_),(3,_),(4,_),(6,_)] ⟨rfl,rfl,rfl,rfl,rfl,trivial⟩ aeH)
  ·refine aH 4 5 rfl rfl rfl rfl rfl rfl rfl rfl (Ub rfl rfl (U1 rfl rfl aT rfl (aC) (aB)) (aH 5 6 rfl rfl rfl rfl rfl rfl rfl rfl (Ub rfl rfl (U4 rfl rfl av rfl (S3.ar (i:=1) rfl rfl)) (aH 6 7 rfl rfl rfl rfl rfl rfl rfl rfl (Ub rfl rfl (tV rfl rfl rfl) (ag 7 1 rfl rfl ?_))))))
   exact cy 23 (.bool (decide ((m.aJ<0)\/(3<m.aJ)))) rfl (congrArg Value.bool (decide_eq_decide.2 ⟨.inr,fun h=>h.resolve_left zO⟩)) (fx [(23,_),(2,_),(3,_),(4,_),(6,_)] ⟨rfl,rfl,rfl,rfl,rfl,trivial⟩ aeH)
 ·refine ag 8 1 rfl rfl ?_
  refine jZ (k':=13) (d:=28) (decide (((m.aJ<0)\/(3<m.aJ))\/(m.at_<0))) [(2,_),(3,_),(4,_),(6,_)] ⟨rfl,rfl,rfl,rfl,trivial⟩ (fun aeG=>?_) ?_
  ·refine Uw (t:=24) rfl (fun Ji=>?_) (fun Ji=>?_)
   ·refine ag 9 4 rfl rfl ?_
    exact cy 28 (.bool (decide (((m.aJ<0)\/(3<m.aJ))\/(m.at_<0)))) rfl (congrArg Value.bool (decide_eq_true (.inl Ji)).symm) (fx [(28,_),(2,_),(3,_),(4,_),(6,_)] ⟨rfl,rfl,rfl,rfl,rfl,trivial⟩ aeG)
   ·refine aH 9 10 rfl rfl rfl rfl rfl rfl rfl rfl (Ub rfl rfl (U1 rfl rfl aT rfl (aC) (aB)) (aH 10 11 rfl rfl rfl rfl rfl rfl rfl rfl (Ub rfl rfl (U4 rfl rfl av rfl (S3.ar (i:=1) rfl rfl)) (aH 11 12 rfl rfl rfl rfl rfl rfl rfl rfl (Ub rfl rfl (bS rfl rfl rfl) (ag 12 1 rfl rfl ?_))))))
    exact cy 28 (.bool (decide (((m.aJ<0)\/(3<m.aJ))\/(m.at_<0)))) rfl (congrArg Value.bool (decide_eq_decide.2 ⟨.inr,fun h=>h.resolve_left Ji⟩)) (fx [(28,_),(2,_),(3,_),(4,_),(6,_)] ⟨rfl,rfl,rfl,rfl,rfl,trivial⟩ aeG)
  ·refine ag 13 1 rfl rfl ?_
   refine jZ (k':=20) (d:=35) (decide ((((m.aJ<0)\/(3<m.aJ))\/(m.at_<0))\/((2*(d.ae.length:Int))<m.at_))) [(2,_),(3,_),(4,_),(6,_)] ⟨rfl,rfl,rfl,rfl,trivial⟩ (fun aeF=>?_) ?_
   ·refine Uw (t:=29) rfl (fun uP=>?_) (fun uP=>?_)
    ·refine ag 14 6 rfl rfl ?_
     exact cy 35 (.bool (decide ((((m.aJ<0)\/(3<m.aJ))\/(m.at_<0))\/((2*(d.ae.length:Int))<m.at_)))) rfl (congrArg Value.bool (decide_eq_true (.inl uP)).symm) (fx [(35,_),(2,_),(3,_),(4,_),(6,_)] ⟨rfl,rfl,rfl,rfl,rfl,trivial⟩ aeF)
    ·refine aH 14 15 rfl rfl rfl rfl rfl rfl rfl rfl (Ub rfl rfl (U1 rfl rfl aT rfl (aC) (aB)) (aH 15 16 rfl rfl rfl rfl rfl rfl rfl rfl (Ub rfl rfl (U4 rfl rfl av rfl (S3.ar (i:=1) rfl rfl)) (ag 16 1 rfl rfl (aH 17 18 rfl rfl rfl rfl rfl rfl rfl rfl (Ub rfl rfl (jh rfl rfl rfl (by first|omega|(simp only[ls];omega))) ?_))))))
     refine aH 18 19 rfl rfl rfl rfl rfl rfl rfl rfl (Ub rfl rfl (tV rfl rfl rfl) (ag 19 1 rfl rfl ?_))
     exact cy 35 (.bool (decide ((((m.aJ<0)\/(3<m.aJ))\/(m.at_<0))\/((2*(d.ae.length:Int))<m.at_)))) rfl (congrArg Value.bool (decide_eq_decide.2 ⟨.inr,fun h=>h.resolve_left uP⟩)) (fx [(35,_),(2,_),(3,_),(4,_),(6,_)] ⟨rfl,rfl,rfl,rfl,rfl,trivial⟩ aeF)
   ·refine ag 20 1 rfl rfl ?_
    refine jZ (k':=30) (d:=45) (decide (((((m.aJ<0)\/(3<m.aJ))\/(m.at_<0))\/((2*(d.ae.length:Int))<m.at_))\/((m.at_=0)/\(d.loops=0)))) [(2,_),(3,_),(4,_),(6,_)] ⟨rfl,rfl,rfl,rfl,trivial⟩ (fun ayI=>?_) ?_
    ·refine Uw (t:=36) rfl (fun zN=>?_) (fun zN=>?_)
     ·refine ag 21 6 rfl rfl (ag 27 3 rfl rfl (U5 rfl (ah [2,3,4,6,45] rfl (U3 (fN Ad rfl rfl rfl (U2 Nq Np rfl rfl rfl (U0 rfl (af 0 rfl (run_build (l:=[_,_]) rfl rfl dI rfl rfl) ?_))))))))
      refine ak 1 2 rfl rfl rfl (U6 (i:=0) (us:=[_,_]) (l':=[_,_]) (H':=[_,_,_]) rfl rfl S3 rfl rfl rfl rfl aA rfl rfl rfl rfl ?_)
      intro w4 S4;clear S3
      refine ag 2 1 rfl rfl (U5 rfl (ah [4,5] rfl (U3 (Uk hC [_,_] rfl rfl ⟨⟨_,rfl,Um (us:=[_,_]) ay rfl aA (S4.aw (i:=0) rfl ⟨rfl,rfl,trivial⟩)⟩,rfl,trivial⟩ ?_))))
      refine⟨_,rfl,_,Hp.le_refl _,(S4.pick [] [] (by decide) trivial),?_⟩
      rw[fG (c:=3) (by unfold eH;rw[if_neg (by omega)]) (by decide)]
      exact eT 3
     ·refine aH 21 22 rfl rfl rfl rfl rfl rfl rfl rfl (Ub rfl rfl (U1 rfl rfl aT rfl (aC) (aB)) (aH 22 23 rfl rfl rfl rfl rfl rfl rfl rfl (Ub rfl rfl (U4 rfl rfl av rfl (S3.ar (i:=1) rfl rfl)) (aH 23 24 rfl rfl rfl rfl rfl rfl rfl rfl (Ub rfl rfl (bR rfl rfl rfl) (ag 24 1 rfl rfl ?_))))))
      refine jZ (k':=29) (d:=44) (decide ((m.at_=0)/\(d.loops=0))) [(2,_),(3,_),(4,_),(6,_),(36,_)] ⟨rfl,rfl,rfl,rfl,rfl,trivial⟩ (fun aeD=>?_) ?_
      ·refine Uw (t:=40) rfl (fun oP=>?_) (fun oP=>?_)
       ·refine aH 25 26 rfl rfl rfl rfl rfl rfl rfl rfl (Ub rfl rfl (U1 rfl rfl ay rfl (aC) (aB)) (aH 26 27 rfl rfl rfl rfl rfl rfl rfl rfl (Ub rfl rfl (U4 rfl rfl av rfl (S3.ar (i:=2) rfl rfl)) (aH 27 28 rfl rfl rfl rfl rfl rfl rfl rfl (Ub rfl rfl (bR rfl rfl rfl) (ag 28 1 rfl rfl ?_))))))
        exact cy 44 (.bool (decide ((m.at_=0)/\(d.loops=0)))) rfl (congrArg Value.bool (decide_eq_decide.2 ⟨fun h=>⟨oP,h⟩,fun h=>h.2⟩)) (fx [(44,_),(2,_),(3,_),(4,_),(6,_),(36,_)] ⟨rfl,rfl,rfl,rfl,rfl,rfl,trivial⟩ aeD)
       ·refine ag 25 4 rfl rfl ?_
        exact cy 44 (.bool (decide ((m.at_=0)/\(d.loops=0)))) rfl (congrArg Value.bool (decide_eq_false (fun h=>oP h.1)).symm) (fx [(44,_),(2,_),(3,_),(4,_),(6,_),(36,_)] ⟨rfl,rfl,rfl,rfl,rfl,rfl,trivial⟩ aeD)
      ·refine ag 29 1 rfl rfl (U5 rfl (ah [2,3,4,6,45] rfl (U3 ?_)))
       refine Uf Ad afY rfl rfl rfl rfl (fun zS=>?_) (fun zS=>?_)
       ·refine U2 Nq Np rfl rfl rfl (U0 rfl (af 0 rfl (run_build (l:=[_,_]) rfl rfl dI rfl rfl) (ak 1 2 rfl rfl rfl (U6 (i:=0) (us:=[_,_]) (l':=[_,_]) (H':=[_,_,_]) rfl rfl S3 rfl rfl rfl rfl aA rfl rfl rfl rfl ?_))))
        intro w5 S5;clear S3
        refine ag 2 1 rfl rfl (U5 rfl (ah [4,5] rfl (U3 (Uk hC [_,_] rfl rfl ⟨⟨_,rfl,Um (us:=[_,_]) ay rfl aA (S5.aw (i:=0) rfl ⟨rfl,rfl,trivial⟩)⟩,rfl,trivial⟩ ?_))))
        refine⟨_,rfl,_,Hp.le_refl _,(S5.pick [] [] (by decide) trivial),?_⟩
        rw[fG (c:=3) (by unfold eH;rw[if_neg (by omega)]) (by decide)]
        exact eT 3
       ·refine Ue rfl (ah [2,3,4,6] rfl (U3 (U2 Ey Ex rfl rfl rfl (U2 afX Ew rfl rfl rfl (U0 rfl (ag 0 1 rfl rfl (af 1 rfl (bR rfl rfl rfl) (U5 rfl ?_))))))))
        refine ah [2,3,4,6,48] rfl (U3 ?_)
        refine Uf Ev afW rfl rfl rfl rfl (fun hb48=>?_) (fun hb48=>?_)
        ·refine U2 afV afU rfl rfl rfl (U0 rfl (af 0 rfl (run_build (l:=[_,_]) rfl rfl dI rfl rfl) (ak 1 2 rfl rfl rfl (U6 (i:=0) (us:=[_,_]) (l':=[_,_]) (H':=[_,_,_]) rfl rfl S3 rfl rfl rfl rfl aA rfl rfl rfl rfl ?_))))
         intro w6 S6;clear S3
         refine ag 2 1 rfl rfl (U5 rfl (ah [4,5] rfl (U3 (Uk hC [_,_] rfl rfl ⟨⟨_,rfl,Um (us:=[_,_]) ay rfl aA (S6.aw (i:=0) rfl ⟨rfl,rfl,trivial⟩)⟩,rfl,trivial⟩ ?_))))
         refine⟨_,rfl,_,Hp.le_refl _,(S6.pick [] [] (by decide) trivial),?_⟩
         rw[fG (c:=2) (by unfold eH;rw[if_pos (by omega),if_neg (by omega)]) (by decide)]
         exact eT 2
        ·refine Ue rfl (ah [2,3,4,6] rfl (U3 (U2 afT Eu rfl rfl rfl (U0 rfl (af 0 rfl (U8 (us:=[_,_]) rfl rfl ay rfl aA (S3.aw (i:=2) rfl ⟨rfl,rfl,trivial⟩)) (ak 1 2 rfl rfl rfl (wT rfl rfl rfl rfl rfl rfl rfl Bt S3 (CG d (az.mono S3.Uy) S3.aD) ?_)))))))
         intro vw7 w7 Nw7 S7 zX;clear S3
         obtain⟨nO,rfl,rfl⟩:=zX
         have S8:SH _ _ _ [_,_,_,_]:=S7;clear S7
         refine ak 2 3 rfl rfl rfl (Uh (l:=[_,_]) rfl rfl rfl fR rfl S8 ?_)
         intro gZ w8 S9;clear S8
         refine ak 3 4 rfl rfl rfl (U6 (i:=0) (us:=[_,_]) (l':=[_,_]) (H':=[_,_,_,_,_]) rfl rfl S9 rfl rfl rfl rfl aA rfl (dD (S9.one (i:=1) rfl) (dD rfl rfl)) rfl rfl ?_)
         intro w9 bw;clear S9
         refine U5 rfl (ah [2,3,4,6,7] rfl (U3 (U2 afS Et rfl rfl rfl (U0 rfl (af 0 rfl (U1 rfl rfl aT rfl (aC) (aB)) (af 1 rfl (U4 rfl rfl av rfl (bw.ar (i:=3) rfl rfl)) (ag 2 1 rfl rfl (af 3 rfl (jh rfl rfl rfl (by first|omega|(simp only[ls];omega))) ?_))))))))
         refine af 4 rfl (Ug rfl rfl rfl (by first|omega|(simp only[ls];omega))) ?_
         refine ag 5 1 rfl rfl (af 6 rfl (jh rfl rfl rfl (by first|omega|(simp only[ls];omega))) ?_)
         refine af 7 rfl (Ug rfl rfl rfl (by first|omega|(simp only[ls];omega))) ?_
         refine ag 8 3 rfl rfl (U5 rfl (ah [2,3,4,6,7,8,9,10] rfl (U3 (U2 Es Er rfl rfl rfl (U2 afR Ep rfl rfl rfl (U0 rfl (af 0 rfl (U1 rfl rfl aT rfl (aC) (aB)) (af 1 rfl (U4 rfl rfl av rfl (bw.ar (i:=3) rfl rfl)) ?_))))))))
         refine af 2 rfl (bR rfl rfl rfl) (U5 rfl (ah [2,3,4,6,7,8,9,10,62] rfl (U3 ?_)))
         refine Uf Eo afQ rfl rfl rfl rfl (fun kT=>?_) (fun kT=>?_)
         ·refine U2 afP afO rfl rfl rfl (U0 rfl (ag 0 1 rfl rfl (af 1 rfl (jh rfl rfl rfl (by first|omega|(simp only[ls];omega))) ?_)))
          refine af 2 rfl (Ug rfl rfl rfl (by first|omega|(simp only[ls];omega))) ?_
          refine ag 3 1 rfl rfl (af 4 rfl (jh rfl rfl rfl (by first|omega|(simp only[ls];omega))) ?_)
          refine af 5 rfl (Ug rfl rfl rfl (by first|omega|(simp only[ls];omega))) ?_
          refine ag 6 1 rfl rfl (af 7 rfl (jh rfl rfl rfl (by first|omega|(simp only[ls];omega))) ?_)
          refine af 8 rfl (Ug rfl rfl rfl (by first|omega|(simp only[ls];omega))) ?_
          refine ag 9 3 rfl rfl (U5 rfl (ah [3,4,7,8,9,10] rfl (U3 (U0 rfl (af 0 rfl (U1 rfl rfl ay rfl (aC) (aB)) (af 1 rfl (U4 rfl rfl av rfl (bw.ar (i:=0) rfl rfl)) (af 2 rfl (rR rfl rfl rfl (by first|omega|(simp only[ls];omega))) ?_)))))))
          refine af 3 rfl (U1 rfl rfl ay rfl (aC) (aB)) (ak 4 5 rfl rfl rfl (U6 (i:=0) (us:=[_]) (l':=[_,_]) (H':=[_,_,_,_,_]) rfl rfl bw rfl rfl rfl rfl bg rfl rfl rfl rfl ?_))
          intro jT bW;clear bw
          refine U5 rfl (ah [3,4,7,8,9,10] rfl (U3 (U2 En xL rfl rfl rfl (U0 rfl (af 0 rfl (U1 rfl rfl aT rfl (aC) (aB)) (af 1 rfl (U4 rfl rfl av rfl (bW.ar (i:=3) rfl rfl)) (af 2 rfl (jY rfl rfl rfl (by first|omega|(simp only[ls];omega))) ?_)))))))
          refine af 3 rfl (bR rfl rfl rfl) (ag 4 1 rfl rfl (U5 rfl (ah [3,4,7,8,9,10,11] rfl (U3 (U2 Em xK rfl rfl rfl (U0 rfl (ak 0 1 rfl rfl rfl (Uh (l:=[_,_,_,_,_]) rfl rfl rfl lG rfl bW ?_))))))))
          intro iy kV bV;clear bW
          refine U5 rfl (U3 (U2 xJ xI rfl rfl rfl ?_))
          refine nE (fun au aM=>∃(cc:Cr),Env 119 [(4,.pointer (some ⟨bz,0,none⟩)),(7,.pointer (some ⟨gZ,0,none⟩)),(12,.pointer (some ⟨iy,0,none⟩))] au/\SH aM M X [Rs.box iy 77 [.int .i64 cc.a,.int .i64 cc.b,.int .i64 cc.c,.int .i64 cc.d,.bool cc.plus],Rs.box gZ 24 [nO,.int .i64 (d.loops-1)],Rs.row aF nO d.ae,Rs.box bz 24 [.slice none 0 0,.int .i64 0],Rs.box aQ 28 [.int .i64 m.kd,.int .i64 m.at_,.int .i64 m.aJ,.int .i64 m.ua,.bool m.ub,.int .i64 m.va,.bool m.vb,.bool m.ov],Rs.box aI 24 [.slice aV d.ae.length aU,.int .i64 d.loops]]/\cc=fT ((2*(d.ae.length:Int))+1) ((2*(d.ae.length:Int))+2) ((2*(d.ae.length:Int))+2) ((2*(d.ae.length:Int))+1) m.aJ) ?_ ?_
          ·refine U2 El xH rfl rfl rfl (U0 rfl (af 0 rfl (U1 rfl rfl aT rfl (aC) (aB)) (af 1 rfl (U4 rfl rfl av rfl (bV.ar (i:=4) rfl rfl)) (af 2 rfl (lg rfl rfl rfl) (U5 rfl (ah [4,7,8,9,10,11,12,89] rfl (U3 ?_)))))))
           refine Uf xG xF rfl rfl rfl rfl (fun qG=>?_) (fun qG=>?_)
           ·refine U2 Ek xE rfl rfl rfl (U0 rfl (ag 0 5 rfl rfl (af 5 rfl (run_build (l:=[_,_,_,_,_]) rfl rfl mY rfl rfl) (ak 6 7 rfl rfl rfl (U6 (i:=0) (us:=[_,_,_,_,_]) (l':=[_,_,_,_,_]) (H':=[_,_,_,_,_,_]) rfl rfl bV rfl rfl rfl rfl cg rfl rfl rfl rfl ?_)))))
            intro kz bI;clear bV
            refine U5 rfl (ah [4,7,8,9,11,12] rfl (U3 (U2 Ej xD rfl rfl rfl (U0 rfl (ag 0 1 rfl rfl (U5 rfl (ah [4,7,8,9,12,96] rfl (U3 ?_))))))))
            refine Uf Ei Eh rfl rfl rfl rfl (fun jE=>?_) (fun jE=>?_)
            ·refine U0 rfl (ag 0 2 rfl rfl (af 2 rfl (U1 rfl rfl aW rfl (aC) (aB)) (ak 3 4 rfl rfl rfl (U6 (i:=0) (us:=[_]) (l':=[_,_,_,_,_]) (H':=[_,_,_,_,_,_]) rfl rfl bI rfl rfl rfl rfl bg rfl rfl rfl rfl ?_))))
             intro jG bO;clear bI
             refine af 4 rfl (U1 rfl rfl aW rfl (aC) (aB)) (ak 5 6 rfl rfl rfl (U6 (i:=0) (us:=[_]) (l':=[_,_,_,_,_]) (H':=[_,_,_,_,_,_]) rfl rfl bO rfl rfl rfl rfl bg rfl rfl rfl rfl ?_))
             intro nW cm;clear bO
             refine U5 rfl (aO ?_)
             intro au aq
             refine⟨(⟨(2*(d.ae.length:Int))+2,(2*(d.ae.length:Int))+2,(2*(d.ae.length:Int))+1,(2*(d.ae.length:Int))+1,decide ((m.aJ%2)=1)⟩:Cr),aq.sub ⟨rfl,rfl,rfl,trivial⟩,cm.pick [0,1,2,3,4,5] [_,_,_,_,_,_] (by decide) ⟨rfl,rfl,rfl,rfl,rfl,rfl,trivial⟩,?cd⟩
             case cd=>(unfold fT dU;rw[if_pos (by omega),decide_eq_true jE,if_pos rfl])
            ·refine Ue rfl (aO ?_)
             intro au aq
             refine⟨(⟨(2*(d.ae.length:Int))+2,(2*(d.ae.length:Int))+1,(2*(d.ae.length:Int))+1,(2*(d.ae.length:Int))+2,decide ((m.aJ%2)=1)⟩:Cr),aq.sub ⟨rfl,rfl,rfl,trivial⟩,bI.pick [0,1,2,3,4,5] [_,_,_,_,_,_] (by decide) ⟨rfl,rfl,rfl,rfl,rfl,rfl,trivial⟩,?cx⟩
             case cx=>(unfold fT dU;rw[if_pos (by omega),decide_eq_false jE,if_neg Bool.false_ne_true])
           ·refine U2 Eg xC rfl rfl rfl (U0 rfl (ag 0 5 rfl rfl (af 5 rfl (run_build (l:=[_,_,_,_,_]) rfl rfl mY rfl rfl) (ak 6 7 rfl rfl rfl (U6 (i:=0) (us:=[_,_,_,_,_]) (l':=[_,_,_,_,_]) (H':=[_,_,_,_,_,_]) rfl rfl bV rfl rfl rfl rfl cg rfl rfl rfl rfl ?_)))))
            intro ni bF;clear bV
            refine U5 rfl (ah [4,7,9,10,11,12] rfl (U3 (U2 Ef xB rfl rfl rfl (U0 rfl (ag 0 1 rfl rfl (U5 rfl (ah [4,7,9,10,12,107] rfl (U3 ?_))))))))
            refine Uf Ee Ed rfl rfl rfl rfl (fun iI=>?_) (fun iI=>?_)
            ·refine U0 rfl (ag 0 2 rfl rfl (af 2 rfl (U1 rfl rfl aW rfl (aC) (aB)) (ak 3 4 rfl rfl rfl (U6 (i:=0) (us:=[_]) (l':=[_,_,_,_,_]) (H':=[_,_,_,_,_,_]) rfl rfl bF rfl rfl rfl rfl bg rfl rfl rfl rfl ?_))))
             intro kU bU;clear bF
             refine af 4 rfl (U1 rfl rfl aW rfl (aC) (aB)) (ak 5 6 rfl rfl rfl (U6 (i:=0) (us:=[_]) (l':=[_,_,_,_,_]) (H':=[_,_,_,_,_,_]) rfl rfl bU rfl rfl rfl rfl bg rfl rfl rfl rfl ?_))
             intro tA dP;clear bU
             refine U5 rfl (aO ?_)
             intro au aq
             refine⟨(⟨(2*(d.ae.length:Int))+1,(2*(d.ae.length:Int))+1,(2*(d.ae.length:Int))+2,(2*(d.ae.length:Int))+2,decide ((m.aJ%2)=1)⟩:Cr),aq.sub ⟨rfl,rfl,rfl,trivial⟩,dP.pick [0,1,2,3,4,5] [_,_,_,_,_,_] (by decide) ⟨rfl,rfl,rfl,rfl,rfl,rfl,trivial⟩,?eB⟩
             case eB=>(unfold fT dU;rw[if_neg (by omega),decide_eq_true iI,if_pos rfl])
            ·refine Ue rfl (aO ?_)
             intro au aq
             refine⟨(⟨(2*(d.ae.length:Int))+1,(2*(d.ae.length:Int))+2,(2*(d.ae.length:Int))+2,(2*(d.ae.length:Int))+1,decide ((m.aJ%2)=1)⟩:Cr),aq.sub ⟨rfl,rfl,rfl,trivial⟩,bF.pick [0,1,2,3,4,5] [_,_,_,_,_,_] (by decide) ⟨rfl,rfl,rfl,rfl,rfl,rfl,trivial⟩,?eW⟩
             case eW=>(unfold fT dU;rw[if_neg (by omega),decide_eq_false iI,if_neg Bool.false_ne_true])
          ·rintro a1 lU ⟨cc,aY,bZ,hcc⟩
           clear bV
           refine nM aY ?_
           clear aY a1
           refine U3 (U2 Ec xA rfl rfl rfl (U0 rfl (af 0 rfl (U1 rfl rfl ay rfl (bK) (bJ)) (af 1 rfl (U4 rfl rfl bt rfl (bZ.ar (i:=1) rfl rfl)) (af 2 rfl (U8 (us:=[_,_,_,_,_]) rfl rfl aW rfl cg (bZ.aw (i:=0) rfl ⟨rfl,rfl,rfl,rfl,rfl,trivial⟩)) (ak 3 4 rfl rfl rfl (ij (C:=aF) (l:=[_,_,_,_,_]) rfl rfl rfl rfl cD rfl rfl rfl rfl bZ ?_)))))))
           intro pZ oZ cN;clear bZ
           refine ak 4 5 rfl rfl rfl (ji (C:=aF) (i:=3) (q:=0) (⟨cc.a,cc.b,cc.c,cc.d,cc.plus⟩:Cr) rfl rfl rfl rfl rfl rfl rfl rfl cD cN rfl rfl rfl (by show(_+1)*40<=_;first|omega|(simp only[ls];omega)) ?_)
           intro an2 q9 cM;clear cN
           have dz:=cM.pick [1,2,3,4,5,6] [_,_,_,_,_,_] (by decide) ⟨rfl,rfl,rfl,rfl,rfl,rfl,trivial⟩;clear cM
           refine af 5 rfl (U1 rfl rfl ay rfl (bK) (bJ)) (ak 6 7 rfl rfl rfl (U6 (i:=1) (us:=[_]) (l':=[_,_]) (H':=[_,_,_,_,_,_]) rfl rfl dz rfl rfl rfl (dz.ke (i:=2) rfl) mv rfl (dD (dz.one (i:=2) rfl) rfl) rfl rfl ?_))
           intro tv dE;clear dz
           refine U5 rfl (ah [4,7] rfl (U3 (U2 Eb Ea rfl rfl rfl (U0 rfl (af 0 rfl (U8 (us:=[_,_]) rfl rfl ay rfl aA (dE.aw (i:=1) rfl ⟨rfl,rfl,trivial⟩)) (ak 1 2 rfl rfl rfl (U6 (i:=3) (us:=[_,_]) (l':=[_,_]) (H':=[_,_,_,_,_,_]) rfl rfl dE rfl rfl rfl rfl aA rfl (dD (dE.one (i:=2) rfl) (dD rfl rfl)) rfl rfl ?_)))))))
           intro vA cI;clear dE
           refine ag 2 1 rfl rfl (U5 rfl (ah [4,5] rfl (U3 ?_)))
           obtain⟨M2,hle2,cH,⟨A1,c1,e1,hr1⟩⟩:=cI.fZ (i:=2) (H':=[_,_,_,_,_,_]) rfl rfl (by show _*40<=_;first|omega|(simp only[ls];omega))
           clear cI;subst e1
           replace az:=az.mono (Hp.Ua hle2 cH.mx)
           refine Uk hC [_,_] rfl rfl ⟨⟨_,rfl,Um (us:=[_,_]) ay rfl aA (cH.aw (i:=3) rfl ⟨rfl,rfl,trivial⟩)⟩,rfl,trivial⟩ ?_
           refine⟨_,rfl,_,hle2,(cH.pick [] [] (by decide) trivial),?_⟩
           rw[ue (E:=⟨d.ae++[(⟨cc.a,cc.b,cc.c,cc.d,cc.plus⟩:Cr)],d.loops-1⟩) (by unfold eH;rw[if_pos (by omega),if_pos (by omega)]) (by subst hcc;unfold mD;rw[if_pos (by omega)])]
           exact⟨_,_,rfl,hr1⟩
         ·obtain⟨aY,cB,_⟩:=eF hab (a:=m.at_) (by omega) false
          refine bM rfl (by kernel_rfl) bw 7 rfl ?_
          clear bw
          refine aj 0 6 rfl (by kernel_rfl) (fun _ _ _ hz Sz=>.inl (U8 (us:=[_,_]) rfl rfl ay rfl aA (Sz.suf.aw (i:=0) rfl ⟨rfl,rfl,trivial⟩))) ?_
          refine aj 1 5 rfl (by kernel_rfl) (fun _ _ _ hz Sz=>.inl (U8 (us:=[_,_]) rfl rfl ay rfl aA (Sz.suf.aw (i:=4) rfl ⟨rfl,rfl,trivial⟩))) ?_
          refine ai 2 4 rfl (by kernel_rfl) (fun _=>U1 rfl rfl aT rfl (aC) (aB)) ?_
          refine aj 3 3 rfl (by kernel_rfl) (fun _ _ _ hz Sz=>.inl (U4 rfl rfl av rfl (Sz.suf.ar (i:=3) rfl rfl))) ?_
          refine aj 4 2 rfl (by kernel_rfl) (fun _ _ _ hz Sz=>Ur rfl rfl rfl rfl rfl mE Sz (mP d m.at_ false ((az.mono (Hp.Ua hz Sz.mx)).mono Sz.Uy) Sz.aD)) ?_
          refine ai 5 1 rfl (by kernel_rfl) (fun _=>run_move rfl rfl) ?_
          refine Un (i:=6) 0 rfl (by kernel_rfl) rfl rfl (fun vt gL=>?_)
          have dX:=gL.pick [1,0,2,3,4] [_,_,_,_,_] (by decide) ⟨rfl,rfl,rfl,rfl,rfl,trivial⟩;clear gL
          have fQ:SH _ _ _ (Rs.aX [_]::[_,_,_,_]):=SH.jd (A:=[_]) (B:=[_,_,_,_]) dX;clear dX
          have iW:SH _ _ _ [_,_,_,_,_]:=fQ.less (i:=0) rfl
          have iE:=ui d.ae d.loops ((Ud d m.at_ false).1) ((Ud d m.at_ false).2) ((2*(d.ae.length:Int))+2) (by exact aY) (by exact cB) (fQ.iG (i:=0) rfl);clear iW
          refine(jP (i:=0) rfl rfl rfl rfl rfl rfl rfl uZ fQ rfl iE ?_)
          intro ax9 vq M10 aym C6 kJ jJ;clear fQ
          obtain⟨lu,iK,l6⟩:=jJ
          rw[iK]at kJ
          clear iK
          subst lu
          subst l6
          replace kJ:SH _ _ _ (Rs.aX [_]::[_,_,_,_]):=kJ
          have mS:SH _ _ _ [_,_,_,_,_]:=SH.jK (A:=[_]) (B:=[_,_,_,_]) kJ;clear kJ
          refine aP.turn (by kernel_rfl) mS ?_;clear mS
          change WA _ _ _ _ _ _ _ _ _ _ _ _ [_,_,_,_,_]
          refine Uu (by kernel_rfl) (fun Rk mh=>?_)
          refine ah [3,4,7,8,9,10] rfl (U3 (U2 En xL rfl rfl rfl ?_))
          have hsl:=iU d.ae (Ud d m.at_ false).1 (Ud d m.at_ false).2 (2*(d.ae.length:Int)+2)
          refine U0 rfl (af 0 rfl (U1 rfl rfl aT rfl (aC) (aB)) (af 1 rfl (U4 rfl rfl av rfl (mh.ar (i:=3) rfl rfl)) (af 2 rfl (jY rfl rfl rfl (by first|omega|(simp only[ls];omega))) ?_)))
          refine af 3 rfl (bR rfl rfl rfl) (ag 4 1 rfl rfl (U5 rfl (ah [3,4,7,8,9,10,11] rfl (U3 (U2 Em xK rfl rfl rfl (U0 rfl (ak 0 1 rfl rfl rfl (Uh (l:=[_,_,_,_,_]) rfl rfl rfl lG rfl mh ?_))))))))
          intro pY vp dV;clear mh
          refine U5 rfl (U3 (U2 xJ xI rfl rfl rfl ?_))
          refine nE (fun au aM=>∃(cc:Cr),Env 119 [(4,.pointer (some ⟨bz,0,none⟩)),(7,.pointer (some ⟨gZ,0,none⟩)),(12,.pointer (some ⟨pY,0,none⟩))] au/\SH aM M X [Rs.box pY 77 [.int .i64 cc.a,.int .i64 cc.b,.int .i64 cc.c,.int .i64 cc.d,.bool cc.plus],Rs.row aF nO (bk d.ae ((Ud d m.at_ false).1) ((Ud d m.at_ false).2) ((2*(d.ae.length:Int))+2)),Rs.box gZ 24 [nO,.int .i64 d.loops],Rs.box bz 24 [.slice none 0 0,.int .i64 0],Rs.box aQ 28 [.int .i64 m.kd,.int .i64 m.at_,.int .i64 m.aJ,.int .i64 m.ua,.bool m.ub,.int .i64 m.va,.bool m.vb,.bool m.ov],Rs.box aI 24 [.slice aV d.ae.length aU,.int .i64 d.loops]]/\cc=fT m.at_ ((2*(d.ae.length:Int))+1) ((2*(d.ae.length:Int))+1) ((2*(d.ae.length:Int))+2) m.aJ) ?_ ?_
          ·refine U2 El xH rfl rfl rfl (U0 rfl (af 0 rfl (U1 rfl rfl aT rfl (aC) (aB)) (af 1 rfl (U4 rfl rfl av rfl (dV.ar (i:=4) rfl rfl)) (af 2 rfl (lg rfl rfl rfl) (U5 rfl (ah [4,7,8,9,10,11,12,89] rfl (U3 ?_)))))))
           refine Uf xG xF rfl rfl rfl rfl (fun qG=>?_) (fun qG=>?_)
           ·refine U2 Ek xE rfl rfl rfl (U0 rfl (ag 0 5 rfl rfl (af 5 rfl (run_build (l:=[_,_,_,_,_]) rfl rfl mY rfl rfl) (ak 6 7 rfl rfl rfl (U6 (i:=0) (us:=[_,_,_,_,_]) (l':=[_,_,_,_,_]) (H':=[_,_,_,_,_,_]) rfl rfl dV rfl rfl rfl rfl cg rfl rfl rfl rfl ?_)))))
            intro xS jA;clear dV
            refine U5 rfl (ah [4,7,8,9,11,12] rfl (U3 (U2 Ej xD rfl rfl rfl (U0 rfl (ag 0 1 rfl rfl (U5 rfl (ah [4,7,8,9,12,96] rfl (U3 ?_))))))))
            refine Uf Ei Eh rfl rfl rfl rfl (fun jE=>?_) (fun jE=>?_)
            ·refine U0 rfl (ag 0 2 rfl rfl (af 2 rfl (U1 rfl rfl aW rfl (aC) (aB)) (ak 3 4 rfl rfl rfl (U6 (i:=0) (us:=[_]) (l':=[_,_,_,_,_]) (H':=[_,_,_,_,_,_]) rfl rfl jA rfl rfl rfl rfl bg rfl rfl rfl rfl ?_))))
             intro tq pJ;clear jA
             refine af 4 rfl (U1 rfl rfl aW rfl (aC) (aB)) (ak 5 6 rfl rfl rfl (U6 (i:=0) (us:=[_]) (l':=[_,_,_,_,_]) (H':=[_,_,_,_,_,_]) rfl rfl pJ rfl rfl rfl rfl bg rfl rfl rfl rfl ?_))
             intro E7 ik;clear pJ
             refine U5 rfl (aO ?_)
             intro au aq
             refine⟨(⟨(2*(d.ae.length:Int))+1,(2*(d.ae.length:Int))+1,(2*(d.ae.length:Int))+2,m.at_,decide ((m.aJ%2)=1)⟩:Cr),aq.sub ⟨rfl,rfl,rfl,trivial⟩,ik.pick [0,1,2,3,4,5] [_,_,_,_,_,_] (by decide) ⟨rfl,rfl,rfl,rfl,rfl,rfl,trivial⟩,?fC⟩
             case fC=>(unfold fT dU;rw[if_pos (by omega),decide_eq_true jE,if_pos rfl])
            ·refine Ue rfl (aO ?_)
             intro au aq
             refine⟨(⟨(2*(d.ae.length:Int))+1,m.at_,(2*(d.ae.length:Int))+2,(2*(d.ae.length:Int))+1,decide ((m.aJ%2)=1)⟩:Cr),aq.sub ⟨rfl,rfl,rfl,trivial⟩,jA.pick [0,1,2,3,4,5] [_,_,_,_,_,_] (by decide) ⟨rfl,rfl,rfl,rfl,rfl,rfl,trivial⟩,?gW⟩
             case gW=>(unfold fT dU;rw[if_pos (by omega),decide_eq_false jE,if_neg Bool.false_ne_true])
           ·refine U2 Eg xC rfl rfl rfl (U0 rfl (ag 0 5 rfl rfl (af 5 rfl (run_build (l:=[_,_,_,_,_]) rfl rfl mY rfl rfl) (ak 6 7 rfl rfl rfl (U6 (i:=0) (us:=[_,_,_,_,_]) (l':=[_,_,_,_,_]) (H':=[_,_,_,_,_,_]) rfl rfl dV rfl rfl rfl rfl cg rfl rfl rfl rfl ?_)))))
            intro E6 fW;clear dV
            refine U5 rfl (ah [4,7,9,10,11,12] rfl (U3 (U2 Ef xB rfl rfl rfl (U0 rfl (ag 0 1 rfl rfl (U5 rfl (ah [4,7,9,10,12,107] rfl (U3 ?_))))))))
            refine Uf Ee Ed rfl rfl rfl rfl (fun iI=>?_) (fun iI=>?_)
            ·refine U0 rfl (ag 0 2 rfl rfl (af 2 rfl (U1 rfl rfl aW rfl (aC) (aB)) (ak 3 4 rfl rfl rfl (U6 (i:=0) (us:=[_]) (l':=[_,_,_,_,_]) (H':=[_,_,_,_,_,_]) rfl rfl fW rfl rfl rfl rfl bg rfl rfl rfl rfl ?_))))
             intro AF jm;clear fW
             refine af 4 rfl (U1 rfl rfl aW rfl (aC) (aB)) (ak 5 6 rfl rfl rfl (U6 (i:=0) (us:=[_]) (l':=[_,_,_,_,_]) (H':=[_,_,_,_,_,_]) rfl rfl jm rfl rfl rfl rfl bg rfl rfl rfl rfl ?_))
             intro xR kI;clear jm
             refine U5 rfl (aO ?_)
             intro au aq
             refine⟨(⟨m.at_,(2*(d.ae.length:Int))+2,(2*(d.ae.length:Int))+1,(2*(d.ae.length:Int))+1,decide ((m.aJ%2)=1)⟩:Cr),aq.sub ⟨rfl,rfl,rfl,trivial⟩,kI.pick [0,1,2,3,4,5] [_,_,_,_,_,_] (by decide) ⟨rfl,rfl,rfl,rfl,rfl,rfl,trivial⟩,?iX⟩
             case iX=>(unfold fT dU;rw[if_neg (by omega),decide_eq_true iI,if_pos rfl])
            ·refine Ue rfl (aO ?_)
             intro au aq
             refine⟨(⟨m.at_,(2*(d.ae.length:Int))+1,(2*(d.ae.length:Int))+1,(2*(d.ae.length:Int))+2,decide ((m.aJ%2)=1)⟩:Cr),aq.sub ⟨rfl,rfl,rfl,trivial⟩,fW.pick [0,1,2,3,4,5] [_,_,_,_,_,_] (by decide) ⟨rfl,rfl,rfl,rfl,rfl,rfl,trivial⟩,?jC⟩
             case jC=>(unfold fT dU;rw[if_neg (by omega),decide_eq_false iI,if_neg Bool.false_ne_true])
          ·rintro a2 pS ⟨cc,cB,il,hcc⟩
           clear dV
           refine nM cB ?_
           clear cB a2
           refine U3 (U2 Ec xA rfl rfl rfl (U0 rfl (af 0 rfl (U1 rfl rfl ay rfl (bK) (bJ)) (af 1 rfl (U4 rfl rfl bt rfl (il.ar (i:=2) rfl rfl)) (af 2 rfl (U8 (us:=[_,_,_,_,_]) rfl rfl aW rfl cg (il.aw (i:=0) rfl ⟨rfl,rfl,rfl,rfl,rfl,trivial⟩)) (ak 3 4 rfl rfl rfl (ij (C:=aF) (l:=[_,_,_,_,_]) rfl rfl rfl rfl cD rfl rfl rfl rfl il ?_)))))))
           intro vQ xQ jl;clear il
           refine ak 4 5 rfl rfl rfl (ji (C:=aF) (i:=2) (q:=0) (⟨cc.a,cc.b,cc.c,cc.d,cc.plus⟩:Cr) rfl rfl rfl rfl rfl rfl rfl rfl cD jl rfl rfl rfl (by show(_+1)*40<=_;first|omega|(simp only[ls];omega)) ?_)
           intro an1 xP jk;clear jl
           have kH:=jk.pick [1,2,3,4,5,6] [_,_,_,_,_,_] (by decide) ⟨rfl,rfl,rfl,rfl,rfl,rfl,trivial⟩;clear jk
           refine af 5 rfl (U1 rfl rfl ay rfl (bK) (bJ)) (ak 6 7 rfl rfl rfl (U6 (i:=2) (us:=[_]) (l':=[_,_]) (H':=[_,_,_,_,_,_]) rfl rfl kH rfl rfl rfl (kH.ke (i:=1) rfl) mv rfl (dD (kH.one (i:=1) rfl) rfl) rfl rfl ?_))
           intro AE jO;clear kH
           refine U5 rfl (ah [4,7] rfl (U3 (U2 Eb Ea rfl rfl rfl (U0 rfl (af 0 rfl (U8 (us:=[_,_]) rfl rfl ay rfl aA (jO.aw (i:=2) rfl ⟨rfl,rfl,trivial⟩)) (ak 1 2 rfl rfl rfl (U6 (i:=3) (us:=[_,_]) (l':=[_,_]) (H':=[_,_,_,_,_,_]) rfl rfl jO rfl rfl rfl rfl aA rfl (dD (jO.one (i:=1) rfl) (dD rfl rfl)) rfl rfl ?_)))))))
           intro E5 qi;clear jO
           refine ag 2 1 rfl rfl (U5 rfl (ah [4,5] rfl (U3 ?_)))
           obtain⟨M12,adt,kG,⟨A2,c2,e2,hr2⟩⟩:=qi.fZ (i:=1) (H':=[_,_,_,_,_,_]) rfl rfl (by show _*40<=_;first|omega|(simp only[ls];omega))
           clear qi;subst e2
           replace az:=az.mono (Hp.Ua adt kG.mx)
           refine Uk hC [_,_] rfl rfl ⟨⟨_,rfl,Um (us:=[_,_]) ay rfl aA (kG.aw (i:=3) rfl ⟨rfl,rfl,trivial⟩)⟩,rfl,trivial⟩ ?_
           refine⟨_,rfl,_,adt,(kG.pick [] [] (by decide) trivial),?_⟩
           rw[ue (E:=⟨(bk d.ae ((Ud d m.at_ false).1) ((Ud d m.at_ false).2) ((2*(d.ae.length:Int))+2))++[(⟨cc.a,cc.b,cc.c,cc.d,cc.plus⟩:Cr)],d.loops⟩) (by unfold eH;rw[if_pos (by omega),if_pos (by omega)]) (by subst hcc;unfold mD;rw[if_neg (by omega)])]
           exact⟨_,_,rfl,hr2⟩
    ·refine U5 rfl (ah [2,3,4,6,45] rfl (U3 ?_))
     refine Uf Ad afY rfl rfl rfl rfl (fun zS=>?_) (fun zS=>?_)
     ·refine U2 Nq Np rfl rfl rfl (U0 rfl (af 0 rfl (run_build (l:=[_,_]) rfl rfl dI rfl rfl) (ak 1 2 rfl rfl rfl (U6 (i:=0) (us:=[_,_]) (l':=[_,_]) (H':=[_,_,_]) rfl rfl S3 rfl rfl rfl rfl aA rfl rfl rfl rfl ?_))))
      intro xO rN;clear S3
      refine ag 2 1 rfl rfl (U5 rfl (ah [4,5] rfl (U3 (Uk hC [_,_] rfl rfl ⟨⟨_,rfl,Um (us:=[_,_]) ay rfl aA (rN.aw (i:=0) rfl ⟨rfl,rfl,trivial⟩)⟩,rfl,trivial⟩ ?_))))
      refine⟨_,rfl,_,Hp.le_refl _,(rN.pick [] [] (by decide) trivial),?_⟩
      rw[fG (c:=3) (by unfold eH;rw[if_neg (by omega)]) (by decide)]
      exact eT 3
     ·refine Ue rfl (ah [2,3,4,6] rfl (U3 (U2 Ey Ex rfl rfl rfl (U2 afX Ew rfl rfl rfl (U0 rfl (ag 0 1 rfl rfl (af 1 rfl (bR rfl rfl rfl) (U5 rfl ?_))))))))
      refine ah [2,3,4,6,48] rfl (U3 ?_)
      refine Uf Ev afW rfl rfl rfl rfl (fun hb48=>?_) (fun hb48=>?_)
      ·refine U2 afV afU rfl rfl rfl (U0 rfl (af 0 rfl (run_build (l:=[_,_]) rfl rfl dI rfl rfl) (ak 1 2 rfl rfl rfl (U6 (i:=0) (us:=[_,_]) (l':=[_,_]) (H':=[_,_,_]) rfl rfl S3 rfl rfl rfl rfl aA rfl rfl rfl rfl ?_))))
       intro Rj pI;clear S3
       refine ag 2 1 rfl rfl (U5 rfl (ah [4,5] rfl (U3 (Uk hC [_,_] rfl rfl ⟨⟨_,rfl,Um (us:=[_,_]) ay rfl aA (pI.aw (i:=0) rfl ⟨rfl,rfl,trivial⟩)⟩,rfl,trivial⟩ ?_))))
       refine⟨_,rfl,_,Hp.le_refl _,(pI.pick [] [] (by decide) trivial),?_⟩
       rw[fG (c:=2) (by unfold eH;rw[if_pos (by omega),if_neg (by omega)]) (by decide)]
       exact eT 2
      ·refine Ue rfl (ah [2,3,4,6] rfl (U3 (U2 afT Eu rfl rfl rfl (U0 rfl (af 0 rfl (U8 (us:=[_,_]) rfl rfl ay rfl aA (S3.aw (i:=2) rfl ⟨rfl,rfl,trivial⟩)) (ak 1 2 rfl rfl rfl (wT rfl rfl rfl rfl rfl rfl rfl Bt S3 (CG d (az.mono S3.Uy) S3.aD) ?_)))))))
       intro ax6 Ri ayJ pH amU;clear S3
       obtain⟨Dq,rfl,rfl⟩:=amU
       have nD:SH _ _ _ [_,_,_,_]:=pH;clear pH
       refine ak 2 3 rfl rfl rfl (Uh (l:=[_,_]) rfl rfl rfl fR rfl nD ?_)
       intro yb Rh ou;clear nD
       refine ak 3 4 rfl rfl rfl (U6 (i:=0) (us:=[_,_]) (l':=[_,_]) (H':=[_,_,_,_,_]) rfl rfl ou rfl rfl rfl rfl aA rfl (dD (ou.one (i:=1) rfl) (dD rfl rfl)) rfl rfl ?_)
       intro Rg qh;clear ou
       refine U5 rfl (ah [2,3,4,6,7] rfl (U3 (U2 afS Et rfl rfl rfl (U0 rfl (af 0 rfl (U1 rfl rfl aT rfl (aC) (aB)) (af 1 rfl (U4 rfl rfl av rfl (qh.ar (i:=3) rfl rfl)) (ag 2 1 rfl rfl (af 3 rfl (jh rfl rfl rfl (by first|omega|(simp only[ls];omega))) ?_))))))))
       refine af 4 rfl (Ug rfl rfl rfl (by first|omega|(simp only[ls];omega))) ?_
       refine ag 5 1 rfl rfl (af 6 rfl (jh rfl rfl rfl (by first|omega|(simp only[ls];omega))) ?_)
       refine af 7 rfl (Ug rfl rfl rfl (by first|omega|(simp only[ls];omega))) ?_
       refine ag 8 3 rfl rfl (U5 rfl (ah [2,3,4,6,7,8,9,10] rfl (U3 (U2 Es Er rfl rfl rfl (U2 afR Ep rfl rfl rfl (U0 rfl (af 0 rfl (U1 rfl rfl aT rfl (aC) (aB)) (af 1 rfl (U4 rfl rfl av rfl (qh.ar (i:=3) rfl rfl)) ?_))))))))
       refine af 2 rfl (bR rfl rfl rfl) (U5 rfl (ah [2,3,4,6,7,8,9,10,62] rfl (U3 ?_)))
       refine Uf Eo afQ rfl rfl rfl rfl (fun kT=>?_) (fun kT=>?_)
       ·refine U2 afP afO rfl rfl rfl (U0 rfl (ag 0 1 rfl rfl (af 1 rfl (jh rfl rfl rfl (by first|omega|(simp only[ls];omega))) ?_)))
        refine af 2 rfl (Ug rfl rfl rfl (by first|omega|(simp only[ls];omega))) ?_
        refine ag 3 1 rfl rfl (af 4 rfl (jh rfl rfl rfl (by first|omega|(simp only[ls];omega))) ?_)
        refine af 5 rfl (Ug rfl rfl rfl (by first|omega|(simp only[ls];omega))) ?_
        refine ag 6 1 rfl rfl (af 7 rfl (jh rfl rfl rfl (by first|omega|(simp only[ls];omega))) ?_)
        refine af 8 rfl (Ug rfl rfl rfl (by first|omega|(simp only[ls];omega))) ?_
        refine ag 9 3 rfl rfl (U5 rfl (ah [3,4,7,8,9,10] rfl (U3 (U0 rfl (af 0 rfl (U1 rfl rfl ay rfl (aC) (aB)) (af 1 rfl (U4 rfl rfl av rfl (qh.ar (i:=0) rfl rfl)) (af 2 rfl (rR rfl rfl rfl (by first|omega|(simp only[ls];omega))) ?_)))))))
        refine af 3 rfl (U1 rfl rfl ay rfl (aC) (aB)) (ak 4 5 rfl rfl rfl (U6 (i:=0) (us:=[_]) (l':=[_,_]) (H':=[_,_,_,_,_]) rfl rfl qh rfl rfl rfl rfl bg rfl rfl rfl rfl ?_))
        intro E4 yC;clear qh
        refine U5 rfl (ah [3,4,7,8,9,10] rfl (U3 (U2 En xL rfl rfl rfl (U0 rfl (af 0 rfl (U1 rfl rfl aT rfl (aC) (aB)) (af 1 rfl (U4 rfl rfl av rfl (yC.ar (i:=3) rfl rfl)) (af 2 rfl (jY rfl rfl rfl (by first|omega|(simp only[ls];omega))) ?_)))))))
        refine af 3 rfl (bR rfl rfl rfl) (ag 4 1 rfl rfl (U5 rfl (ah [3,4,7,8,9,10,11] rfl (U3 (U2 Em xK rfl rfl rfl (U0 rfl (ak 0 1 rfl rfl rfl (Uh (l:=[_,_,_,_,_]) rfl rfl rfl lG rfl yC ?_))))))))
        intro JB w51 ot;clear yC
        refine U5 rfl (U3 (U2 xJ xI rfl rfl rfl ?_))
        refine nE (fun au aM=>∃(cc:Cr),Env 119 [(4,.pointer (some ⟨bz,0,none⟩)),(7,.pointer (some ⟨yb,0,none⟩)),(12,.pointer (some ⟨JB,0,none⟩))] au/\SH aM M X [Rs.box JB 77 [.int .i64 cc.a,.int .i64 cc.b,.int .i64 cc.c,.int .i64 cc.d,.bool cc.plus],Rs.box yb 24 [Dq,.int .i64 (d.loops-1)],Rs.row aF Dq d.ae,Rs.box bz 24 [.slice none 0 0,.int .i64 0],Rs.box aQ 28 [.int .i64 m.kd,.int .i64 m.at_,.int .i64 m.aJ,.int .i64 m.ua,.bool m.ub,.int .i64 m.va,.bool m.vb,.bool m.ov],Rs.box aI 24 [.slice aV d.ae.length aU,.int .i64 d.loops]]/\cc=fT ((2*(d.ae.length:Int))+1) ((2*(d.ae.length:Int))+2) ((2*(d.ae.length:Int))+2) ((2*(d.ae.length:Int))+1) m.aJ) ?_ ?_
        ·refine U2 El xH rfl rfl rfl (U0 rfl (af 0 rfl (U1 rfl rfl aT rfl (aC) (aB)) (af 1 rfl (U4 rfl rfl av rfl (ot.ar (i:=4) rfl rfl)) (af 2 rfl (lg rfl rfl rfl) (U5 rfl (ah [4,7,8,9,10,11,12,89] rfl (U3 ?_)))))))
         refine Uf xG xF rfl rfl rfl rfl (fun qG=>?_) (fun qG=>?_)
         ·refine U2 Ek xE rfl rfl rfl (U0 rfl (ag 0 5 rfl rfl (af 5 rfl (run_build (l:=[_,_,_,_,_]) rfl rfl mY rfl rfl) (ak 6 7 rfl rfl rfl (U6 (i:=0) (us:=[_,_,_,_,_]) (l':=[_,_,_,_,_]) (H':=[_,_,_,_,_,_]) rfl rfl ot rfl rfl rfl rfl cg rfl rfl rfl rfl ?_)))))
          intro w53 kF;clear ot
          refine U5 rfl (ah [4,7,8,9,11,12] rfl (U3 (U2 Ej xD rfl rfl rfl (U0 rfl (ag 0 1 rfl rfl (U5 rfl (ah [4,7,8,9,12,96] rfl (U3 ?_))))))))
          refine Uf Ei Eh rfl rfl rfl rfl (fun jE=>?_) (fun jE=>?_)
          ·refine U0 rfl (ag 0 2 rfl rfl (af 2 rfl (U1 rfl rfl aW rfl (aC) (aB)) (ak 3 4 rfl rfl rfl (U6 (i:=0) (us:=[_]) (l':=[_,_,_,_,_]) (H':=[_,_,_,_,_,_]) rfl rfl kF rfl rfl rfl rfl bg rfl rfl rfl rfl ?_))))
           intro w54 S64;clear kF
           refine af 4 rfl (U1 rfl rfl aW rfl (aC) (aB)) (ak 5 6 rfl rfl rfl (U6 (i:=0) (us:=[_]) (l':=[_,_,_,_,_]) (H':=[_,_,_,_,_,_]) rfl rfl S64 rfl rfl rfl rfl bg rfl rfl rfl rfl ?_))
           intro w55 S65;clear S64
           refine U5 rfl (aO ?_)
           intro au aq
           refine⟨(⟨(2*(d.ae.length:Int))+2,(2*(d.ae.length:Int))+2,(2*(d.ae.length:Int))+1,(2*(d.ae.length:Int))+1,decide ((m.aJ%2)=1)⟩:Cr),aq.sub ⟨rfl,rfl,rfl,trivial⟩,S65.pick [0,1,2,3,4,5] [_,_,_,_,_,_] (by decide) ⟨rfl,rfl,rfl,rfl,rfl,rfl,trivial⟩,?uz⟩
           case uz=>(unfold fT dU;rw[if_pos (by omega),decide_eq_true jE,if_pos rfl])
          ·refine Ue rfl (aO ?_)
           intro au aq
           refine⟨(⟨(2*(d.ae.length:Int))+2,(2*(d.ae.length:Int))+1,(2*(d.ae.length:Int))+1,(2*(d.ae.length:Int))+2,decide ((m.aJ%2)=1)⟩:Cr),aq.sub ⟨rfl,rfl,rfl,trivial⟩,kF.pick [0,1,2,3,4,5] [_,_,_,_,_,_] (by decide) ⟨rfl,rfl,rfl,rfl,rfl,rfl,trivial⟩,?ze⟩
           case ze=>(unfold fT dU;rw[if_pos (by omega),decide_eq_false jE,if_neg Bool.false_ne_true])
         ·refine U2 Eg xC rfl rfl rfl (U0 rfl (ag 0 5 rfl rfl (af 5 rfl (run_build (l:=[_,_,_,_,_]) rfl rfl mY rfl rfl) (ak 6 7 rfl rfl rfl (U6 (i:=0) (us:=[_,_,_,_,_]) (l':=[_,_,_,_,_]) (H':=[_,_,_,_,_,_]) rfl rfl ot rfl rfl rfl rfl cg rfl rfl rfl rfl ?_)))))
          intro w56 rM;clear ot
          refine U5 rfl (ah [4,7,9,10,11,12] rfl (U3 (U2 Ef xB rfl rfl rfl (U0 rfl (ag 0 1 rfl rfl (U5 rfl (ah [4,7,9,10,12,107] rfl (U3 ?_))))))))
          refine Uf Ee Ed rfl rfl rfl rfl (fun iI=>?_) (fun iI=>?_)
          ·refine U0 rfl (ag 0 2 rfl rfl (af 2 rfl (U1 rfl rfl aW rfl (aC) (aB)) (ak 3 4 rfl rfl rfl (U6 (i:=0) (us:=[_]) (l':=[_,_,_,_,_]) (H':=[_,_,_,_,_,_]) rfl rfl rM rfl rfl rfl rfl bg rfl rfl rfl rfl ?_))))
           intro Re qg;clear rM
           refine af 4 rfl (U1 rfl rfl aW rfl (aC) (aB)) (ak 5 6 rfl rfl rfl (U6 (i:=0) (us:=[_]) (l':=[_,_,_,_,_]) (H':=[_,_,_,_,_,_]) rfl rfl qg rfl rfl rfl rfl bg rfl rfl rfl rfl ?_))
           intro E3 wm;clear qg
           refine U5 rfl (aO ?_)
           intro au aq
           refine⟨(⟨(2*(d.ae.length:Int))+1,(2*(d.ae.length:Int))+1,(2*(d.ae.length:Int))+2,(2*(d.ae.length:Int))+2,decide ((m.aJ%2)=1)⟩:Cr),aq.sub ⟨rfl,rfl,rfl,trivial⟩,wm.pick [0,1,2,3,4,5] [_,_,_,_,_,_] (by decide) ⟨rfl,rfl,rfl,rfl,rfl,rfl,trivial⟩,?zb⟩
           case zb=>(unfold fT dU;rw[if_neg (by omega),decide_eq_true iI,if_pos rfl])
          ·refine Ue rfl (aO ?_)
           intro au aq
           refine⟨(⟨(2*(d.ae.length:Int))+1,(2*(d.ae.length:Int))+2,(2*(d.ae.length:Int))+2,(2*(d.ae.length:Int))+1,decide ((m.aJ%2)=1)⟩:Cr),aq.sub ⟨rfl,rfl,rfl,trivial⟩,rM.pick [0,1,2,3,4,5] [_,_,_,_,_,_] (by decide) ⟨rfl,rfl,rfl,rfl,rfl,rfl,trivial⟩,?za⟩
           case za=>(unfold fT dU;rw[if_neg (by omega),decide_eq_false iI,if_neg Bool.false_ne_true])
        ·rintro a3 Rf ⟨cc,fu,mf,hcc⟩
         clear ot
         refine nM fu ?_
         clear fu a3
         refine U3 (U2 Ec xA rfl rfl rfl (U0 rfl (af 0 rfl (U1 rfl rfl ay rfl (bK) (bJ)) (af 1 rfl (U4 rfl rfl bt rfl (mf.ar (i:=1) rfl rfl)) (af 2 rfl (U8 (us:=[_,_,_,_,_]) rfl rfl aW rfl cg (mf.aw (i:=0) rfl ⟨rfl,rfl,rfl,rfl,rfl,trivial⟩)) (ak 3 4 rfl rfl rfl (ij (C:=aF) (l:=[_,_,_,_,_]) rfl rfl rfl rfl cD rfl rfl rfl rfl mf ?_)))))))
         intro apf Rb fP;clear mf
         refine ak 4 5 rfl rfl rfl (ji (C:=aF) (i:=3) (q:=0) (⟨cc.a,cc.b,cc.c,cc.d,cc.plus⟩:Cr) rfl rfl rfl rfl rfl rfl rfl rfl cD fP rfl rfl rfl (by show(_+1)*40<=_;first|omega|(simp only[ls];omega)) ?_)
         intro ayi Ra BB;clear fP
         have qf:=BB.pick [1,2,3,4,5,6] [_,_,_,_,_,_] (by decide) ⟨rfl,rfl,rfl,rfl,rfl,rfl,trivial⟩;clear BB
         refine af 5 rfl (U1 rfl rfl ay rfl (bK) (bJ)) (ak 6 7 rfl rfl rfl (U6 (i:=1) (us:=[_]) (l':=[_,_]) (H':=[_,_,_,_,_,_]) rfl rfl qf rfl rfl rfl (qf.ke (i:=2) rfl) mv rfl (dD (qf.one (i:=2) rfl) rfl) rfl rfl ?_))
         intro Q9 j6;clear qf
         refine U5 rfl (ah [4,7] rfl (U3 (U2 Eb Ea rfl rfl rfl (U0 rfl (af 0 rfl (U8 (us:=[_,_]) rfl rfl ay rfl aA (j6.aw (i:=1) rfl ⟨rfl,rfl,trivial⟩)) (ak 1 2 rfl rfl rfl (U6 (i:=3) (us:=[_,_]) (l':=[_,_]) (H':=[_,_,_,_,_,_]) rfl rfl j6 rfl rfl rfl rfl aA rfl (dD (j6.one (i:=2) rfl) (dD rfl rfl)) rfl rfl ?_)))))))
         intro Q8 mb;clear j6
         refine ag 2 1 rfl rfl (U5 rfl (ah [4,5] rfl (U3 ?_)))
         obtain⟨M14,ads,j5,⟨A3,c3,e3,hr3⟩⟩:=mb.fZ (i:=2) (H':=[_,_,_,_,_,_]) rfl rfl (by show _*40<=_;first|omega|(simp only[ls];omega))
         clear mb;subst e3
         replace az:=az.mono (Hp.Ua ads j5.mx)
         refine Uk hC [_,_] rfl rfl ⟨⟨_,rfl,Um (us:=[_,_]) ay rfl aA (j5.aw (i:=3) rfl ⟨rfl,rfl,trivial⟩)⟩,rfl,trivial⟩ ?_
         refine⟨_,rfl,_,ads,(j5.pick [] [] (by decide) trivial),?_⟩
         rw[ue (E:=⟨d.ae++[(⟨cc.a,cc.b,cc.c,cc.d,cc.plus⟩:Cr)],d.loops-1⟩) (by unfold eH;rw[if_pos (by omega),if_pos (by omega)]) (by subst hcc;unfold mD;rw[if_pos (by omega)])]
         exact⟨_,_,rfl,hr3⟩
       ·obtain⟨aY,cB,_⟩:=eF hab (a:=m.at_) (by omega) false
        refine bM rfl (by kernel_rfl) qh 7 rfl ?_
        clear qh
        refine aj 0 6 rfl (by kernel_rfl) (fun _ _ _ hz Sz=>.inl (U8 (us:=[_,_]) rfl rfl ay rfl aA (Sz.suf.aw (i:=0) rfl ⟨rfl,rfl,trivial⟩))) ?_
        refine aj 1 5 rfl (by kernel_rfl) (fun _ _ _ hz Sz=>.inl (U8 (us:=[_,_]) rfl rfl ay rfl aA (Sz.suf.aw (i:=4) rfl ⟨rfl,rfl,trivial⟩))) ?_
        refine ai 2 4 rfl (by kernel_rfl) (fun _=>U1 rfl rfl aT rfl (aC) (aB)) ?_
        refine aj 3 3 rfl (by kernel_rfl) (fun _ _ _ hz Sz=>.inl (U4 rfl rfl av rfl (Sz.suf.ar (i:=3) rfl rfl))) ?_
        refine aj 4 2 rfl (by kernel_rfl) (fun _ _ _ hz Sz=>Ur rfl rfl rfl rfl rfl mE Sz (mP d m.at_ false ((az.mono (Hp.Ua hz Sz.mx)).mono Sz.Uy) Sz.aD)) ?_
        refine ai 5 1 rfl (by kernel_rfl) (fun _=>run_move rfl rfl) ?_
        refine Un (i:=6) 0 rfl (by kernel_rfl) rfl rfl (fun w70 kE=>?_)
        have qd:=kE.pick [1,0,2,3,4] [_,_,_,_,_] (by decide) ⟨rfl,rfl,rfl,rfl,rfl,trivial⟩;clear kE
        have j0:SH _ _ _ (Rs.aX [_]::[_,_,_,_]):=SH.jd (A:=[_]) (B:=[_,_,_,_]) qd;clear qd
        have rL:SH _ _ _ [_,_,_,_,_]:=j0.less (i:=0) rfl
        have lv:=ui d.ae d.loops ((Ud d m.at_ false).1) ((Ud d m.at_ false).2) ((2*(d.ae.length:Int))+2) (by exact aY) (by exact cB) (j0.iG (i:=0) rfl);clear rL
        refine(jP (i:=0) rfl rfl rfl rfl rfl rfl rfl uZ j0 rfl lv ?_)
        intro ax5 E2 M22 ayk aw4 ll vO;clear j0
        obtain⟨uf,oU,vN⟩:=vO
        rw[oU]at ll
        clear oU
        subst uf
        subst vN
        replace ll:SH _ _ _ (Rs.aX [_]::[_,_,_,_]):=ll
        have Bz:SH _ _ _ [_,_,_,_,_]:=SH.jK (A:=[_]) (B:=[_,_,_,_]) ll;clear ll
        refine aP.turn (by kernel_rfl) Bz ?_;clear Bz
        change WA _ _ _ _ _ _ _ _ _ _ _ _ [_,_,_,_,_]
        refine Uu (by kernel_rfl) (fun EZ yB=>?_)
        refine ah [3,4,7,8,9,10] rfl (U3 (U2 En xL rfl rfl rfl ?_))
        have hsl:=iU d.ae (Ud d m.at_ false).1 (Ud d m.at_ false).2 (2*(d.ae.length:Int)+2)
        refine U0 rfl (af 0 rfl (U1 rfl rfl aT rfl (aC) (aB)) (af 1 rfl (U4 rfl rfl av rfl (yB.ar (i:=3) rfl rfl)) (af 2 rfl (jY rfl rfl rfl (by first|omega|(simp only[ls];omega))) ?_)))
        refine af 3 rfl (bR rfl rfl rfl) (ag 4 1 rfl rfl (U5 rfl (ah [3,4,7,8,9,10,11] rfl (U3 (U2 Em xK rfl rfl rfl (U0 rfl (ak 0 1 rfl rfl rfl (Uh (l:=[_,_,_,_,_]) rfl rfl rfl lG rfl yB ?_))))))))
        intro JA w73 oq;clear yB
        refine U5 rfl (U3 (U2 xJ xI rfl rfl rfl ?_))
        refine nE (fun au aM=>∃(cc:Cr),Env 119 [(4,.pointer (some ⟨bz,0,none⟩)),(7,.pointer (some ⟨yb,0,none⟩)),(12,.pointer (some ⟨JA,0,none⟩))] au/\SH aM M X [Rs.box JA 77 [.int .i64 cc.a,.int .i64 cc.b,.int .i64 cc.c,.int .i64 cc.d,.bool cc.plus],Rs.row aF Dq (bk d.ae ((Ud d m.at_ false).1) ((Ud d m.at_ false).2) ((2*(d.ae.length:Int))+2)),Rs.box yb 24 [Dq,.int .i64 d.loops],Rs.box bz 24 [.slice none 0 0,.int .i64 0],Rs.box aQ 28 [.int .i64 m.kd,.int .i64 m.at_,.int .i64 m.aJ,.int .i64 m.ua,.bool m.ub,.int .i64 m.va,.bool m.vb,.bool m.ov],Rs.box aI 24 [.slice aV d.ae.length aU,.int .i64 d.loops]]/\cc=fT m.at_ ((2*(d.ae.length:Int))+1) ((2*(d.ae.length:Int))+1) ((2*(d.ae.length:Int))+2) m.aJ) ?_ ?_
        ·refine U2 El xH rfl rfl rfl (U0 rfl (af 0 rfl (U1 rfl rfl aT rfl (aC) (aB)) (af 1 rfl (U4 rfl rfl av rfl (oq.ar (i:=4) rfl rfl)) (af 2 rfl (lg rfl rfl rfl) (U5 rfl (ah [4,7,8,9,10,11,12,89] rfl (U3 ?_)))))))
         refine Uf xG xF rfl rfl rfl rfl (fun qG=>?_) (fun qG=>?_)
         ·refine U2 Ek xE rfl rfl rfl (U0 rfl (ag 0 5 rfl rfl (af 5 rfl (run_build (l:=[_,_,_,_,_]) rfl rfl mY rfl rfl) (ak 6 7 rfl rfl rfl (U6 (i:=0) (us:=[_,_,_,_,_]) (l':=[_,_,_,_,_]) (H':=[_,_,_,_,_,_]) rfl rfl oq rfl rfl rfl rfl cg rfl rfl rfl rfl ?_)))))
          intro w75 yz;clear oq
          refine U5 rfl (ah [4,7,8,9,11,12] rfl (U3 (U2 Ej xD rfl rfl rfl (U0 rfl (ag 0 1 rfl rfl (U5 rfl (ah [4,7,8,9,12,96] rfl (U3 ?_))))))))
          refine Uf Ei Eh rfl rfl rfl rfl (fun jE=>?_) (fun jE=>?_)
          ·refine U0 rfl (ag 0 2 rfl rfl (af 2 rfl (U1 rfl rfl aW rfl (aC) (aB)) (ak 3 4 rfl rfl rfl (U6 (i:=0) (us:=[_]) (l':=[_,_,_,_,_]) (H':=[_,_,_,_,_,_]) rfl rfl yz rfl rfl rfl rfl bg rfl rfl rfl rfl ?_))))
           intro w76 S92;clear yz
           refine af 4 rfl (U1 rfl rfl aW rfl (aC) (aB)) (ak 5 6 rfl rfl rfl (U6 (i:=0) (us:=[_]) (l':=[_,_,_,_,_]) (H':=[_,_,_,_,_,_]) rfl rfl S92 rfl rfl rfl rfl bg rfl rfl rfl rfl ?_))
           intro w77 S93;clear S92
           refine U5 rfl (aO ?_)
           intro au aq
           refine⟨(⟨(2*(d.ae.length:Int))+1,(2*(d.ae.length:Int))+1,(2*(d.ae.length:Int))+2,m.at_,decide ((m.aJ%2)=1)⟩:Cr),aq.sub ⟨rfl,rfl,rfl,trivial⟩,S93.pick [0,1,2,3,4,5] [_,_,_,_,_,_] (by decide) ⟨rfl,rfl,rfl,rfl,rfl,rfl,trivial⟩,?y9⟩
           case y9=>(unfold fT dU;rw[if_pos (by omega),decide_eq_true jE,if_pos rfl])
          ·refine Ue rfl (aO ?_)
           intro au aq
           refine⟨(⟨(2*(d.ae.length:Int))+1,m.at_,(2*(d.ae.length:Int))+2,(2*(d.ae.length:Int))+1,decide ((m.aJ%2)=1)⟩:Cr),aq.sub ⟨rfl,rfl,rfl,trivial⟩,yz.pick [0,1,2,3,4,5] [_,_,_,_,_,_] (by decide) ⟨rfl,rfl,rfl,rfl,rfl,rfl,trivial⟩,?y8⟩
           case y8=>(unfold fT dU;rw[if_pos (by omega),decide_eq_false jE,if_neg Bool.false_ne_true])
         ·refine U2 Eg xC rfl rfl rfl (U0 rfl (ag 0 5 rfl rfl (af 5 rfl (run_build (l:=[_,_,_,_,_]) rfl rfl mY rfl rfl) (ak 6 7 rfl rfl rfl (U6 (i:=0) (us:=[_,_,_,_,_]) (l':=[_,_,_,_,_]) (H':=[_,_,_,_,_,_]) rfl rfl oq rfl rfl rfl rfl cg rfl rfl rfl rfl ?_)))))
          intro w78 tP;clear oq
          refine U5 rfl (ah [4,7,9,10,11,12] rfl (U3 (U2 Ef xB rfl rfl rfl (U0 rfl (ag 0 1 rfl rfl (U5 rfl (ah [4,7,9,10,12,107] rfl (U3 ?_))))))))
          refine Uf Ee Ed rfl rfl rfl rfl (fun iI=>?_) (fun iI=>?_)
          ·refine U0 rfl (ag 0 2 rfl rfl (af 2 rfl (U1 rfl rfl aW rfl (aC) (aB)) (ak 3 4 rfl rfl rfl (U6 (i:=0) (us:=[_]) (l':=[_,_,_,_,_]) (H':=[_,_,_,_,_,_]) rfl rfl tP rfl rfl rfl rfl bg rfl rfl rfl rfl ?_))))
           intro w79 Bx;clear tP
           refine af 4 rfl (U1 rfl rfl aW rfl (aC) (aB)) (ak 5 6 rfl rfl rfl (U6 (i:=0) (us:=[_]) (l':=[_,_,_,_,_]) (H':=[_,_,_,_,_,_]) rfl rfl Bx rfl rfl rfl rfl bg rfl rfl rfl rfl ?_))
           intro w80 S96;clear Bx
           refine U5 rfl (aO ?_)
           intro au aq
           refine⟨(⟨m.at_,(2*(d.ae.length:Int))+2,(2*(d.ae.length:Int))+1,(2*(d.ae.length:Int))+1,decide ((m.aJ%2)=1)⟩:Cr),aq.sub ⟨rfl,rfl,rfl,trivial⟩,S96.pick [0,1,2,3,4,5] [_,_,_,_,_,_] (by decide) ⟨rfl,rfl,rfl,rfl,rfl,rfl,trivial⟩,?y7⟩
           case y7=>(unfold fT dU;rw[if_neg (by omega),decide_eq_true iI,if_pos rfl])
          ·refine Ue rfl (aO ?_)
           intro au aq
           refine⟨(⟨m.at_,(2*(d.ae.length:Int))+1,(2*(d.ae.length:Int))+1,(2*(d.ae.length:Int))+2,decide ((m.aJ%2)=1)⟩:Cr),aq.sub ⟨rfl,rfl,rfl,trivial⟩,tP.pick [0,1,2,3,4,5] [_,_,_,_,_,_] (by decide) ⟨rfl,rfl,rfl,rfl,rfl,rfl,trivial⟩,?y5⟩
           case y5=>(unfold fT dU;rw[if_neg (by omega),decide_eq_false iI,if_neg Bool.false_ne_true])
        ·rintro a4 Q5 ⟨cc,mK,wk,hcc⟩
         clear oq
         refine nM mK ?_
         clear mK a4
         refine U3 (U2 Ec xA rfl rfl rfl (U0 rfl (af 0 rfl (U1 rfl rfl ay rfl (bK) (bJ)) (af 1 rfl (U4 rfl rfl bt rfl (wk.ar (i:=2) rfl rfl)) (af 2 rfl (U8 (us:=[_,_,_,_,_]) rfl rfl aW rfl cg (wk.aw (i:=0) rfl ⟨rfl,rfl,rfl,rfl,rfl,trivial⟩)) (ak 3 4 rfl rfl rfl (ij (C:=aF) (l:=[_,_,_,_,_]) rfl rfl rfl rfl cD rfl rfl rfl rfl wk ?_)))))))
         intro ape w81 Bw;clear wk
         refine ak 4 5 rfl rfl rfl (ji (C:=aF) (i:=2) (q:=0) (⟨cc.a,cc.b,cc.c,cc.d,cc.plus⟩:Cr) rfl rfl rfl rfl rfl rfl rfl rfl cD Bw rfl rfl rfl (by show(_+1)*40<=_;first|omega|(simp only[ls];omega)) ?_)
         intro ayh w82 qc;clear Bw
         have wj:=qc.pick [1,2,3,4,5,6] [_,_,_,_,_,_] (by decide) ⟨rfl,rfl,rfl,rfl,rfl,rfl,trivial⟩;clear qc
         refine af 5 rfl (U1 rfl rfl ay rfl (bK) (bJ)) (ak 6 7 rfl rfl rfl (U6 (i:=2) (us:=[_]) (l':=[_,_]) (H':=[_,_,_,_,_,_]) rfl rfl wj rfl rfl rfl (wj.ke (i:=1) rfl) mv rfl (dD (wj.one (i:=1) rfl) rfl) rfl rfl ?_))
         intro w83 EU;clear wj
         refine U5 rfl (ah [4,7] rfl (U3 (U2 Eb Ea rfl rfl rfl (U0 rfl (af 0 rfl (U8 (us:=[_,_]) rfl rfl ay rfl aA (EU.aw (i:=2) rfl ⟨rfl,rfl,trivial⟩)) (ak 1 2 rfl rfl rfl (U6 (i:=3) (us:=[_,_]) (l':=[_,_]) (H':=[_,_,_,_,_,_]) rfl rfl EU rfl rfl rfl rfl aA rfl (dD (EU.one (i:=1) rfl) (dD rfl rfl)) rfl rfl ?_)))))))
         intro w84 AA;clear EU
         refine ag 2 1 rfl rfl (U5 rfl (ah [4,5] rfl (U3 ?_)))
         obtain⟨M24,adq,qV,⟨A4,c4,e4,hr4⟩⟩:=AA.fZ (i:=1) (H':=[_,_,_,_,_,_]) rfl rfl (by show _*40<=_;first|omega|(simp only[ls];omega))
         clear AA;subst e4
         replace az:=az.mono (Hp.Ua adq qV.mx)
         refine Uk hC [_,_] rfl rfl ⟨⟨_,rfl,Um (us:=[_,_]) ay rfl aA (qV.aw (i:=3) rfl ⟨rfl,rfl,trivial⟩)⟩,rfl,trivial⟩ ?_
         refine⟨_,rfl,_,adq,(qV.pick [] [] (by decide) trivial),?_⟩
         rw[ue (E:=⟨(bk d.ae ((Ud d m.at_ false).1) ((Ud d m.at_ false).2) ((2*(d.ae.length:Int))+2))++[(⟨cc.a,cc.b,cc.c,cc.d,cc.plus⟩:Cr)],d.loops⟩) (by unfold eH;rw[if_pos (by omega),if_pos (by omega)]) (by subst hcc;unfold mD;rw[if_neg (by omega)])]
         exact⟨_,_,rfl,hr4⟩
noncomputable def Nn:=Tryz.f37.body.getD .skip
def asY:=cL Nn
def Nk:=cR Nn
def asX:=cL Nk
def Nj:=cR Nk
def Ni:=cL Nj
def Nh:=cR Nj
def asW:=cL Ni
def Ng:=cR Ni
def xy:=cL Ng
def asV:=cR Ng
def D9:=cL xy
def D8:=cR xy
def Nf:=cL Nh
def Nc:=cR Nh
def asU:=cL Nf
def Nb:=cR Nf
def D7:=cL Nb
def asT:=cR Nb
def afN:=cL D7
def afM:=cR D7
def Na:=cL Nc
def M0:=cR Nc
def asS:=cL Na
def MZ:=cR Na
def MX:=cL MZ
def asR:=cR MZ
def asQ:=cL MX
def asP:=cR MX
def asO:=cL M0
def MW:=cR M0
def asN:=cL MW
def MV:=cR MW
def asM:=cL MV
def MU:=cR MV
def asL:=cL MU
def MT:=cR MU
def asK:=cL MT
def MS:=cR MT
def asJ:=cL MS
def asI:=cR MS
set_option maxHeartbeats 1000000 in
set_option maxRecDepth 10000 in
theorem aiV{w:World}{M:Hp}{X:Fr}(d:Dg){aV:Option Addr}{aU:Nat}(m:Mv)(az:aG aF (M.un X.h) aV aU d.ae)(hn:d.ae.length<=16)(hab:aN d=true)(hlo:0<=d.loops/\d.loops<=16)(S:SH w M X []):Ct Tryz.prog 37 [.agg [.slice aV d.ae.length aU,.int .i64 d.loops].toArray,.agg [.int .i64 m.kd,.int .i64 m.at_,.int .i64 m.aJ,.int .i64 m.ua,.bool m.ub,.int .i64 m.va,.bool m.vb,.bool m.ov].toArray] w M X (rO (kA (gQ d m) (vD d m))):=by
 unfold Ct
 have gV:d.ae.length*40<=140737488355328:=az.room
 refine Up (b:=Nn) Tryz.func37 rfl Tryz.ntmps37 rfl (fun C hC=>(bq [(0,_),(1,_)] ⟨rfl,rfl,trivial⟩ (U2 asY Nk rfl rfl rfl (U0 rfl (ak 0 1 rfl rfl rfl (bE (l:=[_,_]) rfl rfl rfl rfl rfl S ?_))))))
 intro aI w1 S1;clear S
 refine ak 1 2 rfl rfl rfl (bE (l:=[_,_,_,_,_,_,_,_]) rfl rfl rfl rfl rfl S1 ?_)
 intro aQ w2 S2;clear S1
 refine ak 2 3 rfl rfl rfl (Uh (l:=[_,_]) rfl rfl rfl fR rfl S2 ?_)
 intro bz w3 S3;clear S2
 refine ag 3 1 rfl rfl (U5 rfl (ah [2,3,4] rfl (U3 (U2 asX Nj rfl rfl rfl (U0 rfl (af 0 rfl (U1 rfl rfl ay rfl (bK) (bJ)) (af 1 rfl (U4 rfl rfl bt rfl (S3.ar (i:=2) rfl rfl)) (af 2 rfl (cU rfl rfl rfl rfl rfl rfl bt) ?_))))))))
 refine ag 3 1 rfl rfl (U5 rfl (ah [2,3,4,6] rfl (U3 (U2 Ni Nh rfl rfl rfl (U2 asW Ng rfl rfl rfl (U0 rfl (af 0 rfl (U1 rfl rfl aT rfl (gD) (gA)) (af 1 rfl (U1 rfl rfl aZ rfl (aC) (aB)) ?_))))))))
 refine af 2 rfl (U4 rfl rfl av rfl (S3.ar (i:=1) rfl rfl)) (af 3 rfl (bS rfl rfl rfl) (ag 4 1 rfl rfl ?_))
 refine Uw (t:=21) rfl (fun aoO=>?_) (fun aoO=>?_)
 ·refine ag 5 6 rfl rfl (ag 11 6 rfl rfl (ag 17 6 rfl rfl (ag 23 3 rfl rfl (U5 rfl (ah [2,3,4,6,42] rfl (U3 (fN xy rfl rfl rfl (U2 D9 D8 rfl rfl rfl ?_))))))))
  refine U0 rfl (af 0 rfl (run_build (l:=[_,_]) rfl rfl dI rfl rfl) (ak 1 2 rfl rfl rfl (U6 (i:=0) (us:=[_,_]) (l':=[_,_]) (H':=[_,_,_]) rfl rfl S3 rfl rfl rfl rfl aA rfl rfl rfl rfl ?_)))
  intro w4 S4;clear S3
  refine ag 2 1 rfl rfl (U5 rfl (ah [4,5] rfl (U3 (Uk hC [_,_] rfl rfl ⟨⟨_,rfl,Um (us:=[_,_]) ay rfl aA (S4.aw (i:=0) rfl ⟨rfl,rfl,trivial⟩)⟩,rfl,trivial⟩ ?_))))
  refine⟨_,rfl,_,Hp.le_refl _,(S4.pick [] [] (by decide) trivial),?_⟩
  rw[fG (c:=3) (by unfold gQ;rw[if_neg (by omega)]) (by decide)]
  exact eT 3
 ·refine aH 5 6 rfl rfl rfl rfl rfl rfl rfl rfl (Ub rfl rfl (U1 rfl rfl aT rfl (gD) (gA)) (aH 6 7 rfl rfl rfl rfl rfl rfl rfl rfl (Ub rfl rfl (U1 rfl rfl aZ rfl (aC) (aB)) (aH 7 8 rfl rfl rfl rfl rfl rfl rfl rfl (Ub rfl rfl (U4 rfl rfl av rfl (S3.ar (i:=1) rfl rfl)) (ag 8 1 rfl rfl (aH 9 10 rfl rfl rfl rfl rfl rfl rfl rfl (Ub rfl rfl (jh rfl rfl rfl (by first|omega|(simp only[ls];omega))) ?_))))))))
  refine aH 10 11 rfl rfl rfl rfl rfl rfl rfl rfl (Ub rfl rfl (tV rfl rfl rfl) (ag 11 2 rfl rfl ?_))
  refine Uw (t:=29) rfl (fun uP=>?_) (fun uP=>?_)
  ·refine ag 13 6 rfl rfl (ag 19 6 rfl rfl (ag 25 1 rfl rfl (U5 rfl (ah [2,3,4,6,42] rfl (U3 (fN xy rfl rfl rfl (U2 D9 D8 rfl rfl rfl (U0 rfl ?_))))))))
   refine af 0 rfl (run_build (l:=[_,_]) rfl rfl dI rfl rfl) (ak 1 2 rfl rfl rfl (U6 (i:=0) (us:=[_,_]) (l':=[_,_]) (H':=[_,_,_]) rfl rfl S3 rfl rfl rfl rfl aA rfl rfl rfl rfl ?_))
   intro w5 S5;clear S3
   refine ag 2 1 rfl rfl (U5 rfl (ah [4,5] rfl (U3 (Uk hC [_,_] rfl rfl ⟨⟨_,rfl,Um (us:=[_,_]) ay rfl aA (S5.aw (i:=0) rfl ⟨rfl,rfl,trivial⟩)⟩,rfl,trivial⟩ ?_))))
   refine⟨_,rfl,_,Hp.le_refl _,(S5.pick [] [] (by decide) trivial),?_⟩
   rw[fG (c:=3) (by unfold gQ;rw[if_neg (by omega)]) (by decide)]
   exact eT 3
  ·refine aH 13 14 rfl rfl rfl rfl rfl rfl rfl rfl (Ub rfl rfl (U1 rfl rfl aT rfl (gD) (gA)) (aH 14 15 rfl rfl rfl rfl rfl rfl rfl rfl (Ub rfl rfl (U1 rfl rfl aZ rfl (aC) (aB)) (aH 15 16 rfl rfl rfl rfl rfl rfl rfl rfl (Ub rfl rfl (U4 rfl rfl av rfl (S3.ar (i:=1) rfl rfl)) (aH 16 17 rfl rfl rfl rfl rfl rfl rfl rfl (Ub rfl rfl (bS rfl rfl rfl) (ag 17 2 rfl rfl ?_))))))))
   refine Uw (t:=35) rfl (fun Jf=>?_) (fun Jf=>?_)
   ·refine ag 19 6 rfl rfl (ag 25 1 rfl rfl (U5 rfl (ah [2,3,4,6,42] rfl (U3 (fN xy rfl rfl rfl (U2 D9 D8 rfl rfl rfl (U0 rfl (af 0 rfl (run_build (l:=[_,_]) rfl rfl dI rfl rfl) ?_))))))))
    refine ak 1 2 rfl rfl rfl (U6 (i:=0) (us:=[_,_]) (l':=[_,_]) (H':=[_,_,_]) rfl rfl S3 rfl rfl rfl rfl aA rfl rfl rfl rfl ?_)
    intro w6 S6;clear S3
    refine ag 2 1 rfl rfl (U5 rfl (ah [4,5] rfl (U3 (Uk hC [_,_] rfl rfl ⟨⟨_,rfl,Um (us:=[_,_]) ay rfl aA (S6.aw (i:=0) rfl ⟨rfl,rfl,trivial⟩)⟩,rfl,trivial⟩ ?_))))
    refine⟨_,rfl,_,Hp.le_refl _,(S6.pick [] [] (by decide) trivial),?_⟩
    rw[fG (c:=3) (by unfold gQ;rw[if_neg (by omega)]) (by decide)]
    exact eT 3
   ·refine aH 19 20 rfl rfl rfl rfl rfl rfl rfl rfl (Ub rfl rfl (U1 rfl rfl aT rfl (gD) (gA)) (aH 20 21 rfl rfl rfl rfl rfl rfl rfl rfl (Ub rfl rfl (U1 rfl rfl aZ rfl (aC) (aB)) (aH 21 22 rfl rfl rfl rfl rfl rfl rfl rfl (Ub rfl rfl (U4 rfl rfl av rfl (S3.ar (i:=1) rfl rfl)) (ag 22 1 rfl rfl (aH 23 24 rfl rfl rfl rfl rfl rfl rfl rfl (Ub rfl rfl (jh rfl rfl rfl (by first|omega|(simp only[ls];omega))) ?_))))))))
    refine aH 24 25 rfl rfl rfl rfl rfl rfl rfl rfl (Ub rfl rfl (tV rfl rfl rfl) (ag 25 1 rfl rfl (U5 rfl (ah [2,3,4,6,42] rfl (U3 ?_)))))
    refine Uf xy asV rfl rfl rfl rfl (fun qI=>?_) (fun qI=>?_)
    ·refine U2 D9 D8 rfl rfl rfl (U0 rfl (af 0 rfl (run_build (l:=[_,_]) rfl rfl dI rfl rfl) (ak 1 2 rfl rfl rfl (U6 (i:=0) (us:=[_,_]) (l':=[_,_]) (H':=[_,_,_]) rfl rfl S3 rfl rfl rfl rfl aA rfl rfl rfl rfl ?_))))
     intro w7 S7;clear S3
     refine ag 2 1 rfl rfl (U5 rfl (ah [4,5] rfl (U3 (Uk hC [_,_] rfl rfl ⟨⟨_,rfl,Um (us:=[_,_]) ay rfl aA (S7.aw (i:=0) rfl ⟨rfl,rfl,trivial⟩)⟩,rfl,trivial⟩ ?_))))
     refine⟨_,rfl,_,Hp.le_refl _,(S7.pick [] [] (by decide) trivial),?_⟩
     rw[fG (c:=3) (by unfold gQ;rw[if_neg (by omega)]) (by decide)]
     exact eT 3
    ·refine Ue rfl (ah [2,3,4,6] rfl (U3 (U2 Nf Nc rfl rfl rfl (U2 asU Nb rfl rfl rfl (U0 rfl (af 0 rfl (U1 rfl rfl aT rfl (gD) (gA)) (af 1 rfl (U1 rfl rfl aZ rfl (aC) (aB)) (af 2 rfl (U4 rfl rfl av rfl (S3.ar (i:=1) rfl rfl)) ?_))))))))
     refine af 3 rfl (U1 rfl rfl aT rfl (gD) (gA)) (af 4 rfl (U1 rfl rfl aZ rfl (aC) (aB)) (af 5 rfl (U4 rfl rfl av rfl (S3.ar (i:=1) rfl rfl)) (af 6 rfl (bR rfl rfl rfl) (ag 7 1 rfl rfl ?_))))
     refine Uw (t:=51) rfl (fun xn=>?_) (fun xn=>?_)
     ·refine ag 8 6 rfl rfl (ag 14 2 rfl rfl (U5 rfl (ah [2,3,4,6,59] rfl (U3 (fN D7 rfl rfl rfl (U2 afN afM rfl rfl rfl (U0 rfl (af 0 rfl (run_build (l:=[_,_]) rfl rfl dI rfl rfl) ?_))))))))
      refine ak 1 2 rfl rfl rfl (U6 (i:=0) (us:=[_,_]) (l':=[_,_]) (H':=[_,_,_]) rfl rfl S3 rfl rfl rfl rfl aA rfl rfl rfl rfl ?_)
      intro w8 S8;clear S3
      refine ag 2 1 rfl rfl (U5 rfl (ah [4,5] rfl (U3 (Uk hC [_,_] rfl rfl ⟨⟨_,rfl,Um (us:=[_,_]) ay rfl aA (S8.aw (i:=0) rfl ⟨rfl,rfl,trivial⟩)⟩,rfl,trivial⟩ ?_))))
      refine⟨_,rfl,_,Hp.le_refl _,(S8.pick [] [] (by decide) trivial),?_⟩
      rw[fG (c:=8) (by unfold gQ;rw[if_pos ((by omega:(1<=m.ua/\m.ua<=2*(d.ae.length:Int))/\(1<=m.va/\m.va<=2*(d.ae.length:Int)))),if_neg (fun h=>h.1 xn)]) (by decide)]
      exact eT 8
     ·refine aH 8 9 rfl rfl rfl rfl rfl rfl rfl rfl (Ub rfl rfl (U8 (us:=[_,_]) rfl rfl ay rfl aA (S3.aw (i:=2) rfl ⟨rfl,rfl,trivial⟩)) (aH 9 10 rfl rfl rfl rfl rfl rfl rfl rfl (Ub rfl rfl (U1 rfl rfl aT rfl (gD) (gA)) (aH 10 11 rfl rfl rfl rfl rfl rfl rfl rfl (Ub rfl rfl (U8 (us:=[_,_]) rfl rfl aZ rfl cC (S3.aw (i:=1) rfl ⟨rfl,rfl,trivial⟩)) (aH 11 12 rfl rfl rfl rfl rfl rfl rfl rfl (Ub rfl rfl (U1 rfl rfl aT rfl (gD) (gA)) (aH 12 13 rfl rfl rfl rfl rfl rfl rfl rfl (Ub rfl rfl (U8 (us:=[_,_]) rfl rfl aZ rfl cC (S3.aw (i:=1) rfl ⟨rfl,rfl,trivial⟩)) (aH 13 14 rfl rfl rfl rfl rfl rfl rfl rfl (eZ rfl rfl rfl rfl rfl rfl rfl apj S3 (aho d (⟨m.ua,m.ub⟩:Da) (⟨m.va,m.vb⟩:Da) (az.mono S3.Uy) (hn) (hab) S3.aD) ?_)))))))))))
      intro vw9 w9 M1 aL S9 apc;clear S3
      replace az:=az.mono (Hp.Ua aL S9.mx)
      obtain rfl:=apc
      refine aH 14 15 rfl rfl rfl rfl rfl rfl rfl rfl (Ub rfl rfl (dS rfl rfl) (ag 15 1 rfl rfl (U5 rfl (ah [2,3,4,6,59] rfl (U3 ?_)))))
      refine dN D7 asT rfl rfl rfl rfl (fun uR=>?_) (fun uR=>?_)
      ·simp only[Bool.and_eq_true,Bool.or_eq_true,Bool.and_eq_false_iff,Bool.or_eq_false_iff,decide_eq_true_eq,decide_eq_false_iff_not,Bool.not_eq_true',Bool.not_eq_false']at uR
       refine U2 afN afM rfl rfl rfl (U0 rfl (af 0 rfl (run_build (l:=[_,_]) rfl rfl dI rfl rfl) (ak 1 2 rfl rfl rfl (U6 (i:=0) (us:=[_,_]) (l':=[_,_]) (H':=[_,_,_]) rfl rfl S9 rfl rfl rfl rfl aA rfl rfl rfl rfl ?_))))
       intro jT bw;clear S9
       refine ag 2 1 rfl rfl (U5 rfl (ah [4,5] rfl (U3 (Uk hC [_,_] rfl rfl ⟨⟨_,rfl,Um (us:=[_,_]) ay rfl aA (bw.aw (i:=0) rfl ⟨rfl,rfl,trivial⟩)⟩,rfl,trivial⟩ ?_))))
       refine⟨_,rfl,_,aL,(bw.pick [] [] (by decide) trivial),?_⟩
       rw[fG (c:=8) (by unfold gQ;rw[if_pos ((by omega:(1<=m.ua/\m.ua<=2*(d.ae.length:Int))/\(1<=m.va/\m.va<=2*(d.ae.length:Int)))),if_neg (fun h=>by rw[h.2]at uR;cases uR)]) (by decide)]
       exact eT 8
      ·simp only[Bool.and_eq_true,Bool.or_eq_true,Bool.and_eq_false_iff,Bool.or_eq_false_iff,decide_eq_true_eq,decide_eq_false_iff_not,Bool.not_eq_true',Bool.not_eq_false']at uR
       refine Ue rfl (ah [2,3,4,6] rfl (U3 (U2 Na M0 rfl rfl rfl (U2 asS MZ rfl rfl rfl (U0 rfl (ag 0 1 rfl rfl (af 1 rfl (Ug rfl rfl rfl (by first|omega|(simp only[ls];omega))) ?_)))))))
       refine af 2 rfl (tV rfl rfl rfl) (U5 rfl (ah [2,3,4,6,63] rfl (U3 ?_)))
       refine Uf MX asR rfl rfl rfl rfl (fun aoZ=>?_) (fun aoZ=>?_)
       ·refine U2 asQ asP rfl rfl rfl (U0 rfl (af 0 rfl (run_build (l:=[_,_]) rfl rfl dI rfl rfl) (ak 1 2 rfl rfl rfl (U6 (i:=0) (us:=[_,_]) (l':=[_,_]) (H':=[_,_,_]) rfl rfl S9 rfl rfl rfl rfl aA rfl rfl rfl rfl ?_))))
        intro kV bW;clear S9
        refine ag 2 1 rfl rfl (U5 rfl (ah [4,5] rfl (U3 (Uk hC [_,_] rfl rfl ⟨⟨_,rfl,Um (us:=[_,_]) ay rfl aA (bW.aw (i:=0) rfl ⟨rfl,rfl,trivial⟩)⟩,rfl,trivial⟩ ?_))))
        refine⟨_,rfl,_,aL,(bW.pick [] [] (by decide) trivial),?_⟩
        rw[fG (c:=2) (by unfold gQ;rw[if_pos ((by omega:(1<=m.ua/\m.ua<=2*(d.ae.length:Int))/\(1<=m.va/\m.va<=2*(d.ae.length:Int)))),if_pos ⟨xn,(by simpa using uR)⟩,if_neg (by omega)]) (by decide)]
        exact eT 2
       ·refine Ue rfl (ah [2,3,4,6] rfl (U3 (U2 asO MW rfl rfl rfl (U0 rfl (af 0 rfl (U8 (us:=[_,_]) rfl rfl ay rfl aA (S9.aw (i:=2) rfl ⟨rfl,rfl,trivial⟩)) (ak 1 2 rfl rfl rfl (wT rfl rfl rfl rfl rfl rfl rfl Bt S9 (CG d (az.mono S9.Uy) S9.aD) ?_)))))))
        intro aye lU ayK bV am4;clear S9
        obtain⟨nO,rfl,rfl⟩:=am4
        have bZ:SH _ _ _ [_,_,_,_]:=bV;clear bV
        refine ak 2 3 rfl rfl rfl (Uh (l:=[_,_]) rfl rfl rfl fR rfl bZ ?_)
        intro gZ kz bI;clear bZ
        refine ak 3 4 rfl rfl rfl (U6 (i:=0) (us:=[_,_]) (l':=[_,_]) (H':=[_,_,_,_,_]) rfl rfl bI rfl rfl rfl rfl aA rfl (dD (bI.one (i:=1) rfl) (dD rfl rfl)) rfl rfl ?_)
        intro jG bO;clear bI
        refine U5 rfl (ah [2,3,4,6,7] rfl (U3 (U2 asN MV rfl rfl rfl ?_)))
        obtain⟨hu1,hu2,_⟩:=eF hab (a:=m.ua) (by omega) false
        obtain⟨hv1,hv2,_⟩:=eF hab (a:=m.va) (by omega) false
        refine U0 rfl (af 0 rfl (U8 (us:=[_,_]) rfl rfl ay rfl aA (bO.aw (i:=4) rfl ⟨rfl,rfl,trivial⟩)) (af 1 rfl (U8 (us:=[_,_]) rfl rfl ay rfl aA (bO.aw (i:=0) rfl ⟨rfl,rfl,trivial⟩)) (af 2 rfl (U1 rfl rfl aT rfl (gD) (gA)) (af 3 rfl (U8 (us:=[_,_]) rfl rfl aZ rfl cC (bO.aw (i:=3) rfl ⟨rfl,rfl,trivial⟩)) (ag 4 1 rfl rfl (af 5 rfl (jh rfl rfl rfl (by first|omega|(simp only[ls];omega))) ?_))))))
        refine af 6 rfl (Ug rfl rfl rfl (by first|omega|(simp only[ls];omega))) ?_
        have cm:=bO.pick [1,0,2,3,4] [_,_,_,_,_] (by decide) ⟨rfl,rfl,rfl,rfl,rfl,trivial⟩;clear bO
        have bF:SH _ _ _ (Rs.aX [_]::[_,_,_,_]):=SH.jd (A:=[_]) (B:=[_,_,_,_]) cm;clear cm
        have bU:SH _ _ _ [_,_,_,_,_]:=bF.less (i:=0) rfl
        have iE:=acm d d.ae d.loops (⟨m.ua,m.ub⟩:Da) ((2*(d.ae.length:Int))+1) (az.mono bU.Uy) (by first|omega|(simp only[ls];omega)) (⟨hu1,hu2⟩) (bF.iG (i:=0) rfl);clear bU
        refine ak 7 8 rfl rfl rfl (jP (i:=0) rfl rfl rfl rfl rfl rfl rfl aeK bF rfl iE ?_)
        intro anY nW M2 ayo hle2 dP jJ;clear bF
        obtain⟨lu,iK,l6⟩:=jJ
        rw[iK]at dP
        clear iK
        subst lu
        subst l6
        replace dP:SH _ _ _ (Rs.aX [_]::[_,_,_,_]):=dP
        have cN:SH _ _ _ [_,_,_,_,_]:=SH.jK (A:=[_]) (B:=[_,_,_,_]) dP;clear dP
        refine ag 8 1 rfl rfl (af 9 rfl (Ui rfl rfl rfl) (af 10 rfl (Ui rfl rfl rfl) (af 11 rfl (Ui rfl rfl rfl) (ag 12 3 rfl rfl (U5 rfl (ah [2,3,4,6,7,8,9,10] rfl (U3 (U2 asM MU rfl rfl rfl ?_))))))))
        have sN:bk d.ae (Ud d (⟨m.ua,m.ub⟩:Da).a false).1 (Ud d (⟨m.ua,m.ub⟩:Da).a false).2 (((2*(d.ae.length:Int))+1)+1)=bk d.ae (Ud d m.ua false).1 (Ud d m.ua false).2 (2*(d.ae.length:Int)+2):=congrArg (fun z=>bk d.ae (Ud d m.ua false).1 (Ud d m.ua false).2 z) (by omega)
        rw[sN]at cN;clear sN
        have vJ:(bk d.ae (Ud d m.ua false).1 (Ud d m.ua false).2 (2*(d.ae.length:Int)+2)).length=d.ae.length:=iU _ _ _ _
        refine U0 rfl (af 0 rfl (U8 (us:=[_,_]) rfl rfl ay rfl aA (cN.aw (i:=4) rfl ⟨rfl,rfl,trivial⟩)) (af 1 rfl (U8 (us:=[_,_]) rfl rfl ay rfl aA (cN.aw (i:=1) rfl ⟨rfl,rfl,trivial⟩)) (af 2 rfl (U1 rfl rfl aT rfl (gD) (gA)) (af 3 rfl (U8 (us:=[_,_]) rfl rfl aZ rfl cC (cN.aw (i:=3) rfl ⟨rfl,rfl,trivial⟩)) (ag 4 1 rfl rfl (af 5 rfl (jh rfl rfl rfl (by first|omega|(simp only[ls];omega))) ?_))))))
        refine af 6 rfl (Ug rfl rfl rfl (by first|omega|(simp only[ls];omega))) ?_
        have cM:=cN.pick [0,1,2,3,4] [_,_,_,_,_] (by decide) ⟨rfl,rfl,rfl,rfl,rfl,trivial⟩;clear cN
        have dz:SH _ _ _ (Rs.aX [_]::[_,_,_,_]):=SH.jd (A:=[_]) (B:=[_,_,_,_]) cM;clear cM
        have dE:SH _ _ _ [_,_,_,_,_]:=dz.less (i:=0) rfl
        have lv:=acm d (bk d.ae (Ud d m.ua false).1 (Ud d m.ua false).2 (2*(d.ae.length:Int)+2)) d.loops (⟨m.va,m.vb⟩:Da) ((2*(d.ae.length:Int))+3) (az.mono dE.Uy) (by first|omega|(simp only[ls];omega)) (⟨by rw[vJ];exact hv1,hv2⟩) (dz.iG (i:=0) rfl);clear dE
        refine ak 7 8 rfl rfl rfl (jP (i:=0) rfl rfl rfl rfl rfl rfl rfl aeK dz rfl lv ?_)
        intro anX ni M3 ayn dh cI vO;clear dz
        obtain⟨uf,oU,vN⟩:=vO
        rw[oU]at cI
        clear oU
        subst uf
        subst vN
        replace cI:SH _ _ _ (Rs.aX [_]::[_,_,_,_]):=cI
        have cH:SH _ _ _ [_,_,_,_,_]:=SH.jK (A:=[_]) (B:=[_,_,_,_]) cI;clear cI
        refine ag 8 1 rfl rfl (af 9 rfl (Ui rfl rfl rfl) (af 10 rfl (Ui rfl rfl rfl) (af 11 rfl (Ui rfl rfl rfl) (ag 12 3 rfl rfl (U5 rfl (ah [3,4,7,8,9,10,11,12,13] rfl (U3 (U2 asL MT rfl rfl rfl ?_))))))))
        have zG:bk (bk d.ae (Ud d m.ua false).1 (Ud d m.ua false).2 (2*(d.ae.length:Int)+2)) (Ud d (⟨m.va,m.vb⟩:Da).a false).1 (Ud d (⟨m.va,m.vb⟩:Da).a false).2 (((2*(d.ae.length:Int))+3)+1)=bk (bk d.ae (Ud d m.ua false).1 (Ud d m.ua false).2 (2*(d.ae.length:Int)+2)) (Ud d m.va false).1 (Ud d m.va false).2 (2*(d.ae.length:Int)+4):=congrArg (fun z=>bk (bk d.ae (Ud d m.ua false).1 (Ud d m.ua false).2 (2*(d.ae.length:Int)+2)) (Ud d m.va false).1 (Ud d m.va false).2 z) (by omega)
        rw[zG]at cH;clear zG
        have hl2:(bk (bk d.ae (Ud d m.ua false).1 (Ud d m.ua false).2 (2*(d.ae.length:Int)+2)) (Ud d m.va false).1 (Ud d m.va false).2 (2*(d.ae.length:Int)+4)).length=d.ae.length:=(iU _ _ _ _).trans vJ
        have fY:=cH.pick [0,1,2,3,4] [_,_,_,_,_] (by decide) ⟨rfl,rfl,rfl,rfl,rfl,trivial⟩;clear cH
        refine jM [_] [_,_,_,_] rfl (by kernel_rfl) fY 21 rfl ?_
        clear fY
        change WA _ _ _ _ _ _ _ _ _ _ _ _ [_,_,_,_,_]
        refine ai 0 20 rfl (by kernel_rfl) (fun _=>U1 rfl rfl ay rfl (bK) (bJ)) ?_
        refine aj 1 19 rfl (by kernel_rfl) (fun _ _ _ hz Sz=>.inl (U4 rfl rfl bt rfl (Sz.suf.ar (i:=0) rfl rfl))) ?_
        refine ai 2 18 rfl (by kernel_rfl) (fun _=>run_move rfl rfl) ?_
        refine ai 3 17 rfl (by kernel_rfl) (fun _=>run_move rfl rfl) ?_
        refine ai 4 16 rfl (by kernel_rfl) (fun _=>run_move rfl rfl) ?_
        refine ai 5 15 rfl (by kernel_rfl) (fun _=>run_move rfl rfl) ?_
        refine ai 6 14 rfl (by kernel_rfl) (fun _=>U1 rfl rfl aT rfl (gD) (gA)) ?_
        refine ai 7 13 rfl (by kernel_rfl) (fun _=>U1 rfl rfl aZ rfl (gI) (gH)) ?_
        refine aj 8 12 rfl (by kernel_rfl) (fun _ _ _ hz Sz=>.inl (U4 rfl rfl dL rfl (Sz.suf.ar (i:=2) rfl rfl))) ?_
        refine ai 9 11 rfl (by kernel_rfl) (fun _=>dS rfl rfl) ?_
        refine ai 10 10 rfl (by kernel_rfl) (fun _=>U1 rfl rfl aT rfl (gD) (gA)) ?_
        refine ai 11 9 rfl (by kernel_rfl) (fun _=>U1 rfl rfl aZ rfl (gI) (gH)) ?_
        refine aj 12 8 rfl (by kernel_rfl) (fun _ _ _ hz Sz=>.inl (U4 rfl rfl dL rfl (Sz.suf.ar (i:=2) rfl rfl))) ?_
        refine ai 13 7 rfl (by kernel_rfl) (fun _=>dS rfl rfl) ?_
        refine ai 14 6 rfl (by kernel_rfl) (fun _=>U1 rfl rfl aT rfl (gI) (gH)) ?_
        refine aj 15 5 rfl (by kernel_rfl) (fun _ _ _ hz Sz=>.inl (U4 rfl rfl dL rfl (Sz.suf.ar (i:=2) rfl rfl))) ?_
        refine aj 16 4 rfl (by kernel_rfl) (fun _ _ _ hz Sz=>Ur rfl rfl rfl rfl rfl aeJ Sz (acQ (aR (⟨m.va,m.vb⟩:Da) ((2*(d.ae.length:Int))+3) 1) (aR (⟨m.ua,m.ub⟩:Da) ((2*(d.ae.length:Int))+1) 1) (aR (⟨m.va,m.vb⟩:Da) ((2*(d.ae.length:Int))+3) 2) (aR (⟨m.ua,m.ub⟩:Da) ((2*(d.ae.length:Int))+1) 0) (!m.ub) (!m.vb) (m.ov) Sz.aD)) ?_
        refine Un (i:=17) 3 rfl (by kernel_rfl) rfl rfl (fun xS fW=>?_)
        refine(ij (C:=aF) (l:=[_,_,_,_,_]) rfl rfl rfl rfl cD rfl rfl rfl rfl fW ?_)
        intro iy tq jm;clear fW
        refine aP.grow [_,_] (Hp.le_refl _) jm ?_;clear jm
        change WA _ _ _ _ _ _ _ _ _ _ _ _ [_,_,_,_,_,_]
        refine Un (i:=18) 2 rfl (by kernel_rfl) rfl rfl (fun E6 jl=>?_)
        refine(ji (C:=aF) (i:=1) (q:=0) (⟨(gS (aR (⟨m.va,m.vb⟩:Da) ((2*(d.ae.length:Int))+3) 1) (aR (⟨m.ua,m.ub⟩:Da) ((2*(d.ae.length:Int))+1) 1) (aR (⟨m.va,m.vb⟩:Da) ((2*(d.ae.length:Int))+3) 2) (aR (⟨m.ua,m.ub⟩:Da) ((2*(d.ae.length:Int))+1) 0) (!m.ub) (!m.vb) (m.ov)).a,(gS (aR (⟨m.va,m.vb⟩:Da) ((2*(d.ae.length:Int))+3) 1) (aR (⟨m.ua,m.ub⟩:Da) ((2*(d.ae.length:Int))+1) 1) (aR (⟨m.va,m.vb⟩:Da) ((2*(d.ae.length:Int))+3) 2) (aR (⟨m.ua,m.ub⟩:Da) ((2*(d.ae.length:Int))+1) 0) (!m.ub) (!m.vb) (m.ov)).b,(gS (aR (⟨m.va,m.vb⟩:Da) ((2*(d.ae.length:Int))+3) 1) (aR (⟨m.ua,m.ub⟩:Da) ((2*(d.ae.length:Int))+1) 1) (aR (⟨m.va,m.vb⟩:Da) ((2*(d.ae.length:Int))+3) 2) (aR (⟨m.ua,m.ub⟩:Da) ((2*(d.ae.length:Int))+1) 0) (!m.ub) (!m.vb) (m.ov)).c,(gS (aR (⟨m.va,m.vb⟩:Da) ((2*(d.ae.length:Int))+3) 1) (aR (⟨m.ua,m.ub⟩:Da) ((2*(d.ae.length:Int))+1) 1) (aR (⟨m.va,m.vb⟩:Da) ((2*(d.ae.length:Int))+3) 2) (aR (⟨m.ua,m.ub⟩:Da) ((2*(d.ae.length:Int))+1) 0) (!m.ub) (!m.vb) (m.ov)).d,(gS (aR (⟨m.va,m.vb⟩:Da) ((2*(d.ae.length:Int))+3) 1) (aR (⟨m.ua,m.ub⟩:Da) ((2*(d.ae.length:Int))+1) 1) (aR (⟨m.va,m.vb⟩:Da) ((2*(d.ae.length:Int))+3) 2) (aR (⟨m.ua,m.ub⟩:Da) ((2*(d.ae.length:Int))+1) 0) (!m.ub) (!m.vb) (m.ov)).plus⟩:Cr) rfl rfl rfl rfl rfl rfl rfl rfl cD jl rfl rfl rfl (by show(_+1)*40<=_;first|omega|(simp only[ls];omega)) ?_)
        intro an2 AF jk;clear jl
        have kH:=jk.pick [1,2,3,4,5] [_,_,_,_,_] (by decide) ⟨rfl,rfl,rfl,rfl,rfl,trivial⟩;clear jk
        refine aP.grow [_] (Hp.le_refl _) kH ?_;clear kH
        change WA _ _ _ _ _ _ _ _ _ _ _ _ [_,_,_,_,_]
        refine ai 19 1 rfl (by kernel_rfl) (fun _=>U1 rfl rfl ay rfl (bK) (bJ)) ?_
        refine Un (i:=20) 0 rfl (by kernel_rfl) rfl rfl (fun xP kG=>?_)
        refine(U6 (i:=1) (us:=[_]) (l':=[_,_]) (H':=[_,_,_,_,_]) rfl rfl kG rfl rfl rfl (kG.ke (i:=0) rfl) mv rfl (dD (kG.one (i:=0) rfl) rfl) rfl rfl ?_)
        intro AE rN;clear kG
        refine aP.turn (by kernel_rfl) rN ?_;clear rN
        change WA _ _ _ _ _ _ _ _ _ _ _ _ [_,_,_,_,_]
        refine Uu (by kernel_rfl) (fun E5 pI=>?_)
        refine ah [3,4,7,9,10,11,12] rfl (U3 (U2 asK MS rfl rfl rfl ?_))
        have pH:=pI.pick [0,1,2,3,4] [_,_,_,_,_] (by decide) ⟨rfl,rfl,rfl,rfl,rfl,trivial⟩;clear pI
        refine jM [_] [_,_,_,_] rfl (by kernel_rfl) pH 20 rfl ?_
        clear pH
        change WA _ _ _ _ _ _ _ _ _ _ _ _ [_,_,_,_,_]
        refine ai 0 19 rfl (by kernel_rfl) (fun _=>U1 rfl rfl ay rfl (bK) (bJ)) ?_
        refine aj 1 18 rfl (by kernel_rfl) (fun _ _ _ hz Sz=>.inl (U4 rfl rfl bt rfl (Sz.suf.ar (i:=0) rfl rfl))) ?_
        refine ai 2 17 rfl (by kernel_rfl) (fun _=>run_move rfl rfl) ?_
        refine ai 3 16 rfl (by kernel_rfl) (fun _=>run_move rfl rfl) ?_
        refine ai 4 15 rfl (by kernel_rfl) (fun _=>run_move rfl rfl) ?_
        refine ai 5 14 rfl (by kernel_rfl) (fun _=>run_move rfl rfl) ?_
        refine ai 6 13 rfl (by kernel_rfl) (fun _=>U1 rfl rfl aT rfl (gD) (gA)) ?_
        refine ai 7 12 rfl (by kernel_rfl) (fun _=>U1 rfl rfl aZ rfl (gI) (gH)) ?_
        refine aj 8 11 rfl (by kernel_rfl) (fun _ _ _ hz Sz=>.inl (U4 rfl rfl dL rfl (Sz.suf.ar (i:=2) rfl rfl))) ?_
        refine ai 9 10 rfl (by kernel_rfl) (fun _=>U1 rfl rfl aT rfl (gD) (gA)) ?_
        refine ai 10 9 rfl (by kernel_rfl) (fun _=>U1 rfl rfl aZ rfl (gI) (gH)) ?_
        refine aj 11 8 rfl (by kernel_rfl) (fun _ _ _ hz Sz=>.inl (U4 rfl rfl dL rfl (Sz.suf.ar (i:=2) rfl rfl))) ?_
        refine ai 12 7 rfl (by kernel_rfl) (fun _=>dS rfl rfl) ?_
        refine ai 13 6 rfl (by kernel_rfl) (fun _=>U1 rfl rfl aT rfl (gI) (gH)) ?_
        refine aj 14 5 rfl (by kernel_rfl) (fun _ _ _ hz Sz=>.inl (U4 rfl rfl dL rfl (Sz.suf.ar (i:=2) rfl rfl))) ?_
        refine aj 15 4 rfl (by kernel_rfl) (fun _ _ _ hz Sz=>Ur rfl rfl rfl rfl rfl aeJ Sz (acQ (aR (⟨m.va,m.vb⟩:Da) ((2*(d.ae.length:Int))+3) 0) (aR (⟨m.ua,m.ub⟩:Da) ((2*(d.ae.length:Int))+1) 1) (aR (⟨m.va,m.vb⟩:Da) ((2*(d.ae.length:Int))+3) 1) (aR (⟨m.ua,m.ub⟩:Da) ((2*(d.ae.length:Int))+1) 2) (m.ub) (!m.vb) (m.ov) Sz.aD)) ?_
        refine Un (i:=16) 3 rfl (by kernel_rfl) rfl rfl (fun Q8 j5=>?_)
        refine(ij (C:=aF) (l:=[_,_,_,_,_]) rfl rfl rfl rfl cD rfl rfl rfl rfl j5 ?_)
        intro pZ Q7 pG;clear j5
        refine aP.grow [_,_] (Hp.le_refl _) pG ?_;clear pG
        change WA _ _ _ _ _ _ _ _ _ _ _ _ [_,_,_,_,_,_]
        refine Un (i:=17) 2 rfl (by kernel_rfl) rfl rfl (fun w65 pF=>?_)
        refine(ji (C:=aF) (i:=1) (q:=0) (⟨(gS (aR (⟨m.va,m.vb⟩:Da) ((2*(d.ae.length:Int))+3) 0) (aR (⟨m.ua,m.ub⟩:Da) ((2*(d.ae.length:Int))+1) 1) (aR (⟨m.va,m.vb⟩:Da) ((2*(d.ae.length:Int))+3) 1) (aR (⟨m.ua,m.ub⟩:Da) ((2*(d.ae.length:Int))+1) 2) (m.ub) (!m.vb) (m.ov)).a,(gS (aR (⟨m.va,m.vb⟩:Da) ((2*(d.ae.length:Int))+3) 0) (aR (⟨m.ua,m.ub⟩:Da) ((2*(d.ae.length:Int))+1) 1) (aR (⟨m.va,m.vb⟩:Da) ((2*(d.ae.length:Int))+3) 1) (aR (⟨m.ua,m.ub⟩:Da) ((2*(d.ae.length:Int))+1) 2) (m.ub) (!m.vb) (m.ov)).b,(gS (aR (⟨m.va,m.vb⟩:Da) ((2*(d.ae.length:Int))+3) 0) (aR (⟨m.ua,m.ub⟩:Da) ((2*(d.ae.length:Int))+1) 1) (aR (⟨m.va,m.vb⟩:Da) ((2*(d.ae.length:Int))+3) 1) (aR (⟨m.ua,m.ub⟩:Da) ((2*(d.ae.length:Int))+1) 2) (m.ub) (!m.vb) (m.ov)).c,(gS (aR (⟨m.va,m.vb⟩:Da) ((2*(d.ae.length:Int))+3) 0) (aR (⟨m.ua,m.ub⟩:Da) ((2*(d.ae.length:Int))+1) 1) (aR (⟨m.va,m.vb⟩:Da) ((2*(d.ae.length:Int))+3) 1) (aR (⟨m.ua,m.ub⟩:Da) ((2*(d.ae.length:Int))+1) 2) (m.ub) (!m.vb) (m.ov)).d,(gS (aR (⟨m.va,m.vb⟩:Da) ((2*(d.ae.length:Int))+3) 0) (aR (⟨m.ua,m.ub⟩:Da) ((2*(d.ae.length:Int))+1) 1) (aR (⟨m.va,m.vb⟩:Da) ((2*(d.ae.length:Int))+3) 1) (aR (⟨m.ua,m.ub⟩:Da) ((2*(d.ae.length:Int))+1) 2) (m.ub) (!m.vb) (m.ov)).plus⟩:Cr) rfl rfl rfl rfl rfl rfl rfl rfl cD pF rfl rfl rfl (by show(_+1)*40<=_;first|omega|(simp only[ls];omega)) ?_)
        intro an1 w66 BA;clear pF
        have FP:=BA.pick [1,2,3,4,5] [_,_,_,_,_] (by decide) ⟨rfl,rfl,rfl,rfl,rfl,trivial⟩;clear BA
        refine aP.grow [_] (Hp.le_refl _) FP ?_;clear FP
        change WA _ _ _ _ _ _ _ _ _ _ _ _ [_,_,_,_,_]
        refine ai 18 1 rfl (by kernel_rfl) (fun _=>U1 rfl rfl ay rfl (bK) (bJ)) ?_
        refine Un (i:=19) 0 rfl (by kernel_rfl) rfl rfl (fun Q6 kE=>?_)
        refine(U6 (i:=1) (us:=[_]) (l':=[_,_]) (H':=[_,_,_,_,_]) rfl rfl kE rfl rfl rfl (kE.ke (i:=0) rfl) mv rfl (dD (kE.one (i:=0) rfl) rfl) rfl rfl ?_)
        intro w70 qd;clear kE
        refine aP.turn (by kernel_rfl) qd ?_;clear qd
        change WA _ _ _ _ _ _ _ _ _ _ _ _ [_,_,_,_,_]
        refine Uu (by kernel_rfl) (fun E2 j0=>?_)
        refine ah [4,7] rfl (U3 (U2 asJ asI rfl rfl rfl (U0 rfl (af 0 rfl (U8 (us:=[_,_]) rfl rfl ay rfl aA (j0.aw (i:=1) rfl ⟨rfl,rfl,trivial⟩)) (ak 1 2 rfl rfl rfl (U6 (i:=2) (us:=[_,_]) (l':=[_,_]) (H':=[_,_,_,_,_]) rfl rfl j0 rfl rfl rfl rfl aA rfl (dD (j0.one (i:=0) rfl) (dD rfl rfl)) rfl rfl ?_))))))
        intro EZ rL;clear j0
        refine ag 2 1 rfl rfl (U5 rfl (ah [4,5] rfl (U3 ?_)))
        obtain⟨M45,adp,ll,⟨A1,c1,e1,hr1⟩⟩:=rL.fZ (i:=0) (H':=[_,_,_,_,_]) rfl rfl (by show _*40<=_;first|omega|(simp only[ls];omega))
        clear rL;subst e1
        replace az:=az.mono (Hp.Ua adp ll.mx)
        refine Uk hC [_,_] rfl rfl ⟨⟨_,rfl,Um (us:=[_,_]) ay rfl aA (ll.aw (i:=2) rfl ⟨rfl,rfl,trivial⟩)⟩,rfl,trivial⟩ ?_
        refine⟨_,rfl,_,aL.trans adp,(ll.pick [] [] (by decide) trivial),?_⟩
        rw[ue (E:=⟨((bk (bk d.ae (Ud d m.ua false).1 (Ud d m.ua false).2 (2*(d.ae.length:Int)+2)) (Ud d m.va false).1 (Ud d m.va false).2 (2*(d.ae.length:Int)+4))++[(⟨(gS (aR (⟨m.va,m.vb⟩:Da) ((2*(d.ae.length:Int))+3) 1) (aR (⟨m.ua,m.ub⟩:Da) ((2*(d.ae.length:Int))+1) 1) (aR (⟨m.va,m.vb⟩:Da) ((2*(d.ae.length:Int))+3) 2) (aR (⟨m.ua,m.ub⟩:Da) ((2*(d.ae.length:Int))+1) 0) (!m.ub) (!m.vb) (m.ov)).a,(gS (aR (⟨m.va,m.vb⟩:Da) ((2*(d.ae.length:Int))+3) 1) (aR (⟨m.ua,m.ub⟩:Da) ((2*(d.ae.length:Int))+1) 1) (aR (⟨m.va,m.vb⟩:Da) ((2*(d.ae.length:Int))+3) 2) (aR (⟨m.ua,m.ub⟩:Da) ((2*(d.ae.length:Int))+1) 0) (!m.ub) (!m.vb) (m.ov)).b,(gS (aR (⟨m.va,m.vb⟩:Da) ((2*(d.ae.length:Int))+3) 1) (aR (⟨m.ua,m.ub⟩:Da) ((2*(d.ae.length:Int))+1) 1) (aR (⟨m.va,m.vb⟩:Da) ((2*(d.ae.length:Int))+3) 2) (aR (⟨m.ua,m.ub⟩:Da) ((2*(d.ae.length:Int))+1) 0) (!m.ub) (!m.vb) (m.ov)).c,(gS (aR (⟨m.va,m.vb⟩:Da) ((2*(d.ae.length:Int))+3) 1) (aR (⟨m.ua,m.ub⟩:Da) ((2*(d.ae.length:Int))+1) 1) (aR (⟨m.va,m.vb⟩:Da) ((2*(d.ae.length:Int))+3) 2) (aR (⟨m.ua,m.ub⟩:Da) ((2*(d.ae.length:Int))+1) 0) (!m.ub) (!m.vb) (m.ov)).d,(gS (aR (⟨m.va,m.vb⟩:Da) ((2*(d.ae.length:Int))+3) 1) (aR (⟨m.ua,m.ub⟩:Da) ((2*(d.ae.length:Int))+1) 1) (aR (⟨m.va,m.vb⟩:Da) ((2*(d.ae.length:Int))+3) 2) (aR (⟨m.ua,m.ub⟩:Da) ((2*(d.ae.length:Int))+1) 0) (!m.ub) (!m.vb) (m.ov)).plus⟩:Cr)])++[(⟨(gS (aR (⟨m.va,m.vb⟩:Da) ((2*(d.ae.length:Int))+3) 0) (aR (⟨m.ua,m.ub⟩:Da) ((2*(d.ae.length:Int))+1) 1) (aR (⟨m.va,m.vb⟩:Da) ((2*(d.ae.length:Int))+3) 1) (aR (⟨m.ua,m.ub⟩:Da) ((2*(d.ae.length:Int))+1) 2) (m.ub) (!m.vb) (m.ov)).a,(gS (aR (⟨m.va,m.vb⟩:Da) ((2*(d.ae.length:Int))+3) 0) (aR (⟨m.ua,m.ub⟩:Da) ((2*(d.ae.length:Int))+1) 1) (aR (⟨m.va,m.vb⟩:Da) ((2*(d.ae.length:Int))+3) 1) (aR (⟨m.ua,m.ub⟩:Da) ((2*(d.ae.length:Int))+1) 2) (m.ub) (!m.vb) (m.ov)).b,(gS (aR (⟨m.va,m.vb⟩:Da) ((2*(d.ae.length:Int))+3) 0) (aR (⟨m.ua,m.ub⟩:Da) ((2*(d.ae.length:Int))+1) 1) (aR (⟨m.va,m.vb⟩:Da) ((2*(d.ae.length:Int))+3) 1) (aR (⟨m.ua,m.ub⟩:Da) ((2*(d.ae.length:Int))+1) 2) (m.ub) (!m.vb) (m.ov)).c,(gS (aR (⟨m.va,m.vb⟩:Da) ((2*(d.ae.length:Int))+3) 0) (aR (⟨m.ua,m.ub⟩:Da) ((2*(d.ae.length:Int))+1) 1) (aR (⟨m.va,m.vb⟩:Da) ((2*(d.ae.length:Int))+3) 1) (aR (⟨m.ua,m.ub⟩:Da) ((2*(d.ae.length:Int))+1) 2) (m.ub) (!m.vb) (m.ov)).d,(gS (aR (⟨m.va,m.vb⟩:Da) ((2*(d.ae.length:Int))+3) 0) (aR (⟨m.ua,m.ub⟩:Da) ((2*(d.ae.length:Int))+1) 1) (aR (⟨m.va,m.vb⟩:Da) ((2*(d.ae.length:Int))+3) 1) (aR (⟨m.ua,m.ub⟩:Da) ((2*(d.ae.length:Int))+1) 2) (m.ub) (!m.vb) (m.ov)).plus⟩:Cr)],d.loops⟩) (by unfold gQ;rw[if_pos ((by omega:(1<=m.ua/\m.ua<=2*(d.ae.length:Int))/\(1<=m.va/\m.va<=2*(d.ae.length:Int)))),if_pos ⟨xn,(by simpa using uR)⟩,if_pos (by omega)]) (by unfold vD;rw[aiZ,aiY])]
        exact⟨_,_,rfl,hr1⟩
end Go.Proofs.YthppkofceancjaaGreat
namespace Go.Proofs.YthppkofceancjaaGreat
open Go.RowKit
def cmpE:List (Nat×Nat)->Nat->Nat
 |[],x=>x
 |e::es,x=>if cmpE es x=cmpE es e.2 then cmpE es e.1 else cmpE es x
theorem BQ(es:List (Nat×Nat))(x:Nat):cmpE es (cmpE es x)=cmpE es x:=by
 induction es generalizing x with
 |nil=>rfl
 |cons e es ih=>
  by_cases h:cmpE es x=cmpE es e.2
  ·have h1:cmpE (e::es) x=cmpE es e.1:=by rw[cmpE,if_pos h]
   rw[h1,cmpE,ih]
   split<;>rfl
  ·have h1:cmpE (e::es) x=cmpE es x:=by rw[cmpE,if_neg h]
   rw[h1,cmpE,ih,if_neg h]
theorem aa4{es:List (Nat×Nat)}{e:Nat×Nat}{x y:Nat}(h:cmpE es x=cmpE es y):cmpE (e::es) x=cmpE (e::es) y:=by
 rw[cmpE,cmpE,h]
theorem aa5(es:List (Nat×Nat))(e:Nat×Nat):cmpE (e::es) e.1=cmpE (e::es) e.2:=by
 rw[cmpE,cmpE,if_pos rfl]
 split<;>rfl
theorem abB{es:List (Nat×Nat)}{e:Nat×Nat}(h:e∈es):cmpE es e.1=cmpE es e.2:=by
 induction es with
 |nil=>cases h
 |cons f es ih=>
  rcases List.mem_cons.1 h with rfl|h
  ·exact aa5 es e
  ·exact aa4 (ih h)
theorem aco{N:Nat}{es:List (Nat×Nat)}(h:∀e∈es,e.1<N/\e.2<N){x:Nat}(hx:x<N):cmpE es x<N:=by
 induction es generalizing x with
 |nil=>exact hx
 |cons e es ih=>
  have ih:=fun x hx=>ih (fun e he=>h e (by simp[he])) (x:=x) hx
  rw[cmpE]
  split
  ·exact ih _ (h e (by simp)).1
  ·exact ih _ hx
theorem CC{P Q:Nat->Bool}{N z:Nat}(hz:z<N)(hp:P z=true)(hq:Q z=false)(h:∀x,x<N->x≠z->Q x=P x):cn Q N+1=cn P N:=by
 induction N with
 |zero=>omega
 |succ N ih=>
  rw[cn,cn]
  by_cases e:z=N
  ·subst e
   rw[if_pos hp,if_neg (by rw[hq];exact Bool.false_ne_true),p9 z (fun x hx=>h x (by omega) (by omega))]
  ·have:=ih (by omega) (fun x hx=>h x (by omega))
   rw[h N (by omega) (by omega)]
   omega
def Br:List (Nat×Nat)->Prop
 |[]=>True
 |e::es=>cmpE es e.1≠cmpE es e.2/\Br es
section
variable (e1 e2 : Nat → Nat)
def bT(l:List Nat):List (Nat×Nat):=l.map fun a=>(e1 a,e2 a)
def trE:Nat->List Nat
 |0=>[]
 |k+1=>if cmpE (bT e1 e2 (trE k)) (e1 k)=cmpE (bT e1 e2 (trE k)) (e2 k)then trE k else k::trE k
def mL:Nat->List Nat
 |0=>[]
 |k+1=>if cmpE (bT e1 e2 (trE e1 e2 k)) (e1 k)=cmpE (bT e1 e2 (trE e1 e2 k)) (e2 k)then k::mL k else mL k
theorem abe(k a:Nat)(ha:a<k):a∈trE e1 e2 k\/a∈mL e1 e2 k:=by
 induction k with
 |zero=>omega
 |succ k ih=>
  rw[trE,mL]
  by_cases e:a=k
  ·subst e
   split
   ·exact .inr (by simp)
   ·exact .inl (by simp)
  ·rcases ih (by omega)with h|h
   ·left;split<;>simp[h]
   ·right;split<;>simp[h]
theorem yX(k:Nat):∀a∈trE e1 e2 k,a<k:=by
 induction k with
 |zero=>intro a h;cases h
 |succ k ih=>
  intro a h
  rw[trE]at h
  split at h
  ·have:=ih a h;omega
  ·rcases List.mem_cons.1 h with rfl|h
   ·omega
   ·have:=ih a h;omega
theorem CQ(k:Nat):∀a∈mL e1 e2 k,a<k:=by
 induction k with
 |zero=>intro a h;cases h
 |succ k ih=>
  intro a h
  rw[mL]at h
  split at h
  ·rcases List.mem_cons.1 h with rfl|h
   ·omega
   ·have:=ih a h;omega
  ·have:=ih a h;omega
theorem acB(k:Nat):Br (bT e1 e2 (trE e1 e2 k)):=by
 induction k with
 |zero=>exact trivial
 |succ k ih=>
  rw[trE]
  split
  ·exact ih
  ·exact⟨by assumption,ih⟩
theorem G0{N k:Nat}(h:∀a,a<k->e1 a<N/\e2 a<N){l:List Nat}(hl:∀a∈l,a<k):∀e∈bT e1 e2 l,e.1<N/\e.2<N:=by
 intro e he
 obtain⟨a,ha,rfl⟩:=List.mem_map.1 he
 exact h a (hl a ha)
theorem abJ(k:Nat):∀a,a<k->cmpE (bT e1 e2 (trE e1 e2 k)) (e1 a)=cmpE (bT e1 e2 (trE e1 e2 k)) (e2 a):=by
 induction k with
 |zero=>intro a h;omega
 |succ k ih=>
  intro a ha
  rw[trE]
  split
  ·rename_i h
   by_cases e:a=k
   ·subst e;exact h
   ·exact ih a (by omega)
  ·by_cases e:a=k
   ·subst e;exact aa5 _ (e1 a,e2 a)
   ·exact aa4 (ih a (by omega))
end
theorem wI{P:Nat->Bool}{N:Nat}(h:∀x,x<N->P x=false):cn P N=0:=by
 induction N with
 |zero=>rfl
 |succ N ih=>rw[cn,ih (fun x hx=>h x (by omega)),if_neg (by rw[h N (by omega)];exact Bool.false_ne_true)]
theorem aj9{e1 e2:Nat->Nat}{K:Nat}:∀(ts:List Nat),(∀a∈ts,a<K)->Br (bT e1 e2 ts)->∀(D:Nat->Bool),(∀a,a<K->D a=true->a∈ts)->
  (∀X:Nat->Bool,cn (fun a=>D a&&(X (e1 a)!=X (e2 a))) K%2=0)->∀a,a<K->D a=false:=by
 intro ts
 induction ts with
 |nil=>
  intro _ _ D hD _ a ha
  cases e:D a with
  |false=>rfl
  |true=>cases hD a ha e
 |cons t ts ih=>
  intro hK hf D hD hev
  have ht:D t=false:=by
   cases e:D t with
   |false=>rfl
   |true=>
    exfalso
    have h1:=hev fun x=>decide (cmpE (bT e1 e2 ts) x=cmpE (bT e1 e2 ts) (e1 t))
    have h2:cn (fun _=>false) K+1=cn (fun a=>D a&&(decide (cmpE (bT e1 e2 ts) (e1 a)=cmpE (bT e1 e2 ts) (e1 t))!=decide (cmpE (bT e1 e2 ts) (e2 a)=cmpE (bT e1 e2 ts) (e1 t)))) K:=by
     refine CC (z:=t) (hK t (by simp)) ?_ rfl fun x hx hne=>?_
     ·have h3:¬cmpE (bT e1 e2 ts) (e2 t)=cmpE (bT e1 e2 ts) (e1 t):=fun e9=>hf.1 e9.symm
      simp[e,h3]
     ·cases hx2:D x with
      |false=>rfl
      |true=>
       rcases List.mem_cons.1 (hD x hx hx2)with e9|h9
       ·exact absurd e9 hne
       ·have h3:=abB (es:=bT e1 e2 ts) (e:=(e1 x,e2 x)) (List.mem_map.2 ⟨x,h9,rfl⟩)
        simp only at h3
        rw[h3]
        simp
    have h4:cn (fun _=>false) K=0:=wI fun _ _=>rfl
    omega
  refine ih (fun a ha=>hK a (by simp[ha])) hf.2 D (fun a ha hd=>?_) hev
  rcases List.mem_cons.1 (hD a ha hd)with rfl|h
  ·rw[ht]at hd;cases hd
  ·exact h
def cW(j:Nat):Nat:=4*(j/4)+(j%4+3)%4
theorem HL(P Q:Nat->Bool)(K:Nat):(cn P K+cn Q K)%2=cn (fun a=>P a !=Q a) K%2:=by
 induction K with
 |zero=>rfl
 |succ K ih=>
  rw[cn,cn,cn]
  cases P K<;>cases Q K<;>simp<;>omega
theorem akn(P:Nat->Bool)(n:Nat)(h:∀c,c<n->((if P (4*c)=true then 1 else 0)+(if P (4*c+1)=true then 1 else 0)+(if P (4*c+2)=true then 1 else 0)+(if P (4*c+3)=true then 1 else 0))%2=0):cn P (4*n)%2=0:=by
 induction n with
 |zero=>rfl
 |succ n ih=>
  have ih:=ih (fun c hc=>h c (by omega))
  have h1:=h n (by omega)
  rw[show 4*(n+1)=4*n+1+1+1+1 by omega,cn,cn,cn,cn]
  omega
structure Mp4(n:Nat)(h1 h2 hA F:Nat->Nat):Prop where
 lt:∀a,a<2*n->h1 a<4*n/\h2 a<4*n/\h1 a≠h2 a/\hA (h1 a)=a/\hA (h2 a)=a
 at_:∀j,j<4*n->hA j<2*n/\(j=h1 (hA j)\/j=h2 (hA j))
 nx:∀a,a<2*n->F (h1 a)=F (cW (h2 a))/\F (h2 a)=F (cW (h1 a))
 fl:∀j,j<4*n->F j<n+2
 fs:∀i,i<n+2->∃j,j<4*n/\F j=i
 R8:∀Z:Nat->Prop,(∀a,a<2*n->(Z (h1 a/4)<->Z (h2 a/4)))->∀x y,x<n->y<n->Z x->Z y
section
variable {n : Nat} {h1 h2 hA F : Nat → Nat}
theorem Mp4.hs(m:Mp4 n h1 h2 hA F)(P:Nat->Bool):cn P (4*n)=cn (fun a=>P (h1 a)) (2*n)+cn (fun a=>P (h2 a)) (2*n):=by
 have hp:((List.range (2*n)).map h1++(List.range (2*n)).map h2).Perm (List.range (4*n)):=by
  rw[List.perm_ext_iff_of_nodup]
  ·intro j
   rw[List.mem_append,List.mem_map,List.mem_map,List.mem_range]
   constructor
   ·rintro(⟨a,ha,rfl⟩|⟨a,ha,rfl⟩)
    ·exact(m.lt a (List.mem_range.1 ha)).1
    ·exact(m.lt a (List.mem_range.1 ha)).2.1
   ·intro hj
    obtain⟨h3,h4|h4⟩:=m.at_ j hj
    ·exact .inl ⟨hA j,List.mem_range.2 h3,h4.symm⟩
    ·exact .inr ⟨hA j,List.mem_range.2 h3,h4.symm⟩
  ·rw[List.nodup_append]
   have inj:∀h:Nat->Nat,(∀a,a<2*n->hA (h a)=a)->((List.range (2*n)).map h).Nodup:=fun h hh=>by
    rw[List.nodup_iff_pairwise_ne,List.pairwise_map]
    refine List.Pairwise.imp_of_mem ?_ List.nodup_range
    intro a b ha hb hab e
    have h3:=hh a (List.mem_range.1 ha)
    have h4:=hh b (List.mem_range.1 hb)
    rw[e]at h3
    exact hab (h3.symm.trans h4)
   refine⟨inj h1 fun a ha=>(m.lt a ha).2.2.2.1,inj h2 fun a ha=>(m.lt a ha).2.2.2.2,?_⟩
   intro x hx y hy
   obtain⟨a,ha,rfl⟩:=List.mem_map.1 hx
   obtain⟨b,hb,rfl⟩:=List.mem_map.1 hy
   intro e
   have h3:=(m.lt a (List.mem_range.1 ha)).2.2
   have h4:=(m.lt b (List.mem_range.1 hb)).2.2
   have e2:a=b:=by rw[<-h3.2.1,e,h4.2.2]
   subst e2
   exact h3.1 e
  ·exact List.nodup_range
 have h3:=hp.countP_eq P
 rw[List.countP_append,List.countP_map,List.countP_map]at h3
 rw[tM,tM,tM,<-List.countP_eq_length_filter,<-List.countP_eq_length_filter,<-List.countP_eq_length_filter,<-h3]
 rfl
end
end Go.Proofs.YthppkofceancjaaGreat
namespace Go.Proofs.YthppkofceancjaaGreat
open Go.RowKit
def Marks(seen:List Bool)(L:List Int):Prop:=L.Nodup/\∀y:Int,y∈L<->∃x:Nat,y=(x:Int)/\x<seen.length/\ga seen x=true
theorem aaP{seen:List Bool}{L:List Int}{x:Nat}(h:Marks seen L)(hx:x<seen.length)(hf:ga seen x=false):Marks (seen.set x true) (L++[(x:Int)]):=by
 obtain⟨h1,h2⟩:=h
 refine⟨?_,fun y=>?_⟩
 ·rw[List.nodup_append]
  refine⟨h1,by simp,?_⟩
  intro a ha b hb e
  rw[List.mem_singleton]at hb
  subst hb
  subst e
  obtain⟨x',e,_,h4⟩:=(h2 _).1 ha
  obtain rfl:x=x':=by omega
  rw[hf]at h4
  cases h4
 ·rw[List.mem_append,List.mem_singleton,h2]
  constructor
  ·rintro(⟨x',e,h3,h4⟩|rfl)
   ·refine⟨x',e,by rw[List.length_set];exact h3,?_⟩
    rw[eU _ _ _ _ hx]
    split<;>simp[h4]
   ·exact⟨x,rfl,by rw[List.length_set];exact hx,by rw[eU _ _ _ _ hx];simp⟩
  ·rintro⟨x',e,h3,h4⟩
   rw[List.length_set]at h3
   rw[eU _ _ _ _ hx]at h4
   by_cases hxx:x=x'
   ·subst hxx;exact .inr e
   ·rw[if_neg hxx]at h4;exact .inl ⟨x',e,h3,h4⟩
theorem ahm{nx:Nat->Nat}(P:List Int)(seen:List Bool)(x:Nat)(acc:List Int)(h:Marks seen (P++acc)):
  Marks (eY nx seen x acc).1 (P++(eY nx seen x acc).2)/\(∀y,ga seen y=true->ga (eY nx seen x acc).1 y=true)/\(x<seen.length->ga (eY nx seen x acc).1 x=true):=by
 induction hk:free seen using Nat.strongRecOn generalizing seen x acc with
 |_ k ih=>
  by_cases hx:x<seen.length/\ga seen x=false
  ·rw[rG hx.1 hx.2]
   have hf:=nC hx.1 hx.2
   obtain⟨r1,r2,_⟩:=ih (free (seen.set x true)) (by omega) (seen.set x true) (nx x) (acc++[(x:Int)]) (by rw[<-List.append_assoc];exact aaP h hx.1 hx.2) rfl
   refine⟨r1,fun y hy=>r2 y ?_,fun _=>r2 x ?_⟩
   ·rw[eU _ _ _ _ hx.1];split<;>simp[hy]
   ·rw[eU _ _ _ _ hx.1];simp
  ·have e:eY nx seen x acc=(seen,acc):=by rw[eY];simp[hx]
   rw[e]
   refine⟨h,fun y hy=>hy,fun hl=>?_⟩
   cases hg:ga seen x
   ·exact absurd ⟨hl,hg⟩ hx
   ·rfl
theorem aie{xss:List (List Int)}(h:xss.flatten.Nodup){i j:Nat}(hi:i<xss.length)(hj:j<xss.length){y:Int}(h1:y∈ga xss i)(h2:y∈ga xss j):i=j:=by
 rw[eo hi]at h1
 rw[eo hj]at h2
 rcases Nat.lt_trichotomy i j with e|e|e
 ·exact absurd rfl ((List.pairwise_iff_getElem.1 (List.pairwise_flatten.1 h).2 i j hi hj e) y h1 y h2)
 ·exact e
 ·exact absurd rfl ((List.pairwise_iff_getElem.1 (List.pairwise_flatten.1 h).2 j i hj hi e) y h2 y h1)
def jU(d:Dg)(c:Nat):Prop:=2<=c/\c<4*d.ae.length+2
def z8(d:Dg)(P:List Int):Prop:=∀y∈P,((cQ d y.toNat:Nat):Int)∈P
theorem rS{d:Dg}(h:aN d=true){c e:Nat}(hc:jU d c)(he:jU d e)(heq:cQ d c=cQ d e):c=e:=by
 have h1:=congrArg dA heq
 rw[ug h hc,ug h he]at h1
 have o1:=kN hc
 have o2:=kN he
 have key:∀x:Da,okD d x->(Ud d x.a x.b)=((Ud d (jR d x).a (!(jR d x).b)).1,((Ud d (jR d x).a (!(jR d x).b)).2+1)%4):=fun x hx=>by
  obtain⟨q1,q2,_⟩:=eF h hx x.b
  have e1:=pz h (c:=(Ud d x.a x.b).1) (k:=((Ud d x.a x.b).2+3)%4) (b:=!(jR d x).b) q1 (Nat.mod_lt _ (by decide)) (by show Uz d _ _=!!(Uz d _ _);rw[Bool.not_not])
  rw[show(jR d x).a=Uq d (Ud d x.a x.b).1 (((Ud d x.a x.b).2+3)%4)from rfl,e1]
  exact Prod.ext rfl (by show _=(((Ud d x.a x.b).2+3)%4+1)%4;omega)
 have k1:=key _ o1
 have k2:=key _ o2
 rw[h1]at k1
 have k3:=k1.trans k2.symm
 have t1:=pE h o1 (dA c).b
 have t2:=pE h o2 (dA e).b
 rw[k3]at t1
 have ea:(dA c).a=(dA e).a:=t1.1.symm.trans t2.1
 have eb:(dA c).b=(dA e).b:=by
  have:=t1.2.symm.trans t2.2
  cases h7:(dA c).b<;>cases h8:(dA e).b<;>simp_all
 refine acX ?_
 cases h7:dA c
 cases h8:dA e
 rw[h7,h8]at ea eb
 simp only at ea eb
 rw[ea,eb]
theorem ahn{P:List Int}(f:Int->Int)(hnd:P.Nodup)(hf:∀y∈P,f y∈P)(hinj:∀a∈P,∀b∈P,f a=f b->a=b){x:Int}(hx:x∈P):∃z∈P,f z=x:=by
 refine Classical.byContradiction fun hno=>?_
 have h1:(P.map f).Nodup:=by
  rw[List.nodup_iff_pairwise_ne,List.pairwise_map]
  exact List.Pairwise.imp_of_mem (fun ha hb hab e=>hab (hinj _ ha _ hb e)) hnd
 have h2:x∉P.map f:=fun h=>by
  obtain⟨z,hz,e⟩:=List.mem_map.1 h
  exact hno ⟨z,hz,e⟩
 have h3:=wy (List.nodup_cons.2 ⟨h2,h1⟩) (ys:=P) (fun y hy=>by
  rcases List.mem_cons.1 hy with e|hy
  ·rw[e];exact hx
  ·obtain⟨z,hz,e⟩:=List.mem_map.1 hy
   rw[<-e];exact hf z hz)
 rw[List.length_cons,List.length_map]at h3
 omega
theorem ah5{d:Dg}(h:aN d=true)(P:List Int)(hP:z8 d P)(RP:∀y∈P,∃c:Nat,y=(c:Int)/\jU d c)(seen:List Bool)(x:Nat)(acc:List Int)(hm:Marks seen (P++acc))(hl:seen.length=4*d.ae.length+2)(hx:jU d x)
  (hacc:∀y∈acc,(∃c:Nat,y=(c:Int)/\jU d c)/\(((cQ d y.toNat:Nat):Int)∈acc\/cQ d y.toNat=x))(hlast:acc=[]\/∃y∈acc,cQ d y.toNat=x):
  z8 d (eY (cQ d) seen x acc).2/\∀y∈(eY (cQ d) seen x acc).2,∃c:Nat,y=(c:Int)/\jU d c:=by
 induction hk:free seen using Nat.strongRecOn generalizing seen x acc with
 |_ k ih=>
  by_cases hg:x<seen.length/\ga seen x=false
  ·rw[rG hg.1 hg.2]
   have hf:=nC hg.1 hg.2
   refine ih (free (seen.set x true)) (by omega) (seen.set x true) (cQ d x) (acc++[(x:Int)]) (by rw[<-List.append_assoc];exact aaP hm hg.1 hg.2) (by rw[List.length_set];exact hl) (wD h hx) ?_ (.inr ⟨(x:Int),by simp,rfl⟩) rfl
   intro y hy
   rw[List.mem_append,List.mem_singleton]at hy
   rcases hy with hy|rfl
   ·obtain⟨h1,h2⟩:=hacc y hy
    refine⟨h1,.inl ?_⟩
    rw[List.mem_append,List.mem_singleton]
    rcases h2 with h2|h2
    ·exact .inl h2
    ·exact .inr (by rw[h2])
   ·exact⟨⟨x,rfl,hx⟩,.inr rfl⟩
  ·have e:eY (cQ d) seen x acc=(seen,acc):=by rw[eY];simp[hg]
   rw[e]
   refine⟨?_,fun y hy=>(hacc y hy).1⟩
   have hs:ga seen x=true:=by
    cases hq:ga seen x with
    |true=>rfl
    |false=>exact absurd ⟨by rw[hl];exact hx.2,hq⟩ hg
   have kB:(x:Int)∈P++acc:=(hm.2 _).2 ⟨x,rfl,by rw[hl];exact hx.2,hs⟩
   have hxa:(x:Int)∈acc\/acc=[]:=by
    rcases List.mem_append.1 kB with hp|ha
    ·right
     rcases hlast with h0|⟨y,hy,hyx⟩
     ·exact h0
     ·exfalso
      -- an element of P comes before x
      obtain⟨z,hz,hzx⟩:=ahn (fun y=>((cQ d y.toNat:Nat):Int)) (List.nodup_append.1 hm.1).1 hP (fun a ha b hb e9=>by
       obtain⟨c1,rfl,r1⟩:=RP a ha
       obtain⟨c2,rfl,r2⟩:=RP b hb
       simp only[Int.toNat_natCast]at e9
       rw[rS h r1 r2 (by omega)]) hp
      obtain⟨c1,rfl,r1⟩:=RP z hz
      obtain⟨⟨c2,rfl,r2⟩,_⟩:=hacc y hy
      simp only[Int.toNat_natCast]at hzx hyx
      have:=rS h r1 r2 (by omega)
      subst this
      exact(List.nodup_append.1 hm.1).2.2 _ hz _ hy rfl
    ·exact .inl ha
   intro y hy
   rcases hxa with ha|ha
   ·rcases(hacc y hy).2 with h2|h2
    ·exact h2
    ·rw[h2];exact ha
   ·have hy':y∈acc:=hy
    rw[ha]at hy'
    cases hy'
theorem Bu {d : Dg} (h : aN d = true) (k : Nat) (hk : k ≤ 4 * d.ae.length) : Marks (ey d k).1 (ey d k).2.flatten ∧ (∀ c, 2 ≤ c → c < k + 2 → ga (ey d k).1 c = true) ∧ (∀ r ∈ (ey d k).2, z8 d r ∧ ∀ y ∈ r, ∃ c : Nat, y = (c : Int) ∧ jU d c) := by
  induction k with
  | zero =>
    refine ⟨⟨by simp [ey], fun y => ?_⟩, fun c h1 h2 => by omega, fun r hr => by simp [ey] at hr⟩
    simp only [ey, List.flatten_nil, List.not_mem_nil, List.length_replicate, false_iff]
    rintro ⟨x, _, h1, h2⟩
    rw [wO _ _ _ h1] at h2
    cases h2
  | succ k ih =>
    obtain ⟨i1, i2, i3⟩ := ih (by omega)
    have hlen := vV d k
    cases hg : ga (ey d k).1 (k + 2) with
    | true =>
      rw [rK rfl hg]
      refine ⟨i1, fun c h1 h2 => ?_, i3⟩
      by_cases e : c = k + 2
      · subst e; exact hg
      · exact i2 c h1 (by omega)
    | false =>
      rw [rJ rfl hg rfl]
      dsimp only
      obtain ⟨r1, r2, r3⟩ := ahm (nx := cQ d) (ey d k).2.flatten (ey d k).1 (k + 2) [] (by simpa using i1)
      have hc := ah5 h (ey d k).2.flatten (fun y hy => by
          obtain ⟨r, hr, Rw⟩ := List.mem_flatten.1 hy
          exact List.mem_flatten.2 ⟨r, hr, (i3 r hr).1 y Rw⟩) (fun y hy => by
          obtain ⟨r, hr, Rw⟩ := List.mem_flatten.1 hy
          exact (i3 r hr).2 y Rw) (ey d k).1 (k + 2) [] (by simpa using i1) hlen ⟨by omega, by omega⟩ (fun y hy => by cases hy) (.inl rfl)
      refine ⟨by rw [List.flatten_append]; simpa using r1, fun c h1 h2 => ?_, fun r hr => ?_⟩
      · by_cases e : c = k + 2
        · subst e; exact r3 (by omega)
        · exact r2 c (i2 c h1 (by omega))
      · rcases List.mem_append.1 hr with hr | hr
        · exact i3 r hr
        · rw [List.mem_singleton.1 hr]; exact hc
def jt(d:Dg):List (List Int):=(ey d (4*d.ae.length)).2
theorem Ci(d:Dg):U7 d=(jt d).map iL:=rfl
def pj(d:Dg)(c:Nat):Nat:=((List.range (jt d).length).find? fun i=>decide ((c:Int)∈ga (jt d) i)).getD 0
theorem wP{d:Dg}(h:aN d=true){c:Nat}(hc:jU d c):pj d c<(jt d).length/\(c:Int)∈ga (jt d) (pj d c):=by
 obtain⟨i1,i2,i3⟩:=Bu h _ (Nat.le_refl _)
 have hs:=i2 c hc.1 hc.2
 have hm:(c:Int)∈(jt d).flatten:=(i1.2 _).2 ⟨c,rfl,by rw[vV];exact hc.2,hs⟩
 obtain⟨r,hr,hcr⟩:=List.mem_flatten.1 hm
 obtain⟨i,hi,rfl⟩:=List.mem_iff_getElem.1 hr
 unfold pj
 cases hf:(List.range (jt d).length).find? fun i=>decide ((c:Int)∈ga (jt d) i)with
 |none=>
  have:=List.find?_eq_none.1 hf i (List.mem_range.2 hi)
  rw[eo hi]at this
  simp[hcr]at this
 |some j=>
  have h1:=List.find?_some hf
  have h2:=List.mem_range.1 (List.mem_of_find?_eq_some hf)
  exact⟨h2,of_decide_eq_true h1⟩
theorem HE{d:Dg}(h:aN d=true){c i:Nat}(hc:jU d c)(hi:i<(jt d).length)(hm:(c:Int)∈ga (jt d) i):pj d c=i:=by
 obtain⟨h1,h2⟩:=wP h hc
 exact aie (Bu h _ (Nat.le_refl _)).1.1 h1 hi h2 hm
theorem alr{d:Dg}(h:aN d=true){c:Nat}(hc:jU d c):pj d (cQ d c)=pj d c:=by
 obtain⟨h1,h2⟩:=wP h hc
 refine HE h (wD h hc) h1 ?_
 have:=((Bu h _ (Nat.le_refl _)).2.2 (ga (jt d) (pj d c)) (by rw[eo h1];exact List.getElem_mem _)).1 _ h2
 rwa [Int.toNat_natCast]at this
def qA(d:Dg)(j:Nat):Da:=⟨cv d j,Uz d (j/4) (j%4)⟩
def jW(d:Dg)(j:Nat):Nat:=pj d (jX (qA d j))
theorem wC{d:Dg}(h:aN d=true){j:Nat}(hj:j<4*d.ae.length):okD d (qA d j):=yQ h hj
theorem abY{d:Dg}(h:aN d=true){a:Nat}(ha:a<2*d.ae.length)(b:Bool):jR d ⟨((a+1:Nat):Int),b⟩=qA d (cW (4*(Ud d ((a+1:Nat):Int) b).1+(Ud d ((a+1:Nat):Int) b).2)):=by
 obtain⟨_,h2,_⟩:=eF h (a:=((a+1:Nat):Int)) (by omega) b
 unfold jR qA cv cW
 rw[show(4*((4*(Ud d ((a+1:Nat):Int) b).1+(Ud d ((a+1:Nat):Int) b).2)/4)+((4*(Ud d ((a+1:Nat):Int) b).1+(Ud d ((a+1:Nat):Int) b).2)%4+3)%4)/4=(Ud d ((a+1:Nat):Int) b).1 by omega,
  show(4*((4*(Ud d ((a+1:Nat):Int) b).1+(Ud d ((a+1:Nat):Int) b).2)/4)+((4*(Ud d ((a+1:Nat):Int) b).1+(Ud d ((a+1:Nat):Int) b).2)%4+3)%4)%4=((Ud d ((a+1:Nat):Int) b).2+3)%4 by omega]
def dw(d:Dg)(b:Bool)(a:Nat):Nat:=4*(Ud d ((a+1:Nat):Int) b).1+(Ud d ((a+1:Nat):Int) b).2
theorem nz{d:Dg}(h:aN d=true){a:Nat}(ha:a<2*d.ae.length)(b:Bool):dw d b a<4*d.ae.length/\qA d (dw d b a)=⟨((a+1:Nat):Int),!b⟩/\dw d b a/4=(Ud d ((a+1:Nat):Int) b).1:=by
 obtain⟨h1,h2,_⟩:=eF h (a:=((a+1:Nat):Int)) (by omega) b
 obtain⟨t1,t2⟩:=pE h (a:=((a+1:Nat):Int)) (by omega) b
 have e1:dw d b a/4=(Ud d ((a+1:Nat):Int) b).1:=by unfold dw;omega
 have e2:dw d b a%4=(Ud d ((a+1:Nat):Int) b).2:=by unfold dw;omega
 refine⟨by unfold dw;omega,?_,e1⟩
 unfold qA cv
 rw[e1,e2,t1,t2]
end Go.Proofs.YthppkofceancjaaGreat
namespace Go.Proofs.YthppkofceancjaaGreat
open Go.ChangeShapes Go.WideShapes Go.ChangeAt Go.RowKit
def eQ(d:Dg)(x:Da):Nat:=(Ud d x.a x.b).1
theorem amM{d:Dg}(h:aN d=true){x:Da}(hx:okD d x):eQ d x=cw d (jR d x):=by
 obtain⟨q1,q2,_⟩:=eF h hx x.b
 have e1:=pz h (c:=(Ud d x.a x.b).1) (k:=((Ud d x.a x.b).2+3)%4) (b:=!(jR d x).b) q1 (Nat.mod_lt _ (by decide)) (by show Uz d _ _=!!(Uz d _ _);rw[Bool.not_not])
 unfold eQ cw
 rw[show(jR d x).a=Uq d (Ud d x.a x.b).1 (((Ud d x.a x.b).2+3)%4)from rfl,e1]
theorem aaY{d:Dg}(h:aN d=true){x:List Da}(hx:x∈U7 d):∃r:List Int,x=iL r/\r.Nodup/\z8 d r/\∀y∈r,∃c:Nat,y=(c:Int)/\jU d c:=by
 rw[Ci]at hx
 obtain⟨r,hr,rfl⟩:=List.mem_map.1 hx
 obtain⟨i1,_,i3⟩:=Bu h _ (Nat.le_refl _)
 exact⟨r,rfl,(List.pairwise_flatten.1 i1.1).1 r hr,(i3 r hr).1,(i3 r hr).2⟩
theorem uw{d:Dg}(h:aN d=true){c:Nat}(hc:jU d c):eQ d (dA c)=cw d (dA (cQ d c)):=by
 rw[ug h hc]
 exact amM h (kN hc)
theorem tX{d:Dg}{r:List Int}(h:z8 d r){c:Nat}(hc:(c:Int)∈r):((cQ d c:Nat):Int)∈r:=by
 have h9:=h _ hc
 rwa [Int.toNat_natCast]at h9
theorem ad9{l:List Int}(h:l.length=2):∃a b,l=[a,b]:=by
 match l,h with
 |[a,b],_=>exact⟨a,b,rfl⟩
theorem aoe{l:List Int}(h:l.length=3):∃a b c,l=[a,b,c]:=by
 match l,h with
 |[a,b,c],_=>exact⟨a,b,c,rfl⟩
theorem ana{d:Dg}(h:aN d=true){x:List Da}(hx:x∈U7 d)(hl:x.length=2):(eQ d (ga x 0)=cw d (ga x 0)/\eQ d (ga x 1)=cw d (ga x 1))\/(eQ d (ga x 0)=cw d (ga x 1)/\eQ d (ga x 1)=cw d (ga x 0)):=by
 obtain⟨r,rfl,hn,hc,hr⟩:=aaY h hx
 have hl2:r.length=2:=by unfold iL at hl;rwa [List.length_map]at hl
 obtain⟨y0,y1,rfl⟩:=ad9 hl2
 obtain⟨c0,rfl,h0⟩:=hr y0 (by simp)
 obtain⟨c1,rfl,h1⟩:=hr y1 (by simp)
 have n0:=tX hc (c:=c0) (by simp)
 have n1:=tX hc (c:=c1) (by simp)
 have hn':(c0:Int)≠c1:=by simpa using hn
 have hne:c0≠c1:=fun e=>hn' (by rw[e])
 have k01:cQ d c0≠cQ d c1:=fun e=>hne (rS h h0 h1 e)
 have t0:=uw h h0
 have t1:=uw h h1
 simp only[List.mem_cons,List.not_mem_nil,or_false,Int.ofNat_inj]at n0 n1
 show(eQ d (dA c0)=cw d (dA c0)/\eQ d (dA c1)=cw d (dA c1))\/(eQ d (dA c0)=cw d (dA c1)/\eQ d (dA c1)=cw d (dA c0))
 rcases n0 with e0|e0<;>rcases n1 with e1|e1<;>first|(exfalso;omega)|(rw[e0]at t0;rw[e1]at t1;omega)
theorem am9{d:Dg}(h:aN d=true){x:List Da}(hx:x∈U7 d)(hl:x.length=3):(cw d (ga x 0)≠cw d (ga x 1)/\cw d (ga x 0)≠cw d (ga x 2)/\cw d (ga x 1)≠cw d (ga x 2))<->(eQ d (ga x 0)≠eQ d (ga x 1)/\eQ d (ga x 0)≠eQ d (ga x 2)/\eQ d (ga x 1)≠eQ d (ga x 2)):=by
 obtain⟨r,rfl,hn,hc,hr⟩:=aaY h hx
 have hl2:r.length=3:=by unfold iL at hl;rwa [List.length_map]at hl
 obtain⟨y0,y1,y2,rfl⟩:=aoe hl2
 obtain⟨c0,rfl,h0⟩:=hr y0 (by simp)
 obtain⟨c1,rfl,h1⟩:=hr y1 (by simp)
 obtain⟨c2,rfl,h2⟩:=hr y2 (by simp)
 have n0:=tX hc (c:=c0) (by simp)
 have n1:=tX hc (c:=c1) (by simp)
 have n2:=tX hc (c:=c2) (by simp)
 have nY:((c0:Int)≠c1/\(c0:Int)≠c2)/\(c1:Int)≠c2:=by simpa using hn
 obtain⟨⟨i01,i02⟩,i12⟩:=nY
 have h01:c0≠c1:=fun e=>i01 (by rw[e])
 have h02:c0≠c2:=fun e=>i02 (by rw[e])
 have h12:c1≠c2:=fun e=>i12 (by rw[e])
 have k01:cQ d c0≠cQ d c1:=fun e=>h01 (rS h h0 h1 e)
 have k02:cQ d c0≠cQ d c2:=fun e=>h02 (rS h h0 h2 e)
 have k12:cQ d c1≠cQ d c2:=fun e=>h12 (rS h h1 h2 e)
 have t0:=uw h h0
 have t1:=uw h h1
 have t2:=uw h h2
 simp only[List.mem_cons,List.not_mem_nil,or_false,Int.ofNat_inj]at n0 n1 n2
 show(cw d (dA c0)≠cw d (dA c1)/\cw d (dA c0)≠cw d (dA c2)/\cw d (dA c1)≠cw d (dA c2))<->(eQ d (dA c0)≠eQ d (dA c1)/\eQ d (dA c0)≠eQ d (dA c2)/\eQ d (dA c1)≠eQ d (dA c2))
 rcases n0 with e0|e0|e0<;>rcases n1 with e1|e1|e1<;>rcases n2 with e2|e2|e2<;>first|(exfalso;omega)|(rw[e0]at t0;rw[e1]at t1;rw[e2]at t2;constructor<;>(intro h9;refine⟨?_,?_,?_⟩<;>omega))
theorem es3(d:Dg)(f:List Da):(esN d f 3).length=3<->(cw d (ga f 0)≠cw d (ga f 1)/\cw d (ga f 0)≠cw d (ga f 2)/\cw d (ga f 1)≠cw d (ga f 2)):=by
 simp only[esN]
 generalize cw d (ga f 0)=a
 generalize cw d (ga f 1)=b
 generalize cw d (ga f 2)=c
 have e1:mp (a:Int) true ([]:List (Int×Bool))=[((a:Int),true)]:=rfl
 rw[e1]
 by_cases h1:b=a
 ·subst h1
  have e2:mp (b:Int) true [((b:Int),true)]=[((b:Int),true)]:=by unfold mp;rw[if_pos rfl]
  rw[e2]
  by_cases h2:c=b
  ·subst h2
   rw[e2]
   simp
  ·have e3:mp (c:Int) true [((b:Int),true)]=[((b:Int),true),((c:Int),true)]:=by unfold mp;rw[if_neg (by simp;omega)];rfl
   rw[e3]
   simp
 ·have e2:mp (b:Int) true [((a:Int),true)]=[((a:Int),true),((b:Int),true)]:=by unfold mp;rw[if_neg (by simp;omega)];rfl
  rw[e2]
  by_cases h2:c=a
  ·subst h2
   have e3:mp (c:Int) true [((c:Int),true),((b:Int),true)]=[((c:Int),true),((b:Int),true)]:=by unfold mp;rw[if_pos rfl]
   rw[e3]
   simp
  ·by_cases h3:c=b
   ·subst h3
    have e3:mp (c:Int) true [((a:Int),true),((c:Int),true)]=[((a:Int),true),((c:Int),true)]:=by unfold mp;rw[if_neg (by simp;omega)];unfold mp;rw[if_pos rfl]
    rw[e3]
    simp
   ·have e3:mp (c:Int) true [((a:Int),true),((b:Int),true)]=[((a:Int),true),((b:Int),true),((c:Int),true)]:=by unfold mp;rw[if_neg (by simp;omega)];unfold mp;rw[if_neg (by simp;omega)];rfl
    rw[e3]
    simp only[List.length_cons,List.length_nil,true_iff]
    exact⟨fun e=>h1 e.symm,fun e=>h2 e.symm,fun e=>h3 e.symm⟩
theorem acR(d:Dg)(a:Int):hgt d a<=2:=by unfold hgt;omega
theorem alm(d:Dg)(f:List Da)(i:Nat):iR d f 0 i+iR d f 1 i+iR d f 2 i=i:=by
 induction i with
 |zero=>rfl
 |succ i ih=>
  unfold iR
  have:=acR d (ga f i).a
  split<;>split<;>split<;>omega
theorem tN{d:Dg}(h:aN d=true){x:List Da}(hx:x∈U7 d)(hl:x.length=3):kZ d x=decide ((iR d x 0 3=1/\iR d x 1 3=1/\iR d x 2 3=1)/\(eQ d (ga x 0)≠eQ d (ga x 1)/\eQ d (ga x 0)≠eQ d (ga x 2)/\eQ d (ga x 1)≠eQ d (ga x 2))):=by
 unfold kZ
 refine decide_eq_decide.2 ?_
 have hs:=alm d x 3
 rw[es3,am9 h hx hl]
 constructor
 ·rintro⟨_,hD,h2,h0⟩
  exact⟨⟨h0,by omega,h2⟩,hD⟩
 ·rintro⟨⟨h0,_,h2⟩,hD⟩
  exact⟨hl,hD,h2,h0⟩
theorem ah8(x:Cr)(k:Nat)(a b:Int):qy (qy x k a) k b=qy x k b:=by
 unfold qy
 split
 ·rfl
 ·split
  ·rfl
  ·split<;>rfl
theorem ahj{xs:List Cr}{c:Nat}(hc:c<xs.length)(k:Nat)(a b:Int):bk (bk xs c k a) c k b=bk xs c k b:=by
 unfold bk
 rw[eU _ _ _ _ hc,if_pos rfl,List.set_set,ah8]
theorem aap{n:Nat}{k:Nat×Nat}(hk:k.1<n/\k.2<4)(v:Int):∀(r:List ((Nat×Nat)×Int)) (ys:List Cr),ys.length=n->(∀q∈r.map Prod.fst,(q.1<n/\q.2<4)/\k≠q)->bk (gT ys r) k.1 k.2 v=gT (bk ys k.1 k.2 v) r
 |[],_,_,_=>rfl
 |p::r,ys,hy,hr=>by
  obtain⟨h1,h2⟩:=hr p.1 (by simp)
  show bk (gT (bk ys p.1.1 p.1.2 p.2) r) k.1 k.2 v=gT (bk (bk ys k.1 k.2 v) p.1.1 p.1.2 p.2) r
  rw[aap hk v r _ ((iU _ _ _ _).trans hy) (fun q hq=>hr q (by rw[List.map_cons];exact List.mem_cons_of_mem _ hq)),aaq hy hk h1 h2]
theorem aaJ{d:Dg}{k:Nat×Nat}(hk:qP d k)(v:Int):∀(r:List ((Nat×Nat)×Int)) (xs:List Cr),xs.length=d.ae.length->pK d r->gT xs (mp k v r)=bk (gT xs r) k.1 k.2 v
 |[],_,_,_=>rfl
 |p::r,xs,hx,hr=>by
  obtain⟨h1,h2⟩:=hr
  rw[List.map_cons,List.nodup_cons]at h1
  have hr2:pK d r:=⟨h1.2,fun q hq=>h2 q (by rw[List.map_cons];exact List.mem_cons_of_mem _ hq)⟩
  unfold mp
  by_cases e:k=p.1
  ·rw[if_pos e]
   show gT (bk xs k.1 k.2 v) r=bk (gT (bk xs p.1.1 p.1.2 p.2) r) k.1 k.2 v
   rw[aap (n:=d.ae.length) hk v r _ ((iU _ _ _ _).trans hx) (fun q hq=>⟨hr2.2 q hq,fun e2=>h1.1 (by rw[<-e,e2];exact hq)⟩),<-e,ahj (by rw[hx];exact hk.1)]
  ·rw[if_neg e]
   show gT (bk xs p.1.1 p.1.2 p.2) (mp k v r)=bk (gT (bk xs p.1.1 p.1.2 p.2) r) k.1 k.2 v
   exact aaJ hk v r _ ((iU _ _ _ _).trans hx) hr2
theorem BW{d:Dg}{es:List ((Nat×Nat)×Int)}(h:pK d es){k:Nat×Nat}(hk:qP d k)(v:Int):gT d.ae (mp k v es)=bk (gT d.ae es) k.1 k.2 v:=aaJ hk v es d.ae rfl h
def docN(d:Dg)(f:List Da):Nat->List Cr
 |0=>d.ae
 |i+1=>bk (bk (bk (bk (docN d f i) (Ud d (ga f i).a false).1 (Ud d (ga f i).a false).2 (Uq d (bH (Ud d (ga f i).a true)).1 (bH (Ud d (ga f i).a true)).2)) (bH (Ud d (ga f i).a false)).1 (bH (Ud d (ga f i).a false)).2 (ga f i).a) (bH (Ud d (ga f i).a true)).1 (bH (Ud d (ga f i).a true)).2 (ga f i).a) (Ud d (ga f i).a true).1 (Ud d (ga f i).a true).2 (Uq d (bH (Ud d (ga f i).a false)).1 (bH (Ud d (ga f i).a false)).2)
theorem aby(d:Dg)(f:List Da)(i:Nat):(docN d f i).length=d.ae.length:=by
 induction i with
 |zero=>rfl
 |succ i ih=>unfold docN;rw[iU,iU,iU,iU];exact ih
theorem akg{d:Dg}(hab:aN d=true){f:List Da}(hf:∀x∈f,okD d x):∀i,i<=f.length->docN d f i=gT d.ae (nP d f i):=by
 intro i
 induction i with
 |zero=>intro _;rfl
 |succ i ih=>
  intro hi
  have hx:=hf _ (iB (show i<f.length by omega))
  have h1:=Cj hab hx true
  have h2:=Cj hab hx false
  have p0:=ab0 hab hf i (by omega)
  unfold docN nP
  rw[ih (by omega),BW (((p0.put h2 _).put (pq h2) _).put (pq h1) _) h1,BW ((p0.put h2 _).put (pq h2) _) (pq h1),BW (p0.put h2 _) (pq h2),BW p0 h2]
theorem aj2{e:Nat}(f:Nat->Value)(h:e<3):nth [f 0,f 1,f 2] (0+e*1)=some (f e):=by
 have:e=0\/e=1\/e=2:=by omega
 rcases this with rfl|rfl|rfl<;>rfl
theorem akr{e:Nat}(f:Nat->Value)(v:Value)(h:e<3):Nat.ble (0+e*1+[v].length) [f 0,f 1,f 2].length=true:=by
 have:e=0\/e=1\/e=2:=by omega
 rcases this with rfl|rfl|rfl<;>rfl
theorem akP{e:Nat}(h:Nat->Int)(v:Int)(he:e<3):spl [Value.int .i64 (h 0),Value.int .i64 (h 1),Value.int .i64 (h 2)] (0+e*1) [Value.int .i64 v]=[Value.int .i64 (upd h e v 0),Value.int .i64 (upd h e v 1),Value.int .i64 (upd h e v 2)]:=by
 have:e=0\/e=1\/e=2:=by omega
 rcases this with rfl|rfl|rfl<;>rfl
end Go.Proofs.YthppkofceancjaaGreat
