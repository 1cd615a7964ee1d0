/- Part 4 of the proof of the law MovesTake: the walks through its functions and the plain laws that they need. -/
import Derived.Test.YthppkofceancjaaGreatMtZ3
import Derived.Test.YthppkofceancjaaGreatProg
set_option linter.unusedSimpArgs false
set_option linter.unusedVariables false
noncomputable section
namespace Go.Proofs.YthppkofceancjaaGreat
open Go.ChangeShapes Go.WideShapes Go.ChangeAt Go.RowKit
def HQ(d:Dg)(u:Value)(M:Hp):Prop:=∃A c vs,u=.slice A vs.length c/\aG (di 141) M A c vs/\fy cu M vs (U7 d)
namespace InF
noncomputable def Z3u:=Tryz.f66.body.getD .skip
def Z3v:=cL Z3u
def Z3w:=cR Z3u
def Z3x:=cL Z3w
def Z3y:=cR Z3w
def Z3z:=cL Z3y
def Z40:=cR Z3y
def Z41:=cL Z40
def Z42:=cR Z40
def Z43:=cL Z41
def Z44:=cR Z41
def Z45:=cL Z44
set_option maxRecDepth 10000 in
theorem acs{w:World}{M:Hp}{X:Fr}(d:Dg){bL:Nat}{cA iA oA:Option Addr}{cc ic oc:Nat}(bu:dG (M.un X.h) bL 70 [.slice cA d.ae.length cc,.int .i64 d.loops,.slice iA (ax d false (4*d.ae.length)).length ic,.slice oA (ax d true (4*d.ae.length)).length oc])(hsc:aG aF (M.un X.h) cA cc d.ae)(hsi:aG br (M.un X.h) iA ic (ax d false (4*d.ae.length)))(aK:aG br (M.un X.h) oA oc (ax d true (4*d.ae.length)))(hn:d.ae.length<=16)(hab:aN d=true)(S:SH w M X []):Ct Tryz.prog 66 [.pointer (some ⟨bL,0,none⟩)] w M X (HQ d):=by
 unfold Ct
 refine FZ (b:=Z3u) Tryz.func66 rfl Tryz.ntmps66 rfl (fun C tB hC=>?_)
 refine bq [(0,_)] ⟨rfl,trivial⟩ ?_
 refine U2 Z3v Z3w rfl rfl rfl ?_
 refine U0 rfl ?_
 refine Ut (k:=0) (k':=1) rfl rfl rfl (bE (l:=[_]) rfl rfl rfl rfl rfl S ?_)
 intro aI w1 S1;clear S
 refine Ut (k:=1) (k':=2) rfl rfl rfl (Ub rfl rfl (run_assign rfl rfl) ?_)
 refine U5 rfl ?_
 refine bN [(1,_)] ⟨rfl,trivial⟩ ?_
 refine U3 ?_
 refine U2 Z3x Z3y rfl rfl rfl ?_
 refine U0 rfl ?_
 refine Ut (k:=0) (k':=1) rfl rfl rfl (yq Da Bool (fun x=>Value.agg (cu.f x).toArray) Value.bool rfl rfl rfl S1 ?_)
 intro jg w2 S2;clear S1
 refine Ut (k:=1) (k':=2) rfl rfl rfl (Uh (l:=[_]) rfl rfl rfl alO rfl S2 ?_)
 intro aQ w3 S3;clear S2
 refine Ut (k:=2) (k':=3) rfl rfl rfl (U6 (i:=0) (us:=[_]) (l':=[_]) (H':=[_,_,_]) rfl rfl S3 rfl rfl rfl rfl al5 rfl rfl rfl rfl ?_)
 intro w4 S4;clear S3
 refine U5 rfl ?_
 refine bN [(1,_),(3,_)] ⟨rfl,rfl,trivial⟩ ?_
 refine U3 ?_
 refine U2 Z3z Z40 rfl rfl rfl ?_
 refine U0 rfl ?_
 refine Ut (k:=0) (k':=1) rfl rfl rfl (Uh (l:=[_]) rfl rfl rfl anH rfl S4 ?_)
 intro bz w5 S5;clear S4
 refine U5 rfl ?_
 refine U3 ?_
 refine U2 Z41 Z42 rfl rfl rfl ?_
 refine U2 Z43 Z44 rfl rfl rfl ?_
 refine U0 rfl ?_
 refine Ut (k:=0) (k':=1) rfl rfl rfl (Ub rfl rfl (U4 rfl rfl dt rfl (S5.ar (i:=3) rfl rfl)) ?_)
 refine Ut (k:=1) (k':=2) rfl rfl rfl (eZ rfl rfl rfl rfl rfl rfl rfl anz S5 (akC d (bu.mono S5.Uy) (hsc.mono S5.Uy) (hsi.mono S5.Uy) (aK.mono S5.Uy) S5.aD) ?_)
 intro Rm w6 M1 aL S6 uY;clear S5
 replace bu:=bu.mono (Hp.Ua aL S6.mx)
 replace hsc:=hsc.mono (Hp.Ua aL S6.mx)
 replace hsi:=hsi.mono (Hp.Ua aL S6.mx)
 replace aK:=aK.mono (Hp.Ua aL S6.mx)
 obtain⟨bd1,rfl,Jo⟩:=uY
 refine U5 rfl ?_
 refine bN [(1,_),(3,_),(4,_),(10,_)] ⟨rfl,rfl,rfl,rfl,trivial⟩ ?_
 refine U3 ?_
 refine Uc Z45 0 rfl rfl rfl ?_
 have S9:=(S6.nH (di 141)).pick [3,1,0,2,4] [_,_,_,_,_] (by decide) ⟨rfl,rfl,rfl,rfl,rfl,trivial⟩
 refine aha (p:=11) (f:=164) (lb:=[_]) (asg:=rfA wz) (bd:=Ff wz) (enc:=zZ) (N:=4*d.ae.length) tB rfl rfl rfl anl S9 (CU d bL aI aQ bz jg) (GV d bL aI aQ bz jg) ?_ (ahs d bu hsc hsi aK Jo hn) ?_ ?_ ?_
 ·exact⟨[],[],.slice none 0 0,_,[],rfl,fy.eX,rfl,sI.eX d⟩
 ·intro k M' H' w' C' R0 hk hle S' hI
  exact ahg ⟨rfl,rfl,rfl,rfl,trivial⟩ S' hI
 ·intro k M' H' w' C' R0 a hk hle S' Bl
  exact ahR d (bu.mono (Hp.Ua hle S'.mx)) (hsc.mono (Hp.Ua hle S'.mx)) (hsi.mono (Hp.Ua hle S'.mx)) (aK.mono (Hp.Ua hle S'.mx)) hn hab hk S' Bl
 ·intro a M' H' w' D l rc ha hle S' hI
  obtain⟨es,vs,adZ,seen,jb,rfl,fJ,hfn,pV⟩:=hI
  change SH w' M' X [Rs.lr l D rc,_,_,Rs.row (di 141) adZ vs,_,_]at S'
  refine ajF (c:=Z42) (i:=15) (d1:=34) (d2:=2) (v:=adZ) hC rfl rfl rfl rfl rfl rfl rfl ha rfl mr rfl rfl rfl rfl S' (S'.ar (i:=2) rfl rfl) (fun w2 S2=>?_)
  have hvl:=fJ.1
  rw[List.length_map]at hvl
  have lD:=BF d (4*d.ae.length)
  rw[hfn]at lD
  replace lD:jb.length<=4*d.ae.length:=lD
  obtain⟨M3,dh,S3,⟨A,c,e,hr⟩⟩:=S2.fZ (i:=2) (H':=[_,_,_,_,_]) rfl rfl (by show _*24<=_;omega)
  subst e
  refine⟨_,rfl,M3,(aL).trans (hle.trans dh),S3.pick [] [] (by decide) trivial,A,c,vs,rfl,hr,?_⟩
  have e2:U7 d=jb.map iL:=by unfold U7 wQ;rw[hfn]
  rw[e2]
  exact fJ.mono dh
end InF
end Go.Proofs.YthppkofceancjaaGreat
namespace Go.Proofs.YthppkofceancjaaGreat
open Go.ChangeShapes Go.WideShapes Go.ChangeAt Go.RowKit
noncomputable def Z46:=Tryz.f72.body.getD .skip
def Z47:=cL Z46
def Z48:=cR Z46
def Z49:=cL Z48
def Z4a:=cR Z48
def Z4b:=cL Z4a
def Z4c:=cR Z4a
def Z4d:=cL Z4b
def Z4e:=cR Z4b
def Z4f:=cL Z4e
def Z4g:=cL Z4f
def Z4h:=cR Z4f
def Z4i:=cL Z4h
def Z4j:=cR Z4h
def Z4k:=cL Z4i
def Z4l:=cR Z4i
def Z4m:=cL Z4j
def Z4n:=cR Z4j
def Z4o:=cL Z4n
def Z4p:=cR Z4n
def Z4q:=cL Z4o
def Z4r:=cR Z4o
def Z4s:=cL Z4p
def Z4t:=cR Z4p
def Z4u:=cL Z4t
def Z4v:=cR Z4t
def Z4w:=cL Z4u
def Z4x:=cR Z4u
def Z4y:=cL Z4c
def Z4z:=cR Z4c
set_option maxRecDepth 10000 in
theorem qm{w:World}{M:Hp}{X:Fr}(d:Dg){aV:Option Addr}{aU:Nat}(c k:Nat)(az:aG aF (M.un X.h) aV aU d.ae)(hc:c<d.ae.length)(hk:k<4)(S:SH w M X []):Cq Tryz.prog 72 [.agg [.slice aV d.ae.length aU,.int .i64 d.loops].toArray,.agg [.int .i64 (c:Int),.int .i64 (k:Int)].toArray] w M X (fun u=>u=.int .i64 (Uq d c k)):=by
 unfold Cq
 have gV:d.ae.length*40<=140737488355328:=az.room
 refine Up (b:=Z46) Tryz.func72 rfl Tryz.ntmps72 rfl (fun C hC=>(bq [(0,_),(1,_)] ⟨rfl,rfl,trivial⟩ (U2 Z47 Z48 rfl rfl rfl (U0 rfl (ak 0 1 rfl rfl rfl (bE (l:=[_,_]) rfl rfl rfl rfl rfl S ?_))))))
 intro aI w1 S1;clear S
 refine ak 1 2 rfl rfl rfl (bE (l:=[_,_]) rfl rfl rfl rfl rfl S1 ?_)
 intro aQ w2 S2;clear S1
 refine ag 2 1 rfl rfl (U5 rfl (ah [2,3] rfl (U3 (U2 Z49 Z4a rfl rfl rfl (U0 rfl (af 0 rfl (U1 rfl rfl ay rfl (bK) (bJ)) (af 1 rfl (U4 rfl rfl bt rfl (S2.ar (i:=1) rfl rfl)) (af 2 rfl (U1 rfl rfl dH rfl (aC) (aB)) ?_))))))))
 refine af 3 rfl (U4 rfl rfl av rfl (S2.ar (i:=0) rfl rfl)) (af 4 rfl (Ul (C:=aF) c rfl rfl rfl cD (by first|rfl|omega) az (by first|omega|(simp only[ls];omega))) ?_)
 refine af 5 rfl (U8 (us:=[_,_,_,_,_]) rfl rfl aW rfl cg (az.fU S2.um (e:=c) (by first|omega|(simp only[ls];omega)) (j:=0) ⟨rfl,rfl,rfl,rfl,rfl,trivial⟩)) ?_
 refine ak 6 7 rfl rfl rfl (Uh (l:=[_,_,_,_,_]) rfl rfl rfl lG rfl S2 ?_)
 intro bz w3 S3;clear S2
 refine ak 7 8 rfl rfl rfl (U6 (i:=0) (us:=[_,_,_,_,_]) (l':=[_,_,_,_,_]) (H':=[_,_,_]) rfl rfl S3 rfl rfl rfl rfl cg rfl rfl rfl rfl ?_)
 intro w4 S4;clear S3
 refine U5 rfl (ah [3,5] rfl (U3 (U2 Z4b Z4c rfl rfl rfl (U2 Z4d Z4e rfl rfl rfl (U0 rfl (af 0 rfl (U1 rfl rfl dH rfl (aC) (aB)) (af 1 rfl (U4 rfl rfl av rfl (S4.ar (i:=1) rfl rfl)) (U5 rfl ?_))))))))
 refine ah [5,13] rfl (U3 (Uc Z4f 0 rfl rfl rfl (U2 Z4g Z4h rfl rfl rfl (U0 rfl (af 0 rfl (bR rfl rfl rfl) (ag 1 1 rfl rfl (U5 rfl (ah [5,13,14] rfl ?_))))))))
 refine U3 ?_
 refine Uf Z4i Z4j rfl rfl rfl rfl (fun iq=>?_) (fun iq=>?_)
 ·refine U2 Z4k Z4l rfl rfl rfl (U0 rfl (af 0 rfl (U1 rfl rfl aW rfl (aC) (aB)) (af 1 rfl (U4 rfl rfl av rfl (S4.ar (i:=0) rfl rfl)) (ag 2 1 rfl rfl (U5 rfl (ah [4] rfl (U3 (Uk hC [_] rfl rfl ⟨rfl,trivial⟩ ?_))))))))
  exact⟨_,rfl,(S4.pick [] [] (by decide) trivial),(by first|(obtain rfl:k=0:=(by omega);rfl)|(obtain rfl:k=1:=(by omega);rfl)|(obtain rfl:k=2:=(by omega);rfl)|(obtain rfl:k=3:=(by omega);rfl))⟩
 ·refine U2 Z4m Z4n rfl rfl rfl (U0 rfl (af 0 rfl (bR rfl rfl rfl) (ag 1 1 rfl rfl (U5 rfl (ah [5,13,18] rfl (U3 ?_))))))
  refine Uf Z4o Z4p rfl rfl rfl rfl (fun lN=>?_) (fun lN=>?_)
  ·refine U2 Z4q Z4r rfl rfl rfl (U0 rfl (af 0 rfl (U1 rfl rfl aW rfl (aC) (aB)) (af 1 rfl (U4 rfl rfl av rfl (S4.ar (i:=0) rfl rfl)) (ag 2 1 rfl rfl (U5 rfl (ah [4] rfl (U3 (Uk hC [_] rfl rfl ⟨rfl,trivial⟩ ?_))))))))
   exact⟨_,rfl,(S4.pick [] [] (by decide) trivial),(by first|(obtain rfl:k=0:=(by omega);rfl)|(obtain rfl:k=1:=(by omega);rfl)|(obtain rfl:k=2:=(by omega);rfl)|(obtain rfl:k=3:=(by omega);rfl))⟩
  ·refine U2 Z4s Z4t rfl rfl rfl (U0 rfl (af 0 rfl (bR rfl rfl rfl) (ag 1 1 rfl rfl (U5 rfl (ah [5,22] rfl (U3 ?_))))))
   refine Uf Z4u Z4v rfl rfl rfl rfl (fun zU=>?_) (fun zU=>?_)
   ·refine U2 Z4w Z4x rfl rfl rfl (U0 rfl (af 0 rfl (U1 rfl rfl aW rfl (aC) (aB)) (af 1 rfl (U4 rfl rfl av rfl (S4.ar (i:=0) rfl rfl)) (ag 2 1 rfl rfl (U5 rfl (ah [4] rfl (U3 (Uk hC [_] rfl rfl ⟨rfl,trivial⟩ ?_))))))))
    exact⟨_,rfl,(S4.pick [] [] (by decide) trivial),(by first|(obtain rfl:k=0:=(by omega);rfl)|(obtain rfl:k=1:=(by omega);rfl)|(obtain rfl:k=2:=(by omega);rfl)|(obtain rfl:k=3:=(by omega);rfl))⟩
   ·refine Ue rfl (bj (ah [5] rfl (U3 (U2 Z4y Z4z rfl rfl rfl (U0 rfl (af 0 rfl (U1 rfl rfl aW rfl (aC) (aB)) (af 1 rfl (U4 rfl rfl av rfl (S4.ar (i:=0) rfl rfl)) (ag 2 1 rfl rfl ?_))))))))
    refine U5 rfl (ah [4] rfl (U3 (Uk hC [_] rfl rfl ⟨rfl,trivial⟩ ?_)))
    exact⟨_,rfl,(S4.pick [] [] (by decide) trivial),(by first|(obtain rfl:k=0:=(by omega);rfl)|(obtain rfl:k=1:=(by omega);rfl)|(obtain rfl:k=2:=(by omega);rfl)|(obtain rfl:k=3:=(by omega);rfl))⟩
noncomputable def Z50:=Tryz.f73.body.getD .skip
def Z51:=cL Z50
def Z52:=cR Z50
def Z53:=cL Z52
def Z54:=cR Z52
set_option maxRecDepth 10000 in
theorem acu{w:World}{M:Hp}{X:Fr}(d:Dg){aV:Option Addr}{aU:Nat}(c k:Nat)(az:aG aF (M.un X.h) aV aU d.ae)(hc:c<d.ae.length)(hk:k<4)(S:SH w M X []):Cq Tryz.prog 73 [.agg [.slice aV d.ae.length aU,.int .i64 d.loops].toArray,.agg [.int .i64 (c:Int),.int .i64 (k:Int)].toArray] w M X (fun u=>u=.bool (Uz d c k)):=by
 unfold Cq
 have gV:d.ae.length*40<=140737488355328:=az.room
 refine Up (b:=Z50) Tryz.func73 rfl Tryz.ntmps73 rfl (fun C hC=>(bq [(0,_),(1,_)] ⟨rfl,rfl,trivial⟩ (U2 Z51 Z52 rfl rfl rfl (U0 rfl (ak 0 1 rfl rfl rfl (bE (l:=[_,_]) rfl rfl rfl rfl rfl S ?_))))))
 intro aI w1 S1;clear S
 refine ak 1 2 rfl rfl rfl (bE (l:=[_,_]) rfl rfl rfl rfl rfl S1 ?_)
 intro aQ w2 S2;clear S1
 refine ag 2 1 rfl rfl (U5 rfl (ah [2,3] rfl (U3 (U2 Z53 Z54 rfl rfl rfl (U0 rfl (af 0 rfl (U1 rfl rfl dH rfl (aC) (aB)) (af 1 rfl (U4 rfl rfl av rfl (S2.ar (i:=0) rfl rfl)) (af 2 rfl (bR rfl rfl rfl) ?_))))))))
 refine ag 3 1 rfl rfl ?_
 refine Uw (t:=8) rfl (fun Bc=>?_) (fun Bc=>?_)
 ·refine ag 4 6 rfl rfl (ag 10 6 rfl rfl (ag 16 6 rfl rfl (ag 22 6 rfl rfl (ag 28 5 rfl rfl (U5 rfl (ah [4] rfl (U3 (Uk hC [_] rfl rfl ⟨rfl,trivial⟩ ?_))))))))
  exact⟨_,rfl,(S2.pick [] [] (by decide) trivial),(by have e0:k=0\/k=1\/k=2\/k=3:=(by omega);rcases e0 with rfl|rfl|rfl|rfl<;>first|(exfalso;omega)|(show Value.bool _=_;unfold Uz jc;simp[*]))⟩
 ·refine aH 4 5 rfl rfl rfl rfl rfl rfl rfl rfl (Ub rfl rfl (U1 rfl rfl dH rfl (aC) (aB)) (aH 5 6 rfl rfl rfl rfl rfl rfl rfl rfl (Ub rfl rfl (U4 rfl rfl av rfl (S2.ar (i:=0) rfl rfl)) (aH 6 7 rfl rfl rfl rfl rfl rfl rfl rfl (Ub rfl rfl (bR rfl rfl rfl) (ag 7 1 rfl rfl ?_))))))
  refine Uw (t:=12) rfl (fun Jk=>?_) (fun Jk=>?_)
  ·refine aH 8 9 rfl rfl rfl rfl rfl rfl rfl rfl (Ub rfl rfl (U1 rfl rfl ay rfl (bK) (bJ)) (aH 9 10 rfl rfl rfl rfl rfl rfl rfl rfl (Ub rfl rfl (U4 rfl rfl bt rfl (S2.ar (i:=1) rfl rfl)) (aH 10 11 rfl rfl rfl rfl rfl rfl rfl rfl (Ub rfl rfl (U1 rfl rfl dH rfl (aC) (aB)) (aH 11 12 rfl rfl rfl rfl rfl rfl rfl rfl (Ub rfl rfl (U4 rfl rfl av rfl (S2.ar (i:=0) rfl rfl)) (aH 12 13 rfl rfl rfl rfl rfl rfl rfl rfl (Ub rfl rfl (Ul (C:=aF) c rfl rfl rfl cD (by first|rfl|omega) az (by first|omega|(simp only[ls];omega))) ?_)))))))))
   refine aH 13 14 rfl rfl rfl rfl rfl rfl rfl rfl (Ub rfl rfl (U1 rfl rfl aW rfl (gI) (gH)) (aH 14 15 rfl rfl rfl rfl rfl rfl rfl rfl (Ub rfl rfl (U4 rfl rfl dL rfl (az.cell S2.um (i:=c) (by first|omega|(simp only[ls];omega)) 4 rfl rfl)) ?_)))
   refine aH 15 16 rfl rfl rfl rfl rfl rfl rfl rfl (Ub rfl rfl (dS rfl rfl) (ag 16 3 rfl rfl ?_))
   refine mR (t:=23) rfl (fun Jj=>?_) (fun Jj=>?_)
   ·simp only[Bool.and_eq_true,Bool.or_eq_true,Bool.and_eq_false_iff,Bool.or_eq_false_iff,decide_eq_true_eq,decide_eq_false_iff_not,Bool.not_eq_true',Bool.not_eq_false']at Jj
    refine ag 19 6 rfl rfl (ag 25 6 rfl rfl (ag 31 2 rfl rfl (U5 rfl (ah [4] rfl (U3 (Uk hC [_] rfl rfl ⟨rfl,trivial⟩ ?_))))))
    exact⟨_,rfl,(S2.pick [] [] (by decide) trivial),(by have e0:k=0\/k=1\/k=2\/k=3:=(by omega);rcases e0 with rfl|rfl|rfl|rfl<;>first|(exfalso;omega)|(show Value.bool _=_;unfold Uz jc;simp[*]))⟩
   ·simp only[Bool.and_eq_true,Bool.or_eq_true,Bool.and_eq_false_iff,Bool.or_eq_false_iff,decide_eq_true_eq,decide_eq_false_iff_not,Bool.not_eq_true',Bool.not_eq_false']at Jj
    refine aH 19 20 rfl rfl rfl rfl rfl rfl rfl rfl (Ub rfl rfl (U1 rfl rfl dH rfl (aC) (aB)) (aH 20 21 rfl rfl rfl rfl rfl rfl rfl rfl (Ub rfl rfl (U4 rfl rfl av rfl (S2.ar (i:=0) rfl rfl)) (aH 21 22 rfl rfl rfl rfl rfl rfl rfl rfl (Ub rfl rfl (bR rfl rfl rfl) (ag 22 1 rfl rfl ?_))))))
    refine Uw (t:=27) rfl (fun Jh=>?_) (fun Jh=>?_)
    ·refine aH 23 24 rfl rfl rfl rfl rfl rfl rfl rfl (Ub rfl rfl (U1 rfl rfl ay rfl (bK) (bJ)) (aH 24 25 rfl rfl rfl rfl rfl rfl rfl rfl (Ub rfl rfl (U4 rfl rfl bt rfl (S2.ar (i:=1) rfl rfl)) (aH 25 26 rfl rfl rfl rfl rfl rfl rfl rfl (Ub rfl rfl (U1 rfl rfl dH rfl (aC) (aB)) (aH 26 27 rfl rfl rfl rfl rfl rfl rfl rfl (Ub rfl rfl (U4 rfl rfl av rfl (S2.ar (i:=0) rfl rfl)) (aH 27 28 rfl rfl rfl rfl rfl rfl rfl rfl (Ub rfl rfl (Ul (C:=aF) c rfl rfl rfl cD (by first|rfl|omega) az (by first|omega|(simp only[ls];omega))) ?_)))))))))
     refine aH 28 29 rfl rfl rfl rfl rfl rfl rfl rfl (Ub rfl rfl (U1 rfl rfl aW rfl (gI) (gH)) (aH 29 30 rfl rfl rfl rfl rfl rfl rfl rfl (Ub rfl rfl (U4 rfl rfl dL rfl (az.cell S2.um (i:=c) (by first|omega|(simp only[ls];omega)) 4 rfl rfl)) ?_)))
     refine ag 30 3 rfl rfl (U5 rfl (ah [4] rfl (U3 (Uk hC [_] rfl rfl ⟨rfl,trivial⟩ ?_))))
     exact⟨_,rfl,(S2.pick [] [] (by decide) trivial),(by have e0:k=0\/k=1\/k=2\/k=3:=(by omega);rcases e0 with rfl|rfl|rfl|rfl<;>first|(exfalso;omega)|(show Value.bool _=_;unfold Uz jc;simp[*]))⟩
    ·refine ag 23 6 rfl rfl (ag 29 4 rfl rfl (U5 rfl (ah [4] rfl (U3 (Uk hC [_] rfl rfl ⟨rfl,trivial⟩ ?_)))))
     exact⟨_,rfl,(S2.pick [] [] (by decide) trivial),(by have e0:k=0\/k=1\/k=2\/k=3:=(by omega);rcases e0 with rfl|rfl|rfl|rfl<;>first|(exfalso;omega)|(show Value.bool _=_;unfold Uz jc;simp[*]))⟩
  ·refine ag 8 6 rfl rfl (ag 14 5 rfl rfl (aH 19 20 rfl rfl rfl rfl rfl rfl rfl rfl (Ub rfl rfl (U1 rfl rfl dH rfl (aC) (aB)) (aH 20 21 rfl rfl rfl rfl rfl rfl rfl rfl (Ub rfl rfl (U4 rfl rfl av rfl (S2.ar (i:=0) rfl rfl)) (aH 21 22 rfl rfl rfl rfl rfl rfl rfl rfl (Ub rfl rfl (bR rfl rfl rfl) (ag 22 1 rfl rfl ?_))))))))
   refine Uw (t:=27) rfl (fun Jh=>?_) (fun Jh=>?_)
   ·refine aH 23 24 rfl rfl rfl rfl rfl rfl rfl rfl (Ub rfl rfl (U1 rfl rfl ay rfl (bK) (bJ)) (aH 24 25 rfl rfl rfl rfl rfl rfl rfl rfl (Ub rfl rfl (U4 rfl rfl bt rfl (S2.ar (i:=1) rfl rfl)) (aH 25 26 rfl rfl rfl rfl rfl rfl rfl rfl (Ub rfl rfl (U1 rfl rfl dH rfl (aC) (aB)) (aH 26 27 rfl rfl rfl rfl rfl rfl rfl rfl (Ub rfl rfl (U4 rfl rfl av rfl (S2.ar (i:=0) rfl rfl)) (aH 27 28 rfl rfl rfl rfl rfl rfl rfl rfl (Ub rfl rfl (Ul (C:=aF) c rfl rfl rfl cD (by first|rfl|omega) az (by first|omega|(simp only[ls];omega))) ?_)))))))))
    refine aH 28 29 rfl rfl rfl rfl rfl rfl rfl rfl (Ub rfl rfl (U1 rfl rfl aW rfl (gI) (gH)) (aH 29 30 rfl rfl rfl rfl rfl rfl rfl rfl (Ub rfl rfl (U4 rfl rfl dL rfl (az.cell S2.um (i:=c) (by first|omega|(simp only[ls];omega)) 4 rfl rfl)) ?_)))
    refine ag 30 3 rfl rfl (U5 rfl (ah [4] rfl (U3 (Uk hC [_] rfl rfl ⟨rfl,trivial⟩ ?_))))
    exact⟨_,rfl,(S2.pick [] [] (by decide) trivial),(by have e0:k=0\/k=1\/k=2\/k=3:=(by omega);rcases e0 with rfl|rfl|rfl|rfl<;>first|(exfalso;omega)|(show Value.bool _=_;unfold Uz jc;simp[*]))⟩
   ·refine ag 23 6 rfl rfl (ag 29 4 rfl rfl (U5 rfl (ah [4] rfl (U3 (Uk hC [_] rfl rfl ⟨rfl,trivial⟩ ?_)))))
    exact⟨_,rfl,(S2.pick [] [] (by decide) trivial),(by have e0:k=0\/k=1\/k=2\/k=3:=(by omega);rcases e0 with rfl|rfl|rfl|rfl<;>first|(exfalso;omega)|(show Value.bool _=_;unfold Uz jc;simp[*]))⟩
noncomputable def Z55:=Tryz.f60.body.getD .skip
def Z56:=cL Z55
def Z57:=cR Z55
def Z58:=cL Z57
def Z59:=cR Z57
def Z5a:=cL Z58
def Z5b:=cR Z58
def Z5c:=cL Z5b
def Z5d:=cL Z5c
def Z5e:=cL Z5d
def Z5f:=cR Z5d
def Z5g:=cL Z5e
def Z5h:=cR Z5e
def Z5i:=cL Z5h
def Z5j:=cR Z5h
def Z5k:=cL Z5f
def Z5l:=cR Z5f
def Z5m:=cL Z5k
def Z5n:=cL Z5m
def Z5o:=cR Z5m
def Z5p:=cL Z5o
def Z5q:=cL Z5p
def Z5r:=cL Z5q
def Z5s:=cR Z5q
def Z5t:=cL Z5r
def Z5u:=cR Z5r
def Z5v:=cL Z5u
def Z5w:=cR Z5u
def Z5x:=cL Z5s
def Z5y:=cR Z5s
def Z5z:=cL Z5x
def Z60:=cL Z5z
def Z61:=cR Z5z
def Z62:=cL Z61
def Z63:=cR Z61
def Z64:=cL Z63
def Z65:=cR Z63
def Z66:=cL Z64
def Z67:=cR Z64
def Z68:=cL Z59
def Z69:=cR Z59
set_option maxHeartbeats 1000000 in
set_option maxRecDepth 10000 in
theorem mP{w:World}{M:Hp}{X:Fr}(d:Dg){aV:Option Addr}{aU:Nat}(a:Int)(back:Bool)(az:aG aF (M.un X.h) aV aU d.ae)(S:SH w M X []):Cq Tryz.prog 60 [.agg [.slice aV d.ae.length aU,.int .i64 d.loops].toArray,.int .i64 a,.bool back] w M X (fun u=>u=.agg (o9 (Ud d a back)).toArray):=by
 unfold Cq
 have gV:d.ae.length*40<=140737488355328:=az.room
 refine Up (b:=Z55) Tryz.func60 rfl Tryz.ntmps60 rfl (fun C hC=>(bq [(0,_),(1,_),(2,_)] ⟨rfl,rfl,rfl,trivial⟩ (U2 Z56 Z57 rfl rfl rfl (U0 rfl (ak 0 1 rfl rfl rfl (bE (l:=[_,_]) rfl rfl rfl rfl rfl S ?_))))))
 intro aI w1 S1;clear S
 refine ak 1 2 rfl rfl rfl (Uh (l:=[_,_]) rfl rfl rfl nJ rfl S1 ?_)
 intro aQ w2 S2;clear S1
 refine U5 rfl (ah [1,2,3,6] rfl (U3 (U2 Z58 Z59 rfl rfl rfl (U2 Z5a Z5b rfl rfl rfl (U0 rfl (ag 0 1 rfl rfl (U5 rfl (U3 ?_))))))))
 refine Uc Z5c 0 rfl rfl rfl ?_
 refine Ux (fun aS au aM=>∃(i:Nat),aS=d.ae.length-i/\Env 38 [(1,.int .i64 a),(2,.bool back),(3,.pointer (some ⟨aI,0,none⟩)),(6,.pointer (some ⟨aQ,0,none⟩)),(7,.int .i64 (i:Int))] au/\SH aM M X [Rs.box aQ 120 [.int .i64 0,.int .i64 0],Rs.box aI 24 [.slice aV d.ae.length aU,.int .i64 d.loops]]/\i<=d.ae.length/\(∀j,j<4*i->fI d a back j=false)) rfl ?_ ?_
 ·intro au aq
  refine⟨_,⟨0,rfl,aq.sub ⟨rfl,rfl,rfl,rfl,rfl,trivial⟩,S2.pick [0,1] [_,_] (by decide) ⟨rfl,rfl,trivial⟩,?cd,?dm⟩⟩
  case cd=>omega
  case dm=>(intro j hj;omega)
 ·rintro m1 a1 w3 ⟨i,rfl,aY,S3,hi,hno⟩
  clear S2
  refine bX aY (c:=Z5d) rfl ?_
  clear aY a1
  refine U2 Z5e Z5f rfl rfl rfl (U2 Z5g Z5h rfl rfl rfl (U0 rfl (ag 0 1 rfl rfl (af 1 rfl (U1 rfl rfl ay rfl (bK) (bJ)) (af 2 rfl (U4 rfl rfl bt rfl (S3.ar (i:=1) rfl rfl)) (af 3 rfl (cU rfl rfl rfl rfl rfl rfl bt) (af 4 rfl (bS rfl rfl rfl) (U5 rfl ?_))))))))
  refine ah [1,2,3,6,7,14] rfl (U3 ?_)
  refine Uf Z5i Z5j rfl rfl rfl rfl (fun iq=>?_) (fun iq=>?_)
  ·refine Ue rfl (ah [1,2,3,6,7] rfl (U3 (U2 Z5k Z5l rfl rfl rfl (Uc Z5m 1 rfl rfl rfl (U2 Z5n Z5o rfl rfl rfl (U0 rfl (ag 0 1 rfl rfl (U5 rfl ?_))))))))
   refine U3 (Uc Z5p 2 rfl rfl rfl ?_)
   refine Ux (fun aS au aM=>∃(k:Nat),aS=4-k/\Env 38 [(1,.int .i64 a),(2,.bool back),(3,.pointer (some ⟨aI,0,none⟩)),(6,.pointer (some ⟨aQ,0,none⟩)),(7,.int .i64 (i:Int)),(8,.int .i64 (k:Int))] au/\SH aM M X [Rs.box aQ 120 [.int .i64 0,.int .i64 0],Rs.box aI 24 [.slice aV d.ae.length aU,.int .i64 d.loops]]/\k<=4/\(∀j,j<4*i+k->fI d a back j=false)) rfl ?_ ?_
   ·intro au aq
    refine⟨_,⟨0,rfl,aq.sub ⟨rfl,rfl,rfl,rfl,rfl,rfl,trivial⟩,S3.pick [0,1] [_,_] (by decide) ⟨rfl,rfl,trivial⟩,?cx,?dC⟩⟩
    case cx=>omega
    case dC=>(intro j hj;exact hno j (by omega))
   ·rintro m2 a2 w4 ⟨k,rfl,cB,S4,hk,zH⟩
    clear S3
    refine bX cB (c:=Z5q) rfl ?_
    clear cB a2
    refine U2 Z5r Z5s rfl rfl rfl (U2 Z5t Z5u rfl rfl rfl (U0 rfl (ag 0 1 rfl rfl (af 1 rfl (bS rfl rfl rfl) (U5 rfl (ah [1,2,3,6,7,8,18] rfl (U3 ?_)))))))
    refine Uf Z5v Z5w rfl rfl rfl rfl (fun lN=>?_) (fun lN=>?_)
    ·refine Ue rfl (ah [1,2,3,6,7,8] rfl (U3 (U2 Z5x Z5y rfl rfl rfl (Uc Z5z 3 rfl rfl rfl (U2 Z60 Z61 rfl rfl rfl (U0 rfl (ag 0 2 rfl rfl (af 2 rfl (run_build (l:=[_,_]) rfl rfl pN rfl rfl) ?_))))))))
     refine ak 3 4 rfl rfl rfl (Uh (l:=[_,_]) rfl rfl rfl nJ rfl S4 ?_)
     intro bz w5 S5;clear S4
     refine ak 4 5 rfl rfl rfl (U6 (i:=0) (us:=[_,_]) (l':=[_,_]) (H':=[_,_,_]) rfl rfl S5 rfl rfl rfl rfl gM rfl rfl rfl rfl ?_)
     intro w6 S6;clear S5
     refine U5 rfl (ah [1,2,3,6,7,8,9] rfl (U3 (U2 Z62 Z63 rfl rfl rfl (U0 rfl (af 0 rfl (U8 (us:=[_,_]) rfl rfl ay rfl aA (S6.aw (i:=2) rfl ⟨rfl,rfl,trivial⟩)) (af 1 rfl (U8 (us:=[_,_]) rfl rfl dH rfl gM (S6.aw (i:=0) rfl ⟨rfl,rfl,trivial⟩)) (ak 2 3 rfl rfl rfl (cS rfl rfl rfl rfl rfl rfl rfl qO S6 (qm d i k (az.mono S6.Uy) (by omega) (by omega) S6.aD) ?_))))))))
     rintro _ w7 S7 rfl;clear S6
     refine ag 3 1 rfl rfl (af 4 rfl (bR rfl rfl rfl) (ag 5 1 rfl rfl ?_))
     refine Uw (t:=29) rfl (fun uP=>?_) (fun uP=>?_)
     ·refine aH 6 7 rfl rfl rfl rfl rfl rfl rfl rfl (Ub rfl rfl (U8 (us:=[_,_]) rfl rfl ay rfl aA (S7.aw (i:=2) rfl ⟨rfl,rfl,trivial⟩)) (aH 7 8 rfl rfl rfl rfl rfl rfl rfl rfl (Ub rfl rfl (U8 (us:=[_,_]) rfl rfl dH rfl gM (S7.aw (i:=0) rfl ⟨rfl,rfl,trivial⟩)) (aH 8 9 rfl rfl rfl rfl rfl rfl rfl rfl (cS rfl rfl rfl rfl rfl rfl rfl aeM S7 (acu d i k (az.mono S7.Uy) (by omega) (by omega) S7.aD) ?_)))))
      rintro _ w8 S8 rfl;clear S7
      refine ag 9 1 rfl rfl (aH 10 11 rfl rfl rfl rfl rfl rfl rfl rfl (Ub rfl rfl (ajM rfl rfl rfl dL) (ag 11 1 rfl rfl (U5 rfl (ah [1,2,3,6,7,8,9,35] rfl (U3 ?_))))))
      refine dN Z64 Z65 rfl rfl rfl rfl (fun uV=>?_) (fun uV=>?_)
      ·refine U2 Z66 Z67 rfl rfl rfl (U0 rfl (af 0 rfl (U8 (us:=[_,_]) rfl rfl dH rfl gM (S8.aw (i:=0) rfl ⟨rfl,rfl,trivial⟩)) (ak 1 2 rfl rfl rfl (U6 (i:=1) (us:=[_,_]) (l':=[_,_]) (H':=[_,_,_]) rfl rfl S8 rfl rfl rfl rfl gM rfl rfl rfl rfl ?_))))
       intro w9 S9;clear S8
       refine U5 rfl (ah [6] rfl (U3 (Uk hC [_] rfl rfl ⟨⟨_,rfl,Um (us:=[_,_]) dH rfl gM (S9.aw (i:=1) rfl ⟨rfl,rfl,trivial⟩)⟩,trivial⟩ ?_)))
       exact⟨_,rfl,(S9.pick [] [] (by decide) trivial),(by first|(rw[aaz (fun j hj=>hno j (by omega))];rfl)|(rw[Gh (j:=4*i+k) (by omega) (by rw[rU (by omega),decide_eq_true (by omega)];simpa using uV) zH,show(4*i+k)/4=i by omega,show(4*i+k)%4=k by omega];rfl))⟩
      ·refine Ue rfl (bj (ah [1,2,3,6,7,8] rfl (U3 (U0 rfl (ag 0 1 rfl rfl (af 1 rfl (Ug rfl rfl rfl (by first|omega|(simp only[ls];omega))) ?_))))))
       refine ag 2 1 rfl rfl (U5 rfl (aO ?_))
       intro au aq
       refine⟨_,?lM,⟨k+1,rfl,aq.sub ⟨rfl,rfl,rfl,rfl,rfl,rfl,trivial⟩,S8.pick [1,2] [_,_] (by decide) ⟨rfl,rfl,trivial⟩,?eB,?gu⟩⟩
       case eB=>omega
       case gu=>(intro j hj;by_cases h:j=4*i+k;(subst h;rw[rU (by omega)];first|(rw[decide_eq_false (by omega)];rfl)|(rw[Bool.and_eq_false_iff];right;simpa using uV));exact zH j (by omega))
       case lM=>omega
     ·refine ag 6 6 rfl rfl (U5 rfl (ah [1,2,3,6,7,8,9,35] rfl (U3 (jz Z65 rfl rfl rfl (Ue rfl (bj (ah [1,2,3,6,7,8] rfl (U3 ?_))))))))
      refine U0 rfl (ag 0 1 rfl rfl (af 1 rfl (Ug rfl rfl rfl (by first|omega|(simp only[ls];omega))) ?_))
      refine ag 2 1 rfl rfl (U5 rfl (aO ?_))
      intro au aq
      refine⟨_,?kx,⟨k+1,rfl,aq.sub ⟨rfl,rfl,rfl,rfl,rfl,rfl,trivial⟩,S7.pick [1,2] [_,_] (by decide) ⟨rfl,rfl,trivial⟩,?eW,?gq⟩⟩
      case eW=>omega
      case gq=>(intro j hj;by_cases h:j=4*i+k;(subst h;rw[rU (by omega)];first|(rw[decide_eq_false (by omega)];rfl)|(rw[Bool.and_eq_false_iff];right;simpa using uV));exact zH j (by omega))
      case kx=>omega
    ·refine bP rfl rfl (bj (ah [1,2,3,6,7] rfl (U3 (U0 rfl (ag 0 1 rfl rfl (af 1 rfl (Ug rfl rfl rfl (by first|omega|(simp only[ls];omega))) ?_))))))
     refine ag 2 1 rfl rfl (U5 rfl (aO ?_))
     intro au aq
     refine⟨_,?kv,⟨i+1,rfl,aq.sub ⟨rfl,rfl,rfl,rfl,rfl,trivial⟩,S4.pick [0,1] [_,_] (by decide) ⟨rfl,rfl,trivial⟩,?fC,?gp⟩⟩
     case fC=>omega
     case gp=>(intro j hj;exact zH j (by omega))
     case kv=>omega
  ·refine bP rfl rfl (ah [6] rfl (U3 (U2 Z68 Z69 rfl rfl rfl (U0 rfl (af 0 rfl (run_build (l:=[_,_]) rfl rfl pN rfl rfl) (ak 1 2 rfl rfl rfl (U6 (i:=0) (us:=[_,_]) (l':=[_,_]) (H':=[_,_]) rfl rfl S3 rfl rfl rfl rfl gM rfl rfl rfl rfl ?_)))))))
   intro jT bw;clear S3
   refine U5 rfl (ah [6] rfl (U3 (Uk hC [_] rfl rfl ⟨⟨_,rfl,Um (us:=[_,_]) dH rfl gM (bw.aw (i:=0) rfl ⟨rfl,rfl,trivial⟩)⟩,trivial⟩ ?_)))
   exact⟨_,rfl,(bw.pick [] [] (by decide) trivial),(by first|(rw[aaz (fun j hj=>hno j (by omega))];rfl)|(rw[Gh (j:=4*i+k) (by omega) (by rw[rU (by omega),decide_eq_true (by omega)];simpa using uV) zH,show(4*i+k)/4=i by omega,show(4*i+k)%4=k by omega];rfl))⟩
noncomputable def Z6a:=Tryz.f131.body.getD .skip
def Z6b:=cL Z6a
def Z6c:=cR Z6a
def Z6d:=cL Z6c
def Z6e:=cR Z6c
def Z6f:=cL Z6e
def Z6g:=cR Z6e
def Z6h:=cL Z6g
def Z6i:=cR Z6g
set_option maxRecDepth 10000 in
theorem ahQ{w:World}{M:Hp}{X:Fr}(d:Dg){aV:Option Addr}{aU:Nat}(x:Da)(az:aG aF (M.un X.h) aV aU d.ae)(hab:aN d=true)(hx:okD d x)(S:SH w M X []):Cq Tryz.prog 131 [.agg [.slice aV d.ae.length aU,.int .i64 d.loops].toArray,.agg [.int .i64 x.a,.bool x.b].toArray] w M X (fun u=>u=.agg (yc (jR d x)).toArray):=by
 unfold Cq
 have gV:d.ae.length*40<=140737488355328:=az.room
 obtain⟨ny,pX,pg,RR,RQ⟩:=eF hab hx x.b
 have aef:((Ud d x.a x.b).2+3)%4<4:=Nat.mod_lt _ (by decide)
 refine Up (b:=Z6a) Tryz.func131 rfl Tryz.ntmps131 rfl (fun C hC=>(bq [(0,_),(1,_)] ⟨rfl,rfl,trivial⟩ (U2 Z6b Z6c rfl rfl rfl (U0 rfl (ak 0 1 rfl rfl rfl (bE (l:=[_,_]) rfl rfl rfl rfl rfl S ?_))))))
 intro aI w1 S1;clear S
 refine ak 1 2 rfl rfl rfl (bE (l:=[_,_]) rfl rfl rfl rfl rfl S1 ?_)
 intro aQ w2 S2;clear S1
 refine ak 2 3 rfl rfl rfl (Uh (l:=[_,_]) rfl rfl rfl nN rfl S2 ?_)
 intro bz w3 S3;clear S2
 refine U5 rfl (ah [2,3,4] rfl (U3 (U2 Z6d Z6e rfl rfl rfl (U0 rfl (af 0 rfl (U8 (us:=[_,_]) rfl rfl ay rfl aA (S3.aw (i:=2) rfl ⟨rfl,rfl,trivial⟩)) (af 1 rfl (U1 rfl rfl aZ rfl (aC) (aB)) (af 2 rfl (U4 rfl rfl av rfl (S3.ar (i:=1) rfl rfl)) (af 3 rfl (U1 rfl rfl aZ rfl (gI) (gH)) ?_))))))))
 refine af 4 rfl (U4 rfl rfl dL rfl (S3.ar (i:=1) rfl rfl)) (ak 5 6 rfl rfl rfl (cS rfl rfl rfl rfl rfl rfl rfl mE S3 (mP d x.a x.b (az.mono S3.Uy) S3.aD) ?_))
 rintro _ w4 S4 rfl;clear S3
 refine ak 6 7 rfl rfl rfl (Uh (l:=[_,_]) rfl rfl rfl nJ rfl S4 ?_)
 intro gZ w5 S5;clear S4
 refine ak 7 8 rfl rfl rfl (U6 (i:=0) (us:=[_,_]) (l':=[_,_]) (H':=[_,_,_,_]) rfl rfl S5 rfl rfl rfl rfl gM rfl rfl rfl rfl ?_)
 intro w6 S6;clear S5
 refine U5 rfl (ah [2,4,5] rfl (U3 (U2 Z6f Z6g rfl rfl rfl (U0 rfl (af 0 rfl (U1 rfl rfl dH rfl (aC) (aB)) (af 1 rfl (U4 rfl rfl av rfl (S6.ar (i:=0) rfl rfl)) (af 2 rfl (U1 rfl rfl dH rfl (aC) (aB)) (af 3 rfl (U4 rfl rfl av rfl (S6.ar (i:=0) rfl rfl)) ?_))))))))
 refine af 4 rfl (Ug rfl rfl rfl (by first|omega|(simp only[ls];omega))) ?_
 refine af 5 rfl (jY rfl rfl rfl (by first|omega|(simp only[ls];omega))) ?_
 refine cy 18 (.int .i64 ((((Ud d x.a x.b).2+3)%4:Nat):Int)) rfl (int_eq (by omega)) ?_
 refine af 6 rfl (run_build (l:=[_,_]) rfl rfl pN rfl rfl) (ak 7 8 rfl rfl rfl (Uh (l:=[_,_]) rfl rfl rfl nJ rfl S6 ?_))
 intro iy w7 S7;clear S6
 refine ak 8 9 rfl rfl rfl (U6 (i:=0) (us:=[_,_]) (l':=[_,_]) (H':=[_,_,_,_,_]) rfl rfl S7 rfl rfl rfl rfl gM rfl rfl rfl rfl ?_)
 intro w8 S8;clear S7
 refine U5 rfl (ah [2,4,6] rfl (U3 (U2 Z6h Z6i rfl rfl rfl (bM rfl (by kernel_rfl) S8 8 rfl ?_))))
 clear S8
 refine aj 0 7 rfl (by kernel_rfl) (fun _ _ _ hz Sz=>.inl (U8 (us:=[_,_]) rfl rfl ay rfl aA (Sz.suf.aw (i:=4) rfl ⟨rfl,rfl,trivial⟩))) ?_
 refine aj 1 6 rfl (by kernel_rfl) (fun _ _ _ hz Sz=>.inl (U8 (us:=[_,_]) rfl rfl dH rfl gM (Sz.suf.aw (i:=0) rfl ⟨rfl,rfl,trivial⟩))) ?_
 refine aj 2 5 rfl (by kernel_rfl) (fun _ _ _ hz Sz=>Ur rfl rfl rfl rfl rfl qO Sz (qm d ((Ud d x.a x.b).1) (((Ud d x.a x.b).2+3)%4) ((az.mono (Hp.Ua hz Sz.mx)).mono Sz.Uy) (by omega) (by omega) Sz.aD)) ?_
 refine aj 3 4 rfl (by kernel_rfl) (fun _ _ _ hz Sz=>.inl (U8 (us:=[_,_]) rfl rfl ay rfl aA (Sz.suf.aw (i:=4) rfl ⟨rfl,rfl,trivial⟩))) ?_
 refine aj 4 3 rfl (by kernel_rfl) (fun _ _ _ hz Sz=>.inl (U8 (us:=[_,_]) rfl rfl dH rfl gM (Sz.suf.aw (i:=0) rfl ⟨rfl,rfl,trivial⟩))) ?_
 refine aj 5 2 rfl (by kernel_rfl) (fun _ _ _ hz Sz=>Ur rfl rfl rfl rfl rfl aeM Sz (acu d ((Ud d x.a x.b).1) (((Ud d x.a x.b).2+3)%4) ((az.mono (Hp.Ua hz Sz.mx)).mono Sz.Uy) (by omega) (by omega) Sz.aD)) ?_
 refine aj 6 1 rfl (by kernel_rfl) (fun _ _ _ hz Sz=>.inl (run_build (l:=[_,_]) rfl rfl zD rfl rfl)) ?_
 refine Un (i:=7) 0 rfl (by kernel_rfl) rfl rfl (fun kU bF=>?_)
 refine(U6 (i:=2) (us:=[_,_]) (l':=[_,_]) (H':=[_,_,_,_,_]) rfl rfl bF rfl rfl rfl rfl cC rfl rfl rfl rfl ?_)
 intro tA bU;clear bF
 refine aP.turn (by kernel_rfl) bU ?_;clear bU
 change WA _ _ _ _ _ _ _ _ _ _ _ _ [_,_,_,_,_]
 refine Uu (by kernel_rfl) (fun oZ dP=>?_)
 refine ah [4] rfl (U3 (Uk hC [_] rfl rfl ⟨⟨_,rfl,Um (us:=[_,_]) aZ rfl cC (dP.aw (i:=2) rfl ⟨rfl,rfl,trivial⟩)⟩,trivial⟩ ?_))
 exact⟨_,rfl,(dP.pick [] [] (by decide) trivial),rfl⟩
noncomputable def Z6j:=Tryz.f130.body.getD .skip
def Z6k:=cL Z6j
def Z6l:=cR Z6j
def Z6m:=cL Z6l
def Z6n:=cR Z6l
def Z6o:=cL Z6m
def Z6p:=cR Z6m
def Z6q:=cL Z6p
def Z6r:=cR Z6p
def Z6s:=cL Z6q
def Z6t:=cR Z6q
def Z6u:=cL Z6n
def Z6v:=cR Z6n
set_option maxRecDepth 10000 in
theorem aaA{w:World}{M:Hp}{X:Fr}(x:Da)(hx:1<=x.a/\x.a<=1000)(S:SH w M X []):Cq Tryz.prog 130 [.agg [.int .i64 x.a,.bool x.b].toArray] w M X (fun u=>u=.int .i64 (jX x:Int)):=by
 unfold Cq
 refine Up (b:=Z6j) Tryz.func130 rfl Tryz.ntmps130 rfl (fun C hC=>(bq [(0,_)] ⟨rfl,trivial⟩ (U2 Z6k Z6l rfl rfl rfl (U0 rfl (ak 0 1 rfl rfl rfl (bE (l:=[_,_]) rfl rfl rfl rfl rfl S ?_))))))
 intro aI w1 S1;clear S
 refine ag 1 1 rfl rfl (U5 rfl (ah [1] rfl (U3 (U2 Z6m Z6n rfl rfl rfl (U2 Z6o Z6p rfl rfl rfl (U0 rfl (af 0 rfl (U1 rfl rfl aZ rfl (gI) (gH)) (af 1 rfl (U4 rfl rfl dL rfl (S1.ar (i:=0) rfl rfl)) ?_))))))))
 refine U5 rfl (ah [1,4] rfl (U3 ?_))
 refine dN Z6q Z6r rfl rfl rfl rfl (fun hb4=>?_) (fun hb4=>?_)
 ·refine U2 Z6s Z6t rfl rfl rfl (U0 rfl (af 0 rfl (U1 rfl rfl aZ rfl (aC) (aB)) (af 1 rfl (U4 rfl rfl av rfl (S1.ar (i:=0) rfl rfl)) (af 2 rfl (jh rfl rfl rfl (by first|omega|(simp only[ls];omega))) ?_))))
  refine af 3 rfl (Ug rfl rfl rfl (by first|omega|(simp only[ls];omega))) ?_
  refine ag 4 1 rfl rfl (U5 rfl (ah [2] rfl (U3 (Uk hC [_] rfl rfl ⟨rfl,trivial⟩ ?_))))
  exact⟨_,rfl,(S1.pick [] [] (by decide) trivial),(by show Value.int _ _=_;refine congrArg (Value.int .i64) ?_;unfold jX;rw[hb4];first|(rw[if_pos rfl];omega)|(rw[if_neg Bool.false_ne_true];omega))⟩
 ·refine Ue rfl (ah [1] rfl (U3 (U2 Z6u Z6v rfl rfl rfl (U0 rfl (af 0 rfl (U1 rfl rfl aZ rfl (aC) (aB)) (af 1 rfl (U4 rfl rfl av rfl (S1.ar (i:=0) rfl rfl)) (af 2 rfl (jh rfl rfl rfl (by first|omega|(simp only[ls];omega))) ?_)))))))
  refine ag 3 1 rfl rfl (U5 rfl (ah [2] rfl (U3 (Uk hC [_] rfl rfl ⟨rfl,trivial⟩ ?_))))
  exact⟨_,rfl,(S1.pick [] [] (by decide) trivial),(by show Value.int _ _=_;refine congrArg (Value.int .i64) ?_;unfold jX;rw[hb4];first|(rw[if_pos rfl];omega)|(rw[if_neg Bool.false_ne_true];omega))⟩
noncomputable def Z6w:=Tryz.f74.body.getD .skip
def Z6x:=cL Z6w
def Z6y:=cR Z6w
def Z6z:=cL Z6y
def Z70:=cR Z6y
def Z71:=cL Z70
def Z72:=cR Z70
def Z73:=cL Z72
def Z74:=cR Z72
def Z75:=cL Z74
def Z76:=cR Z74
def Z77:=cL Z75
def Z78:=cR Z75
def Z79:=cL Z78
def Z7a:=cL Z79
def Z7b:=cL Z7a
def Z7c:=cR Z7a
def Z7d:=cL Z7b
def Z7e:=cR Z7b
def Z7f:=cL Z7e
def Z7g:=cR Z7e
def Z7h:=cL Z7c
def Z7i:=cR Z7c
def Z7j:=cL Z7h
def Z7k:=cL Z7j
def Z7l:=cR Z7j
def Z7m:=cL Z7k
def Z7n:=cR Z7k
def Z7o:=cL Z7n
def Z7p:=cR Z7n
def Z7q:=cL Z7l
def Z7r:=cR Z7l
def Z7s:=cL Z7r
def Z7t:=cR Z7r
def Z7u:=cL Z7t
def Z7v:=cR Z7t
def Z7w:=cL Z7u
def Z7x:=cL Z7w
def Z7y:=cL Z7x
def Z7z:=cR Z7x
def Z80:=cL Z7y
def Z81:=cR Z7y
def Z82:=cL Z81
def Z83:=cR Z81
def Z84:=cL Z7z
def Z85:=cL Z84
def Z86:=cR Z84
def Z87:=cL Z86
def Z88:=cR Z86
def Z89:=cL Z76
def Z8a:=cR Z76
set_option maxHeartbeats 1000000 in
set_option maxRecDepth 10000 in
theorem BU{w:World}{M:Hp}{X:Fr}(d:Dg){aV:Option Addr}{aU:Nat}(az:aG aF (M.un X.h) aV aU d.ae)(hn:d.ae.length<=16)(hab:aN d=true)(S:SH w M X []):Ct Tryz.prog 74 [.agg [.slice aV d.ae.length aU,.int .i64 d.loops].toArray] w M X (HQ d):=by
 unfold Ct
 have gV:d.ae.length*40<=140737488355328:=az.room
 refine Up (b:=Z6w) Tryz.func74 rfl Tryz.ntmps74 rfl (fun C hC=>(bq [(0,_)] ⟨rfl,trivial⟩ (U2 Z6x Z6y rfl rfl rfl (U0 rfl (ak 0 1 rfl rfl rfl (bE (l:=[_,_]) rfl rfl rfl rfl rfl S ?_))))))
 intro aI w1 S1;clear S
 refine ag 1 1 rfl rfl (U5 rfl (ah [1] rfl (U3 (U2 Z6z Z70 rfl rfl rfl (U0 rfl (af 0 rfl (U1 rfl rfl ay rfl (bK) (bJ)) (af 1 rfl (U4 rfl rfl bt rfl (S1.ar (i:=0) rfl rfl)) (af 2 rfl (cU rfl rfl rfl rfl rfl rfl bt) ?_))))))))
 refine af 3 rfl (jh rfl rfl rfl (by first|omega|(simp only[ls];omega))) ?_
 refine af 4 rfl (Ug rfl rfl rfl (by first|omega|(simp only[ls];omega))) ?_
 refine ag 5 1 rfl rfl (U5 rfl (ah [1,3] rfl (U3 (U2 Z71 Z72 rfl rfl rfl (U0 rfl (ag 0 1 rfl rfl (ak 1 2 rfl rfl rfl (qj (C:=ib) ((4*(d.ae.length:Int)).toNat+2) rfl rfl rfl rfl rfl nL (by first|rfl|omega) (by show _*1<=_;first|omega|(simp only[ls];omega)) S1 ?_))))))))
 intro AL w2 S2;clear S1
 refine ag 2 1 rfl rfl (U5 rfl (ah [1,3,4] rfl (U3 (U2 Z73 Z74 rfl rfl rfl (U0 rfl (ag 0 1 rfl rfl (U5 rfl (U3 ?_))))))))
 refine U2 Z75 Z76 rfl rfl rfl (U2 Z77 Z78 rfl rfl rfl (U0 rfl (ag 0 1 rfl rfl (U5 rfl (U3 (Uc Z79 0 rfl rfl rfl ?_))))))
 have S3:=S2.nH (di 141);clear S2
 refine Ux (fun aS au aM=>∃(k:Nat) (seen:List Bool) (jb:List (List Int)) (vs:List fO) (vB:Value) (fM:Value) (M1:Hp),M.le M1/\aS=4*d.ae.length-k/\Env 53 [(1,.pointer (some ⟨aI,0,none⟩)),(3,.int .i64 ((4*(d.ae.length:Int))+2)),(4,vB),(5,fM),(6,.int .i64 ((k+2:Nat):Int))] au/\SH aM M1 X [Rs.row (di 141) fM vs,Rs.row ib vB seen,Rs.box aI 24 [.slice aV d.ae.length aU,.int .i64 d.loops]]/\k<=4*d.ae.length/\ey d k=(seen,jb)/\fy cu M1 vs (jb.map iL)) rfl ?_ ?_
 ·intro au aq
  refine⟨_,⟨0,_,[],_,_,_,_,Hp.le_refl _,rfl,aq.sub ⟨rfl,rfl,rfl,rfl,rfl,trivial⟩,S3.pick [0,1,2] [_,_,_] (by decide) ⟨rfl,rfl,rfl,trivial⟩,?cd,?dm,?mW⟩⟩
  case cd=>omega
  case dm=>(unfold ey;first|rfl|(congr 1))
  case mW=>first|exact fy.eX|(rw[e9];exact fy.eX)
 ·rintro m1 a1 w3 ⟨k,seen,jb,vs,vB,fM,M1,aL,rfl,aY,S4,hk,hfn,fJ⟩
  clear S3
  refine bX aY (c:=Z7a) rfl ?_
  clear aY a1
  replace az:=az.mono (Hp.Ua aL S4.mx)
  have hvs:=fJ.1
  rw[List.length_map]at hvs
  have lD:=BF d k
  rw[hfn]at lD
  replace lD:jb.length<=k:=lD
  have hsl:seen.length=4*d.ae.length+2:=by have h9:=vV d k;rw[hfn]at h9;exact h9
  refine U2 Z7b Z7c rfl rfl rfl (U2 Z7d Z7e rfl rfl rfl (U0 rfl (ag 0 2 rfl rfl (af 2 rfl (bS rfl rfl rfl) (U5 rfl (ah [1,3,4,5,6,18] rfl (U3 ?_)))))))
  refine Uf Z7f Z7g rfl rfl rfl rfl (fun lN=>?_) (fun lN=>?_)
  ·refine Ue rfl (ah [1,3,4,5,6] rfl (U3 (U2 Z7h Z7i rfl rfl rfl (Uc Z7j 1 rfl rfl rfl (U2 Z7k Z7l rfl rfl rfl (U2 Z7m Z7n rfl rfl rfl (U0 rfl (ag 0 2 rfl rfl ?_))))))))
   refine af 2 rfl (Uj (C:=ib) (i:=1) (k+2) rfl rfl rfl nL S4 rfl (by first|rfl|omega) (by first|omega|(simp only[ls];omega))) ?_
   refine af 3 rfl (U4 rfl rfl dL rfl (S4.dW (i:=1) (e:=k+2) (j:=0) rfl (by first|omega|(simp only[ls];omega)) rfl rfl)) ?_
   refine U5 rfl (ah [1,3,4,5,6,24] rfl (U3 ?_))
   refine dN Z7o Z7p rfl rfl rfl rfl (fun mC=>?_) (fun mC=>?_)
   ·refine bP rfl rfl (ah [1,3,4,5,6] rfl (U3 (U0 rfl (ag 0 1 rfl rfl (af 1 rfl (Ug rfl rfl rfl (by first|omega|(simp only[ls];omega))) ?_)))))
    refine ag 2 1 rfl rfl (U5 rfl (aO ?_))
    intro au aq
    refine⟨_,?dQ,⟨k+1,_,jb,_,_,_,_,(aL),rfl,aq.sub ⟨rfl,rfl,rfl,rfl,rfl,trivial⟩,S4.pick [0,1,2] [_,_,_] (by decide) ⟨rfl,rfl,rfl,trivial⟩,?cx,?dC,?lC⟩⟩
    case cx=>omega
    case dC=>first|exact rK hfn mC|exact rJ hfn (by simpa using mC) (hrg.trans (F3 (by simpa using sQ)))
    case lC=>first|exact fJ|(rw[e9];exact fJ)
    case dQ=>omega
   ·refine Ue rfl (ah [1,3,4,5,6] rfl (U3 (U2 Z7q Z7r rfl rfl rfl (U0 rfl (ag 0 1 rfl rfl (U5 rfl (U3 (U2 Z7s Z7t rfl rfl rfl ?_))))))))
    refine U0 rfl (ag 0 1 rfl rfl (af 1 rfl (ajJ rfl rfl rfl (by first|omega|(simp only[ls];omega))) ?_))
    refine ag 2 1 rfl rfl (af 3 rfl (jY rfl rfl rfl (by first|omega|(simp only[ls];omega))) ?_)
    refine af 4 rfl (bR rfl rfl rfl) (cy 26 (.int .i64 ((dA (k+2)).a)) rfl (int_eq (by show _=(((k+2)/2:Nat):Int);omega)) ?_)
    refine cy 29 (.bool ((dA (k+2)).b)) rfl (congrArg Value.bool (by show _=decide _;exact decide_eq_decide.2 (by omega))) ?_
    refine af 5 rfl (run_build (l:=[_,_]) rfl rfl zD rfl rfl) (ak 6 7 rfl rfl rfl (Uh (l:=[_,_]) rfl rfl rfl nN rfl S4 ?_))
    intro aQ w4 S5;clear S4
    refine ak 7 8 rfl rfl rfl (U6 (i:=0) (us:=[_,_]) (l':=[_,_]) (H':=[_,_,_,_]) rfl rfl S5 rfl rfl rfl rfl cC rfl rfl rfl rfl ?_)
    intro w5 S6;clear S5
    refine U5 rfl (ah [1,3,4,5,6,7,8] rfl (U3 (U2 Z7u Z7v rfl rfl rfl (Uc Z7w 2 rfl rfl rfl ?_))))
    have S7:=S6.nH cu;clear S6
    refine Ux (fun aS au aM=>∃(gj:List Bool) (x:Nat) (y:Da) (acc:List Int) (mo:List Da) (uH:Value) (uk:Value),aS=free gj/\Env 53 [(1,.pointer (some ⟨aI,0,none⟩)),(3,.int .i64 ((4*(d.ae.length:Int))+2)),(4,uH),(5,fM),(6,.int .i64 ((k+2:Nat):Int)),(7,uk),(8,.pointer (some ⟨aQ,0,none⟩))] au/\SH aM M1 X [Rs.row cu uk mo,Rs.box aQ 26 [.int .i64 y.a,.bool y.b],Rs.row (di 141) fM vs,Rs.row ib uH gj,Rs.box aI 24 [.slice aV d.ae.length aU,.int .i64 d.loops]]/\eY (cQ d) seen (k+2) []=eY (cQ d) gj x acc/\mo=iL acc/\(2<=x/\x<4*d.ae.length+2)/\gj.length=4*d.ae.length+2/\y=dA x/\acc.length+free gj<=100) rfl ?_ ?_
    ·intro au aq
     refine⟨_,⟨seen,k+2,(dA (k+2)),[],_,_,_,rfl,aq.sub ⟨rfl,rfl,rfl,rfl,rfl,rfl,rfl,trivial⟩,S7.pick [0,1,2,3,4] [_,_,_,_,_] (by decide) ⟨rfl,rfl,rfl,rfl,rfl,trivial⟩,?eB,?gu,?qs,?zr,?Ij,?amr⟩⟩
     case eB=>rfl
     case gu=>rfl
     case qs=>omega
     case zr=>exact hsl
     case Ij=>rfl
     case amr=>(have h8:free seen<=seen.length:=List.countP_le_length;simp only[List.length_nil];omega)
    ·rintro m2 a2 w6 ⟨gj,x,y,acc,mo,uH,uk,rfl,cB,S8,hrg,uy,hx,hs2,hy,hroom⟩
     clear S7
     refine bX cB (c:=Z7x) rfl ?_
     clear cB a2
     have hyk:okD d y:=by rw[hy];exact kN hx
     have ayu:=hyk.1
     have ayt:=hyk.2
     have hrl:mo.length=acc.length:=by rw[uy];simp[iL]
     have lZ:jX y=x:=by rw[hy];exact wR x
     refine U2 Z7y Z7z rfl rfl rfl (U2 Z80 Z81 rfl rfl rfl (U0 rfl (ag 0 1 rfl rfl (af 1 rfl (U8 (us:=[_,_]) rfl rfl aZ rfl cC (S8.aw (i:=1) rfl ⟨rfl,rfl,trivial⟩)) (ak 2 3 rfl rfl rfl (cS rfl rfl rfl rfl rfl rfl rfl adA S8 (aaA y ((by omega)) S8.aD) ?_))))))
     rintro _ w7 S9 rfl;clear S8
     refine cy 33 (.int .i64 (x:Int)) rfl (int_eq (by rw[lZ])) ?_
     refine af 3 rfl (Uj (C:=ib) (i:=3) x rfl rfl rfl nL S9 rfl (by first|rfl|omega) (by first|omega|(simp only[ls];omega))) ?_
     refine af 4 rfl (U4 rfl rfl dL rfl (S9.dW (i:=3) (e:=x) (j:=0) rfl (by first|omega|(simp only[ls];omega)) rfl rfl)) ?_
     refine af 5 rfl (dS rfl rfl) (U5 rfl (ah [1,3,4,5,6,7,8,36] rfl (U3 ?_)))
     refine dN Z82 Z83 rfl rfl rfl rfl (fun sQ=>?_) (fun sQ=>?_)
     ·simp only[Bool.and_eq_true,Bool.or_eq_true,Bool.and_eq_false_iff,Bool.or_eq_false_iff,decide_eq_true_eq,decide_eq_false_iff_not,Bool.not_eq_true',Bool.not_eq_false']at sQ
      refine Ue rfl (ah [1,3,4,5,6,7,8] rfl (U3 (Uc Z84 3 rfl rfl rfl (U2 Z85 Z86 rfl rfl rfl (U0 rfl (ag 0 1 rfl rfl (af 1 rfl (U8 (us:=[_,_]) rfl rfl aZ rfl cC (S9.aw (i:=1) rfl ⟨rfl,rfl,trivial⟩)) (ak 2 3 rfl rfl rfl (cS rfl rfl rfl rfl rfl rfl rfl adA S9 (aaA y ((by omega)) S9.aD) ?_)))))))))
      rintro _ w8 bw rfl;clear S9
      refine cy 39 (.int .i64 (x:Int)) rfl (int_eq (by rw[lZ])) ?_
      refine af 3 rfl (Uj (C:=ib) (i:=3) x rfl rfl rfl nL bw rfl (by first|rfl|omega) (by first|omega|(simp only[ls];omega))) ?_
      refine ak 4 5 rfl rfl rfl (ig (C:=ib) (i:=3) (e:=x) (j:=0) (us:=[_]) (H':=[_,_,_,_,_]) true rfl rfl bw rfl (by first|omega|(simp only[ls];omega)) rfl rfl rfl xU rfl rfl rfl rfl ?_)
      intro w9 bW;clear bw
      refine U5 rfl (ah [1,3,4,5,6,7,8] rfl (U3 (U2 Z87 Z88 rfl rfl rfl (U0 rfl (ag 0 1 rfl rfl (af 1 rfl (U8 (us:=[_,_]) rfl rfl aZ rfl cC (bW.aw (i:=1) rfl ⟨rfl,rfl,trivial⟩)) (ak 2 3 rfl rfl rfl (ij (C:=cu) (l:=[_,_]) rfl rfl rfl rfl iF rfl rfl rfl rfl bW ?_))))))))
      intro bz jT bV;clear bW
      refine ak 3 4 rfl rfl rfl (ji (C:=cu) (i:=1) (q:=0) (⟨y.a,y.b⟩:Da) rfl rfl rfl rfl rfl rfl rfl rfl iF bV rfl rfl rfl (by show(_+1)*16<=_;first|omega|(simp only[ls];omega)) ?_)
      intro akI kV bZ;clear bV
      have bI:=bZ.pick [1,2,3,4,5] [_,_,_,_,_] (by decide) ⟨rfl,rfl,rfl,rfl,rfl,trivial⟩;clear bZ
      refine ag 4 1 rfl rfl (U5 rfl (ah [1,3,4,5,6,7,8] rfl (U3 (U0 rfl (af 0 rfl (U8 (us:=[_,_]) rfl rfl ay rfl aA (bI.aw (i:=4) rfl ⟨rfl,rfl,trivial⟩)) (af 1 rfl (U8 (us:=[_,_]) rfl rfl aZ rfl cC (bI.aw (i:=1) rfl ⟨rfl,rfl,trivial⟩)) (ak 2 3 rfl rfl rfl (cS rfl rfl rfl rfl rfl rfl rfl ant bI (ahQ d y (az.mono bI.Uy) (hab) ((by first|assumption|omega)) bI.aD) ?_))))))))
      rintro _ lU bO rfl;clear bI
      refine ak 3 4 rfl rfl rfl (U6 (i:=1) (us:=[_,_]) (l':=[_,_]) (H':=[_,_,_,_,_]) rfl rfl bO rfl rfl rfl rfl cC rfl rfl rfl rfl ?_)
      intro kz cm;clear bO
      refine U5 rfl (bj (aO ?_))
      have rC:ga gj x=false:=by simpa using sQ
      have Be:=nC (seen:=gj) (x:=x) (by omega) rC
      intro au aq
      refine⟨_,?kx,⟨gj.set x true,cQ d x,jR d y,acc++[(x:Int)],_,_,_,rfl,aq.sub ⟨rfl,rfl,rfl,rfl,rfl,rfl,rfl,trivial⟩,cm.pick [0,1,2,3,4] [_,_,_,_,_] (by decide) ⟨rfl,rfl,rfl,rfl,rfl,trivial⟩,?eW,?gq,?oG,?zq,?Ii,?Ih⟩⟩
      case eW=>(rw[hrg];exact rG (by omega) rC)
      case gq=>(rw[aaZ,<-uy,hy])
      case oG=>exact wD hab hx
      case zq=>(rw[List.length_set];exact hs2)
      case Ii=>(rw[hy,ug hab hx])
      case Ih=>(simp only[List.length_append,List.length_cons,List.length_nil];omega)
      case kx=>omega
     ·simp only[Bool.and_eq_true,Bool.or_eq_true,Bool.and_eq_false_iff,Bool.or_eq_false_iff,decide_eq_true_eq,decide_eq_false_iff_not,Bool.not_eq_true',Bool.not_eq_false']at sQ
      refine bP rfl rfl (ah [1,3,4,5,6,7] rfl (U3 (U0 rfl (ag 0 2 rfl rfl ?_))))
      obtain⟨M2,dh,bF,⟨A1,c1,e1,hr1⟩⟩:=S9.fZ (i:=0) (H':=[_,_,_,_,_]) rfl rfl (by show _*16<=_;first|omega|(simp only[ls];omega))
      clear S9;subst e1
      replace az:=az.mono (Hp.Ua dh bF.mx)
      replace fJ:=fJ.mono dh
      refine ak 2 3 rfl rfl rfl (ij (C:=(di 141)) (l:=[_]) rfl rfl rfl rfl kr rfl rfl rfl rfl bF ?_)
      intro gZ jG bU;clear bF
      refine ak 3 4 rfl rfl rfl (ji (C:=(di 141)) (i:=3) (q:=0) (⟨A1,mo.length,c1⟩:fO) rfl rfl rfl rfl rfl rfl rfl rfl kr bU rfl rfl rfl (by show(_+1)*24<=_;first|omega|(simp only[ls];omega)) ?_)
      intro adX nW dP;clear bU
      have cN:=dP.pick [1,2,3,4,5] [_,_,_,_,_] (by decide) ⟨rfl,rfl,rfl,rfl,rfl,trivial⟩;clear dP
      have hd1:=fJ.snoc (c:=c1) hr1
      refine ag 4 1 rfl rfl (U5 rfl (bj (ah [1,3,4,5,6] rfl (U3 (U0 rfl (ag 0 1 rfl rfl (af 1 rfl (Ug rfl rfl rfl (by first|omega|(simp only[ls];omega))) ?_)))))))
      refine ag 2 1 rfl rfl (U5 rfl (aO ?_))
      have hdx:jX y=x:=by rw[hy];exact wR x
      have e9:List.map iL (jb++[acc])=List.map iL jb++[mo]:=by rw[List.map_append,show List.map iL [acc]=[mo]from by rw[uy];rfl]
      intro au aq
      refine⟨_,?kv,⟨k+1,_,(jb++[acc]),_,_,_,_,(aL.trans dh),rfl,aq.sub ⟨rfl,rfl,rfl,rfl,rfl,trivial⟩,cN.pick [2,3,4] [_,_,_] (by decide) ⟨rfl,rfl,rfl,trivial⟩,?fC,?gp,?mV⟩⟩
      case fC=>omega
      case gp=>first|exact rK hfn mC|exact rJ hfn (by simpa using mC) (hrg.trans (F3 (by simpa using sQ)))
      case mV=>first|exact hd1|(rw[e9];exact hd1)
      case kv=>omega
  ·refine bP rfl rfl (ah [5] rfl (U3 (U2 Z89 Z8a rfl rfl rfl (U0 rfl (ag 0 2 rfl rfl (U5 rfl (ah [2] rfl (U3 ?_))))))))
   obtain⟨M3,cE,cM,⟨A2,c2,e2,hr2⟩⟩:=S4.fZ (i:=0) (H':=[_,_,_]) rfl rfl (by show _*24<=_;first|omega|(simp only[ls];omega))
   clear S4;subst e2
   replace az:=az.mono (Hp.Ua cE cM.mx)
   replace fJ:=fJ.mono cE
   refine Uk hC [_] rfl rfl ⟨rfl,trivial⟩ ?_
   refine⟨_,rfl,_,aL.trans cE,(cM.pick [] [] (by decide) trivial),?_⟩
   obtain rfl:k=4*d.ae.length:=by omega
   have e2:U7 d=jb.map iL:=by unfold U7 wQ;rw[hfn]
   unfold HQ
   rw[e2]
   exact⟨_,_,_,rfl,hr2,fJ⟩
end Go.Proofs.YthppkofceancjaaGreat
namespace Go.Proofs.YthppkofceancjaaGreat
open Go.ChangeShapes Go.WideShapes Go.ChangeAt Go.RowKit
def jQ(ws:List Int)(x y:Nat):List Int:=if ga ws x<ga ws y then ws.set y (ga ws x)else ws.set x (ga ws y)
def iniW(n:Nat):Nat->List Int
 |0=>List.replicate n 0
 |k+1=>(iniW n k).set k (k:Int)
def eP(d:Dg)(k:Nat)(b:Bool):Nat:=(Ud d ((k+1:Nat):Int) b).1
def tZ(d:Dg)(ws:List Int):Nat->List Int
 |0=>ws
 |k+1=>jQ (tZ d ws k) (eP d k false) (eP d k true)
def uu(d:Dg):Nat->List Int
 |0=>iniW d.ae.length d.ae.length
 |j+1=>tZ d (uu d j) (2*d.ae.length)
def fK(d:Dg):List Int:=uu d d.ae.length
theorem F7(ws:List Int)(x y:Nat):(jQ ws x y).length=ws.length:=by
 unfold jQ
 split<;>rw[List.length_set]
theorem tK(n k:Nat):(iniW n k).length=n:=by
 induction k with
 |zero=>exact List.length_replicate
 |succ k ih=>rw[iniW,List.length_set,ih]
theorem aar(d:Dg)(ws:List Int)(k:Nat):(tZ d ws k).length=ws.length:=by
 induction k with
 |zero=>rfl
 |succ k ih=>rw[tZ,F7,ih]
theorem BK(d:Dg)(j:Nat):(uu d j).length=d.ae.length:=by
 induction j with
 |zero=>exact tK _ _
 |succ j ih=>rw[uu,aar,ih]
theorem wF{d:Dg}(h:aN d=true){k:Nat}(hk:k<2*d.ae.length)(b:Bool):eP d k b<d.ae.length:=(eF h (a:=((k+1:Nat):Int)) (by omega) b).1
noncomputable def Z8b:=Tryz.f25.body.getD .skip
def Z8c:=cL Z8b
def Z8d:=cR Z8b
def Z8e:=cL Z8d
def Z8f:=cR Z8d
def Z8g:=cL Z8f
def Z8h:=cR Z8f
def Z8i:=cL Z8h
def Z8j:=cR Z8h
def Z8k:=cL Z8i
def Z8l:=cR Z8i
def Z8m:=cL Z8l
def Z8n:=cL Z8m
def Z8o:=cL Z8n
def Z8p:=cR Z8n
def Z8q:=cL Z8o
def Z8r:=cR Z8o
def Z8s:=cL Z8r
def Z8t:=cR Z8r
def Z8u:=cL Z8p
def Z8v:=cR Z8p
def Z8w:=cL Z8u
def Z8x:=cL Z8j
def Z8y:=cR Z8j
def Z8z:=cL Z8x
def Z90:=cR Z8x
def Z91:=cL Z90
def Z92:=cL Z91
def Z93:=cL Z92
def Z94:=cR Z92
def Z95:=cL Z93
def Z96:=cR Z93
def Z97:=cL Z96
def Z98:=cR Z96
def Z99:=cL Z94
def Z9a:=cR Z94
def Z9b:=cL Z99
def Z9c:=cL Z9b
def Z9d:=cR Z9b
def Z9e:=cL Z9d
def Z9f:=cL Z9e
def Z9g:=cL Z9f
def Z9h:=cR Z9f
def Z9i:=cL Z9g
def Z9j:=cR Z9g
def Z9k:=cL Z9j
def Z9l:=cR Z9j
def Z9m:=cL Z9h
def Z9n:=cR Z9h
def Z9o:=cL Z9m
def Z9p:=cL Z9o
def Z9q:=cR Z9o
def Z9r:=cL Z9q
def Z9s:=cR Z9q
def Z9t:=cL Z9s
def Z9u:=cR Z9s
def Z9v:=cL Z8y
def Z9w:=cR Z8y
set_option maxHeartbeats 1000000 in
set_option maxRecDepth 10000 in
theorem ahP{w:World}{M:Hp}{X:Fr}(d:Dg){aV:Option Addr}{aU:Nat}(az:aG aF (M.un X.h) aV aU d.ae)(hn:d.ae.length<=16)(hab:aN d=true)(S:SH w M X []):Ct Tryz.prog 25 [.agg [.slice aV d.ae.length aU,.int .i64 d.loops].toArray] w M X (fun u M=>∃A c,u=.slice A (fK d).length c/\aG Uv M A c (fK d)):=by
 unfold Ct
 have gV:d.ae.length*40<=140737488355328:=az.room
 refine Up (b:=Z8b) Tryz.func25 rfl Tryz.ntmps25 rfl (fun C hC=>(bq [(0,_)] ⟨rfl,trivial⟩ (U2 Z8c Z8d rfl rfl rfl (U0 rfl (ak 0 1 rfl rfl rfl (bE (l:=[_,_]) rfl rfl rfl rfl rfl S ?_))))))
 intro aI w1 S1;clear S
 refine ag 1 1 rfl rfl (U5 rfl (ah [1] rfl (U3 (U2 Z8e Z8f rfl rfl rfl (U0 rfl (af 0 rfl (U1 rfl rfl ay rfl (bK) (bJ)) (af 1 rfl (U4 rfl rfl bt rfl (S1.ar (i:=0) rfl rfl)) (af 2 rfl (cU rfl rfl rfl rfl rfl rfl bt) ?_))))))))
 refine ag 3 1 rfl rfl (U5 rfl (ah [1,3] rfl (U3 (U2 Z8g Z8h rfl rfl rfl (U0 rfl (ag 0 1 rfl rfl (ak 1 2 rfl rfl rfl (qj (C:=Uv) d.ae.length rfl rfl rfl rfl rfl bA (by first|rfl|omega) (by show _*8<=_;first|omega|(simp only[ls];omega)) S1 ?_))))))))
 intro AL w2 S2;clear S1
 refine ag 2 1 rfl rfl (U5 rfl (ah [1,3,4] rfl (U3 (U2 Z8i Z8j rfl rfl rfl (U2 Z8k Z8l rfl rfl rfl (U0 rfl (ag 0 1 rfl rfl (U5 rfl ?_))))))))
 refine U3 (Uc Z8m 0 rfl rfl rfl ?_)
 refine Ux (fun aS au aM=>∃(i:Nat) (ws:List Int) (o6:Value),aS=d.ae.length-i/\Env 67 [(1,.pointer (some ⟨aI,0,none⟩)),(3,.int .i64 (d.ae.length:Int)),(4,o6),(5,.int .i64 (i:Int))] au/\SH aM M X [Rs.row Uv o6 ws,Rs.box aI 24 [.slice aV d.ae.length aU,.int .i64 d.loops]]/\i<=d.ae.length/\ws=iniW d.ae.length i) rfl ?_ ?_
 ·intro au aq
  refine⟨_,⟨0,_,_,rfl,aq.sub ⟨rfl,rfl,rfl,rfl,trivial⟩,S2.pick [0,1] [_,_] (by decide) ⟨rfl,rfl,trivial⟩,?cd,?dm⟩⟩
  case cd=>omega
  case dm=>rfl
 ·rintro m1 a1 w3 ⟨i,ws,o6,rfl,aY,S3,hi,hw⟩
  clear S2
  refine bX aY (c:=Z8n) rfl ?_
  clear aY a1
  have vJ:ws.length=d.ae.length:=by rw[hw,tK]
  refine U2 Z8o Z8p rfl rfl rfl (U2 Z8q Z8r rfl rfl rfl (U0 rfl (ag 0 2 rfl rfl (af 2 rfl (bS rfl rfl rfl) (U5 rfl (ah [1,3,4,5,17] rfl (U3 ?_)))))))
  refine Uf Z8s Z8t rfl rfl rfl rfl (fun lQ=>?_) (fun lQ=>?_)
  ·refine Ue rfl (ah [1,3,4,5] rfl (U3 (U2 Z8u Z8v rfl rfl rfl (Uc Z8w 1 rfl rfl rfl (U0 rfl (ag 0 3 rfl rfl (af 3 rfl (Uj (C:=Uv) (i:=0) i rfl rfl rfl bA S3 rfl (by first|rfl|omega) (by first|omega|(simp only[ls];omega))) ?_)))))))
   refine ak 4 5 rfl rfl rfl (ig (C:=Uv) (i:=0) (e:=i) (j:=0) (us:=[_]) (H':=[_,_]) (i:Int) rfl rfl S3 rfl (by first|omega|(simp only[ls];omega)) rfl rfl rfl bg rfl rfl rfl rfl ?_)
   intro w4 S4;clear S3
   refine U5 rfl (bj (ah [1,3,4,5] rfl (U3 (U0 rfl (ag 0 1 rfl rfl (af 1 rfl (Ug rfl rfl rfl (by first|omega|(simp only[ls];omega))) ?_))))))
   refine ag 2 1 rfl rfl (U5 rfl (aO ?_))
   intro au aq
   refine⟨_,?dQ,⟨i+1,_,_,rfl,aq.sub ⟨rfl,rfl,rfl,rfl,trivial⟩,S4.pick [0,1] [_,_] (by decide) ⟨rfl,rfl,trivial⟩,?cx,?dC⟩⟩
   case cx=>omega
   case dC=>(rw[hw];rfl)
   case dQ=>omega
  ·refine bP rfl rfl (ah [1,3,4] rfl (U3 (U2 Z8x Z8y rfl rfl rfl (U2 Z8z Z90 rfl rfl rfl (U0 rfl (ag 0 1 rfl rfl (U5 rfl (U3 ?_))))))))
   refine Uc Z91 2 rfl rfl rfl ?_
   refine Ux (fun aS au aM=>∃(j:Nat) (jf:List Int) (lH:Value),aS=d.ae.length-j/\Env 67 [(1,.pointer (some ⟨aI,0,none⟩)),(3,.int .i64 (d.ae.length:Int)),(4,lH),(6,.int .i64 (j:Int))] au/\SH aM M X [Rs.row Uv lH jf,Rs.box aI 24 [.slice aV d.ae.length aU,.int .i64 d.loops]]/\j<=d.ae.length/\jf=uu d j) rfl ?_ ?_
   ·intro au aq
    refine⟨_,⟨0,_,_,rfl,aq.sub ⟨rfl,rfl,rfl,rfl,trivial⟩,S3.pick [0,1] [_,_] (by decide) ⟨rfl,rfl,trivial⟩,?eB,?gu⟩⟩
    case eB=>omega
    case gu=>(obtain rfl:i=d.ae.length:=(by omega);exact hw)
   ·rintro m2 a2 w5 ⟨j,jf,lH,rfl,cB,S5,hj,hw2⟩
    clear S3
    refine bX cB (c:=Z92) rfl ?_
    clear cB a2
    have hl2:jf.length=d.ae.length:=by rw[hw2,BK]
    refine U2 Z93 Z94 rfl rfl rfl (U2 Z95 Z96 rfl rfl rfl (U0 rfl (ag 0 2 rfl rfl (af 2 rfl (bS rfl rfl rfl) (U5 rfl (ah [1,3,4,6,26] rfl (U3 ?_)))))))
    refine Uf Z97 Z98 rfl rfl rfl rfl (fun Jt=>?_) (fun Jt=>?_)
    ·refine Ue rfl (ah [1,3,4,6] rfl (U3 (U2 Z99 Z9a rfl rfl rfl (Uc Z9b 3 rfl rfl rfl (U2 Z9c Z9d rfl rfl rfl (U0 rfl (ag 0 1 rfl rfl (U5 rfl ?_))))))))
     refine U3 (Uc Z9e 4 rfl rfl rfl ?_)
     refine Ux (fun aS au aM=>∃(k:Nat) (pR:List Int) (uG:Value),aS=2*d.ae.length-k/\Env 67 [(1,.pointer (some ⟨aI,0,none⟩)),(3,.int .i64 (d.ae.length:Int)),(4,uG),(6,.int .i64 (j:Int)),(7,.int .i64 ((k+1:Nat):Int))] au/\SH aM M X [Rs.row Uv uG pR,Rs.box aI 24 [.slice aV d.ae.length aU,.int .i64 d.loops]]/\k<=2*d.ae.length/\pR=tZ d jf k) rfl ?_ ?_
     ·intro au aq
      refine⟨_,⟨0,_,_,rfl,aq.sub ⟨rfl,rfl,rfl,rfl,rfl,trivial⟩,S5.pick [0,1] [_,_] (by decide) ⟨rfl,rfl,trivial⟩,?eW,?gq⟩⟩
      case eW=>omega
      case gq=>rfl
     ·rintro m3 a3 w6 ⟨k,pR,uG,rfl,fu,S6,hk,hw3⟩
      clear S5
      refine bX fu (c:=Z9f) rfl ?_
      clear fu a3
      have hl3:pR.length=d.ae.length:=by rw[hw3,aar,hw2,BK]
      refine U2 Z9g Z9h rfl rfl rfl (U2 Z9i Z9j rfl rfl rfl (U0 rfl (ag 0 2 rfl rfl (af 2 rfl (jh rfl rfl rfl (by first|omega|(simp only[ls];omega))) ?_))))
      refine af 3 rfl (od rfl rfl rfl) (U5 rfl (ah [1,3,4,6,7,32] rfl (U3 ?_)))
      refine Uf Z9k Z9l rfl rfl rfl rfl (fun uW=>?_) (fun uW=>?_)
      ·have hx:=wF hab (k:=k) (by omega) false
       have hy:=wF hab (k:=k) (by omega) true
       refine Ue rfl (ah [1,3,4,6,7] rfl (U3 (U2 Z9m Z9n rfl rfl rfl (Uc Z9o 5 rfl rfl rfl (U2 Z9p Z9q rfl rfl rfl (bM rfl (by kernel_rfl) S6 10 rfl ?_))))))
       clear S6
       refine aj 0 9 rfl (by kernel_rfl) (fun _ _ _ hz Sz=>.inl (U8 (us:=[_,_]) rfl rfl ay rfl aA (Sz.suf.aw (i:=1) rfl ⟨rfl,rfl,trivial⟩))) ?_
       refine ai 1 8 rfl (by kernel_rfl) (fun _=>run_move rfl rfl) ?_
       refine aj 2 7 rfl (by kernel_rfl) (fun _ _ _ hz Sz=>Ur rfl rfl rfl rfl rfl mE Sz (mP d ((k+1:Nat):Int) false ((az.mono (Hp.Ua hz Sz.mx)).mono Sz.Uy) Sz.aD)) ?_
       refine ai 3 6 rfl (by kernel_rfl) (fun _=>ma rfl rfl dH rfl av rfl rfl) ?_
       refine aj 4 5 rfl (by kernel_rfl) (fun _ _ _ hz Sz=>.inl (U8 (us:=[_,_]) rfl rfl ay rfl aA (Sz.suf.aw (i:=1) rfl ⟨rfl,rfl,trivial⟩))) ?_
       refine ai 5 4 rfl (by kernel_rfl) (fun _=>run_move rfl rfl) ?_
       refine aj 6 3 rfl (by kernel_rfl) (fun _ _ _ hz Sz=>Ur rfl rfl rfl rfl rfl mE Sz (mP d ((k+1:Nat):Int) true ((az.mono (Hp.Ua hz Sz.mx)).mono Sz.Uy) Sz.aD)) ?_
       refine ai 7 2 rfl (by kernel_rfl) (fun _=>ma rfl rfl dH rfl av rfl rfl) ?_
       refine ai 8 1 rfl (by kernel_rfl) (fun _=>run_assign rfl rfl) ?_
       refine ai 9 0 rfl (by kernel_rfl) (fun _=>run_assign rfl rfl) ?_
       refine Uu (by kernel_rfl) (fun kU bF=>?_)
       refine ah [1,3,4,6,7,8,9] rfl (U3 (U2 Z9r Z9s rfl rfl rfl (kf 8 (.int .i64 ((eP d k false:Nat):Int)) rfl (int_eq rfl) (kf 9 (.int .i64 ((eP d k true:Nat):Int)) rfl (int_eq rfl) (bM rfl (by kernel_rfl) bF 9 rfl ?_)))))
       clear bF
       refine ai 0 8 rfl (by kernel_rfl) (fun _=>run_move rfl rfl) ?_
       refine ai 1 7 rfl (by kernel_rfl) (fun _=>run_move rfl rfl) ?_
       refine aj 2 6 rfl (by kernel_rfl) (fun _ _ _ hz Sz=>.inl (Uj (C:=Uv) (i:=0) (eP d k false) rfl rfl rfl bA Sz.suf rfl (by first|rfl|omega) (by first|omega|(simp only[ls];omega)))) ?_
       refine aj 3 5 rfl (by kernel_rfl) (fun _ _ _ hz Sz=>.inl (U4 rfl rfl av rfl (Sz.suf.dW (i:=0) (e:=eP d k false) (j:=0) rfl (by first|omega|(simp only[ls];omega)) rfl rfl))) ?_
       refine ai 4 4 rfl (by kernel_rfl) (fun _=>run_move rfl rfl) ?_
       refine ai 5 3 rfl (by kernel_rfl) (fun _=>run_move rfl rfl) ?_
       refine aj 6 2 rfl (by kernel_rfl) (fun _ _ _ hz Sz=>.inl (Uj (C:=Uv) (i:=0) (eP d k true) rfl rfl rfl bA Sz.suf rfl (by first|rfl|omega) (by first|omega|(simp only[ls];omega)))) ?_
       refine aj 7 1 rfl (by kernel_rfl) (fun _ _ _ hz Sz=>.inl (U4 rfl rfl av rfl (Sz.suf.dW (i:=0) (e:=eP d k true) (j:=0) rfl (by first|omega|(simp only[ls];omega)) rfl rfl))) ?_
       refine ai 8 0 rfl (by kernel_rfl) (fun _=>bS rfl rfl rfl) ?_
       refine Uu (by kernel_rfl) (fun AG eG=>?_)
       refine ah [1,3,4,6,7,8,9,51] rfl (U3 ?_)
       refine Uf Z9t Z9u rfl rfl rfl rfl (fun ao0=>?_) (fun ao0=>?_)
       ·refine U0 rfl (ag 0 4 rfl rfl (af 4 rfl (Uj (C:=Uv) (i:=0) (eP d k false) rfl rfl rfl bA eG rfl (by first|rfl|omega) (by first|omega|(simp only[ls];omega))) ?_))
        refine af 5 rfl (U4 rfl rfl av rfl (eG.dW (i:=0) (e:=eP d k false) (j:=0) rfl (by first|omega|(simp only[ls];omega)) rfl rfl)) ?_
        refine af 6 rfl (Uj (C:=Uv) (i:=0) (eP d k true) rfl rfl rfl bA eG rfl (by first|rfl|omega) (by first|omega|(simp only[ls];omega))) ?_
        refine ak 7 8 rfl rfl rfl (ig (C:=Uv) (i:=0) (e:=eP d k true) (j:=0) (us:=[_]) (H':=[_,_]) (ga pR (eP d k false)) rfl rfl eG rfl (by first|omega|(simp only[ls];omega)) rfl rfl rfl bg rfl rfl rfl rfl ?_)
        intro ng dB;clear eG
        refine U5 rfl (bj (ah [1,3,4,6,7] rfl (U3 (U0 rfl (ag 0 1 rfl rfl (af 1 rfl (Ug rfl rfl rfl (by first|omega|(simp only[ls];omega))) ?_))))))
        refine ag 2 1 rfl rfl (U5 rfl (aO ?_))
        intro au aq
        refine⟨_,?kv,⟨k+1,_,_,rfl,aq.sub ⟨rfl,rfl,rfl,rfl,rfl,trivial⟩,dB.pick [0,1] [_,_] (by decide) ⟨rfl,rfl,trivial⟩,?fC,?gp⟩⟩
        case fC=>omega
        case gp=>(show _=jQ _ _ _;rw[<-hw3];unfold jQ;first|rw[if_pos (by omega)]|rw[if_neg (by omega)])
        case kv=>omega
       ·refine U0 rfl (ag 0 4 rfl rfl (af 4 rfl (Uj (C:=Uv) (i:=0) (eP d k true) rfl rfl rfl bA eG rfl (by first|rfl|omega) (by first|omega|(simp only[ls];omega))) ?_))
        refine af 5 rfl (U4 rfl rfl av rfl (eG.dW (i:=0) (e:=eP d k true) (j:=0) rfl (by first|omega|(simp only[ls];omega)) rfl rfl)) ?_
        refine af 6 rfl (Uj (C:=Uv) (i:=0) (eP d k false) rfl rfl rfl bA eG rfl (by first|rfl|omega) (by first|omega|(simp only[ls];omega))) ?_
        refine ak 7 8 rfl rfl rfl (ig (C:=Uv) (i:=0) (e:=eP d k false) (j:=0) (us:=[_]) (H':=[_,_]) (ga pR (eP d k true)) rfl rfl eG rfl (by first|omega|(simp only[ls];omega)) rfl rfl rfl bg rfl rfl rfl rfl ?_)
        intro q7 eV;clear eG
        refine U5 rfl (bj (ah [1,3,4,6,7] rfl (U3 (U0 rfl (ag 0 1 rfl rfl (af 1 rfl (Ug rfl rfl rfl (by first|omega|(simp only[ls];omega))) ?_))))))
        refine ag 2 1 rfl rfl (U5 rfl (aO ?_))
        intro au aq
        refine⟨_,?ku,⟨k+1,_,_,rfl,aq.sub ⟨rfl,rfl,rfl,rfl,rfl,trivial⟩,eV.pick [0,1] [_,_] (by decide) ⟨rfl,rfl,trivial⟩,?gW,?iY⟩⟩
        case gW=>omega
        case iY=>(show _=jQ _ _ _;rw[<-hw3];unfold jQ;first|rw[if_pos (by omega)]|rw[if_neg (by omega)])
        case ku=>omega
      ·refine bP rfl rfl (bj (ah [1,3,4,6] rfl (U3 (U0 rfl (ag 0 1 rfl rfl (af 1 rfl (Ug rfl rfl rfl (by first|omega|(simp only[ls];omega))) ?_))))))
       refine ag 2 1 rfl rfl (U5 rfl (aO ?_))
       intro au aq
       refine⟨_,?lL,⟨j+1,_,_,rfl,aq.sub ⟨rfl,rfl,rfl,rfl,trivial⟩,S6.pick [0,1] [_,_] (by decide) ⟨rfl,rfl,trivial⟩,?iX,?ki⟩⟩
       case iX=>omega
       case ki=>(obtain rfl:k=2*d.ae.length:=(by omega);rw[hw3,hw2];rfl)
       case lL=>omega
    ·refine bP rfl rfl (ah [4] rfl (U3 (U2 Z9v Z9w rfl rfl rfl (U0 rfl (ag 0 2 rfl rfl (U5 rfl (ah [2] rfl (U3 ?_))))))))
     obtain⟨M20,adr,lq,⟨A1,c1,e1,hr1⟩⟩:=S5.fZ (i:=0) (H':=[_,_]) rfl rfl (by show _*8<=_;first|omega|(simp only[ls];omega))
     clear S5;subst e1
     replace az:=az.mono (Hp.Ua adr lq.mx)
     refine Uk hC [_] rfl rfl ⟨rfl,trivial⟩ ?_
     refine⟨_,rfl,_,adr,(lq.pick [] [] (by decide) trivial),?_⟩
     obtain rfl:j=d.ae.length:=by omega
     subst hw2
     exact⟨_,_,rfl,hr1⟩
end Go.Proofs.YthppkofceancjaaGreat
namespace Go.Proofs.YthppkofceancjaaGreat
open Go.ChangeShapes Go.WideShapes Go.ChangeAt Go.RowKit
theorem ah2(nx:Nat->Nat)(seen:List Bool)(x:Nat)(acc:List Int):∃t,(eY nx seen x acc).2=acc++t:=by
 induction hk:free seen using Nat.strongRecOn generalizing seen x acc with
 |_ k ih=>
  by_cases h:x<seen.length/\ga seen x=false
  ·rw[rG h.1 h.2]
   have:=nC h.1 h.2
   obtain⟨t,ht⟩:=ih (free (seen.set x true)) (by omega) (seen.set x true) (nx x) (acc++[(x:Int)]) rfl
   exact⟨(x:Int)::t,by rw[ht];simp⟩
  ·refine⟨[],?_⟩
   rw[eY]
   simp[h]
theorem FX(d:Dg)(k:Nat)(hk:k<=4*d.ae.length):∀r∈(ey d k).2,∃(c:Nat) (t:List Int),r=(c:Int)::t/\2<=c/\c<4*d.ae.length+2:=by
 induction k with
 |zero=>intro r hr;simp[ey]at hr
 |succ k ih=>
  by_cases hg:ga (ey d k).1 (k+2)=true
  ·rw[rK rfl hg];exact ih (by omega)
  ·rw[rJ rfl (by simpa using hg) rfl]
   intro r hr
   rcases List.mem_append.1 hr with hr|hr
   ·exact ih (by omega) r hr
   ·rw[List.mem_singleton]at hr
    subst hr
    have hl:=vV d k
    rw[rG (by omega) (by simpa using hg)]
    obtain⟨t,ht⟩:=ah2 (cQ d) ((ey d k).1.set (k+2) true) (cQ d (k+2)) ([]++[((k+2:Nat):Int)])
    exact⟨k+2,t,by rw[ht];rfl,by omega,by omega⟩
def hd0(d:Dg)(k:Nat):Da:=ga (ga (U7 d) k) 0
theorem Hx{d:Dg}{k:Nat}(hk:k<(U7 d).length):0<(ga (U7 d) k).length/\okD d (hd0 d k):=by
 have hm:ga (U7 d) k∈U7 d:=by rw[eo hk];exact List.getElem_mem hk
 unfold U7 wQ at hm
 rw[List.mem_map]at hm
 obtain⟨r,hr,e⟩:=hm
 obtain⟨c,t,rfl,h1,h2⟩:=FX d _ (Nat.le_refl _) r hr
 have e':ga (U7 d) k=dA c::iL t:=e.symm
 refine⟨by rw[e'];simp,?_⟩
 unfold hd0
 rw[e']
 exact kN ⟨h1,h2⟩
def ia(d:Dg)(k:Nat):Nat:=(Ud d (hd0 d k).a (hd0 d k).b).1
theorem HF{d:Dg}(h:aN d=true){k:Nat}(hk:k<(U7 d).length):ia d k<d.ae.length:=(eF h (Hx hk).2 (hd0 d k).b).1
def negW(ws:List Int)(p:Int):Nat->Int
 |0=>0
 |k+1=>if ga ws k=p then negW ws p k-1 else negW ws p k
def lR(d:Dg)(ws:List Int)(p:Int)(m:Int):Nat->Int
 |0=>m
 |k+1=>if ga ws (ia d k)=p then lR d ws p m k+1 else lR d ws p m k
def qp(d:Dg)(p:Nat):Bool:=decide (ga (fK d) p≠(p:Int))||decide (lR d (fK d) p (negW (fK d) p d.ae.length) (U7 d).length=2)
def rV(d:Dg):Bool:=(List.range d.ae.length).all (qp d)
theorem abn{d:Dg}(h:∀p,p<d.ae.length->qp d p=true):rV d=true:=by
 unfold rV
 rw[List.all_eq_true]
 intro p hp
 exact h p (List.mem_range.1 hp)
theorem aiX{d:Dg}{p:Nat}(hp:p<d.ae.length)(h:qp d p=false):rV d=false:=by
 unfold rV
 rw[List.all_eq_false]
 exact⟨p,List.mem_range.2 hp,by rw[h];decide⟩
theorem ab1(ws:List Int)(p:Int)(k:Nat):-(k:Int)<=negW ws p k/\negW ws p k<=0:=by
 induction k with
 |zero=>simp[negW]
 |succ k ih=>rw[negW];split<;>omega
theorem akc(d:Dg)(ws:List Int)(p m:Int)(k:Nat):m<=lR d ws p m k/\lR d ws p m k<=m+k:=by
 induction k with
 |zero=>simp[lR]
 |succ k ih=>rw[lR];split<;>omega
theorem BG(d:Dg):(U7 d).length<=4*d.ae.length:=by
 unfold U7 wQ
 rw[List.length_map]
 exact BF d _
noncomputable def Z9x:=Tryz.f32.body.getD .skip
def Z9y:=cL Z9x
def Z9z:=cR Z9x
def Za0:=cL Z9z
def Za1:=cR Z9z
def Za2:=cL Za1
def Za3:=cR Za1
def Za4:=cL Za3
def Za5:=cR Za3
def Za6:=cL Za4
def Za7:=cR Za4
def Za8:=cL Za7
def Za9:=cL Za8
def Zaa:=cL Za9
def Zab:=cR Za9
def Zac:=cL Zaa
def Zad:=cR Zaa
def Zae:=cL Zad
def Zaf:=cR Zad
def Zag:=cL Zab
def Zah:=cR Zab
def Zai:=cL Zag
def Zaj:=cL Zai
def Zak:=cR Zai
def Zal:=cL Zaj
def Zam:=cR Zaj
def Zan:=cL Zam
def Zao:=cR Zam
def Zap:=cL Zak
def Zaq:=cR Zak
def Zar:=cL Zaq
def Zas:=cR Zaq
def Zat:=cL Zar
def Zau:=cR Zar
def Zav:=cL Zau
def Zaw:=cL Zav
def Zax:=cL Zaw
def Zay:=cR Zaw
def Zaz:=cL Zax
def Zb0:=cR Zax
def Zb1:=cL Zb0
def Zb2:=cR Zb0
def Zb3:=cL Zay
def Zb4:=cR Zay
def Zb5:=cL Zb3
def Zb6:=cL Zb5
def Zb7:=cR Zb5
def Zb8:=cL Zb7
def Zb9:=cR Zb7
def Zba:=cL Zas
def Zbb:=cR Zas
def Zbc:=cL Zba
def Zbd:=cR Zba
def Zbe:=cL Zbd
def Zbf:=cL Zbe
def Zbg:=cL Zbf
def Zbh:=cR Zbf
def Zbi:=cL Zbg
def Zbj:=cR Zbg
def Zbk:=cL Zbj
def Zbl:=cR Zbj
def Zbm:=cL Zbh
def Zbn:=cR Zbh
def Zbo:=cL Zbm
def Zbp:=cL Zbo
def Zbq:=cR Zbo
def Zbr:=cL Zbq
def Zbs:=cR Zbq
def Zbt:=cL Zbb
def Zbu:=cR Zbb
def ZZ:=cL Zbu
def Zbw:=cR Zbu
def Zbx:=cL ZZ
def Zby:=cR ZZ
def Zbz:=cL Za5
def Zc0:=cR Za5
set_option maxHeartbeats 1000000 in
set_option maxRecDepth 10000 in
theorem aaC{w:World}{M:Hp}{X:Fr}(d:Dg){aV:Option Addr}{aU:Nat}(az:aG aF (M.un X.h) aV aU d.ae)(hn:d.ae.length<=16)(hab:aN d=true)(S:SH w M X []):Ct Tryz.prog 32 [.agg [.slice aV d.ae.length aU,.int .i64 d.loops].toArray] w M X (fun u _=>u=.bool (rV d)):=by
 unfold Ct
 have gV:d.ae.length*40<=140737488355328:=az.room
 refine Up (b:=Z9x) Tryz.func32 rfl Tryz.ntmps32 rfl (fun C hC=>(bq [(0,_)] ⟨rfl,trivial⟩ (U2 Z9y Z9z rfl rfl rfl (U0 rfl (ak 0 1 rfl rfl rfl (bE (l:=[_,_]) rfl rfl rfl rfl rfl S ?_))))))
 intro aI w1 S1;clear S
 refine ag 1 1 rfl rfl (U5 rfl (ah [1] rfl (U3 (U2 Za0 Za1 rfl rfl rfl (U0 rfl (af 0 rfl (U8 (us:=[_,_]) rfl rfl ay rfl aA (S1.aw (i:=0) rfl ⟨rfl,rfl,trivial⟩)) (ak 1 2 rfl rfl rfl (eZ rfl rfl rfl rfl rfl rfl rfl apy S1 (ahP d (az.mono S1.Uy) (hn) (hab) S1.aD) ?_))))))))
 intro E9 w2 M1 aL S2 qN;clear S1
 replace az:=az.mono (Hp.Ua aL S2.mx)
 obtain⟨A1,c1,rfl,hr1⟩:=qN
 refine ag 2 1 rfl rfl (U5 rfl (ah [1,3] rfl (U3 (U2 Za2 Za3 rfl rfl rfl (U0 rfl (af 0 rfl (U8 (us:=[_,_]) rfl rfl ay rfl aA (S2.aw (i:=0) rfl ⟨rfl,rfl,trivial⟩)) (ak 1 2 rfl rfl rfl (eZ rfl rfl rfl rfl rfl rfl rfl DM S2 (BU d (az.mono S2.Uy) (hn) (hab) S2.aD) ?_))))))))
 intro E8 w3 M2 hle2 S3 qM;clear S2
 replace az:=az.mono (Hp.Ua hle2 S3.mx)
 replace hr1:=hr1.mono hle2
 obtain⟨A2,c2,vs1,rfl,hr2,hd1⟩:=qM
 have hfl:=hd1.1
 refine ag 2 1 rfl rfl (U5 rfl (ah [1,3,4] rfl (U3 (U2 Za4 Za5 rfl rfl rfl (U2 Za6 Za7 rfl rfl rfl (U0 rfl (ag 0 1 rfl rfl (U5 rfl ?_))))))))
 refine U3 (Uc Za8 0 rfl rfl rfl ?_)
 refine Ux (fun aS au aM=>∃(p:Nat),aS=d.ae.length-p/\Env 71 [(1,.pointer (some ⟨aI,0,none⟩)),(3,.slice A1 (fK d).length c1),(4,.slice A2 vs1.length c2),(5,.int .i64 (p:Int))] au/\SH aM M2 X [Rs.box aI 24 [.slice aV d.ae.length aU,.int .i64 d.loops]]/\p<=d.ae.length/\(∀q,q<p->qp d q=true)) rfl ?_ ?_
 ·intro au aq
  refine⟨_,⟨0,rfl,aq.sub ⟨rfl,rfl,rfl,rfl,trivial⟩,S3.pick [0] [_] (by decide) ⟨rfl,trivial⟩,?cd,?dm⟩⟩
  case cd=>omega
  case dm=>(intro q hq;omega)
 ·rintro m1 a1 w4 ⟨p,rfl,aY,S4,hp,hall⟩
  clear S3
  refine bX aY (c:=Za9) rfl ?_
  clear aY a1
  have Fj:=BK d d.ae.length
  replace Fj:(fK d).length=d.ae.length:=Fj
  have hfm:=BG d
  refine U2 Zaa Zab rfl rfl rfl (U2 Zac Zad rfl rfl rfl (U0 rfl (ag 0 2 rfl rfl (af 2 rfl (cU rfl rfl rfl rfl rfl rfl dY) (af 3 rfl (bS rfl rfl rfl) (U5 rfl (ah [1,3,4,5,16] rfl (U3 ?_))))))))
  refine Uf Zae Zaf rfl rfl rfl rfl (fun mZ=>?_) (fun mZ=>?_)
  ·refine Ue rfl (ah [1,3,4,5] rfl (U3 (U2 Zag Zah rfl rfl rfl (Uc Zai 1 rfl rfl rfl (U2 Zaj Zak rfl rfl rfl (U2 Zal Zam rfl rfl rfl (U0 rfl (ag 0 2 rfl rfl ?_))))))))
   refine af 2 rfl (Ul (C:=Uv) p rfl rfl rfl bA (by first|rfl|omega) hr1 (by first|omega|(simp only[ls];omega))) ?_
   refine af 3 rfl (U4 rfl rfl av rfl (hr1.cell S4.m (i:=p) (by first|omega|(simp only[ls];omega)) 0 rfl rfl)) ?_
   refine ag 4 1 rfl rfl (af 5 rfl (jL rfl rfl rfl) (U5 rfl (ah [1,3,4,5,24] rfl (U3 ?_))))
   refine Uf Zan Zao rfl rfl rfl rfl (fun mC=>?_) (fun mC=>?_)
   ·refine bP rfl rfl (ah [1,3,4,5] rfl (U3 (U0 rfl (ag 0 1 rfl rfl (af 1 rfl (Ug rfl rfl rfl (by first|omega|(simp only[ls];omega))) ?_)))))
    refine ag 2 1 rfl rfl (U5 rfl (aO ?_))
    intro au aq
    refine⟨_,?dQ,⟨p+1,rfl,aq.sub ⟨rfl,rfl,rfl,rfl,trivial⟩,S4.pick [0] [_] (by decide) ⟨rfl,trivial⟩,?cx,?dC⟩⟩
    case cx=>omega
    case dC=>(intro q hq;by_cases h:q=p;(subst h;unfold qp;rw[Bool.or_eq_true];first|(left;exact decide_eq_true (by omega))|(right;exact decide_eq_true (by omega)));exact hall q (by omega))
    case dQ=>omega
   ·refine Ue rfl (ah [1,3,4,5] rfl (U3 (U2 Zap Zaq rfl rfl rfl (U0 rfl (ag 0 1 rfl rfl (U5 rfl (U3 (U2 Zar Zas rfl rfl rfl ?_))))))))
    refine U2 Zat Zau rfl rfl rfl (U0 rfl (ag 0 1 rfl rfl (U5 rfl (U3 (Uc Zav 2 rfl rfl rfl ?_)))))
    refine Ux (fun aS au aM=>∃(i:Nat) (m:Int),aS=d.ae.length-i/\Env 71 [(1,.pointer (some ⟨aI,0,none⟩)),(3,.slice A1 (fK d).length c1),(4,.slice A2 vs1.length c2),(5,.int .i64 (p:Int)),(6,.int .i64 m),(7,.int .i64 (i:Int))] au/\SH aM M2 X [Rs.box aI 24 [.slice aV d.ae.length aU,.int .i64 d.loops]]/\i<=d.ae.length/\m=negW (fK d) p i) rfl ?_ ?_
    ·intro au aq
     refine⟨_,⟨0,_,rfl,aq.sub ⟨rfl,rfl,rfl,rfl,rfl,rfl,trivial⟩,S4.pick [0] [_] (by decide) ⟨rfl,trivial⟩,?eB,?gu⟩⟩
     case eB=>omega
     case gu=>rfl
    ·rintro m2 a2 w5 ⟨i,m,rfl,cB,S5,hi,hm⟩
     clear S4
     refine bX cB (c:=Zaw) rfl ?_
     clear cB a2
     have hnb:=ab1 (fK d) p i
     refine U2 Zax Zay rfl rfl rfl (U2 Zaz Zb0 rfl rfl rfl (U0 rfl (ag 0 2 rfl rfl (af 2 rfl (cU rfl rfl rfl rfl rfl rfl dY) (af 3 rfl (bS rfl rfl rfl) (U5 rfl (ah [1,3,4,5,6,7,28] rfl (U3 ?_))))))))
     refine Uf Zb1 Zb2 rfl rfl rfl rfl (fun pQ=>?_) (fun pQ=>?_)
     ·refine Ue rfl (ah [1,3,4,5,6,7] rfl (U3 (U2 Zb3 Zb4 rfl rfl rfl (Uc Zb5 3 rfl rfl rfl (U2 Zb6 Zb7 rfl rfl rfl (U0 rfl (ag 0 2 rfl rfl (af 2 rfl (Ul (C:=Uv) i rfl rfl rfl bA (by first|rfl|omega) hr1 (by first|omega|(simp only[ls];omega))) ?_))))))))
      refine af 3 rfl (U4 rfl rfl av rfl (hr1.cell S5.m (i:=i) (by first|omega|(simp only[ls];omega)) 0 rfl rfl)) ?_
      refine ag 4 1 rfl rfl (af 5 rfl (bR rfl rfl rfl) (U5 rfl (ah [1,3,4,5,6,7,36] rfl (U3 ?_))))
      refine Uf Zb8 Zb9 rfl rfl rfl rfl (fun sQ=>?_) (fun sQ=>?_)
      ·refine U0 rfl (ag 0 1 rfl rfl (af 1 rfl (rR rfl rfl rfl (by first|omega|(simp only[ls];omega))) ?_))
       refine ag 2 1 rfl rfl (U5 rfl (bj (ah [1,3,4,5,6,7] rfl (U3 (U0 rfl (ag 0 1 rfl rfl (af 1 rfl (Ug rfl rfl rfl (by first|omega|(simp only[ls];omega))) ?_)))))))
       refine ag 2 1 rfl rfl (U5 rfl (aO ?_))
       intro au aq
       refine⟨_,?kx,⟨i+1,_,rfl,aq.sub ⟨rfl,rfl,rfl,rfl,rfl,rfl,trivial⟩,S5.pick [0] [_] (by decide) ⟨rfl,trivial⟩,?eW,?gq⟩⟩
       case eW=>omega
       case gq=>(rw[negW,hm];first|rw[if_pos (by omega)]|rw[if_neg (by omega)])
       case kx=>omega
      ·refine Ue rfl (bj (ah [1,3,4,5,6,7] rfl (U3 (U0 rfl (ag 0 1 rfl rfl (af 1 rfl (Ug rfl rfl rfl (by first|omega|(simp only[ls];omega))) ?_))))))
       refine ag 2 1 rfl rfl (U5 rfl (aO ?_))
       intro au aq
       refine⟨_,?kv,⟨i+1,_,rfl,aq.sub ⟨rfl,rfl,rfl,rfl,rfl,rfl,trivial⟩,S5.pick [0] [_] (by decide) ⟨rfl,trivial⟩,?fC,?gp⟩⟩
       case fC=>omega
       case gp=>(rw[negW,hm];first|rw[if_pos (by omega)]|rw[if_neg (by omega)])
       case kv=>omega
     ·refine bP rfl rfl (ah [1,3,4,5,6] rfl (U3 (U2 Zba Zbb rfl rfl rfl (U2 Zbc Zbd rfl rfl rfl (U0 rfl (ag 0 1 rfl rfl (U5 rfl (U3 ?_))))))))
      refine Uc Zbe 4 rfl rfl rfl ?_
      refine Ux (fun aS au aM=>∃(k:Nat) (m2:Int),aS=(U7 d).length-k/\Env 71 [(1,.pointer (some ⟨aI,0,none⟩)),(3,.slice A1 (fK d).length c1),(4,.slice A2 vs1.length c2),(5,.int .i64 (p:Int)),(6,.int .i64 m2),(8,.int .i64 (k:Int))] au/\SH aM M2 X [Rs.box aI 24 [.slice aV d.ae.length aU,.int .i64 d.loops]]/\k<=(U7 d).length/\m2=lR d (fK d) p (negW (fK d) p d.ae.length) k) rfl ?_ ?_
      ·intro au aq
       refine⟨_,⟨0,_,rfl,aq.sub ⟨rfl,rfl,rfl,rfl,rfl,rfl,trivial⟩,S5.pick [0] [_] (by decide) ⟨rfl,trivial⟩,?gW,?iY⟩⟩
       case gW=>omega
       case iY=>(rw[hm,show i=d.ae.length by omega];rfl)
      ·rintro m3 a3 w6 ⟨k,m2,rfl,fu,S6,hk,hm2⟩
       clear S5
       refine bX fu (c:=Zbf) rfl ?_
       clear fu a3
       have hnb:=ab1 (fK d) p d.ae.length
       have hfb:=akc d (fK d) p (negW (fK d) p d.ae.length) k
       refine U2 Zbg Zbh rfl rfl rfl (U2 Zbi Zbj rfl rfl rfl (U0 rfl (ag 0 2 rfl rfl (af 2 rfl (cU rfl rfl rfl rfl rfl rfl mr) (af 3 rfl (bS rfl rfl rfl) (U5 rfl (ah [1,3,4,5,6,8,42] rfl (U3 ?_))))))))
       refine Uf Zbk Zbl rfl rfl rfl rfl (fun qI=>?_) (fun qI=>?_)
       ·have hhd:=Hx (d:=d) (k:=k) (by omega)
        have hfc:=HF hab (k:=k) (by omega)
        obtain⟨hh0,hok⟩:=hhd
        have RL:ia d k=(Ud d (ga (ga (U7 d) k) 0).a (ga (ga (U7 d) k) 0).b).1:=rfl
        rw[RL]at hfc
        refine Ue rfl (ah [1,3,4,5,6,8] rfl (U3 (U2 Zbm Zbn rfl rfl rfl (Uc Zbo 5 rfl rfl rfl (U2 Zbp Zbq rfl rfl rfl (bM rfl (by kernel_rfl) S6 22 rfl ?_))))))
        clear S6
        refine ai 0 21 rfl (by kernel_rfl) (fun _=>run_move rfl rfl) ?_
        refine aj 1 20 rfl (by kernel_rfl) (fun _ _ _ hz Sz=>.inl (U8 (us:=[_,_]) rfl rfl ay rfl aA (Sz.suf.aw (i:=0) rfl ⟨rfl,rfl,trivial⟩))) ?_
        refine ai 2 19 rfl (by kernel_rfl) (fun _=>run_move rfl rfl) ?_
        refine ai 3 18 rfl (by kernel_rfl) (fun _=>run_move rfl rfl) ?_
        refine aj 4 17 rfl (by kernel_rfl) (fun _ _ _ hz Sz=>.inl (Ul (C:=(di 141)) k rfl rfl rfl kr (by first|rfl|omega) (hr2.mono hz) (by first|omega|(simp only[ls];omega)))) ?_
        obtain⟨lY,hr3⟩:=hd1.2 k (by first|omega|(simp only[ls];omega))
        have adh:(ga (U7 d) k).length*16<=140737488355328:=hr3.room
        refine aj 5 16 rfl (by kernel_rfl) (fun _ _ _ hz Sz=>.inl (U4 rfl rfl iO rfl ((hr2.mono hz).cell Sz.m (i:=k) (by first|omega|(simp only[ls];omega)) 0 rfl (congrArg (fun n=>some (Value.slice _ n _)) lY)))) ?_
        refine aj 6 15 rfl (by kernel_rfl) (fun _ _ _ hz Sz=>.inl (Ul (C:=cu) 0 rfl rfl rfl iF (by first|rfl|omega) (hr3.mono hz) (by first|omega|(simp only[ls];omega)))) ?_
        refine ai 7 14 rfl (by kernel_rfl) (fun _=>U1 rfl rfl aZ rfl (aC) (aB)) ?_
        refine aj 8 13 rfl (by kernel_rfl) (fun _ _ _ hz Sz=>.inl (U4 rfl rfl av rfl ((hr3.mono hz).cell Sz.m (i:=0) (by first|omega|(simp only[ls];omega)) 0 rfl rfl))) ?_
        refine ai 9 12 rfl (by kernel_rfl) (fun _=>run_move rfl rfl) ?_
        refine ai 10 11 rfl (by kernel_rfl) (fun _=>run_move rfl rfl) ?_
        refine aj 11 10 rfl (by kernel_rfl) (fun _ _ _ hz Sz=>.inl (Ul (C:=(di 141)) k rfl rfl rfl kr (by first|rfl|omega) (hr2.mono hz) (by first|omega|(simp only[ls];omega)))) ?_
        obtain⟨nY,hr4⟩:=hd1.2 k (by first|omega|(simp only[ls];omega))
        have H8:(ga (U7 d) k).length*16<=140737488355328:=hr4.room
        refine aj 12 9 rfl (by kernel_rfl) (fun _ _ _ hz Sz=>.inl (U4 rfl rfl iO rfl ((hr2.mono hz).cell Sz.m (i:=k) (by first|omega|(simp only[ls];omega)) 0 rfl (congrArg (fun n=>some (Value.slice _ n _)) nY)))) ?_
        refine aj 13 8 rfl (by kernel_rfl) (fun _ _ _ hz Sz=>.inl (Ul (C:=cu) 0 rfl rfl rfl iF (by first|rfl|omega) (hr4.mono hz) (by first|omega|(simp only[ls];omega)))) ?_
        refine ai 14 7 rfl (by kernel_rfl) (fun _=>U1 rfl rfl aZ rfl (gI) (gH)) ?_
        refine aj 15 6 rfl (by kernel_rfl) (fun _ _ _ hz Sz=>.inl (U4 rfl rfl dL rfl ((hr4.mono hz).cell Sz.m (i:=0) (by first|omega|(simp only[ls];omega)) 1 rfl rfl))) ?_
        refine aj 16 5 rfl (by kernel_rfl) (fun _ _ _ hz Sz=>Ur rfl rfl rfl rfl rfl mE Sz (mP d ((ga (ga (U7 d) k) 0).a) ((ga (ga (U7 d) k) 0).b) ((az.mono (Hp.Ua hz Sz.mx)).mono Sz.Uy) Sz.aD)) ?_
        refine ai 17 4 rfl (by kernel_rfl) (fun _=>ma rfl rfl dH rfl av rfl rfl) ?_
        refine aj 18 3 rfl (by kernel_rfl) (fun _ _ _ hz Sz=>.inl (Ul (C:=Uv) ((Ud d ((ga (ga (U7 d) k) 0).a) ((ga (ga (U7 d) k) 0).b)).1) rfl rfl rfl bA (by first|rfl|omega) (hr1.mono hz) (by first|omega|(simp only[ls];omega)))) ?_
        refine aj 19 2 rfl (by kernel_rfl) (fun _ _ _ hz Sz=>.inl (U4 rfl rfl av rfl ((hr1.mono hz).cell Sz.m (i:=(Ud d ((ga (ga (U7 d) k) 0).a) ((ga (ga (U7 d) k) 0).b)).1) (by first|omega|(simp only[ls];omega)) 0 rfl rfl))) ?_
        refine ai 20 1 rfl (by kernel_rfl) (fun _=>run_move rfl rfl) ?_
        refine ai 21 0 rfl (by kernel_rfl) (fun _=>bR rfl rfl rfl) ?_
        refine Uu (by kernel_rfl) (fun q7 eV=>?_)
        refine ah [1,3,4,5,6,8,66] rfl (U3 ?_)
        refine Uf Zbr Zbs rfl rfl rfl rfl (fun aoY=>?_) (fun aoY=>?_)
        ·refine U0 rfl (ag 0 1 rfl rfl (af 1 rfl (Ug rfl rfl rfl (by first|omega|(simp only[ls];omega))) ?_))
         refine ag 2 1 rfl rfl (U5 rfl (bj (ah [1,3,4,5,6,8] rfl (U3 (U0 rfl (ag 0 1 rfl rfl (af 1 rfl (Ug rfl rfl rfl (by first|omega|(simp only[ls];omega))) ?_)))))))
         refine ag 2 1 rfl rfl (U5 rfl (aO ?_))
         intro au aq
         refine⟨_,?lL,⟨k+1,_,rfl,aq.sub ⟨rfl,rfl,rfl,rfl,rfl,rfl,trivial⟩,eV.pick [0] [_] (by decide) ⟨rfl,trivial⟩,?iX,?ki⟩⟩
         case iX=>omega
         case ki=>(rw[lR,hm2,RL];first|rw[if_pos (by omega)]|rw[if_neg (by omega)])
         case lL=>omega
        ·refine Ue rfl (bj (ah [1,3,4,5,6,8] rfl (U3 (U0 rfl (ag 0 1 rfl rfl (af 1 rfl (Ug rfl rfl rfl (by first|omega|(simp only[ls];omega))) ?_))))))
         refine ag 2 1 rfl rfl (U5 rfl (aO ?_))
         intro au aq
         refine⟨_,?lK,⟨k+1,_,rfl,aq.sub ⟨rfl,rfl,rfl,rfl,rfl,rfl,trivial⟩,eV.pick [0] [_] (by decide) ⟨rfl,trivial⟩,?jC,?lB⟩⟩
         case jC=>omega
         case lB=>(rw[lR,hm2,RL];first|rw[if_pos (by omega)]|rw[if_neg (by omega)])
         case lK=>omega
       ·have hm3:m2=lR d (fK d) p (negW (fK d) p d.ae.length) (U7 d).length:=by rw[hm2,show k=(U7 d).length by omega]
        refine bP rfl rfl (ah [1,3,4,5,6] rfl (U3 (U2 Zbt Zbu rfl rfl rfl (U0 rfl (ag 0 1 rfl rfl (af 1 rfl (jL rfl rfl rfl) (U5 rfl (ah [1,3,4,5,70] rfl ?_))))))))
        refine U3 ?_
        refine Uf ZZ Zbw rfl rfl rfl rfl (fun aoX=>?_) (fun aoX=>?_)
        ·refine U2 Zbx Zby rfl rfl rfl (U0 rfl (ag 0 1 rfl rfl (U5 rfl (ah [2] rfl (U3 (Uk hC [_] rfl rfl ⟨rfl,trivial⟩ ?_))))))
         refine⟨_,rfl,_,aL.trans hle2,(S6.pick [] [] (by decide) trivial),?_⟩
         refine congrArg Value.bool (aiX (p:=p) (by omega) ?_).symm
         unfold qp
         rw[Bool.or_eq_false_iff]
         exact⟨decide_eq_false (by omega),decide_eq_false (by omega)⟩
        ·refine Ue rfl (bj (ah [1,3,4,5] rfl (U3 (U0 rfl (ag 0 1 rfl rfl (af 1 rfl (Ug rfl rfl rfl (by first|omega|(simp only[ls];omega))) ?_))))))
         refine ag 2 1 rfl rfl (U5 rfl (aO ?_))
         intro au aq
         refine⟨_,?IW,⟨p+1,rfl,aq.sub ⟨rfl,rfl,rfl,rfl,trivial⟩,S6.pick [0] [_] (by decide) ⟨rfl,trivial⟩,?uz,?zo⟩⟩
         case uz=>omega
         case zo=>(intro q hq;by_cases h:q=p;(subst h;unfold qp;rw[Bool.or_eq_true];first|(left;exact decide_eq_true (by omega))|(right;exact decide_eq_true (by omega)));exact hall q (by omega))
         case IW=>omega
  ·refine bP rfl rfl (bN [] trivial (U3 (U2 Zbz Zc0 rfl rfl rfl (U0 rfl (ag 0 1 rfl rfl (U5 rfl (U3 (Uk hC [_] rfl rfl ⟨rfl,trivial⟩ ?_))))))))
   refine⟨_,rfl,_,aL.trans hle2,(S4.pick [] [] (by decide) trivial),?_⟩
   exact congrArg Value.bool (abn (fun q hq=>hall q (by omega))).symm
end Go.Proofs.YthppkofceancjaaGreat
namespace Go.Proofs.YthppkofceancjaaGreat
open Go.Shelf
def aiM:Go.Shelf.Ren:=⟨fun|189=>143|125=>102|257=>183|128=>160|129=>161|294=>196|295=>197|296=>198|297=>199|298=>200|299=>201|216=>202|300=>203|301=>204|328=>207|329=>188|330=>189|331=>208|332=>209|215=>210|343=>211|n=>n,fun|28=>53|3=>3|46=>185|0=>0|51=>244|53=>246|4=>4|183=>237|182=>236|131=>241|5=>5|9=>9|218=>265|222=>251|228=>276|229=>152|n=>n,fun|n=>n⟩
theorem an9:Go.Proofs.Lays.n189 Tryz.prog aiM:={
 mixed:=by kernel_rfl
 f125:=Tryz.func102.trans (congrArg some (by kernel_rfl))
 f128:=Tryz.func160.trans (congrArg some (by kernel_rfl))
 f129:=Tryz.func161.trans (congrArg some (by kernel_rfl))
 f189:=Tryz.func143.trans (congrArg some (by kernel_rfl))
 f215:=Tryz.func210.trans (congrArg some (by kernel_rfl))
 f216:=Tryz.func202.trans (congrArg some (by kernel_rfl))
 f257:=Tryz.func183.trans (congrArg some (by kernel_rfl))
 f294:=Tryz.func196.trans (congrArg some (by kernel_rfl))
 f295:=Tryz.func197.trans (congrArg some (by kernel_rfl))
 f296:=Tryz.func198.trans (congrArg some (by kernel_rfl))
 f297:=Tryz.func199.trans (congrArg some (by kernel_rfl))
 f298:=Tryz.func200.trans (congrArg some (by kernel_rfl))
 f299:=Tryz.func201.trans (congrArg some (by kernel_rfl))
 f300:=Tryz.func203.trans (congrArg some (by kernel_rfl))
 f301:=Tryz.func204.trans (congrArg some (by kernel_rfl))
 f328:=Tryz.func207.trans (congrArg some (by kernel_rfl))
 f329:=Tryz.func188.trans (congrArg some (by kernel_rfl))
 f330:=Tryz.func189.trans (congrArg some (by kernel_rfl))
 f331:=Tryz.func208.trans (congrArg some (by kernel_rfl))
 f332:=Tryz.func209.trans (congrArg some (by kernel_rfl))
 f343:=Tryz.func211.trans (congrArg some (by kernel_rfl))
 t0:=uT0
 a0:=Tryz.isAgg0
 z0:=Tryz.sizeOf0
 v0:=Tryz.zeroValue0
 t3:=av
 a3:=Tryz.isAgg3
 z3:=Tryz.sizeOf3
 v3:=Tryz.zeroValue3
 t4:=dL
 a4:=Tryz.isAgg4
 z4:=Tryz.sizeOf4
 v4:=Tryz.zeroValue4
 t5:=uT5
 a5:=Tryz.isAgg5
 z5:=Tryz.sizeOf5
 v5:=Tryz.zeroValue5
 t9:=uT9
 a9:=Tryz.isAgg9
 z9:=Tryz.sizeOf9
 v9:=Tryz.zeroValue9
 t28:=dY
 a28:=Tryz.isAgg53
 z28:=Tryz.sizeOf53
 v28:=Tryz.zeroValue53
 t46:=al0
 a46:=Tryz.isAgg185
 z46:=Tryz.sizeOf185
 v46:=Tryz.zeroValue185
 t51:=alW
 a51:=Tryz.isAgg244
 z51:=Tryz.sizeOf244
 v51:=Tryz.zeroValue244
 t53:=alV
 a53:=Tryz.isAgg246
 z53:=Tryz.sizeOf246
 v53:=Tryz.zeroValue246
 t131:=alX
 a131:=Tryz.isAgg241
 z131:=Tryz.sizeOf241
 v131:=Tryz.zeroValue241
 t182:=alZ
 a182:=Tryz.isAgg236
 z182:=Tryz.sizeOf236
 v182:=Tryz.zeroValue236
 t183:=alY
 a183:=Tryz.isAgg237
 z183:=Tryz.sizeOf237
 v183:=Tryz.zeroValue237
 t218:=alU
 a218:=Tryz.isAgg265
 z218:=Tryz.sizeOf265
 v218:=Tryz.zeroValue265
 t222:=zk
 a222:=Tryz.isAgg251
 z222:=Tryz.sizeOf251
 v222:=Tryz.zeroValue251
 t228:=alT
 a228:=Tryz.isAgg276
 z228:=Tryz.sizeOf276
 v228:=Tryz.zeroValue276
 t229:=al1
 a229:=Tryz.isAgg152
 z229:=Tryz.sizeOf152
 v229:=Tryz.zeroValue152}
theorem akQ{w:World}{M:Hp}{X:Fr}{v:Value}{xs:List Int}(hsz:xs.length<4611686018427387904)(S:SH w M X [Rs.row Uv v xs]):
 C1 Tryz.prog 143 [v] w M X fun u M' r'=>u=.tuple #[]/\M'=M/\r'=Rs.row Uv v (gF xs):=akq an9 hsz S
end Go.Proofs.YthppkofceancjaaGreat
namespace Go.Proofs.YthppkofceancjaaGreat
open Go.ChangeShapes Go.WideShapes Go.ChangeAt Go.RowKit
def fS(d:Dg)(x k:Nat):Nat:=(Ud d (Uq d x k) (Uz d x k)).1
def nU(s:List Bool×List Int)(y:Nat):List Bool×List Int:=if ga s.1 y=true then s else(s.1.set y true,s.2++[(y:Int)])
def bfsS(d:Dg)(x:Nat)(s:List Bool×List Int):Nat->List Bool×List Int
 |0=>s
 |k+1=>nU (bfsS d x s k) (fS d x k)
def bfsN(d:Dg):Nat->Nat->List Bool×List Int->List Bool×List Int
 |0,_,s=>s
 |f+1,i,s=>if i<s.2.length then bfsN d f (i+1) (bfsS d (ga s.2 i).toNat s 4)else s
def iJ(d:Dg):Nat->List Bool×List (List Int)
 |0=>(List.replicate d.ae.length false,[])
 |c+1=>if ga (iJ d c).1 c=true then iJ d c else((bfsN d d.ae.length 0 ((iJ d c).1.set c true,[(c:Int)])).1,(iJ d c).2++[gF (bfsN d d.ae.length 0 ((iJ d c).1.set c true,[(c:Int)])).2])
def cz(d:Dg):List (List Int):=(iJ d d.ae.length).2
theorem Gi{d:Dg}{f i:Nat}{s:List Bool×List Int}(h:s.2.length<=i):bfsN d f i s=s:=by
 cases f with
 |zero=>rfl
 |succ f=>rw[bfsN,if_neg (by omega)]
theorem akt{d:Dg}{f i x:Nat}{s s':List Bool×List Int}(h:i<s.2.length)(hx:ga s.2 i=(x:Int))(hs:bfsS d x s 4=s'):bfsN d (f+1) i s=bfsN d f (i+1) s':=by
 rw[bfsN,if_pos h,hx,Int.toNat_natCast,hs]
theorem Ga{d:Dg}{c:Nat}{s:List Bool×List (List Int)}(h:iJ d c=s)(hg:ga s.1 c=true):iJ d (c+1)=s:=by
 rw[iJ,h,if_pos hg]
theorem Gm{d:Dg}{c:Nat}{s:List Bool×List (List Int)}{r:List Bool×List Int}(h:iJ d c=s)(hg:ga s.1 c=false)(hr:bfsN d d.ae.length 0 (s.1.set c true,[(c:Int)])=r):iJ d (c+1)=(r.1,s.2++[gF r.2]):=by
 rw[iJ,h,if_neg (by rw[hg];exact Bool.false_ne_true),hr]
theorem ajo(d:Dg)(f i:Nat)(s:List Bool×List Int):(bfsN d f i s).1.length=s.1.length:=by
 have h1:∀x s k,(bfsS d x s k).1.length=s.1.length:=fun x s k=>by
  induction k with
  |zero=>rfl
  |succ k ih=>rw[bfsS,nU];split<;>simp[ih]
 induction f generalizing i s with
 |zero=>rfl
 |succ f ih=>rw[bfsN];split<;>simp[ih,h1]
theorem abp(d:Dg)(c:Nat):(iJ d c).1.length=d.ae.length:=by
 induction c with
 |zero=>simp[iJ]
 |succ c ih=>rw[iJ];split<;>simp[ih,ajo]
theorem BM(d:Dg)(c:Nat):(iJ d c).2.length<=c:=by
 induction c with
 |zero=>simp[iJ]
 |succ c ih=>rw[iJ];split;exact Nat.le_succ_of_le ih;rw[List.length_append];show _+1<=_;omega
theorem CN{d:Dg}(h:aN d=true){x k:Nat}(hx:x<d.ae.length)(hk:k<4):fS d x k<d.ae.length:=(eF h (eO h hx hk) _).1
noncomputable def ZY:=Tryz.f105.body.getD .skip
def Zc2:=cL ZY
def ZX:=cR ZY
def Zc4:=cL ZX
def ZW:=cR ZX
def Zc6:=cL ZW
def ZV:=cR ZW
def ZU:=cL ZV
def ZT:=cR ZV
def Zca:=cL ZU
def Zcb:=cR ZU
def Zcc:=cL Zcb
def ZR:=cL Zcc
def Zce:=cL ZR
def ZQ:=cR ZR
def ZP:=cL ZQ
def ZO:=cR ZQ
def Zci:=cL ZP
def Zcj:=cR ZP
def Zck:=cL ZO
def Zcl:=cR ZO
def ZN:=cL Zck
def Zcn:=cL ZN
def ZM:=cR ZN
def ZL:=cL ZM
def ZK:=cR ZM
def Zcr:=cL ZL
def ZJ:=cR ZL
def Zct:=cL ZJ
def Zcu:=cR ZJ
def Zcv:=cL ZK
def ZI:=cR ZK
def Zcx:=cL ZI
def ZH:=cR ZI
def ZG:=cL ZH
def ZF:=cR ZH
def Zd1:=cL ZG
def Zd2:=cR ZG
def Zd3:=cL Zd2
def ZE:=cL Zd3
def ZC:=cL ZE
def ZB:=cR ZE
def Zd7:=cL ZC
def ZA:=cR ZC
def Zd9:=cL ZA
def Zda:=cR ZA
def Zdb:=cL ZB
def Zdc:=cR ZB
def Y8:=cL Zdb
def Zde:=cL Y8
def Zdf:=cR Y8
def Zdg:=cL Zdf
def Y7:=cL Zdg
def Zdi:=cL Y7
def Y6:=cR Y7
def Y5:=cL Y6
def Y4:=cR Y6
def Zdm:=cL Y5
def Zdn:=cR Y5
def Zdo:=cL Y4
def Zdp:=cR Y4
def Y3:=cL Zdo
def Zdr:=cL Y3
def Y2:=cR Y3
def Zdt:=cL Y2
def Y1:=cR Y2
def Zdv:=cL Y1
def Y0:=cR Y1
def YZ:=cL Y0
def Zdy:=cR Y0
def Zdz:=cL YZ
def Ze0:=cR YZ
def Ze1:=cL ZF
def Ze2:=cR ZF
def Ze3:=cL ZT
def Ze4:=cR ZT
set_option maxHeartbeats 1000000 in
set_option maxRecDepth 10000 in
theorem ajs{w:World}{M:Hp}{X:Fr}(d:Dg){bL:Nat}{cA iA oA:Option Addr}{cc ic oc:Nat}(bu:dG (M.un X.h) bL 70 [.slice cA d.ae.length cc,.int .i64 d.loops,.slice iA (ax d false (4*d.ae.length)).length ic,.slice oA (ax d true (4*d.ae.length)).length oc])(hsc:aG aF (M.un X.h) cA cc d.ae)(hsi:aG br (M.un X.h) iA ic (ax d false (4*d.ae.length)))(aK:aG br (M.un X.h) oA oc (ax d true (4*d.ae.length)))(hn:d.ae.length<=16)(hab:aN d=true)(S:SH w M X []):Ct Tryz.prog 105 [.pointer (some ⟨bL,0,none⟩)] w M X (fun u M=>∃A c vs,u=.slice A vs.length c/\aG (di 53) M A c vs/\fy Uv M vs (cz d)):=by
 unfold Ct
 refine Up (b:=ZY) Tryz.func105 rfl Tryz.ntmps105 rfl (fun C hC=>(bq [(0,_)] ⟨rfl,trivial⟩ (U2 Zc2 ZX rfl rfl rfl (U0 rfl (ag 0 1 rfl rfl (U5 rfl (ah [0] rfl (U3 (U2 Zc4 ZW rfl rfl rfl ?_)))))))))
 refine U0 rfl (ag 0 1 rfl rfl (af 1 rfl (U9 rfl rfl) (af 2 rfl (U1 rfl rfl dR rfl (fE) (fD)) (af 3 rfl (U1 rfl rfl ay rfl (bK) (bJ)) (af 4 rfl (U4 rfl rfl bt rfl (bu.cell S.um rfl)) (af 5 rfl (cU rfl rfl rfl rfl rfl rfl bt) (ak 6 7 rfl rfl rfl (qj (C:=ib) d.ae.length rfl rfl rfl rfl rfl nL (by first|rfl|omega) (by show _*1<=_;first|omega|(simp only[ls];omega)) S ?_))))))))
 intro AL w1 S1;clear S
 refine ag 7 1 rfl rfl (U5 rfl (ah [0,3] rfl (U3 (U2 Zc6 ZV rfl rfl rfl (U0 rfl (ag 0 1 rfl rfl (U5 rfl (U3 ?_))))))))
 refine U2 ZU ZT rfl rfl rfl (U2 Zca Zcb rfl rfl rfl (U0 rfl (ag 0 1 rfl rfl (af 1 rfl (U9 rfl rfl) (af 2 rfl (U1 rfl rfl dR rfl (fE) (fD)) (af 3 rfl (U1 rfl rfl ay rfl (bK) (bJ)) (af 4 rfl (U4 rfl rfl bt rfl (bu.cell S1.um rfl)) (af 5 rfl (cU rfl rfl rfl rfl rfl rfl bt) ?_))))))))
 refine ag 6 1 rfl rfl (U5 rfl (ah [0,3,4,22,23] rfl (U3 (Uc Zcc 0 rfl rfl rfl ?_))))
 have S2:=S1.nH (di 53);clear S1
 refine Ux (fun aS au aM=>∃(c:Nat) (seen:List Bool) (vs:List fO) (bQ:List (List Int)) (vB:Value) (fM:Value) (M1:Hp),M.le M1/\aS=d.ae.length-c/\Env 74 [(0,.pointer (some ⟨bL,0,none⟩)),(3,vB),(4,fM),(22,.int .i64 (d.ae.length:Int)),(23,.int .i64 (c:Int))] au/\SH aM M1 X [Rs.row (di 53) fM vs,Rs.row ib vB seen]/\c<=d.ae.length/\iJ d c=(seen,bQ)/\fy Uv M1 vs bQ) rfl ?_ ?_
 ·intro au aq
  refine⟨_,⟨0,_,_,[],_,_,_,Hp.le_refl _,rfl,aq.sub ⟨rfl,rfl,rfl,rfl,rfl,trivial⟩,S2.pick [0,1] [_,_] (by decide) ⟨rfl,rfl,trivial⟩,?cd,?dm,?mW⟩⟩
  case cd=>omega
  case dm=>rfl
  case mW=>first|exact fy.eX|(rw[e9];exact fy.eX)
 ·rintro m1 a1 w2 ⟨c,seen,vs,bQ,vB,fM,M1,aL,rfl,aY,S3,hc,rz,fJ⟩
  clear S2
  refine bX aY (c:=ZR) rfl ?_
  clear aY a1
  replace bu:=bu.mono (Hp.Ua aL S3.mx)
  replace hsc:=hsc.mono (Hp.Ua aL S3.mx)
  replace hsi:=hsi.mono (Hp.Ua aL S3.mx)
  replace aK:=aK.mono (Hp.Ua aL S3.mx)
  have hvs:=fJ.1
  have lD:=BM d c
  rw[rz]at lD
  replace lD:bQ.length<=c:=lD
  have hsl:seen.length=d.ae.length:=by have h9:=abp d c;rw[rz]at h9;exact h9
  refine U2 Zce ZQ rfl rfl rfl (U0 rfl (af 0 rfl (bS rfl rfl rfl) (U5 rfl (U3 (U2 ZP ZO rfl rfl rfl ?_)))))
  refine Uf Zci Zcj rfl rfl rfl rfl (fun mC=>?_) (fun mC=>?_)
  ·refine Ue rfl (ah [0,3,4,22,23] rfl (U3 (U2 Zck Zcl rfl rfl rfl (Uc ZN 1 rfl rfl rfl (U2 Zcn ZM rfl rfl rfl (U0 rfl (ag 0 2 rfl rfl (U5 rfl ?_))))))))
   refine ah [0,3,4,22,23,5] rfl (U3 (U2 ZL ZK rfl rfl rfl (U2 Zcr ZJ rfl rfl rfl (U0 rfl (ag 0 2 rfl rfl (af 2 rfl (Uj (C:=ib) (i:=1) c rfl rfl rfl nL S3 rfl (by first|rfl|omega) (by first|omega|(simp only[ls];omega))) ?_))))))
   refine af 3 rfl (U4 rfl rfl dL rfl (S3.dW (i:=1) (e:=c) (j:=0) rfl (by first|omega|(simp only[ls];omega)) rfl rfl)) ?_
   refine U5 rfl (ah [0,3,4,22,23,5,29] rfl (U3 ?_))
   refine dN Zct Zcu rfl rfl rfl rfl (fun nS=>?_) (fun nS=>?_)
   ·refine bP rfl rfl (ah [0,3,4,22,23] rfl (U3 (U0 rfl (af 0 rfl (Ug rfl rfl rfl (by first|omega|(simp only[ls];omega))) ?_))))
    refine ag 1 1 rfl rfl (U5 rfl (aO ?_))
    intro au aq
    refine⟨_,?dQ,⟨c+1,_,_,bQ,_,_,_,(aL),rfl,aq.sub ⟨rfl,rfl,rfl,rfl,rfl,trivial⟩,S3.pick [0,1] [_,_] (by decide) ⟨rfl,rfl,trivial⟩,?cx,?dC,?lC⟩⟩
    case cx=>omega
    case dC=>first|exact Ga rz nS|exact Gm rz (by simpa using nS) (RM.trans (Gi (by show l.length<=i;omega)))
    case lC=>first|exact fJ|(rw[e9];exact fJ)
    case dQ=>omega
   ·refine Ue rfl (ah [0,3,4,22,23,5] rfl (U3 (U2 Zcv ZI rfl rfl rfl (U0 rfl (ag 0 2 rfl rfl (af 2 rfl (Uj (C:=ib) (i:=1) c rfl rfl rfl nL S3 rfl (by first|rfl|omega) (by first|omega|(simp only[ls];omega))) ?_))))))
    refine ak 3 4 rfl rfl rfl (ig (C:=ib) (i:=1) (e:=c) (j:=0) (us:=[_]) (H':=[_,_]) true rfl rfl S3 rfl (by first|omega|(simp only[ls];omega)) rfl rfl rfl xU rfl rfl rfl rfl ?_)
    intro w3 S4;clear S3
    refine U5 rfl (ah [0,3,4,22,23,5] rfl (U3 (U2 Zcx ZH rfl rfl rfl (U0 rfl (ag 0 1 rfl rfl (ak 1 2 rfl rfl rfl (ij (C:=Uv) (l:=[_]) rfl rfl rfl rfl bA rfl rfl rfl rfl S4 ?_)))))))
    intro aI w4 S5;clear S4
    refine ag 2 1 rfl rfl (U5 rfl (ah [0,3,4,22,23,6] rfl (U3 (U2 ZG ZF rfl rfl rfl (U2 Zd1 Zd2 rfl rfl rfl (U0 rfl (ag 0 1 rfl rfl (U5 rfl ?_))))))))
    refine U3 (Uc Zd3 2 rfl rfl rfl ?_)
    have S6:=S5.alB (C:=Uv) [(c:Int)] (i:=0) (H':=[_,_,_]) rfl rfl (by simp) rfl;clear S5
    obtain⟨Rq,er3⟩:∃v,v=Value.slice (some ⟨aI,0,none⟩) ([(c:Int)]).length ([(c:Int)]).length:=⟨_,rfl⟩
    rw[<-er3]at S6
    refine kf 6 (Rq) rfl er3.symm ?_
    refine Ux (fun aS au aM=>∃(i:Nat) (gj:List Bool) (l:List Int) (uH:Value) (o7:Value),aS=d.ae.length-i/\Env 74 [(0,.pointer (some ⟨bL,0,none⟩)),(3,uH),(4,fM),(22,.int .i64 (d.ae.length:Int)),(23,.int .i64 (c:Int)),(6,o7),(7,.int .i64 (i:Int))] au/\SH aM M1 X [Rs.row Uv o7 l,Rs.row (di 53) fM vs,Rs.row ib uH gj]/\bfsN d d.ae.length 0 (seen.set c true,[(c:Int)])=bfsN d (d.ae.length-i) i (gj,l)/\i<=l.length/\l.length+free gj<=d.ae.length/\(∀y,y∈l->0<=y/\y<(d.ae.length:Int))/\gj.length=d.ae.length) rfl ?_ ?_
    ·intro au aq
     refine⟨_,⟨0,_,_,_,_,rfl,aq.sub ⟨rfl,rfl,rfl,rfl,rfl,rfl,rfl,trivial⟩,S6.pick [0,1,2] [_,_,_] (by decide) ⟨rfl,rfl,rfl,trivial⟩,?eB,?gu,?qs,?zr,?Ij⟩⟩
     case eB=>rfl
     case gu=>(exact Nat.zero_le _)
     case qs=>(have h8:=nC (seen:=seen) (x:=c) (by omega) (by simpa using nS);have h9:free seen<=seen.length:=List.countP_le_length;show 1+_<=_;omega)
     case zr=>(intro y hy;rw[List.mem_singleton]at hy;subst hy;omega)
     case Ij=>(rw[List.length_set];exact hsl)
    ·rintro m2 a2 w5 ⟨i,gj,l,uH,o7,rfl,cB,S7,RM,hi,Be,hin,hs2⟩
     clear S6
     refine bX cB (c:=ZE) rfl ?_
     clear cB a2
     refine U2 ZC ZB rfl rfl rfl (U2 Zd7 ZA rfl rfl rfl (U0 rfl (ag 0 2 rfl rfl (af 2 rfl (qa (C:=Uv) (i:=0) rfl rfl rfl rfl rfl rfl bA S7 rfl) (af 3 rfl (bS rfl rfl rfl) (U5 rfl (ah [0,3,4,22,23,6,7,38] rfl (U3 ?_))))))))
     refine Uf Zd9 Zda rfl rfl rfl rfl (fun uU=>?_) (fun uU=>?_)
     ·have hil:i<l.length:=by omega
      have kB:=hin (ga l i) (by rw[eo hil];exact List.getElem_mem hil)
      obtain⟨x,hx⟩:∃x:Nat,ga l i=(x:Int):=⟨(ga l i).toNat,by omega⟩
      have hxn:x<d.ae.length:=by omega
      refine Ue rfl (ah [0,3,4,22,23,6,7] rfl (U3 (U2 Zdb Zdc rfl rfl rfl (Uc Y8 3 rfl rfl rfl (U2 Zde Zdf rfl rfl rfl (U0 rfl (ag 0 1 rfl rfl (U5 rfl ?_))))))))
      refine U3 (Uc Zdg 4 rfl rfl rfl ?_)
      refine Ux (fun aS au aM=>∃(k:Nat) (ur:List Bool) (l3:List Int) (IP:Value) (IQ:Value),aS=4-k/\Env 74 [(0,.pointer (some ⟨bL,0,none⟩)),(3,IP),(4,fM),(22,.int .i64 (d.ae.length:Int)),(23,.int .i64 (c:Int)),(6,IQ),(7,.int .i64 (i:Int)),(41,.int .i64 (k:Int))] au/\SH aM M1 X [Rs.row Uv IQ l3,Rs.row (di 53) fM vs,Rs.row ib IP ur]/\k<=4/\bfsS d x (gj,l) k=(ur,l3)/\l3.length+free ur<=d.ae.length/\(∀y,y∈l3->0<=y/\y<(d.ae.length:Int))/\ur.length=d.ae.length/\i<l3.length/\ga l3 i=(x:Int)) rfl ?_ ?_
      ·intro au aq
       refine⟨_,⟨0,_,_,_,_,rfl,aq.sub ⟨rfl,rfl,rfl,rfl,rfl,rfl,rfl,rfl,trivial⟩,S7.pick [0,1,2] [_,_,_] (by decide) ⟨rfl,rfl,rfl,trivial⟩,?eW,?gq,?oG,?zq,?Ii,?Ih,?amq⟩⟩
       case eW=>omega
       case gq=>rfl
       case oG=>exact Be
       case zq=>exact hin
       case Ii=>exact hs2
       case Ih=>omega
       case amq=>exact hx
      ·rintro m3 a3 w6 ⟨k,ur,l3,IP,IQ,rfl,fu,S8,hk,hbs,aen,zJ,hs3,RG,hx3⟩
       clear S7
       refine bX fu (c:=Y7) rfl ?_
       clear fu a3
       refine U2 Zdi Y6 rfl rfl rfl (U0 rfl (af 0 rfl (bS rfl rfl rfl) (U5 rfl (U3 (U2 Y5 Y4 rfl rfl rfl ?_)))))
       refine Uf Zdm Zdn rfl rfl rfl rfl (fun qI=>?_) (fun qI=>?_)
       ·refine Ue rfl (ah [0,3,4,22,23,6,7,41] rfl (U3 (U2 Zdo Zdp rfl rfl rfl (Uc Y3 5 rfl rfl rfl (U2 Zdr Y2 rfl rfl rfl (U0 rfl (ag 0 2 rfl rfl (U5 rfl ?_))))))))
        refine ah [0,3,4,22,23,6,7,41,8] rfl (U3 (U2 Zdt Y1 rfl rfl rfl (U0 rfl (ag 0 3 rfl rfl (af 3 rfl (Uj (C:=Uv) (i:=0) i rfl rfl rfl bA S8 rfl (by first|rfl|omega) (by first|omega|(simp only[ls];omega))) ?_)))))
        refine af 4 rfl (U4 rfl rfl av rfl (S8.dW (i:=0) (e:=i) (j:=0) rfl (by first|omega|(simp only[ls];omega)) rfl rfl)) ?_
        refine cy 48 (.int .i64 (x:Int)) rfl (int_eq hx3) ?_
        have hnb:=CN hab (k:=k) hxn (by omega)
        refine ag 5 1 rfl rfl (af 6 rfl (run_build (l:=[_,_]) rfl rfl H6 rfl rfl) (ak 7 8 rfl rfl rfl (cS rfl rfl rfl rfl rfl rfl rfl anm S8 (akA d x k (bu.mono S8.Uy) (hsc.mono S8.Uy) (hsi.mono S8.Uy) (aK.mono S8.Uy) (by first|assumption|omega) hab (by omega) (by omega) S8.aD) ?_)))
        rintro _ w7 S9 rfl;clear S8
        refine af 8 rfl (ma rfl rfl cO rfl av rfl rfl) (ag 9 1 rfl rfl (U5 rfl (ah [0,3,4,22,23,6,7,41,9] rfl (U3 (U2 Zdv Y0 rfl rfl rfl (kf 9 (.int .i64 ((fS d x k:Nat):Int)) rfl (int_eq rfl) (U0 rfl (ag 0 2 rfl rfl ?_))))))))
        refine af 2 rfl (Uj (C:=ib) (i:=2) (fS d x k) rfl rfl rfl nL S9 rfl (by first|rfl|omega) (by first|omega|(simp only[ls];omega))) ?_
        refine af 3 rfl (U4 rfl rfl dL rfl (S9.dW (i:=2) (e:=fS d x k) (j:=0) rfl (by first|omega|(simp only[ls];omega)) rfl rfl)) ?_
        refine af 4 rfl (dS rfl rfl) (U5 rfl (ah [0,3,4,22,23,6,7,41,9,57] rfl (U3 ?_)))
        refine dN YZ Zdy rfl rfl rfl rfl (fun DI=>?_) (fun DI=>?_)
        ·simp only[Bool.and_eq_true,Bool.or_eq_true,Bool.and_eq_false_iff,Bool.or_eq_false_iff,decide_eq_true_eq,decide_eq_false_iff_not,Bool.not_eq_true',Bool.not_eq_false']at DI
         have rC:ga ur (fS d x k)=false:=by simpa using DI
         have nt:=nC (seen:=ur) (x:=fS d x k) (by omega) rC
         refine U2 Zdz Ze0 rfl rfl rfl (U0 rfl (ag 0 2 rfl rfl (af 2 rfl (Uj (C:=ib) (i:=2) (fS d x k) rfl rfl rfl nL S9 rfl (by first|rfl|omega) (by first|omega|(simp only[ls];omega))) ?_)))
         refine ak 3 4 rfl rfl rfl (ig (C:=ib) (i:=2) (e:=fS d x k) (j:=0) (us:=[_]) (H':=[_,_,_]) true rfl rfl S9 rfl (by first|omega|(simp only[ls];omega)) rfl rfl rfl xU rfl rfl rfl rfl ?_)
         intro w8 bw;clear S9
         refine U5 rfl (ah [0,3,4,22,23,6,7,41,9] rfl (U3 (U0 rfl (ag 0 2 rfl rfl (ak 2 3 rfl rfl rfl (ij (C:=Uv) (l:=[_]) rfl rfl rfl rfl bA rfl rfl rfl rfl bw ?_))))))
         intro aQ w9 bW;clear bw
         refine ak 3 4 rfl rfl rfl (ji (C:=Uv) (i:=1) (q:=0) ((fS d x k:Nat):Int) rfl rfl rfl rfl rfl rfl rfl rfl bA bW rfl rfl rfl (by show(_+1)*8<=_;first|omega|(simp only[ls];omega)) ?_)
         intro adY jT bV;clear bW
         have bZ:=bV.pick [1,2,3] [_,_,_] (by decide) ⟨rfl,rfl,rfl,trivial⟩;clear bV
         refine ag 4 1 rfl rfl (U5 rfl (bj (ah [0,3,4,22,23,6,7,41] rfl (U3 (U0 rfl (af 0 rfl (Ug rfl rfl rfl (by first|omega|(simp only[ls];omega))) ?_))))))
         refine ag 1 1 rfl rfl (U5 rfl (aO ?_))
         intro au aq
         refine⟨_,?kv,⟨k+1,_,_,_,_,rfl,aq.sub ⟨rfl,rfl,rfl,rfl,rfl,rfl,rfl,rfl,trivial⟩,bZ.pick [0,1,2] [_,_,_] (by decide) ⟨rfl,rfl,rfl,trivial⟩,?fC,?gp,?mV,?Ig,?amo,?amn,?amm⟩⟩
         case fC=>omega
         case gp=>(show nU _ _=_;rw[hbs,nU];first|rw[if_pos (by assumption)]|rw[if_neg (by rw[rC];exact Bool.false_ne_true)])
         case mV=>first|exact aen|(rw[List.length_append];show _+1+_<=_;omega)
         case Ig=>first|exact zJ|(intro y hy;rcases List.mem_append.1 hy with hy|hy;exact zJ y hy;rw[List.mem_singleton]at hy;subst hy;omega)
         case amo=>first|exact hs3|(rw[List.length_set];exact hs3)
         case amn=>first|exact RG|(rw[List.length_append];omega)
         case amm=>first|exact hx3|(rw[yt _ _ _ (by omega)];exact hx3)
         case kv=>omega
        ·simp only[Bool.and_eq_true,Bool.or_eq_true,Bool.and_eq_false_iff,Bool.or_eq_false_iff,decide_eq_true_eq,decide_eq_false_iff_not,Bool.not_eq_true',Bool.not_eq_false']at DI
         refine Ue rfl (bj (ah [0,3,4,22,23,6,7,41] rfl (U3 (U0 rfl (af 0 rfl (Ug rfl rfl rfl (by first|omega|(simp only[ls];omega))) ?_)))))
         refine ag 1 1 rfl rfl (U5 rfl (aO ?_))
         intro au aq
         refine⟨_,?ku,⟨k+1,_,_,_,_,rfl,aq.sub ⟨rfl,rfl,rfl,rfl,rfl,rfl,rfl,rfl,trivial⟩,S9.pick [0,1,2] [_,_,_] (by decide) ⟨rfl,rfl,rfl,trivial⟩,?gW,?iY,?uA,?aml,?amk,?amj,?ami⟩⟩
         case gW=>omega
         case iY=>(show nU _ _=_;rw[hbs,nU];first|rw[if_pos (by assumption)]|rw[if_neg (by rw[rC];exact Bool.false_ne_true)])
         case uA=>first|exact aen|(rw[List.length_append];show _+1+_<=_;omega)
         case aml=>first|exact zJ|(intro y hy;rcases List.mem_append.1 hy with hy|hy;exact zJ y hy;rw[List.mem_singleton]at hy;subst hy;omega)
         case amk=>first|exact hs3|(rw[List.length_set];exact hs3)
         case amj=>first|exact RG|(rw[List.length_append];omega)
         case ami=>first|exact hx3|(rw[yt _ _ _ (by omega)];exact hx3)
         case ku=>omega
       ·refine bP rfl rfl (bj (ah [0,3,4,22,23,6,7] rfl (U3 (U0 rfl (ag 0 1 rfl rfl (af 1 rfl (Ug rfl rfl rfl (by first|omega|(simp only[ls];omega))) ?_))))))
        refine ag 2 1 rfl rfl (U5 rfl (aO ?_))
        intro au aq
        refine⟨_,?lL,⟨i+1,_,_,_,_,rfl,aq.sub ⟨rfl,rfl,rfl,rfl,rfl,rfl,rfl,trivial⟩,S8.pick [0,1,2] [_,_,_] (by decide) ⟨rfl,rfl,rfl,trivial⟩,?iX,?ki,?Ie,?amh,?amg⟩⟩
        case iX=>(rw[RM,show d.ae.length-i=(d.ae.length-(i+1))+1 by omega];exact akt (by show i<l.length;omega) hx (hbs▸(by rw[show k=4 by omega])))
        case ki=>omega
        case Ie=>omega
        case amh=>exact zJ
        case amg=>exact hs3
        case lL=>omega
     ·have hsr:=abN l
      refine bP rfl rfl (ah [0,3,4,22,23,6] rfl (U3 (U2 Ze1 Ze2 rfl rfl rfl (U0 rfl (ag 0 1 rfl rfl (ak 1 2 rfl rfl rfl (jP rfl rfl rfl rfl rfl rfl rfl anp S7 (i:=0) rfl (akQ (by omega) (S7.iG (i:=0) rfl)) ?_)))))))
      rintro ayf kV _ _-bI ⟨rfl,rfl,rfl⟩;clear S7
      change SH _ _ _ [_,_,_]at bI
      refine U5 rfl (ah [0,3,4,22,23,6] rfl (U3 (U0 rfl (ag 0 2 rfl rfl ?_))))
      obtain⟨M2,cE,bO,⟨A1,c1,e1,hr1⟩⟩:=bI.fZ (i:=0) (H':=[_,_,_]) rfl rfl (by show _*8<=_;first|omega|(simp only[ls];omega))
      clear bI;subst e1
      replace bu:=bu.mono (Hp.Ua cE bO.mx)
      replace hsc:=hsc.mono (Hp.Ua cE bO.mx)
      replace hsi:=hsi.mono (Hp.Ua cE bO.mx)
      replace aK:=aK.mono (Hp.Ua cE bO.mx)
      replace fJ:=fJ.mono cE
      refine ak 2 3 rfl rfl rfl (ij (C:=(di 53)) (l:=[_]) rfl rfl rfl rfl CY rfl rfl rfl rfl bO ?_)
      intro bz lU cm;clear bO
      refine ak 3 4 rfl rfl rfl (ji (C:=(di 53)) (i:=2) (q:=0) (⟨A1,(gF l).length,c1⟩:fO) rfl rfl rfl rfl rfl rfl rfl rfl CY cm rfl rfl rfl (by show(_+1)*24<=_;first|omega|(simp only[ls];omega)) ?_)
      intro adX kz bF;clear cm
      have bU:=bF.pick [1,2,3] [_,_,_] (by decide) ⟨rfl,rfl,rfl,trivial⟩;clear bF
      have hd1:=fJ.snoc (c:=c1) hr1
      refine ag 4 1 rfl rfl (U5 rfl (bj (ah [0,3,4,22,23] rfl (U3 (U0 rfl (af 0 rfl (Ug rfl rfl rfl (by first|omega|(simp only[ls];omega))) ?_))))))
      refine ag 1 1 rfl rfl (U5 rfl (aO ?_))
      intro au aq
      refine⟨_,?lK,⟨c+1,_,_,(bQ++[gF l]),_,_,_,(aL.trans cE),rfl,aq.sub ⟨rfl,rfl,rfl,rfl,rfl,trivial⟩,bU.pick [1,2] [_,_] (by decide) ⟨rfl,rfl,trivial⟩,?jC,?lB,?amf⟩⟩
      case jC=>omega
      case lB=>first|exact Ga rz nS|exact Gm rz (by simpa using nS) (RM.trans (Gi (by show l.length<=i;omega)))
      case amf=>first|exact hd1|(rw[e9];exact hd1)
      case lK=>omega
  ·refine bP rfl rfl (ah [4] rfl (U3 (U2 Ze3 Ze4 rfl rfl rfl (U0 rfl (ag 0 2 rfl rfl (U5 rfl (ah [2] rfl (U3 ?_))))))))
   obtain⟨M3,fL,dP,⟨A2,c2,e2,hr2⟩⟩:=S3.fZ (i:=0) (H':=[_,_]) rfl rfl (by show _*24<=_;first|omega|(simp only[ls];omega))
   clear S3;subst e2
   replace bu:=bu.mono (Hp.Ua fL dP.mx)
   replace hsc:=hsc.mono (Hp.Ua fL dP.mx)
   replace hsi:=hsi.mono (Hp.Ua fL dP.mx)
   replace aK:=aK.mono (Hp.Ua fL dP.mx)
   replace fJ:=fJ.mono fL
   refine Uk hC [_] rfl rfl ⟨rfl,trivial⟩ ?_
   refine⟨_,rfl,_,aL.trans fL,(dP.pick [] [] (by decide) trivial),?_⟩
   obtain rfl:c=d.ae.length:=by omega
   have e2:cz d=bQ:=by unfold cz;rw[rz]
   rw[e2]
   exact⟨_,_,_,rfl,hr2,fJ⟩
end Go.Proofs.YthppkofceancjaaGreat
