/- Part 8 of the proof of the law TableSeeks: the walks through its functions and the plain laws that they need. -/
import Derived.Test.YtcohmplpgcddiaaGreatDoorSmZ7
import Derived.RecoverIn
set_option linter.unusedSimpArgs false
set_option linter.unusedVariables false
noncomputable section
namespace Go.Proofs.YtcohmplpgcddiaaGreatDoor
open Go.ChangeShapes Go.WideShapes Go.ChangeAt Go.RowKit
theorem Sm{nx:Nat->Nat}{Q:Nat->Prop}(hx:∀c,Q c->Q (nx c))(seen:List Bool)(x:Nat)(acc:List Int)(h:Q x)(ha:∀y∈acc,∃c:Nat,y=(c:Int)/\Q c):∀y∈(ju nx seen x acc).2,∃c:Nat,y=(c:Int)/\Q c:=by
 induction hk:free seen using Nat.strongRecOn generalizing seen x acc with
 |_ k ih=>
  by_cases hc:x<seen.length/\ga seen x=false
  ·rw[zj hc.1 hc.2]
   have:=sU hc.1 hc.2
   refine ih (free (seen.set x true)) (by omega) (seen.set x true) (nx x) (acc++[(x:Int)]) (hx _ h) ?_ rfl
   intro y hy
   rcases List.mem_append.1 hy with hy|hy
   ·exact ha y hy
   ·rw[List.mem_singleton]at hy;exact⟨x,hy,h⟩
  ·rw[ju]
   simp only[hc,if_false,dite_false]
   exact ha
theorem aa2{d:Dg}(h:aO d=true)(k:Nat)(hk:k<=4*d.ae.length):∀r∈(gG d k).2,∀y∈r,∃c:Nat,y=(c:Int)/\(2<=c/\c<4*d.ae.length+2):=by
 induction k with
 |zero=>intro r hr;simp[gG]at hr
 |succ k ih=>
  by_cases hg:ga (gG d k).1 (k+2)=true
  ·rw[xL rfl hg];exact ih (by omega)
  ·rw[xK rfl (by simpa using hg) rfl]
   intro r hr
   rcases List.mem_append.1 hr with hr|hr
   ·exact ih (by omega) r hr
   ·rw[List.mem_singleton]at hr
    subst hr
    exact Sm (Q:=fun c=>2<=c/\c<4*d.ae.length+2) (fun c hc=>zW h hc) _ _ _ ⟨by omega,by omega⟩ (fun y hy=>by cases hy)
theorem Ic{d:Dg}(h:aO d=true){x:List Da}(hx:x∈ai d):∀y∈x,okD d y:=by
 unfold ai CN at hx
 obtain⟨r,hr,rfl⟩:=List.mem_map.1 hx
 intro y hy
 unfold jY at hy
 obtain⟨c,hc,rfl⟩:=List.mem_map.1 hy
 obtain⟨e,rfl,he⟩:=aa2 h _ (Nat.le_refl _) r hr c hc
 rw[Int.toNat_natCast]
 exact nE he
def fh(d:Dg)(x:Da):Nat:=(aF d x.a (!x.b)).1
def kR(d:Dg)(i j:Int)(x:List Da):Bool:=decide (x.length=2/\((fh d (ga x 0):Int)=i/\(fh d (ga x 1):Int)=j\/(fh d (ga x 0):Int)=j/\(fh d (ga x 1):Int)=i)/\(hgt d (ga x 0).a=2/\hgt d (ga x 1).a=0\/hgt d (ga x 0).a=0/\hgt d (ga x 1).a=2))
def iG(d:Dg)(m:Mv):Int:=if(0<=m.at_/\m.at_<(d.ae.length:Int))/\(0<=m.dG/\m.dG<(d.ae.length:Int))/\m.at_≠m.dG then(if(ai d).any (kR d m.at_ m.dG)=true then mL d [m.at_.toNat,m.dG.toNat]else 8)else 3
def DU(d:Dg)(m:Mv):Dg:=ik d (cG [m.at_.toNat,m.dG.toNat])
noncomputable def Z3j:=Tryz.f105.body.getD .skip
set_option maxHeartbeats 1000000 in
set_option maxRecDepth 10000 in
theorem adu{w:World}{M:Hp}{X:Fr}(s:List Da){sA:Option Addr}{sc:Nat}(d:Dg){cI:Nat}{cA iA oA:Option Addr}{cc ic oc:Nat}{dO:Nat}{fV:Value}{gx:Nat}(m:Mv){gm:Nat}(hs:aJ ib (M.un X.h) sA sc s)(hbb:fW (M.un X.h) dO 63 [.pointer (some ⟨cI,0,none⟩),fV])(bI:fW (M.un X.h) cI 66 [.slice cA d.ae.length cc,.int .i64 d.loops,.slice iA (aI d false (4*d.ae.length)).length ic,.slice oA (aI d true (4*d.ae.length)).length oc])(hsc:aJ bu (M.un X.h) cA cc d.ae)(hsi:aJ cQ (M.un X.h) iA ic (aI d false (4*d.ae.length)))(bq:aJ cQ (M.un X.h) oA oc (aI d true (4*d.ae.length)))(qM:fW (M.un X.h) gx 57 [.pointer (some ⟨dO,0,none⟩)])(KE:fW (M.un X.h) gm 35 [.int .i64 m.kd,.int .i64 m.at_,.int .i64 m.dG,.int .i64 m.ua,.bool m.ub,.int .i64 m.va,.bool m.vb,.bool m.ov])(hn:d.ae.length<=16)(hab:aO d=true)(hok:∀x∈s,okD d x)(S:SH w M X []):Cq Tryz.prog 105 [.slice sA s.length sc,.pointer (some ⟨gx,0,none⟩),.pointer (some ⟨gm,0,none⟩)] w M X (fun u=>u=.bool (kR d m.at_ m.dG s)):=by
 unfold Cq
 have Df:s.length*16<=140737488355328:=hs.room
 refine cw (b:=Z3j) Tryz.func105 rfl Tryz.ntmps105 rfl (fun C hC=>(cB [0,1,2] rfl (ar (af 1 rfl (bM [0,1,2] rfl (ar (af 1 rfl (ag rfl (cK rfl nG) (af 1 rfl ?_)))))))))
 refine ax [0,1,2,13] rfl ?_
 refine bp rfl (fun uw=>?_) (fun uw=>?_)
 ·refine ar (af 1 rfl (ax [4] rfl (bU hC rfl ?_)))
  exact⟨_,rfl,(S.pick [] [] (by decide) trivial),(by show Value.bool _=Value.bool _;refine congrArg Value.bool ?_;unfold kR fh;rw[Bool.eq_iff_iff];simp only[decide_eq_true_eq,Bool.false_eq_true,false_iff,true_iff];omega)⟩
 ·have ho0:okD d (ga s 0):=hok _ (cY (by omega))
  have uT:okD d (ga s 1):=hok _ (cY (by omega))
  have hp0:1<=(ga s 0).a/\(ga s 0).a<=2*(d.ae.length:Int):=ho0
  have hp1:1<=(ga s 1).a/\(ga s 1).a<=2*(d.ae.length:Int):=uT
  refine aV (bC [0,1,2] rfl (dH S 20 ?_))
  clear S
  refine ay 0 rfl (fun ah Sz=>aw rfl yT ((qM.mono (Hp.aD ah Sz.mx)).cell Sz.um rfl)) (aK 18 [1] rfl (aS 2 rfl (az rfl kX rfl mW mN) (ay 3 rfl (fun ah Sz=>aw rfl lB ((hbb.mono (Hp.aD ah Sz.mx)).cell Sz.um rfl)) (aK 15 [4] rfl (ay 5 rfl (fun ah Sz=>cN 0 rfl mM (hs.mono (Hp.aD ah Sz.mx))) (ay 6 rfl (fun ah Sz=>aU [_,_] rfl eA gD ((hs.mono (Hp.aD ah Sz.mx)).j6 Sz.um (e:=0) (by first|omega|(simp only[ls];omega)) (j:=0) ⟨rfl,rfl,trivial⟩)) ?_))))))
  refine dQ 7 rfl (fun ah Sz=>dZ rfl rfl rfl rfl rfl NZ Sz (MW d (ga s 0) ((bI.mono (Hp.aD ah Sz.mx)).mono Sz.bn) ((hsc.mono (Hp.aD ah Sz.mx)).mono Sz.bn) ((hsi.mono (Hp.aD ah Sz.mx)).mono Sz.bn) ((bq.mono (Hp.aD ah Sz.mx)).mono Sz.bn) (by first|assumption|omega) hab (by first|assumption|omega) Sz.aT)) ?_
  refine aS 8 rfl (rH rfl rfl dX rfl aG rfl rfl) (ay 9 rfl (fun ah Sz=>aw rfl yT ((qM.mono (Hp.aD ah Sz.mx)).cell Sz.um rfl)) (aK 9 [10] rfl (aS 11 rfl (az rfl kX rfl mW mN) (ay 12 rfl (fun ah Sz=>aw rfl lB ((hbb.mono (Hp.aD ah Sz.mx)).cell Sz.um rfl)) (aK 6 [13] rfl (ay 14 rfl (fun ah Sz=>cN 1 rfl mM (hs.mono (Hp.aD ah Sz.mx))) (ay 15 rfl (fun ah Sz=>aU [_,_] rfl eA gD ((hs.mono (Hp.aD ah Sz.mx)).j6 Sz.um (e:=1) (by first|omega|(simp only[ls];omega)) (j:=0) ⟨rfl,rfl,trivial⟩)) ?_)))))))
  refine dQ 16 rfl (fun ah Sz=>dZ rfl rfl rfl rfl rfl NZ Sz (MW d (ga s 1) ((bI.mono (Hp.aD ah Sz.mx)).mono Sz.bn) ((hsc.mono (Hp.aD ah Sz.mx)).mono Sz.bn) ((hsi.mono (Hp.aD ah Sz.mx)).mono Sz.bn) ((bq.mono (Hp.aD ah Sz.mx)).mono Sz.bn) (by first|assumption|omega) hab (by first|assumption|omega) Sz.aT)) ?_
  refine aS 17 rfl (rH rfl rfl dX rfl aG rfl rfl) (aK 0 [18,19] rfl (cD (fun vO eF=>(bC [0,1,2,5,6] rfl (ar (af 1 rfl (ag rfl (az rfl eT rfl aY aX) (ag rfl (aw rfl aG (KE.cell eF.um rfl)) (af 2 rfl ?_)))))))))
  refine lG (k':=10) (d:=41) (decide ((((aF d (ga s 0).a (!(ga s 0).b)).1:Int)=m.at_)/\(((aF d (ga s 1).a (!(ga s 1).b)).1:Int)=m.dG))) [(0,_),(1,_),(2,_),(5,_),(6,_)] ⟨rfl,rfl,rfl,rfl,rfl,trivial⟩ (fun Yd=>?_) ?_
  ·refine eN (t:=36) rfl (fun OW=>?_) (fun OW=>?_)
   ·refine af 1 rfl (b8 rfl (az rfl eT rfl aY aX) (b8 rfl (aw rfl aG (KE.cell eF.um rfl)) (af 2 rfl ?_)))
    exact dz 41 (.bool (decide ((((aF d (ga s 0).a (!(ga s 0).b)).1:Int)=m.at_)/\(((aF d (ga s 1).a (!(ga s 1).b)).1:Int)=m.dG)))) rfl (congrArg Value.bool (decide_eq_decide.2 ⟨fun h=>⟨OW,h⟩,fun h=>h.2⟩)) (gA [41,0,1,2,5,6] rfl Yd)
   ·refine af 5 rfl ?_
    exact dz 41 (.bool (decide ((((aF d (ga s 0).a (!(ga s 0).b)).1:Int)=m.at_)/\(((aF d (ga s 1).a (!(ga s 1).b)).1:Int)=m.dG)))) rfl (congrArg Value.bool (decide_eq_false (fun h=>OW h.1)).symm) (gA [41,0,1,2,5,6] rfl Yd)
  ·refine af 1 rfl ?_
   refine lG (k':=22) (d:=53) (decide (((((aF d (ga s 0).a (!(ga s 0).b)).1:Int)=m.at_)/\(((aF d (ga s 1).a (!(ga s 1).b)).1:Int)=m.dG))\/((((aF d (ga s 0).a (!(ga s 0).b)).1:Int)=m.dG)/\(((aF d (ga s 1).a (!(ga s 1).b)).1:Int)=m.at_)))) [(0,_),(1,_),(2,_),(5,_),(6,_)] ⟨rfl,rfl,rfl,rfl,rfl,trivial⟩ (fun Yb=>?_) ?_
   ·refine eN (t:=42) rfl (fun OV=>?_) (fun OV=>?_)
    ·refine af 6 rfl (af 5 rfl ?_)
     exact dz 53 (.bool (decide (((((aF d (ga s 0).a (!(ga s 0).b)).1:Int)=m.at_)/\(((aF d (ga s 1).a (!(ga s 1).b)).1:Int)=m.dG))\/((((aF d (ga s 0).a (!(ga s 0).b)).1:Int)=m.dG)/\(((aF d (ga s 1).a (!(ga s 1).b)).1:Int)=m.at_))))) rfl (congrArg Value.bool (decide_eq_true (.inl OV)).symm) (gA [53,0,1,2,5,6] rfl Yb)
    ·refine af 1 rfl (b8 rfl (az rfl eT rfl aY aX) (b8 rfl (aw rfl aG (KE.cell eF.um rfl)) (af 2 rfl ?_)))
     refine lG (k':=21) (d:=52) (decide ((((aF d (ga s 0).a (!(ga s 0).b)).1:Int)=m.dG)/\(((aF d (ga s 1).a (!(ga s 1).b)).1:Int)=m.at_))) [(0,_),(1,_),(2,_),(5,_),(6,_),(42,_)] ⟨rfl,rfl,rfl,rfl,rfl,rfl,trivial⟩ (fun Yc=>?_) ?_
     ·refine eN (t:=47) rfl (fun FY=>?_) (fun FY=>?_)
      ·refine af 1 rfl (b8 rfl (az rfl eT rfl aY aX) (b8 rfl (aw rfl aG (KE.cell eF.um rfl)) (af 2 rfl ?_)))
       exact dz 52 (.bool (decide ((((aF d (ga s 0).a (!(ga s 0).b)).1:Int)=m.dG)/\(((aF d (ga s 1).a (!(ga s 1).b)).1:Int)=m.at_)))) rfl (congrArg Value.bool (decide_eq_decide.2 ⟨fun h=>⟨FY,h⟩,fun h=>h.2⟩)) (gA [52,0,1,2,5,6,42] rfl Yc)
      ·refine af 5 rfl ?_
       exact dz 52 (.bool (decide ((((aF d (ga s 0).a (!(ga s 0).b)).1:Int)=m.dG)/\(((aF d (ga s 1).a (!(ga s 1).b)).1:Int)=m.at_)))) rfl (congrArg Value.bool (decide_eq_false (fun h=>FY h.1)).symm) (gA [52,0,1,2,5,6,42] rfl Yc)
     ·refine af 1 rfl ?_
      exact dz 53 (.bool (decide (((((aF d (ga s 0).a (!(ga s 0).b)).1:Int)=m.at_)/\(((aF d (ga s 1).a (!(ga s 1).b)).1:Int)=m.dG))\/((((aF d (ga s 0).a (!(ga s 0).b)).1:Int)=m.dG)/\(((aF d (ga s 1).a (!(ga s 1).b)).1:Int)=m.at_))))) rfl (congrArg Value.bool (decide_eq_decide.2 ⟨.inr,fun h=>h.resolve_left OV⟩)) (gA [53,0,1,2,5,6] rfl Yb)
   ·refine af 1 rfl (ax [0,1,54] rfl ?_)
    refine gB rfl (fun Bg=>?_) (fun Bg=>?_)
    ·simp only[Bool.and_eq_true,Bool.or_eq_true,Bool.and_eq_false_iff,Bool.or_eq_false_iff,decide_eq_true_eq,decide_eq_false_iff_not,Bool.not_eq_true',Bool.not_eq_false']at Bg
     refine ar (af 1 rfl (ax [4] rfl (bU hC rfl ?_)))
     exact⟨_,rfl,(eF.pick [] [] (by decide) trivial),(by show Value.bool _=Value.bool _;refine congrArg Value.bool ?_;unfold kR fh;rw[Bool.eq_iff_iff];simp only[decide_eq_true_eq,Bool.false_eq_true,false_iff,true_iff];omega)⟩
    ·simp only[Bool.and_eq_true,Bool.or_eq_true,Bool.and_eq_false_iff,Bool.or_eq_false_iff,decide_eq_true_eq,decide_eq_false_iff_not,Bool.not_eq_true',Bool.not_eq_false']at Bg
     refine aV (bC [0,1] rfl (dH eF 11 ?_))
     clear eF
     refine ay 0 rfl (fun ah Sz=>aw rfl yT ((qM.mono (Hp.aD ah Sz.mx)).cell Sz.um rfl)) (aK 9 [1] rfl (ay 2 rfl (fun ah Sz=>cN 0 rfl mM (hs.mono (Hp.aD ah Sz.mx))) (aS 3 rfl (az rfl eA rfl aY aX) (ay 4 rfl (fun ah Sz=>aw rfl aG ((hs.mono (Hp.aD ah Sz.mx)).cell Sz.um (i:=0) (by first|omega|(simp only[ls];omega)) 0 rfl rfl)) ?_))))
     refine dQ 5 rfl (fun ah Sz=>dZ rfl rfl rfl rfl rfl NY Sz (Mt d ((ga s 0).a) ((hbb.mono (Hp.aD ah Sz.mx)).mono Sz.bn) ((bI.mono (Hp.aD ah Sz.mx)).mono Sz.bn) ((hsc.mono (Hp.aD ah Sz.mx)).mono Sz.bn) ((hsi.mono (Hp.aD ah Sz.mx)).mono Sz.bn) ((bq.mono (Hp.aD ah Sz.mx)).mono Sz.bn) hn hab (by first|assumption|omega) Sz.aT)) ?_
     refine aK 0 [6,7,8,9,10] rfl (cD (fun zt jd=>(bC [0,1,7,8] rfl (dH jd 11 ?_))))
     clear jd
     refine ay 0 rfl (fun ah Sz=>aw rfl yT ((qM.mono (Hp.aD ah Sz.mx)).cell Sz.um rfl)) (aK 9 [1] rfl (ay 2 rfl (fun ah Sz=>cN 1 rfl mM (hs.mono (Hp.aD ah Sz.mx))) (aS 3 rfl (az rfl eA rfl aY aX) (ay 4 rfl (fun ah Sz=>aw rfl aG ((hs.mono (Hp.aD ah Sz.mx)).cell Sz.um (i:=1) (by first|omega|(simp only[ls];omega)) 0 rfl rfl)) ?_))))
     refine dQ 5 rfl (fun ah Sz=>dZ rfl rfl rfl rfl rfl NY Sz (Mt d ((ga s 1).a) ((hbb.mono (Hp.aD ah Sz.mx)).mono Sz.bn) ((bI.mono (Hp.aD ah Sz.mx)).mono Sz.bn) ((hsc.mono (Hp.aD ah Sz.mx)).mono Sz.bn) ((hsi.mono (Hp.aD ah Sz.mx)).mono Sz.bn) ((bq.mono (Hp.aD ah Sz.mx)).mono Sz.bn) hn hab (by first|assumption|omega) Sz.aT)) ?_
     refine aK 0 [6,7,8,9,10] rfl (cD (fun xP jV=>(cP [7,8,9,10] rfl (af 2 rfl ?_))))
     refine lG (k':=4) (d:=76) (decide ((hgt d ((ga s 0).a)=2)/\(hgt d ((ga s 1).a)=0))) [(8,_),(9,_),(10,_)] ⟨rfl,rfl,rfl,trivial⟩ (fun X9=>?_) ?_
     ·refine eN (t:=74) rfl (fun OU=>?_) (fun OU=>?_)
      ·refine af 2 rfl ?_
       exact dz 76 (.bool (decide ((hgt d ((ga s 0).a)=2)/\(hgt d ((ga s 1).a)=0)))) rfl (congrArg Value.bool (decide_eq_decide.2 ⟨fun h=>⟨OU,h⟩,fun h=>h.2⟩)) (gA [76,8,9,10] rfl X9)
      ·refine af 2 rfl ?_
       exact dz 76 (.bool (decide ((hgt d ((ga s 0).a)=2)/\(hgt d ((ga s 1).a)=0)))) rfl (congrArg Value.bool (decide_eq_false (fun h=>OU h.1)).symm) (gA [76,8,9,10] rfl X9)
     ·refine af 1 rfl ?_
      refine lG (k':=10) (d:=82) (decide (((hgt d ((ga s 0).a)=2)/\(hgt d ((ga s 1).a)=0))\/((hgt d ((ga s 0).a)=0)/\(hgt d ((ga s 1).a)=2)))) [(8,_),(9,_)] ⟨rfl,rfl,trivial⟩ (fun X5=>?_) ?_
      ·refine eN (t:=77) rfl (fun FV=>?_) (fun FV=>?_)
       ·refine af 5 rfl ?_
        exact dz 82 (.bool (decide (((hgt d ((ga s 0).a)=2)/\(hgt d ((ga s 1).a)=0))\/((hgt d ((ga s 0).a)=0)/\(hgt d ((ga s 1).a)=2))))) rfl (congrArg Value.bool (decide_eq_true (.inl FV)).symm) (gA [82,8,9] rfl X5)
       ·refine af 2 rfl ?_
        refine lG (k':=9) (d:=81) (decide ((hgt d ((ga s 0).a)=0)/\(hgt d ((ga s 1).a)=2))) [(8,_),(9,_),(77,_)] ⟨rfl,rfl,rfl,trivial⟩ (fun X6=>?_) ?_
        ·refine eN (t:=79) rfl (fun OS=>?_) (fun OS=>?_)
         ·refine af 2 rfl ?_
          exact dz 81 (.bool (decide ((hgt d ((ga s 0).a)=0)/\(hgt d ((ga s 1).a)=2)))) rfl (congrArg Value.bool (decide_eq_decide.2 ⟨fun h=>⟨OS,h⟩,fun h=>h.2⟩)) (gA [81,8,9,77] rfl X6)
         ·refine af 2 rfl ?_
          exact dz 81 (.bool (decide ((hgt d ((ga s 0).a)=0)/\(hgt d ((ga s 1).a)=2)))) rfl (congrArg Value.bool (decide_eq_false (fun h=>OS h.1)).symm) (gA [81,8,9,77] rfl X6)
        ·refine af 1 rfl ?_
         exact dz 82 (.bool (decide (((hgt d ((ga s 0).a)=2)/\(hgt d ((ga s 1).a)=0))\/((hgt d ((ga s 0).a)=0)/\(hgt d ((ga s 1).a)=2))))) rfl (congrArg Value.bool (decide_eq_decide.2 ⟨.inr,fun h=>h.resolve_left FV⟩)) (gA [82,8,9] rfl X5)
      ·refine af 1 rfl (ax [4] rfl (bU hC rfl ?_))
       exact⟨_,rfl,(jV.pick [] [] (by decide) trivial),(by show Value.bool _=Value.bool _;refine congrArg Value.bool ?_;unfold kR fh;rw[Bool.eq_iff_iff];simp only[decide_eq_true_eq,Bool.false_eq_true,false_iff,true_iff];omega)⟩
noncomputable def Z3k:=Tryz.f78.body.getD .skip
set_option maxHeartbeats 1000000 in
set_option maxRecDepth 10000 in
theorem afL{w:World}{M:Hp}{X:Fr}(d:Dg){dO ggs:Nat}{dY:Value}{iA oA fA:Option Addr}{ic oc fc:Nat}{fv:List ei}(m:Mv)(hsi:aJ cQ M iA ic (aI d false (4*d.ae.length)))(bq:aJ cQ M oA oc (aI d true (4*d.ae.length)))(gZ:aJ (eZ 87) M fA fc fv)(il:ia ib M fv (ai d))(hn:d.ae.length<=16)(hab:aO d=true)(hlo:0<=d.loops/\d.loops<=16)(S:SH w M X [Rs.cV [Rs.box dO 63 [.pointer (some ⟨ggs,0,none⟩),.slice fA fv.length fc],Rs.box ggs 66 [dY,.int .i64 d.loops,.slice iA (aI d false (4*d.ae.length)).length ic,.slice oA (aI d true (4*d.ae.length)).length oc],Rs.row bu dY d.ae]]):Cm 78 [.pointer (some ⟨dO,0,none⟩),.agg [.int .i64 m.kd,.int .i64 m.at_,.int .i64 m.dG,.int .i64 m.ua,.bool m.ub,.int .i64 m.va,.bool m.vb,.bool m.ov].toArray] w M X (iG d m) (HA dO ggs (.slice fA fv.length fc) (.slice iA (aI d false (4*d.ae.length)).length ic) (.slice oA (aI d true (4*d.ae.length)).length oc) (DU d m)):=by
 unfold Cm
 replace S:=S.se
 obtain⟨cA,cc,kU,_⟩:=S.sl (i:=2) rfl
 refine cw (b:=Z3k) Tryz.func78 rfl Tryz.ntmps78 rfl (fun C hC=>(cB [0,1] rfl (ar (aj rfl (dx (l:=[_]) rfl rfl rfl rfl rfl S ?_)))))
 intro aP w1 S1;clear S
 refine aj rfl (dx (l:=[_,_,_,_,_,_,_,_]) rfl rfl rfl rfl rfl S1 ?_)
 intro bJ w2 S2;clear S1
 refine bL [2,3] rfl (ag rfl (aw rfl yT (S2.bc 1 rfl rfl)) (ag rfl (az rfl eT rfl aY aX) (ag rfl (aw rfl aG (S2.bc 0 rfl rfl)) (aj rfl (dU rfl rfl rfl rfl rfl rfl rfl Pj S2 (Ll d m.at_ (SH.oh (N:=[]) (i:=2) S2 rfl rfl) (SH.oh (N:=[]) (i:=3) S2 rfl (by rw[kU])) (SH.vA (N:=[]) (i:=4) S2 rfl kU (by show _*40<=_;omega)) (hsi.mono (Hp.cM _ _)) (bq.mono (Hp.cM _ _)) (by omega) S2.aT) ?_)))))
 rintro _ w3 S3 rfl;clear S2
 refine af 1 rfl ?_
 refine eN (t:=9) rfl (fun Qn=>?_) (fun Qn=>?_)
 ·refine b8 rfl (aw rfl yT (S3.bc 1 rfl rfl)) (b8 rfl (az rfl eT rfl aY aX) (b8 rfl (aw rfl aG (S3.bc 0 rfl rfl)) (zq 8 9 rfl rfl rfl rfl rfl rfl rfl rfl (dU rfl rfl rfl rfl rfl rfl rfl Pj S3 (Ll d m.dG (SH.oh (N:=[]) (i:=2) S3 rfl rfl) (SH.oh (N:=[]) (i:=3) S3 rfl (by rw[kU])) (SH.vA (N:=[]) (i:=4) S3 rfl kU (by show _*40<=_;omega)) (hsi.mono (Hp.cM _ _)) (bq.mono (Hp.cM _ _)) (by omega) S3.aT) ?_))))
  rintro _ w4 S4 rfl;clear S3
  refine af 2 rfl ?_
  refine eN (t:=15) rfl (fun ajl=>?_) (fun ajl=>?_)
  ·refine b8 rfl (az rfl eT rfl aY aX) (b8 rfl (aw rfl aG (S4.bc 0 rfl rfl)) (b8 rfl (az rfl eT rfl aY aX) (b8 rfl (aw rfl aG (S4.bc 0 rfl rfl)) (af 2 rfl ?_))))
   refine eN (t:=21) rfl (fun aiR=>?_) (fun aiR=>?_)
   ·refine aj rfl (dU rfl rfl rfl rfl rfl rfl rfl og S4 (zY 3 S4.aT) ?_)
    rintro _ w5 S5 rfl;clear S4
    refine bL [2,3] rfl (ag rfl (aw rfl yT (S5.bc 1 rfl rfl)) (af 1 rfl (ag rfl (az rfl kX rfl Pv Ou) (ag rfl (aw rfl qo (S5.bc 2 rfl rfl)) (ag rfl (GD (vs:=[_,_]) rfl rfl rfl rfl) (aj rfl (dU rfl rfl rfl rfl rfl rfl rfl ajV S5 (aaf (ai d) 105 _ (kR d m.at_ m.dG) (gZ.mono (Hp.cM _ _)) (il.mono (Hp.cM _ _)) ahJ (fun w9 Y9 oF S9 A9 c9 x9 hm9 GY=>adu x9 d m GY ((SH.oh (N:=[]) (i:=2) S5 rfl rfl).mono oF) ((SH.oh (N:=[]) (i:=3) S5 rfl (by rw[kU])).mono oF) ((SH.vA (N:=[]) (i:=4) S5 rfl kU (by show _*40<=_;omega)).mono oF) ((hsi.mono (Hp.cM _ _)).mono oF) ((bq.mono (Hp.cM _ _)).mono oF) ((SH.oh (N:=[]) (i:=1) S5 rfl rfl).mono oF) ((SH.oh (N:=[]) (i:=0) S5 rfl rfl).mono oF) hn hab (Ic hab hm9) S9) S5.aT) ?_)))))))
    rintro _ w6 S6 rfl;clear S5
    refine af 1 rfl (bL [2,3,4] rfl (af 1 rfl ?_))
    refine uE (t:=29) rfl (fun JK=>?_) (fun JK=>?_)
    ·refine aj rfl (dU rfl rfl rfl rfl rfl rfl rfl og S6 (zY 8 S6.aT) ?_)
     rintro _ w7 S7 rfl;clear S6
     refine ax [2,3] rfl ?_
     have nH:(0<=m.at_/\m.at_<(d.ae.length:Int))/\(0<=m.dG/\m.dG<(d.ae.length:Int))/\m.at_≠m.dG:=by omega
     refine aH (ag rfl (aw rfl yT (S7.bc 1 rfl rfl)) (ag rfl (az rfl eT rfl aY aX) (ag rfl (aw rfl aG (S7.bc 0 rfl rfl)) (ag rfl (az rfl eT rfl aY aX) (ag rfl (aw rfl aG (S7.bc 0 rfl rfl)) (dz 33 (.int .i64 ((m.at_.toNat:Nat):Int)) rfl (int_eq (by omega)) ?_))))))
     refine dz 35 (.int .i64 ((m.dG.toNat:Nat):Int)) rfl (int_eq (by omega)) ?_
     refine aj rfl (uH (C:=aQ) (l:=[_,_]) (pl:=[(0,1),(1,1)]) rfl rfl rfl rfl bt rfl rfl rfl rfl rfl S7 ?_)
     intro dE w9 S9;clear S7
     by_cases LY:mL d [m.at_.toNat,m.dG.toNat]=0
     ·have bQ:=S9.pick [3,4,5,0,1,2] [_,_,_,_,_,_] (by decide) ⟨rfl,rfl,rfl,rfl,rfl,rfl,trivial⟩;clear S9
      have cz:SH _ _ _ (Rs.cV [_,_,_]::[_,_,_]):=SH.qy (A:=[_,_,_]) (B:=[_,_,_]) bQ;clear bQ
      have cO:SH _ _ _ [_,_,_,_]:=cz.less (i:=0) rfl
      have hr1:=cO.H8 (C:=aQ) (zs:=[((m.at_.toNat:Nat):Int),((m.dG.toNat:Nat):Int)]) (i:=1) rfl rfl (by show 2*_<=_;decide)
      have pq:=I8 d ([((m.at_.toNat:Nat):Int),((m.dG.toNat:Nat):Int)]) hsi bq gZ il hr1 (gs:=[m.at_.toNat,m.dG.toNat]) rfl hn hab hlo (cz.mH (i:=0) rfl)
      clear cO
      refine aj rfl (r9 (i:=0) rfl rfl rfl rfl rfl rfl rfl JW cz rfl (pq.ok LY) ?_)
      intro amB ld M1 amV bh cF uW;clear cz
      obtain⟨rfl,A1,c1,rfl,hr2⟩:=uW
      replace hsi:=hsi.mono bh
      replace bq:=bq.mono bh
      replace gZ:=gZ.mono bh
      replace il:=il.mono bh
      replace cF:SH _ _ _ (Rs.cV [_,_]::[_,_,_]):=cF
      have ct:SH _ _ _ [_,_,_,_,_]:=SH.rX (A:=[_,_]) (B:=[_,_,_]) cF;clear cF
      refine aB (l8 hC [] rfl trivial ?_)
      have fS:iG d m=0:=by unfold iG;rw[if_pos nH,if_pos JK];exact LY
      refine .inl ⟨fS,_,rfl,_,_,bh,(ct.pick [0,1] [_,_] (by decide) ⟨rfl,rfl,trivial⟩).cV,?_⟩
      exact⟨rfl,_,_,rfl,hr2⟩
     ·have fS:iG d m=mL d [m.at_.toNat,m.dG.toNat]:=by unfold iG;rw[if_pos nH,if_pos JK]
      have cS:=S9.pick [3,4,5,0,1,2] [_,_,_,_,_,_] (by decide) ⟨rfl,rfl,rfl,rfl,rfl,rfl,trivial⟩;clear S9
      have cC:SH _ _ _ (Rs.cV [_,_,_]::[_,_,_]):=SH.qy (A:=[_,_,_]) (B:=[_,_,_]) cS;clear cS
      have bY:SH _ _ _ [_,_,_,_]:=cC.less (i:=0) rfl
      have hr3:=bY.H8 (C:=aQ) (zs:=[((m.at_.toNat:Nat):Int),((m.dG.toNat:Nat):Int)]) (i:=1) rfl rfl (by show 2*_<=_;decide)
      have tM:=I8 d ([((m.at_.toNat:Nat):Int),((m.dG.toNat:Nat):Int)]) hsi bq gZ il hr3 (gs:=[m.at_.toNat,m.dG.toNat]) rfl hn hab hlo (cC.mH (i:=0) rfl)
      refine vK (k:=6) rfl rfl rfl rfl rfl rfl rfl JW bY (tM.no LY) ?_
      intro w9 M9 gU S9
      subst hC
      exact .inr ⟨by rw[fS];first|decide|assumption,by rw[fS],M9,(Hp.le_refl _).trans gU,S9.pick [] [] (by decide) trivial⟩
    ·have nH:(0<=m.at_/\m.at_<(d.ae.length:Int))/\(0<=m.dG/\m.dG<(d.ae.length:Int))/\m.at_≠m.dG:=by omega
     have fS:iG d m=8:=by unfold iG;rw[if_pos nH,if_neg (by rw[JK];exact Bool.false_ne_true)]
     refine vK (k:=1) rfl rfl rfl rfl rfl rfl rfl og S6 (vJ 8 S6.aT) ?_
     intro w9 M9 gU S9
     subst hC
     exact .inr ⟨by rw[fS];first|decide|assumption,by rw[fS],M9,(Hp.le_refl _).trans gU,S9.pick [] [] (by decide) trivial⟩
   ·have fS:iG d m=3:=by unfold iG;rw[if_neg (by omega)]
    refine vK (k:=17) rfl rfl rfl rfl rfl rfl rfl og S4 (vJ 3 S4.aT) ?_
    intro w9 M9 gU S9
    subst hC
    exact .inr ⟨by rw[fS];first|decide|assumption,by rw[fS],M9,(Hp.le_refl _).trans gU,S9.pick [] [] (by decide) trivial⟩
  ·refine af 6 rfl ?_
   have fS:iG d m=3:=by unfold iG;rw[if_neg (by omega)]
   refine vK (k:=17) rfl rfl rfl rfl rfl rfl rfl og S4 (vJ 3 S4.aT) ?_
   intro w9 M9 gU S9
   subst hC
   exact .inr ⟨by rw[fS];first|decide|assumption,by rw[fS],M9,(Hp.le_refl _).trans gU,S9.pick [] [] (by decide) trivial⟩
 ·refine af 6 rfl (af 6 rfl ?_)
  have fS:iG d m=3:=by unfold iG;rw[if_neg (by omega)]
  refine vK (k:=17) rfl rfl rfl rfl rfl rfl rfl og S3 (vJ 3 S3.aT) ?_
  intro w9 M9 gU S9
  subst hC
  exact .inr ⟨by rw[fS];first|decide|assumption,by rw[fS],M9,(Hp.le_refl _).trans gU,S9.pick [] [] (by decide) trivial⟩
end Go.Proofs.YtcohmplpgcddiaaGreatDoor
namespace Go.Proofs.YtcohmplpgcddiaaGreatDoor
open Go.ChangeShapes Go.WideShapes Go.ChangeAt Go.RowKit
theorem Jl:sM Tryz.prog 106 (fun x:Nat×Nat=>Value.agg (cQ.f x).toArray):=UG agw (fun x y=>⟨(x.1:Int)=(y.1:Int)/\(x.2:Int)=(y.2:Int),⟨_,_,_,_,rfl,rfl,⟨_,_,_,rfl,rfl,rfl⟩,rfl⟩,⟨fun h=>by obtain⟨a,b⟩:=x;obtain⟨c,e⟩:=y;simp only at h;obtain⟨h1,h2⟩:=h;simp;omega,fun h=>by rw[h];exact⟨rfl,rfl⟩⟩⟩) (fun k=>by simp[Instr.sameBits,cQ,uO])
def esN(d:Dg)(f:List Da):Nat->List (Int×Bool)
 |0=>[]
 |i+1=>mp ((fh d (ga f i):Nat):Int) true (esN d f i)
def kf(d:Dg)(f:List Da)(h:Nat):Nat->Nat
 |0=>0
 |i+1=>kf d f h i+(if hgt d (ga f i).a=h then 1 else 0)
def ky(d:Dg)(f:List Da):Bool:=decide (f.length=3/\(esN d f 3).length=3/\kf d f 2 3=1/\kf d f 0 3=1)
theorem MO(d:Dg)(f:List Da)(h i:Nat):kf d f h i<=i:=by
 induction i with
 |zero=>exact Nat.le_refl _
 |succ i ih=>unfold kf;split<;>omega
theorem yu{d:Dg}{f:List Da}{h i:Nat}(e:hgt d (ga f i).a=h):kf d f h (i+1)=kf d f h i+1:=by rw[kf,if_pos e]
theorem yE{d:Dg}{f:List Da}{h i:Nat}(e:¬hgt d (ga f i).a=h):kf d f h (i+1)=kf d f h i:=by rw[kf,if_neg e,Nat.add_zero]
def cd(p:Nat×Nat):Nat×Nat:=(p.1,(p.2+2)%4)
def nY(d:Dg)(f:List Da):Nat->List ((Nat×Nat)×Int)
 |0=>[]
 |i+1=>mp (aF d (ga f i).a true) (aL d (cd (aF d (ga f i).a false)).1 (cd (aF d (ga f i).a false)).2) (mp (cd (aF d (ga f i).a true)) (ga f i).a (mp (cd (aF d (ga f i).a false)) (ga f i).a (mp (aF d (ga f i).a false) (aL d (cd (aF d (ga f i).a true)).1 (cd (aF d (ga f i).a true)).2) (nY d f i))))
def iu(xs:List Cr)(es:List ((Nat×Nat)×Int)):List Cr:=es.foldl (fun c q=>eB c q.1.1 q.1.2 q.2) xs
theorem HJ(es:List ((Nat×Nat)×Int)):∀xs:List Cr,(iu xs es).length=xs.length:=by
 induction es with
 |nil=>intro xs;rfl
 |cons q es ih=>intro xs;exact(ih _).trans (pR _ _ _ _)
theorem aaN(xs:List Cr)(es:List ((Nat×Nat)×Int))(q:(Nat×Nat)×Int):iu xs (es++[q])=eB (iu xs es) q.1.1 q.1.2 q.2:=by unfold iu;rw[List.foldl_append];rfl
def pP(d:Dg)(p:Nat×Nat):Prop:=p.1<d.ae.length/\p.2<4
theorem oo{d:Dg}{p:Nat×Nat}(h:pP d p):pP d (cd p):=⟨h.1,Nat.mod_lt _ (by decide)⟩
theorem TH{κ ε:Type}[DecidableEq κ](k:κ)(v:ε)(es:List (κ×ε)):(mp k v es).map Prod.fst=if k∈es.map Prod.fst then es.map Prod.fst else es.map Prod.fst++[k]:=by
 induction es with
 |nil=>simp[mp]
 |cons p r ih=>
  unfold mp
  by_cases h:k=p.1
  ·rw[if_pos h];simp[h]
  ·rw[if_neg h,List.map_cons,ih]
   by_cases h2:k∈r.map Prod.fst
   ·rw[if_pos h2,if_pos (by rw[List.map_cons];exact List.mem_cons_of_mem _ h2),List.map_cons]
   ·rw[if_neg h2,if_neg (by rw[List.map_cons];intro h3;exact(List.mem_cons.1 h3).elim h h2),List.map_cons,List.cons_append]
def tI(d:Dg)(es:List ((Nat×Nat)×Int)):Prop:=(es.map Prod.fst).Nodup/\∀k∈es.map Prod.fst,pP d k
theorem tI.put{d:Dg}{es:List ((Nat×Nat)×Int)}(h:tI d es){k:Nat×Nat}(hk:pP d k)(v:Int):tI d (mp k v es):=by
 refine⟨?_,fun q hq=>?_⟩
 ·rw[TH]
  split
  ·exact h.1
  ·rename_i hn
   exact List.nodup_append.2 ⟨h.1,by simp,fun a ha b hb=>by simp at hb;subst hb;exact fun e=>hn (e▸ha)⟩
 ·rw[TH]at hq
  split at hq
  ·exact h.2 q hq
  ·rcases List.mem_append.1 hq with hq|hq
   ·exact h.2 q hq
   ·rw[List.mem_singleton]at hq;subst hq;exact hk
theorem CA{d:Dg}(hab:aO d=true){x:Da}(hx:okD d x)(b:Bool):pP d (aF d x.a b):=by
 obtain⟨h1,h2,_⟩:=fO hab hx b
 exact⟨h1,h2⟩
theorem LU{d:Dg}(hab:aO d=true){f:List Da}(hf:∀x∈f,okD d x):∀i,i<=f.length->tI d (nY d f i):=by
 intro i
 induction i with
 |zero=>intro _;exact⟨List.nodup_nil,fun k hk=>by cases hk⟩
 |succ i ih=>
  intro hi
  have hx:=hf _ (cY (show i<f.length by omega))
  have h1:=CA hab hx true
  have h2:=CA hab hx false
  exact((((ih (by omega)).put h2 _).put (oo h2) _).put (oo h1) _).put h1 _
theorem aby{x:Cr}{j k:Nat}{a b:Int}(hj:j<4)(hk:k<4)(h:j≠k):vB (vB x j a) k b=vB (vB x k b) j a:=by
 obtain rfl|rfl|rfl|rfl:j=0\/j=1\/j=2\/j=3:=by omega
 all_goals obtain rfl|rfl|rfl|rfl:k=0\/k=1\/k=2\/k=3:=by omega
 all_goals first|rfl|exact absurd rfl h
theorem RO{n:Nat}{xs:List Cr}{p q:Nat×Nat}{a b:Int}(hn:xs.length=n)(hp:p.1<n/\p.2<4)(hq:q.1<n/\q.2<4)(h:p≠q):eB (eB xs p.1 p.2 a) q.1 q.2 b=eB (eB xs q.1 q.2 b) p.1 p.2 a:=by
 unfold eB
 by_cases e:p.1=q.1
 ·have h2:p.2≠q.2:=fun e2=>h (Prod.ext e e2)
  rw[<-e,eX _ _ _ _ (by omega),eX _ _ _ _ (by omega),if_pos rfl,if_pos rfl,List.set_set,List.set_set,aby hp.2 hq.2 h2]
 ·rw[eX _ _ _ _ (by omega),eX _ _ _ _ (by omega),if_neg e,if_neg (fun e'=>e e'.symm),List.set_comm _ _ e]
theorem aaO{d:Dg}{es es':List ((Nat×Nat)×Int)}(hp:es.Perm es')(h:tI d es'):iu d.ae es=iu d.ae es':=by
 have h0:tI d es:=⟨(hp.map Prod.fst).nodup_iff.2 h.1,fun k hk=>h.2 k ((hp.map Prod.fst).mem_iff.1 hk)⟩
 have key:∀{l₁ l₂:List ((Nat×Nat)×Int)},l₁.Perm l₂->tI d l₁->∀xs:List Cr,xs.length=d.ae.length->iu xs l₁=iu xs l₂:=by
  intro l₁ l₂ hp
  induction hp with
  |nil=>intro _ xs _;rfl
  |cons x _ ih=>
   intro hl xs hx
   obtain⟨h1,h2⟩:=hl
   rw[List.map_cons,List.nodup_cons]at h1
   exact ih ⟨h1.2,fun k hk=>h2 k (by rw[List.map_cons];exact List.mem_cons_of_mem _ hk)⟩ _ ((pR _ _ _ _).trans hx)
  |swap x y l=>
   intro hl xs hx
   obtain⟨h1,h2⟩:=hl
   rw[List.map_cons,List.map_cons,List.nodup_cons]at h1
   have hx1:=h2 x.1 (by simp)
   have hy1:=h2 y.1 (by simp)
   have hne:y.1≠x.1:=fun e=>h1.1 (by rw[e];simp)
   show iu (eB (eB xs y.1.1 y.1.2 y.2) x.1.1 x.1.2 x.2) l=iu (eB (eB xs x.1.1 x.1.2 x.2) y.1.1 y.1.2 y.2) l
   rw[RO hx hy1 hx1 hne]
  |trans h1 _ ih1 ih2=>
   intro hl xs hx
   exact(ih1 hl xs hx).trans (ih2 ⟨(h1.map Prod.fst).nodup_iff.1 hl.1,fun k hk=>hl.2 k ((h1.map Prod.fst).mem_iff.2 hk)⟩ xs hx)
 exact key hp h0 _ rfl
def iR(d:Dg)(m:Mv):Int:=if 0<=m.at_/\m.at_<((ai d).length:Int)then(if ky d (ga (ai d) m.at_.toNat)=true then 0 else 8)else 3
def oX(d:Dg)(m:Mv):Dg:=⟨iu d.ae (nY d (ga (ai d) m.at_.toNat) 3),d.loops⟩
noncomputable def Z3l:=Tryz.f108.body.getD .skip
set_option maxHeartbeats 1000000 in
set_option maxRecDepth 10000 in
theorem ab9{w:World}{M:Hp}{X:Fr}(d:Dg){cI:Nat}{cA iA oA:Option Addr}{cc ic oc:Nat}{dO:Nat}{fV:Value}(f:List Da){fA:Option Addr}{fc:Nat}(hbb:fW (M.un X.h) dO 63 [.pointer (some ⟨cI,0,none⟩),fV])(bI:fW (M.un X.h) cI 66 [.slice cA d.ae.length cc,.int .i64 d.loops,.slice iA (aI d false (4*d.ae.length)).length ic,.slice oA (aI d true (4*d.ae.length)).length oc])(hsc:aJ bu (M.un X.h) cA cc d.ae)(hsi:aJ cQ (M.un X.h) iA ic (aI d false (4*d.ae.length)))(bq:aJ cQ (M.un X.h) oA oc (aI d true (4*d.ae.length)))(hf:aJ ib (M.un X.h) fA fc f)(hn:d.ae.length<=16)(hab:aO d=true)(hok:∀x∈f,okD d x)(S:SH w M X []):Cq Tryz.prog 108 [.pointer (some ⟨dO,0,none⟩),.slice fA f.length fc] w M X (fun u=>u=.bool (ky d f)):=by
 unfold Cq
 have amX:f.length*16<=140737488355328:=hf.room
 refine cw (b:=Z3l) Tryz.func108 rfl Tryz.ntmps108 rfl (fun C hC=>(cB [0,1] rfl (ar (af 1 rfl (bM [0,1] rfl (ar (af 1 rfl (ag rfl (cK rfl nG) (af 1 rfl ?_)))))))))
 refine ax [0,1,14] rfl ?_
 refine bp rfl (fun jf=>?_) (fun jf=>?_)
 ·refine ar (af 1 rfl (ax [4] rfl (bU hC rfl ?_)))
  exact⟨_,rfl,(S.pick [] [] (by decide) trivial),(by show Value.bool _=Value.bool _;refine congrArg Value.bool ?_;unfold ky;first|(refine decide_eq_decide.2 ?_;omega)|(symm;rw[decide_eq_false_iff_not];omega))⟩
 ·refine aV (cP [0,1] rfl (aj rfl (xJ Int Bool (Value.int .i64) Value.bool rfl rfl rfl S ?_)))
  intro iH w1 S1;clear S
  refine af 1 rfl (bL [0,1,5] rfl (af 2 rfl (aB (di (ar (af 1 rfl (ag rfl (cK rfl nG) (af 1 rfl ?_))))))))
  refine ax [0,5,6,7,16,17,18] rfl (bg ?_)
  refine ck (fun aZ au aR=>∃(i:Nat) (ab:Nat) (be:Nat) (es:List (Int×Bool)),aZ=f.length-i/\Env 55 [(0,.pointer (some ⟨dO,0,none⟩)),(5,.map (some iH)),(6,.int .i64 (ab:Int)),(7,.int .i64 (be:Int)),(16,.slice fA f.length fc),(17,.int .i64 (f.length:Int)),(18,.int .i64 (i:Int))] au/\SH aR M X [Rs.mp (Value.int .i64) Value.bool iH es]/\i<=f.length/\es=esN d f i/\ab=kf d f 2 i/\be=kf d f 0 i) rfl ?_ ?_
  ·intro au aq
   refine⟨_,⟨0,0,0,[],rfl,aq.su rfl,S1.pick [0] [_] (by decide) ⟨rfl,trivial⟩,?dh,?dC,?jm,?q7⟩⟩
   case dh=>omega
   case dC=>rfl
   case jm=>rfl
   case q7=>rfl
  ·rintro m2 a1 w2 ⟨i,ab,be,es,rfl,bN,S2,hi,hes,xx,wj⟩
   clear S1
   refine cy bN ?_
   clear bN a1
   have anE:ab<=i:=by rw[xx];exact MO _ _ _ _
   have anD:be<=i:=by rw[wj];exact MO _ _ _ _
   refine ar (af 1 rfl (aB (di ?_)))
   refine bp rfl (fun l5=>?_) (fun l5=>?_)
   ·refine aV (bC [0,5,6,7,16,17,18] rfl (bg (ar (ag rfl (cN i rfl mM hf) (ag rfl (aU [_,_] rfl eA gD (hf.j6 S2.um (e:=i) (by first|omega|(simp only[ls];omega)) (j:=0) ⟨rfl,rfl,trivial⟩)) ?_)))))
    refine aj rfl (bW (l:=[_,_]) rfl rfl rfl ra rfl S2 ?_)
    intro aP w3 S3;clear S2
    refine aj rfl (bH 0 [_,_] [_,_] [_,_] rfl S3 rfl rfl gD rfl rfl ?_)
    intro w4 S4;clear S3
    refine bM [0,5,6,7,16,17,18,9] rfl ?_
    have ho:okD d (ga f i):=hok _ (cY (by omega))
    have hpo:1<=(ga f i).a/\(ga f i).a<=2*(d.ae.length:Int):=ho
    have S5:=S4.pick [1,0] [_,_] (by decide) ⟨rfl,rfl,trivial⟩;clear S4
    refine zP [_] [_] rfl (by kernel_rfl) S5 9 rfl ?_
    clear S5
    change WA _ _ _ _ _ _ _ _ _ _ _ _ [_,_]
    refine aK 6 [0,1,2] rfl (aS 3 rfl (az rfl kX rfl mW mN) (ay 4 rfl (fun ah Sz=>aw rfl lB ((hbb.mono (Hp.aD ah Sz.mx)).cell Sz.um rfl)) (ay 5 rfl (fun ah Sz=>aU [_,_] rfl eA gD (Sz.suf.bs 0 rfl rfl)) (dQ 6 rfl (fun ah Sz=>dZ rfl rfl rfl rfl rfl NZ Sz (MW d (ga f i) ((bI.mono (Hp.aD ah Sz.mx)).mono Sz.bn) ((hsc.mono (Hp.aD ah Sz.mx)).mono Sz.bn) ((hsi.mono (Hp.aD ah Sz.mx)).mono Sz.bn) ((bq.mono (Hp.aD ah Sz.mx)).mono Sz.bn) (by first|assumption|omega) hab (by first|assumption|omega) Sz.aT)) ?_))))
    refine aS 7 rfl (rH rfl rfl dX rfl aG rfl rfl) (cm 8 rfl (fun lH cS=>((ou (kc:=Value.int .i64) (vc:=Value.bool) (es:=es) (k:=((aF d (ga f i).a (!(ga f i).b)).1:Int)) (e:=true) (i:=0) (H':=[_,_]) (.inl rfl) rfl cS rfl rfl rfl rfl Jj mr rfl ?_))))
    intro ow cC;clear cS
    refine dB [_] [_,_] rfl cC ?_;clear cC
    refine cD (fun oU bY=>(cP [0,5,6,7,16,17,18,9] rfl (af 1 rfl (ag rfl (az rfl eA rfl aY aX) (ag rfl (aw rfl aG (bY.bc 1 rfl rfl)) (aj rfl (dU rfl rfl rfl rfl rfl rfl rfl NY bY (Mt d ((ga f i).a) (hbb.mono bY.bn) (bI.mono bY.bn) (hsc.mono bY.bn) (hsi.mono bY.bn) (bq.mono bY.bn) hn hab (by first|assumption|omega) bY.aT) ?_)))))))
    rintro _ pU dW rfl;clear bY
    refine af 5 rfl (bM [0,5,6,7,16,17,18,10,11] rfl (ar (af 1 rfl (ax [0,5,6,7,16,17,18,11,37] rfl ?_))))
    refine bp rfl (fun rz=>?_) (fun rz=>?_)
    ·refine aH (af 1 rfl (ag rfl (bj rfl) (af 1 rfl (bL [0,5,6,7,16,17,18,11] rfl (af 1 rfl (ax [0,5,6,7,16,17,18,40] rfl ?_))))))
     refine bp rfl (fun pM=>?_) (fun pM=>?_)
     ·refine aH (af 1 rfl (ag rfl (bj rfl) (af 1 rfl (aB (bE (aW [0,5,6,7,16,17,18] rfl (aH (ag rfl (bj rfl) ?_))))))))
      refine af 1 rfl (aB (br ?_))
      intro au aq
      refine⟨_,?fK,⟨i+1,ab+1,be+1,mp ((aF d (ga f i).a (!(ga f i).b)).1:Int) true es,rfl,aq.su rfl,dW.pick [0] [_] (by decide) ⟨rfl,trivial⟩,?dv,?dL,?jl,?py⟩⟩
      case dv=>omega
      case dL=>(rw[hes];rfl)
      case jl=>first|(rw[yu rz,<-xx])|(rw[yE rz,<-xx])
      case py=>first|(rw[yu pM,<-wj])|(rw[yE pM,<-wj])
      case fK=>omega
     ·refine aV (bE (aW [0,5,6,7,16,17,18] rfl (aH (ag rfl (bj rfl) (af 1 rfl (aB (br ?_)))))))
      intro au aq
      refine⟨_,?kr,⟨i+1,ab+1,be,mp ((aF d (ga f i).a (!(ga f i).b)).1:Int) true es,rfl,aq.su rfl,dW.pick [0] [_] (by decide) ⟨rfl,trivial⟩,?fg,?fR,?ko,?mI⟩⟩
      case fg=>omega
      case fR=>(rw[hes];rfl)
      case ko=>first|(rw[yu rz,<-xx])|(rw[yE rz,<-xx])
      case mI=>first|(rw[yu pM,<-wj])|(rw[yE pM,<-wj])
      case kr=>omega
    ·refine aV (cP [0,5,6,7,16,17,18,11] rfl (af 1 rfl (ax [0,5,6,7,16,17,18,40] rfl ?_)))
     refine bp rfl (fun pM=>?_) (fun pM=>?_)
     ·refine aH (af 1 rfl (ag rfl (bj rfl) (af 1 rfl (aB (bE (aW [0,5,6,7,16,17,18] rfl (aH (ag rfl (bj rfl) ?_))))))))
      refine af 1 rfl (aB (br ?_))
      intro au aq
      refine⟨_,?jr,⟨i+1,ab,be+1,mp ((aF d (ga f i).a (!(ga f i).b)).1:Int) true es,rfl,aq.su rfl,dW.pick [0] [_] (by decide) ⟨rfl,trivial⟩,?fJ,?fZ,?lX,?nV⟩⟩
      case fJ=>omega
      case fZ=>(rw[hes];rfl)
      case lX=>first|(rw[yu rz,<-xx])|(rw[yE rz,<-xx])
      case nV=>first|(rw[yu pM,<-wj])|(rw[yE pM,<-wj])
      case jr=>omega
     ·refine aV (bE (aW [0,5,6,7,16,17,18] rfl (aH (ag rfl (bj rfl) (af 1 rfl (aB (br ?_)))))))
      intro au aq
      refine⟨_,?jq,⟨i+1,ab,be,mp ((aF d (ga f i).a (!(ga f i).b)).1:Int) true es,rfl,aq.su rfl,dW.pick [0] [_] (by decide) ⟨rfl,trivial⟩,?fI,?fY,?lW,?qZ⟩⟩
      case fI=>omega
      case fY=>(rw[hes];rfl)
      case lW=>first|(rw[yu rz,<-xx])|(rw[yE rz,<-xx])
      case qZ=>first|(rw[yu pM,<-wj])|(rw[yE pM,<-wj])
      case jq=>omega
   ·refine bX rfl (bC [5,6,7] rfl ?_)
    obtain rfl:i=3:=by omega
    have hel:es.length=(esN d f 3).length:=by rw[hes]
    refine aH (af 1 rfl (ag rfl (RP (i:=0) rfl rfl rfl rfl rfl rfl Jj S2 rfl) (af 2 rfl ?_)))
    refine eN (t:=47) rfl (fun FY=>?_) (fun FY=>?_)
    ·refine af 4 rfl ?_
     refine eN (t:=51) rfl (fun ajd=>?_) (fun ajd=>?_)
     ·refine af 4 rfl (ax [4] rfl (bU hC rfl ?_))
      exact⟨_,rfl,(S2.pick [] [] (by decide) trivial),(by show Value.bool _=Value.bool _;refine congrArg Value.bool ?_;unfold ky;first|(refine decide_eq_decide.2 ?_;omega)|(symm;rw[decide_eq_false_iff_not];omega))⟩
     ·refine af 4 rfl (ax [4] rfl (bU hC rfl ?_))
      exact⟨_,rfl,(S2.pick [] [] (by decide) trivial),(by show Value.bool _=Value.bool _;refine congrArg Value.bool ?_;unfold ky;first|(refine decide_eq_decide.2 ?_;omega)|(symm;rw[decide_eq_false_iff_not];omega))⟩
    ·refine af 6 rfl (af 2 rfl (ax [4] rfl (bU hC rfl ?_)))
     exact⟨_,rfl,(S2.pick [] [] (by decide) trivial),(by show Value.bool _=Value.bool _;refine congrArg Value.bool ?_;unfold ky;first|(refine decide_eq_decide.2 ?_;omega)|(symm;rw[decide_eq_false_iff_not];omega))⟩
noncomputable def Z3m:=Tryz.f109.body.getD .skip
set_option maxRecDepth 10000 in
theorem H0{w:World}{M:Hp}{X:Fr}(x:Nat×Nat)(hx:x.2<4)(S:SH w M X []):Cq Tryz.prog 109 [.agg [.int .i64 (x.1:Int),.int .i64 (x.2:Int)].toArray] w M X (fun u=>u=.agg [.int .i64 ((cd x).1:Int),.int .i64 ((cd x).2:Int)].toArray):=by
 unfold Cq
 refine cw (b:=Z3m) Tryz.func109 rfl Tryz.ntmps109 rfl (fun C hC=>(cB [0] rfl (ar (aj rfl (dx (l:=[_,_]) rfl rfl rfl rfl rfl S ?_)))))
 intro aP w1 S1;clear S
 refine aj rfl (bW (l:=[_,_]) rfl rfl rfl qX rfl S1 ?_)
 intro bJ w2 S2;clear S1
 refine bL [1,2] rfl (ag rfl (az rfl dX rfl aY aX) (ag rfl (aw rfl aG (S2.bc 1 rfl rfl)) (ag rfl (az rfl dX rfl aY aX) (ag rfl (aw rfl aG (S2.bc 1 rfl rfl)) (ag rfl (bj rfl) (ag rfl (rF rfl rfl rfl (by first|omega|(simp only[ls];omega))) ?_))))))
 refine dz 8 (.int .i64 (((x.2+2)%4:Nat):Int)) rfl (int_eq (by omega)) ?_
 refine ag rfl (run_build (l:=[_,_]) rfl rfl Fi rfl rfl) (aj rfl (bH 0 [_,_] [_,_] [_,_] rfl S2 rfl rfl gX rfl rfl ?_))
 intro w3 S3;clear S2
 refine ax [2] rfl (dI hC [_] rfl rfl ⟨⟨_,rfl,dK (us:=[_,_]) dX rfl gX (S3.bs 0 rfl rfl)⟩,trivial⟩ ?_)
 exact⟨_,rfl,(S3.pick [] [] (by decide) trivial),(by rfl)⟩
end Go.Proofs.YtcohmplpgcddiaaGreatDoor
namespace Go.Proofs.YtcohmplpgcddiaaGreatDoor
open Go.ChangeShapes Go.WideShapes Go.ChangeAt Go.RowKit
section
variable {κ ε : Type} [DecidableEq κ]
theorem NS(k:κ)(v:ε):∀(es:List (κ×ε)) (i:Nat),fk k (mp k v es) i=some (((fk k es i).map (·.1)).getD (i+es.length),v)
 |[],i=>by simp[mp,fk]
 |p::r,i=>by
  unfold mp
  by_cases h:k=p.1
  ·rw[if_pos h];simp[fk,h]
  ·rw[if_neg h]
   simp only[fk,if_neg h,NS k v r (i+1),List.length_cons]
   rw[show i+1+r.length=i+(r.length+1) by omega]
theorem aht{k:κ}:∀{es:List (κ×ε)}{j:Nat}{v:ε},fk k es 0=some (j,v)->es[j]? =some (k,v):=by
 have key:∀(es:List (κ×ε)) (i j:Nat) (v:ε),fk k es i=some (j,v)->∃m,j=i+m/\es[m]? =some (k,v):=by
  intro es
  induction es with
  |nil=>intro i j v h;cases h
  |cons p r ih=>
   intro i j v h
   unfold fk at h
   split at h
   ·rename_i he
    injection h with h
    injection h with h1 h2
    exact⟨0,by omega,by subst he;subst h2;rfl⟩
   ·obtain⟨m,h1,h2⟩:=ih _ _ _ h
    exact⟨m+1,by omega,by simpa using h2⟩
 intro es j v h
 obtain⟨m,h1,h2⟩:=key es 0 j v h
 obtain rfl:j=m:=by omega
 exact h2
theorem Wo(k:κ)(v v':ε):∀es:List (κ×ε),mp k v (mp k v' es)=mp k v es
 |[]=>by simp[mp]
 |p::r=>by
  by_cases h:k=p.1
  ·simp[mp,h]
  ·simp[mp,h,Wo k v v' r]
theorem T3{st:Nat}:∀{l:List MapEntry}{j:Nat},(l.map (·.born)).Nodup->(l[j]?).map (·.born)=some st->l.findIdx? (fun e=>((e.born:Nat):Int)==(st:Int))=some j
 |[],_,_,h=>by simp at h
 |e::l,0,_,h=>by
  have h1:e.born=st:=by simpa using h
  rw[List.findIdx?_cons,if_pos (by simp[h1])]
 |e::l,j+1,hn,h=>by
  obtain⟨h1,h2⟩:=List.nodup_cons.1 (by simpa using hn:(e.born::l.map (·.born)).Nodup)
  have h3:(l[j]?).map (·.born)=some st:=by simpa using h
  have hne:e.born≠st:=fun e1=>h1 (by
   cases hl:l[j]? with
   |none=>rw[hl]at h3;cases h3
   |some y=>
    rw[hl]at h3
    injection h3 with h3
    exact List.mem_map.2 ⟨y,List.mem_of_getElem? hl,(show y.born=e.born from by rw[e1];exact h3)⟩)
  rw[List.findIdx?_cons,if_neg (by simpa using fun e1=>hne (by omega)),T3 h2 h3]
  rfl
theorem aci{α:Type}{l:List α}{j:Nat}{a:α}(h:l[j]? =some a):l.set j a=l:=by
 apply List.ext_getElem?
 intro q
 rw[List.getElem?_set]
 split
 ·rename_i e
  subst e
  rw[h,if_pos (List.getElem?_eq_some_iff.1 h).1]
 ·rfl
def MpS(kc:κ->Value)(vc:ε->Value)(g:Nat)(es:List (κ×ε))(k:κ)(st:Nat)(h:Hp):Prop:=
 ∃arr clock,h g=some (.map arr clock)/\arr.toList.map (fun e=>(e.key,e.val))=es.map (fun p=>(kc p.1,vc p.2))/\Ea arr clock/\∃j v,fk k es 0=some (j,v)/\(arr[j]?).map (·.born)=some st
def Rs.GU(kc:κ->Value)(vc:ε->Value)(g:Nat)(es:List (κ×ε))(k:κ)(st:Nat):Rs:=
 ⟨[g],MpS kc vc g es k st,fun h h' hb hk=>by
  obtain⟨arr,clock,h1,h2⟩:=hk
  exact⟨arr,clock,by rw[hb g (by simp)];exact h1,h2⟩⟩
end
section
variable {P : Program} {o : Oper} {L : List (Nat × Value)} {w w' : World} {x y z : Operand} {t T K E : TypeId} {v u : Value} {n d g i : Nat} {Kt : List (Nat × Value) → World → Prop} {M M' : Hp} {X : Fr} {H H' : List Rs}
variable {κ ε : Type} [DecidableEq κ] {kc : κ → Value} {vc : ε → Value} {es : List (κ × ε)}
theorem aay{k:κ}{zv:ε}(hop:o.op=.mapEntry T x y)(hd:o.dst=some d)(hn:Nat.blt d n=true)(S:SH w M X H)(hi:nth H i=some (Rs.mp kc vc g es))(hx:oev L x=some (.map (some g)))(hy:oev L y=some (kc k))(hu:P.underlying T=some (.map K E))(hK:sM P K kc)(hz:(P.info? E).map (·.zero)=some (some (vc zv)))
  (h:∀(st:Nat) w',SH w' M X (H.set i (Rs.GU kc vc g (Go.Proofs.YtcohmplpgcddiaaGreatDoor.mp k ((mg k es).getD zv) es) k st))->Kt ((d,.tuple #[vc ((mg k es).getD zv),.int .i64 (st:Int)])::L) w'):WO P n o L w Kt:=by
 obtain⟨arr,clock,hg,ha,oN⟩:=(S.get hi:rD kc vc g es (hp w))
 have hf:=hK.find k _ arr.toList w (Lh ha)
 rw[IZ]at hf
 have hg':w.heap[g]? =some (.map arr clock):=hg
 have hgo:=MapKept.run_getObj_map (P:=P) hg'
 have hc:=fun b=>hK.check k w b
 have hlen:arr.toList.length=es.length:=by have:=congrArg List.length ha;simpa using this
 have key:∃qz clock' st,(Instr.mapEntry T (.map (some g)) (kc k)).run P w=.ok (.tuple #[vc ((mg k es).getD zv),.int .i64 ((st:Nat):Int)]) {w with heap:=w.heap.setIfInBounds g (.map qz clock')}/\qz.toList.map (fun e=>(e.key,e.val))=(Go.Proofs.YtcohmplpgcddiaaGreatDoor.mp k ((mg k es).getD zv) es).map (fun p=>(kc p.1,vc p.2))/\Ea qz clock'/\∃j v,fk k (Go.Proofs.YtcohmplpgcddiaaGreatDoor.mp k ((mg k es).getD zv) es) 0=some (j,v)/\(qz[j]?).map (·.born)=some st:=by
  cases mC:fk k es 0 with
  |none=>
   rw[mC]at hf
   have hm:=(EA mC).1
   rw[hm,Option.getD_none]
   refine⟨arr.push {key:=kc k,val:=vc zv,born:=clock},clock+1,clock,?_,?_,?_,?_⟩
   ·simp only[Instr.mapEntry,Sem.run_bind,run_underlying hu,hgo,hc,hf,Result.andThen_ok,Option.map_none,Em hz,MapKept.run_setObj_map _ hg',Sem.run_pure]
    rfl
   ·rw[(EA mC).2 zv,Array.toList_push,List.map_append,List.map_append,ha];rfl
   ·refine⟨?_,fun x hx=>?_⟩
    ·rw[Array.toList_push,List.map_append]
     refine List.nodup_append.2 ⟨oN.1,by simp,fun a ha' b hb'=>?_⟩
     obtain⟨x,hx,rfl⟩:=List.mem_map.1 ha'
     simp at hb'
     have:=oN.2 x hx
     omega
    ·rw[Array.toList_push]at hx
     rcases List.mem_append.1 hx with h1|h1
     ·have:=oN.2 x h1;omega
     ·simp at h1;subst h1;exact Nat.lt_succ_self _
   ·refine⟨_,_,NS k zv es 0,?_⟩
    rw[mC]
    show((arr.push _)[0+es.length]?).map _=_
    rw[Nat.zero_add,<-hlen,Array.length_toList,Array.getElem?_push_size]
    rfl
  |some q=>
   obtain⟨j,v⟩:=q
   rw[mC]at hf
   obtain⟨hm,m,hj,p,hp1,hp2,qu⟩:=Ez mC
   obtain rfl:j=m:=by omega
   have hjl:j<es.length:=(List.getElem?_eq_some_iff.1 hp1).1
   have hja:j<arr.size:=by rw[<-Array.length_toList,hlen];exact hjl
   have Kz:(arr[j]?).map (fun e=>(e.key,e.val))=some (kc p.1,vc p.2):=by
    have h1:=congrArg (fun l=>l[j]?) ha
    simp only[List.getElem?_map,hp1,Option.map_some]at h1
    rw[Array.getElem?_toList]at h1
    exact h1
   rw[Array.getElem?_eq_getElem hja,Option.map_some,Option.some.injEq,Prod.mk.injEq]at Kz
   rw[hp2]at Kz
   have Qg:=aht mC
   have hv:p.2=v:=by rw[hp1]at Qg;simp at Qg;rw[Qg]
   have agU:(arr.modify j fun e'=>{e' with key:=kc k})=arr:=by
    apply Array.ext'
    apply List.ext_getElem?
    intro q
    rw[Array.getElem?_toList,Array.getElem?_modify,Array.getElem?_toList]
    by_cases hq:j=q
    ·subst hq
     rw[if_pos rfl,Array.getElem?_eq_getElem hja,Option.map_some,<-Kz.1]
    ·rw[if_neg hq]
   rw[hm,Option.getD_some]
   refine⟨arr,clock,arr[j].born,?_,?_,oN,j,v,?_,by rw[Array.getElem?_eq_getElem hja];rfl⟩
   ·have hst:(Instr.keyThatStays (kc k) (kc k)).run P w=.ok (kc k) w:=by
     unfold Instr.keyThatStays
     rw[if_pos (hK.bits k)];rfl
    have hkey:(arr[j]?).map (·.key)=some (kc k):=by rw[Array.getElem?_eq_getElem hja,Option.map_some,Kz.1]
    simp only[Instr.mapEntry,Sem.run_bind,run_underlying hu,hgo,hc,hf,Result.andThen_ok,Option.map_some,hkey,Option.getD_some,hst,MapKept.run_setObj_map _ hg',agU,Sem.run_pure]
    rw[Array.getElem?_eq_getElem hja]
    rfl
   ·rw[qu v,ha]
    have h4:es.set j (k,v)=es:=by
     rw[<-hp2,<-hv]
     exact aci hp1
    rw[h4]
   ·have h5:=NS k v es 0
    rw[mC]at h5
    exact h5
 obtain⟨qz,clock',st,hrun,ML,Ns,aiC⟩:=key
 have hlt:=kv hg
 refine bT (v:=.tuple #[vc ((mg k es).getD zv),.int .i64 ((st:Nat):Int)]) (w':={w with heap:=w.heap.setIfInBounds g (.map qz clock')}) hd hn ?_ (h st _ ?_)
 ·intro n c he
  unfold execOp
  simp only[hop,he.eval hx,he.eval hy,hrun,Sem.run_bind,Result.andThen_ok,Sem.run_pure]
 ·refine S.step hi rfl (Li w g _) (fun b _ hb=>?_) ⟨qz,clock',?_,ML,Ns,aiC⟩ (fun b hb=>⟨.inl hb,?_⟩)
  ·have hne:b≠g:=by simpa[Rs.mp]using hb
   show(w.heap.setIfInBounds g _)[b]? =w.heap[b]?
   rw[Array.getElem?_setIfInBounds_ne (Ne.symm hne)]
  ·show(w.heap.setIfInBounds g _)[g]? =_
   simp[hlt]
  ·simp[Rs.GU]at hb
   subst hb
   show _<(w.heap.setIfInBounds _ _).size
   simpa using hlt
theorem aal{k:κ}{e:ε}{st:Nat}(hop:o.op=.entryStore T x y z)(hd:o.dst=none)(S:SH w M X H)(hi:nth H i=some (Rs.GU kc vc g es k st))(hx:oev L x=some (.map (some g)))(hy:oev L y=some (.int .i64 (st:Int)))(hz:oev L z=some (vc e))
  (hH:H.set i (Rs.mp kc vc g (Go.Proofs.YtcohmplpgcddiaaGreatDoor.mp k e es))=H')(h:∀w',SH w' M X H'->Kt L w'):WO P n o L w Kt:=by
 obtain⟨arr,clock,hg,ha,oN,j,v,mC,hb⟩:=(S.get hi:MpS kc vc g es k st (hp w))
 have hg':w.heap[g]? =some (.map arr clock):=hg
 have hgo:=MapKept.run_getObj_map (P:=P) hg'
 have hlen:arr.toList.length=es.length:=by have:=congrArg List.length ha;simpa using this
 obtain⟨hm,m,hj,p,hp1,hp2,qu⟩:=Ez mC
 obtain rfl:j=m:=by omega
 have hjl:j<es.length:=(List.getElem?_eq_some_iff.1 hp1).1
 have hja:j<arr.size:=by rw[<-Array.length_toList,hlen];exact hjl
 have hkey:arr[j].key=kc k:=by
  have h1:=congrArg (fun l=>l[j]?) ha
  simp only[List.getElem?_map,hp1,Option.map_some]at h1
  rw[Array.getElem?_toList,Array.getElem?_eq_getElem hja]at h1
  simp only[Option.map_some,Option.some.injEq,Prod.mk.injEq]at h1
  rw[h1.1,hp2]
 rw[Array.getElem?_eq_getElem hja,Option.map_some,Option.some.injEq]at hb
 have ai5:arr.findIdx? (fun e=>((e.born:Nat):Int)==(st:Int))=some j:=by
  obtain⟨la⟩:=arr
  rw[show(Array.mk la).findIdx? (fun e=>((e.born:Nat):Int)==(st:Int))=la.findIdx? (fun e=>((e.born:Nat):Int)==(st:Int))from by simp]
  exact T3 oN.1 (by rw[Array.getElem?_toList,Array.getElem?_eq_getElem hja,Option.map_some,hb])
 have hrun:(Instr.entryStore T (.map (some g)) (.int .i64 (st:Int)) (vc e)).run P w=.ok () {w with heap:=w.heap.setIfInBounds g (.map (arr.modify j fun e'=>{e' with val:=vc e}) clock)}:=by
  simp[Instr.entryStore,hgo,asInt,asIntOf,ai5,MapKept.run_setObj_map _ hg',Result.andThen]
 have hlt:=kv hg
 refine Ih hd (w':={w with heap:=w.heap.setIfInBounds g (.map (arr.modify j fun e'=>{e' with val:=vc e}) clock)}) ?_ (h _ ?_)
 ·intro n c he
  unfold execOp
  simp only[hop,he.eval hx,he.eval hy,he.eval hz,hrun,Sem.run_bind,Result.andThen_ok,Sem.run_pure]
 ·refine S.step hi hH (Li w g _) (fun b _ hb=>?_) ⟨arr.modify j fun e'=>{e' with val:=vc e},clock,?_,?_,?_⟩ (fun b hb=>⟨.inl hb,?_⟩)
  ·have hne:b≠g:=by simpa[Rs.GU]using hb
   show(w.heap.setIfInBounds g _)[b]? =w.heap[b]?
   rw[Array.getElem?_setIfInBounds_ne (Ne.symm hne)]
  ·show(w.heap.setIfInBounds g _)[g]? =_
   simp[hlt]
  ·rw[qu e]
   apply List.ext_getElem?
   intro q
   have h1:=congrArg (fun l=>l[q]?) ha
   simp only[List.getElem?_map]at h1 ⊢
   rw[Array.getElem?_toList,Array.getElem?_modify,List.getElem?_set]
   rw[Array.getElem?_toList]at h1
   by_cases hq:j=q
   ·subst hq
    rw[if_pos rfl,if_pos rfl,if_pos hjl,Array.getElem?_eq_getElem hja]
    simp only[Option.map_some,hkey]
   ·rw[if_neg hq,if_neg hq]
    exact h1
  ·have zF:(arr.modify j fun e'=>{e' with val:=vc e}).toList.map (·.born)=arr.toList.map (·.born):=by
    apply List.ext_getElem?
    intro q
    simp only[List.getElem?_map]
    rw[Array.getElem?_toList,Array.getElem?_modify,Array.getElem?_toList]
    by_cases hq:j=q
    ·subst hq;rw[if_pos rfl,Array.getElem?_eq_getElem hja];rfl
    ·rw[if_neg hq]
   refine⟨by rw[zF];exact oN.1,fun x hx=>?_⟩
   have h2:x.born∈arr.toList.map (·.born):=by rw[<-zF];exact List.mem_map.2 ⟨x,hx,rfl⟩
   obtain⟨y,hy,e2⟩:=List.mem_map.1 h2
   rw[<-e2];exact oN.2 y hy
  ·simp[Rs.mp]at hb
   subst hb
   show _<(w.heap.setIfInBounds _ _).size
   simpa using hlt
end
section
variable {P : Program} {ops : Array Oper} {Q : Exit → Act → World → Prop} {md : Region.Mode} {X : Fr}
def adt(ops:Array Oper)(k:Nat):Bool:=match ops[k]? with
 |some o=>(match o.op with
  |.move _=>true
  |.assign _=>true
  |.pick _ _ _=>true
  |.binOp _ _ _ _ _=>true
  |.unOp _ _ _=>true
  |.field _ _ _=>true
  |.extract _ _=>true
  |.fieldAddr _ _ _=>true
  |.nilCheck _=>true
  |.alloc _=>true
  |.box _ _=>true
  |.store _ _ _=>true
  |.buildSlice _ _ _=>true
  |.makeSlice _ _ _=>true
  |.lookup _ _ _ _=>true
  |_=>false)
 |none=>false
def afC(md:Region.Mode)(ops:Array Oper)(l:Array Bool)(j:Nat):Bool:=(List.range ops.size).all fun k=>!l.getD k false||adt ops k||(Dx md ops ops.size j).contains k
def JA(P:Program)(md:Region.Mode)(ops:Array Oper)(Q:Exit->Act->World->Prop)(X:Fr):Nat->Array Bool->Act->Hp->List Rs->Hp->List Rs->Prop
 |0,l,a,_,_,M,H=>∀w,SH w M X H->Region.ready md ops l=[]/\Q .normal a w
 |f+1,l,a,Mb,Hb,M,H=>∀w,SH w M X H->Down md ops l->(Region.ready md ops l=[]->Q .normal a w)/\
  ∀j∈Region.ready md ops l,wpOp P ops Q j (fun a2 w2=>∃M2 H2,SH w2 M2 X H2/\
   ((Grown Mb Hb M2 H2/\JA P md ops Q X f (l.setIfInBounds j true) a2 Mb Hb M2 H2)\/(afC md ops l j=true/\JA P md ops Q X f (l.setIfInBounds j true) a2 M2 H2 M2 H2))) a w
theorem JA.any:∀(f:Nat) (l:Array Bool) (a:Act) (Mb:Hp) (Hb:List Rs) (M:Hp) (H:List Rs) (w:World),SH w M X H->Down md ops l->JA P md ops Q X f l a Mb Hb M H->wpAny P md ops Q f l a w:=by
 intro f
 induction f with
 |zero=>intro l a Mb Hb M H w S _ h;exact h w S
 |succ f ih=>
  intro l a Mb Hb M H w S hd h
  obtain⟨h0,h1⟩:=h w S hd
  refine⟨h0,fun j hj=>wpOp_mono (fun a2 w2 hc=>?_) (h1 j hj)⟩
  obtain⟨M2,H2,S2,⟨_,hc⟩|⟨_,hc⟩⟩:=hc
  ·exact ih _ _ _ _ _ _ _ S2 (zS hd hj) hc
  ·exact ih _ _ _ _ _ _ _ S2 (zS hd hj) hc
end
section
variable {P : Program} {n : Nat} {C : Ctx} {c : Code} {s : List K} {L : List (Nat × Value)} {w : World} {Mb M : Hp} {X : Fr} {Hb H : List Rs} {l : Array Bool} {f : Nat}
end
section
variable {P : Program} {n : Nat} {C : Ctx} {c : Code} {s : List K} {L : List (Nat × Value)} {w : World} {M : Hp} {X : Fr} {H : List Rs}
end
end Go.Proofs.YtcohmplpgcddiaaGreatDoor
namespace Go.Proofs.YtcohmplpgcddiaaGreatDoor
open Go.ChangeShapes Go.WideShapes Go.ChangeAt Go.RowKit
noncomputable def Z3n:=Tryz.f79.body.getD .skip
set_option maxHeartbeats 2000000 in
set_option maxRecDepth 10000 in
theorem aen{w:World}{M:Hp}{X:Fr}(d:Dg){dO ggs:Nat}{dY:Value}{iA oA fA:Option Addr}{ic oc fc:Nat}{fv:List ei}(m:Mv)(hsi:aJ cQ M iA ic (aI d false (4*d.ae.length)))(bq:aJ cQ M oA oc (aI d true (4*d.ae.length)))(gZ:aJ (eZ 87) M fA fc fv)(il:ia ib M fv (ai d))(hn:d.ae.length<=16)(hab:aO d=true)(hlo:0<=d.loops/\d.loops<=16)(S:SH w M X [Rs.cV [Rs.box dO 63 [.pointer (some ⟨ggs,0,none⟩),.slice fA fv.length fc],Rs.box ggs 66 [dY,.int .i64 d.loops,.slice iA (aI d false (4*d.ae.length)).length ic,.slice oA (aI d true (4*d.ae.length)).length oc],Rs.row bu dY d.ae]]):Cm 79 [.pointer (some ⟨dO,0,none⟩),.agg [.int .i64 m.kd,.int .i64 m.at_,.int .i64 m.dG,.int .i64 m.ua,.bool m.ub,.int .i64 m.va,.bool m.vb,.bool m.ov].toArray] w M X (iR d m) (HA dO ggs (.slice fA fv.length fc) (.slice iA (aI d false (4*d.ae.length)).length ic) (.slice oA (aI d true (4*d.ae.length)).length oc) (oX d m)):=by
 unfold Cm
 replace S:=S.se
 obtain⟨cA,cc,kU,_⟩:=S.sl (i:=2) rfl
 have hfl:=il.1
 refine cw (b:=Z3n) Tryz.func79 rfl Tryz.ntmps79 rfl (fun C hC=>(cB [0,1] rfl (ar (aj rfl (dx (l:=[_,_,_,_,_,_,_,_]) rfl rfl rfl rfl rfl S ?_)))))
 intro aP w1 S1;clear S
 refine bM [0,3] rfl (dH S1 14 ?_)
 clear S1
 refine aS 0 rfl (az rfl eT rfl aY aX) (ay 1 rfl (fun ah Sz=>aw rfl aG (Sz.suf.bc 0 rfl rfl)) (aK 10 [2,3] rfl ?_))
 refine xG (t:=19) rfl (fun ajk=>?_) (fun ajk=>?_)
 ·refine aS 4 rfl (az rfl eT rfl aY aX) (ay 5 rfl (fun ah Sz=>aw rfl aG (Sz.suf.bc 0 rfl rfl)) (aK 6 [6,7] rfl (aS 8 rfl (az rfl kX rfl Pv Ou) (ay 9 rfl (fun ah Sz=>aw rfl qo (Sz.suf.bc 1 rfl rfl)) (ay 10 rfl (fun ah Sz=>cK rfl qo) (aK 1 [11,12] rfl ?_))))))
  refine xG (t:=28) rfl (fun aiQ=>?_) (fun aiQ=>?_)
  ·refine dQ 13 rfl (fun ah Sz=>dZ rfl rfl rfl rfl rfl og Sz (zY 3 Sz.aT)) (cD (fun pU bY=>(bC [0,3] rfl ?_)))
   have nH:0<=m.at_/\m.at_<((ai d).length:Int):=by omega
   have hok:∀x∈(ga (ai d) m.at_.toNat),okD d x:=Ic hab (cY (by omega))
   refine dH bY 9 ?_
   clear bY
   refine aK 7 [0,1] rfl (aS 2 rfl (az rfl kX rfl Pv Ou) (ay 3 rfl (fun ah Sz=>aw rfl qo (Sz.suf.bc 1 rfl rfl)) (aS 4 rfl (az rfl eT rfl aY aX) (ay 5 rfl (fun ah Sz=>aw rfl aG (Sz.suf.bc 0 rfl rfl)) (tN 35 (.int .i64 ((m.at_.toNat:Nat):Int)) rfl (int_eq (by omega)) ?_)))))
   refine ay 6 rfl (fun ah Sz=>cN m.at_.toNat rfl qp (gZ.mono ah)) ?_
   obtain⟨kG,hr1⟩:=il.2 m.at_.toNat (by first|omega|(simp only[ls];omega))
   have Nq:(ga (ai d) m.at_.toNat).length*16<=140737488355328:=hr1.room
   refine ay 7 rfl (fun ah Sz=>aw rfl nG ((gZ.mono ah).cell Sz.m (i:=m.at_.toNat) (by first|omega|(simp only[ls];omega)) 0 rfl (congrArg (fun n=>some (Value.slice _ n _)) kG))) ?_
   refine aK 0 [8] rfl (cD (fun DR fU=>(cP [0,4] rfl (af 2 rfl (aj rfl (dU rfl rfl rfl rfl rfl rfl rfl ahI fU (ab9 d (ga (ai d) m.at_.toNat) (SH.oh (N:=[]) (i:=1) fU rfl rfl) (SH.oh (N:=[]) (i:=2) fU rfl (by rw[kU])) (SH.vA (N:=[]) (i:=3) fU rfl kU (by show _*40<=_;omega)) (hsi.mono (Hp.cM _ _)) (bq.mono (Hp.cM _ _)) (hr1.mono (Hp.cM _ _)) hn hab hok fU.aT) ?_))))))
   rintro _ sY fG rfl;clear fU
   refine uE (t:=40) rfl (fun xe=>?_) (fun xe=>?_)
   ·refine aj rfl (dU rfl rfl rfl rfl rfl rfl rfl og fG (zY 8 fG.aT) ?_)
    rintro _ vN gH rfl;clear fG
    refine bL [0,4] rfl (af 1 rfl (aB (sw (aj rfl (xJ (Nat×Nat) Int (fun x=>Value.agg (cQ.f x).toArray) (Value.int .i64) rfl rfl rfl gH ?_)))))
    intro iH BM kj;clear gH
    refine af 1 rfl (bM [0,4,5,6] rfl (ar (af 1 rfl (ag rfl (cK rfl nG) (af 1 rfl (ax [0,5,6,43,44,45] rfl (bg ?_)))))))
    refine ck (fun aZ au aR=>∃(i:Nat) (es:List ((Nat×Nat)×Int)),aZ=(ga (ai d) m.at_.toNat).length-i/\Env 117 [(0,.pointer (some ⟨dO,0,none⟩)),(5,.func (.func 109) #[] #[]),(6,.map (some iH)),(43,.slice ((ga fv m.at_.toNat).A) (ga (ai d) m.at_.toNat).length ((ga fv m.at_.toNat).c)),(44,.int .i64 ((ga (ai d) m.at_.toNat).length:Int)),(45,.int .i64 (i:Int))] au/\SH aR M X [Rs.mp (fun x=>Value.agg (cQ.f x).toArray) (Value.int .i64) iH es,Rs.box dO 63 [.pointer (some ⟨ggs,0,none⟩),.slice fA fv.length fc],Rs.box ggs 66 [dY,.int .i64 d.loops,.slice iA (aI d false (4*d.ae.length)).length ic,.slice oA (aI d true (4*d.ae.length)).length oc],Rs.row bu dY d.ae]/\i<=(ga (ai d) m.at_.toNat).length/\es=nY d (ga (ai d) m.at_.toNat) i) rfl ?_ ?_
    ·intro au aq
     refine⟨_,⟨0,[],rfl,aq.su rfl,kj.pick [0,2,3,4] [_,_,_,_] (by decide) ⟨rfl,rfl,rfl,rfl,trivial⟩,?dh,?dC⟩⟩
     case dh=>omega
     case dC=>rfl
    ·rintro m2 a1 BL ⟨i,es,rfl,bN,gM,hi,hes⟩
     clear kj
     refine cy bN ?_
     clear bN a1
     refine ar (af 1 rfl (aB (di ?_)))
     refine bp rfl (fun O7=>?_) (fun O7=>?_)
     ·refine aV (bC [0,5,6,43,44,45] rfl (bg (ar (ag rfl (cN i rfl mM hr1) (ag rfl (aU [_,_] rfl eA gD (hr1.j6 gM.m (e:=i) (by first|omega|(simp only[ls];omega)) (j:=0) ⟨rfl,rfl,trivial⟩)) ?_)))))
      refine aj rfl (bW (l:=[_,_]) rfl rfl rfl ra rfl gM ?_)
      intro bJ PJ pj;clear gM
      refine aj rfl (bH 0 [_,_] [_,_] [_,_,_,_,_] rfl pj rfl rfl gD rfl rfl ?_)
      intro zt jd;clear pj
      refine bM [0,5,6,43,44,45,8] rfl ?_
      have ho:okD d (ga (ga (ai d) m.at_.toNat) i):=hok _ (cY (by omega))
      have hpo:1<=(ga (ga (ai d) m.at_.toNat) i).a/\(ga (ga (ai d) m.at_.toNat) i).a<=2*(d.ae.length:Int):=ho
      obtain⟨ht1,ht2,htg,htl,_⟩:=fO hab ho true
      obtain⟨KC,hf2,hfg,hfl,_⟩:=fO hab ho false
      have anr:=jR d true (4*d.ae.length)
      have hlt2:=jR d false (4*d.ae.length)
      refine aH (ag rfl (az rfl eA rfl aY aX) (ag rfl (aw rfl aG (jd.bc 0 rfl rfl)) (af 1 rfl (bM [0,5,6,43,44,45,9] rfl ?_))))
      refine z6 (fun au aR=>∃(Pg:Nat) (Pf:Nat),Env 117 [(0,.pointer (some ⟨dO,0,none⟩)),(5,.func (.func 109) #[] #[]),(6,.map (some iH)),(43,.slice ((ga fv m.at_.toNat).A) (ga (ai d) m.at_.toNat).length ((ga fv m.at_.toNat).c)),(44,.int .i64 ((ga (ai d) m.at_.toNat).length:Int)),(45,.int .i64 (i:Int)),(9,.int .i64 ((ga (ga (ai d) m.at_.toNat) i).a)),(10,.pointer (some ⟨Pg,0,none⟩)),(11,.pointer (some ⟨Pf,0,none⟩))] au/\SH aR M X [Rs.box Pg 106 [.int .i64 ((ga (aI d true (4*d.ae.length)) (ga (ga (ai d) m.at_.toNat) i).a.toNat).1:Int),.int .i64 ((ga (aI d true (4*d.ae.length)) (ga (ga (ai d) m.at_.toNat) i).a.toNat).2:Int)],Rs.box Pf 106 [.int .i64 ((ga (aI d false (4*d.ae.length)) (ga (ga (ai d) m.at_.toNat) i).a.toNat).1:Int),.int .i64 ((ga (aI d false (4*d.ae.length)) (ga (ga (ai d) m.at_.toNat) i).a.toNat).2:Int)],Rs.box bJ 33 [.int .i64 ((ga (ga (ai d) m.at_.toNat) i).a),.bool ((ga (ga (ai d) m.at_.toNat) i).b)],Rs.mp (fun x=>Value.agg (cQ.f x).toArray) (Value.int .i64) iH es,Rs.box dO 63 [.pointer (some ⟨ggs,0,none⟩),.slice fA fv.length fc],Rs.box ggs 66 [dY,.int .i64 d.loops,.slice iA (aI d false (4*d.ae.length)).length ic,.slice oA (aI d true (4*d.ae.length)).length oc],Rs.row bu dY d.ae]) ?_ ?_
      ·refine dH jd 24 ?_
       clear jd
       refine aK 22 [0,1] rfl (aS 2 rfl (az rfl kX rfl mW mN) (ay 3 rfl (fun ah Sz=>aw rfl lB (Sz.suf.bc 2 rfl rfl)) (aK 19 [4] rfl (aS 5 rfl (az rfl jy rfl zb yY) (ay 6 rfl (fun ah Sz=>aw rfl vw (Sz.suf.bc 3 rfl rfl)) (aK 16 [7] rfl (tN 58 (.int .i64 (((ga (ga (ai d) m.at_.toNat) i).a.toNat:Nat):Int)) rfl (int_eq (by omega)) ?_)))))))
       refine ay 8 rfl (fun ah Sz=>cN ((ga (ga (ai d) m.at_.toNat) i).a.toNat) rfl yU (bq.mono ah)) (ay 9 rfl (fun ah Sz=>aU [_,_] rfl dX gX ((bq.mono ah).j6 Sz.m (e:=(ga (ga (ai d) m.at_.toNat) i).a.toNat) (by first|omega|(simp only[ls];omega)) (j:=0) ⟨rfl,rfl,trivial⟩)) ?_)
       refine aK 12 [10,11] rfl (aS 12 rfl (az rfl kX rfl mW mN) (ay 13 rfl (fun ah Sz=>aw rfl lB (Sz.suf.bc 2 rfl rfl)) (aK 9 [14] rfl (aS 15 rfl (az rfl jy rfl zb yY) (ay 16 rfl (fun ah Sz=>aw rfl vw (Sz.suf.bc 3 rfl rfl)) (aK 6 [17] rfl (tN 68 (.int .i64 (((ga (ga (ai d) m.at_.toNat) i).a.toNat:Nat):Int)) rfl (int_eq (by omega)) ?_)))))))
       refine ay 18 rfl (fun ah Sz=>cN ((ga (ga (ai d) m.at_.toNat) i).a.toNat) rfl yU (hsi.mono ah)) (ay 19 rfl (fun ah Sz=>aU [_,_] rfl dX gX ((hsi.mono ah).j6 Sz.m (e:=(ga (ga (ai d) m.at_.toNat) i).a.toNat) (by first|omega|(simp only[ls];omega)) (j:=0) ⟨rfl,rfl,trivial⟩)) ?_)
       refine z7 (i:=20) (j:=21) 3 rfl rfl (by kernel_rfl) rfl rfl rfl rfl (fun w57 tG=>?_) (fun w57 tG=>?_)
       ·refine(bW (l:=[_,_]) rfl rfl rfl qX rfl tG ?_)
        intro dE GG kV;clear tG
        refine dB [_] [_,_,_,_,_,_] rfl kV ?_;clear kV
        refine cm 21 rfl (fun w60 pd=>((bW (l:=[_,_]) rfl rfl rfl qX rfl pd ?_)))
        intro lK w61 nP;clear pd
        refine dB [_,_] [_,_,_,_,_,_,_] rfl nP ?_;clear nP
        refine cm 22 rfl (fun w63 mE=>((bH 1 [_,_] [_,_] [_,_,_,_,_,_,_] rfl mE rfl rfl gX rfl rfl ?_)))
        intro w64 S64;clear mE
        refine dB [_,_] [_,_,_,_,_,_,_] rfl S64 ?_;clear S64
        refine cm 23 rfl (fun w66 tF=>((bH 0 [_,_] [_,_] [_,_,_,_,_,_,_] rfl tF rfl rfl gX rfl rfl ?_)))
        intro w67 o9;clear tF
        refine dB [_,_] [_,_,_,_,_,_,_] rfl o9 ?_;clear o9
        refine cD (fun w68 o8=>(br ?_))
        intro au aq
        refine⟨_,_,aq.su rfl,o8.pick [1,0,2,3,4,5,6] [_,_,_,_,_,_,_] (by decide) ⟨rfl,rfl,rfl,rfl,rfl,rfl,rfl,trivial⟩⟩
       ·refine(bW (l:=[_,_]) rfl rfl rfl qX rfl tG ?_)
        intro iI Kg jb;clear tG
        refine dB [_] [_,_,_,_,_,_] rfl jb ?_;clear jb
        refine cm 20 rfl (fun PB wz=>((bW (l:=[_,_]) rfl rfl rfl qX rfl wz ?_)))
        intro rS w72 tE;clear wz
        refine dB [_,_] [_,_,_,_,_,_,_] rfl tE ?_;clear tE
        refine cm 22 rfl (fun w74 qR=>((bH 0 [_,_] [_,_] [_,_,_,_,_,_,_] rfl qR rfl rfl gX rfl rfl ?_)))
        intro ZZ wy;clear qR
        refine dB [_,_] [_,_,_,_,_,_,_] rfl wy ?_;clear wy
        refine cm 23 rfl (fun w77 vg=>((bH 1 [_,_] [_,_] [_,_,_,_,_,_,_] rfl vg rfl rfl gX rfl rfl ?_)))
        intro ZX Hw;clear vg
        refine dB [_,_] [_,_,_,_,_,_,_] rfl Hw ?_;clear Hw
        refine cD (fun w79 KT=>(br ?_))
        intro au aq
        refine⟨_,_,aq.su rfl,KT.pick [0,1,2,3,4,5,6] [_,_,_,_,_,_,_] (by decide) ⟨rfl,rfl,rfl,rfl,rfl,rfl,rfl,trivial⟩⟩
      ·rintro a2 xR ⟨Pg,Pf,cU,gu⟩
       clear jd
       refine Au cU ?_
       clear cU a2
       refine di ?_
       have xt:pP d (ga (aI d true (4*d.ae.length)) (ga (ga (ai d) m.at_.toNat) i).a.toNat):=by rw[htg];exact⟨ht1,ht2⟩
       have xt2:(ga (aI d true (4*d.ae.length)) (ga (ga (ai d) m.at_.toNat) i).a.toNat).2<4:=xt.2
       have alm:(cd (ga (aI d true (4*d.ae.length)) (ga (ga (ai d) m.at_.toNat) i).a.toNat)).1<d.ae.length:=(oo xt).1
       have alk:(cd (ga (aI d true (4*d.ae.length)) (ga (ga (ai d) m.at_.toNat) i).a.toNat)).2<4:=(oo xt).2
       have xf:pP d (ga (aI d false (4*d.ae.length)) (ga (ga (ai d) m.at_.toNat) i).a.toNat):=by rw[hfg];exact⟨KC,hf2⟩
       have xf2:(ga (aI d false (4*d.ae.length)) (ga (ga (ai d) m.at_.toNat) i).a.toNat).2<4:=xf.2
       have alo:(cd (ga (aI d false (4*d.ae.length)) (ga (ga (ai d) m.at_.toNat) i).a.toNat)).1<d.ae.length:=(oo xf).1
       have aln:(cd (ga (aI d false (4*d.ae.length)) (ga (ga (ai d) m.at_.toNat) i).a.toNat)).2<4:=(oo xf).2
       refine dH gu 18 ?_
       clear gu
       refine aK 16 [0,1] rfl (aS 2 rfl (az rfl kX rfl mW mN) (ay 3 rfl (fun ah Sz=>aw rfl lB (Sz.suf.bc 4 rfl rfl)) (aK 13 [4] rfl (ay 5 rfl (fun ah Sz=>aU [_,_] rfl dX gX (Sz.suf.bs 0 rfl rfl)) (dQ 6 rfl (fun ah Sz=>dZ rfl rfl rfl rfl rfl Jw Sz (H0 (ga (aI d true (4*d.ae.length)) (ga (ga (ai d) m.at_.toNat) i).a.toNat) (by first|assumption|omega) Sz.aT)) ?_)))))
       refine dQ 7 rfl (fun ah Sz=>dZ rfl rfl rfl rfl rfl JX Sz (Kc d ((cd (ga (aI d true (4*d.ae.length)) (ga (ga (ai d) m.at_.toNat) i).a.toNat)).1) ((cd (ga (aI d true (4*d.ae.length)) (ga (ga (ai d) m.at_.toNat) i).a.toNat)).2) (SH.oh (i:=5) Sz rfl (by rw[kU])) (SH.vA (i:=6) Sz rfl kU (by show _*40<=_;omega)) ((hsi.mono ah).mono (Hp.cM _ _)) ((bq.mono ah).mono (Hp.cM _ _)) (by omega) (by omega) Sz.aT)) ?_
       refine aK 8 [8,9] rfl (aS 10 rfl (az rfl kX rfl mW mN) (ay 11 rfl (fun ah Sz=>aw rfl lB (Sz.suf.bc 4 rfl rfl)) (aK 5 [12] rfl (ay 13 rfl (fun ah Sz=>aU [_,_] rfl dX gX (Sz.suf.bs 1 rfl rfl)) (dQ 14 rfl (fun ah Sz=>dZ rfl rfl rfl rfl rfl Jw Sz (H0 (ga (aI d false (4*d.ae.length)) (ga (ga (ai d) m.at_.toNat) i).a.toNat) (by first|assumption|omega) Sz.aT)) ?_)))))
       refine dQ 15 rfl (fun ah Sz=>dZ rfl rfl rfl rfl rfl JX Sz (Kc d ((cd (ga (aI d false (4*d.ae.length)) (ga (ga (ai d) m.at_.toNat) i).a.toNat)).1) ((cd (ga (aI d false (4*d.ae.length)) (ga (ga (ai d) m.at_.toNat) i).a.toNat)).2) (SH.oh (i:=5) Sz rfl (by rw[kU])) (SH.vA (i:=6) Sz rfl kU (by show _*40<=_;omega)) ((hsi.mono ah).mono (Hp.cM _ _)) ((bq.mono ah).mono (Hp.cM _ _)) (by omega) (by omega) Sz.aT)) ?_
       refine aK 0 [16,17] rfl (cD (fun w98 rU=>(bC [0,5,6,43,44,45,9,10,11,12,13] rfl ?_)))
       have Hm:=rU.pick [3,0,1,2,4,5,6] [_,_,_,_,_,_,_] (by decide) ⟨rfl,rfl,rfl,rfl,rfl,rfl,rfl,trivial⟩;clear rU
       refine zP [_] [_,_,_,_,_,_] rfl (by kernel_rfl) Hm 10 rfl ?_
       clear Hm
       change WA _ _ _ _ _ _ _ _ _ _ _ _ [_,_,_,_,_,_,_]
       refine aK 9 [0] rfl (ay 1 rfl (fun ah Sz=>aU [_,_] rfl dX gX (Sz.suf.bs 1 rfl rfl)) (aK 6 [2,3] rfl (ay 4 rfl (fun ah Sz=>aU [_,_] rfl dX gX (Sz.suf.bs 1 rfl rfl)) (dQ 5 rfl (fun ah Sz=>dZ rfl rfl rfl rfl rfl Jw Sz (H0 (ga (aI d false (4*d.ae.length)) (ga (ga (ai d) m.at_.toNat) i).a.toNat) (by first|assumption|omega) Sz.aT)) ?_))))
       refine aK 2 [6,7] rfl (cm 8 rfl (fun amk Gz=>((ou (kc:=(fun x=>Value.agg (cQ.f x).toArray)) (vc:=Value.int .i64) (es:=es) (k:=(ga (aI d false (4*d.ae.length)) (ga (ga (ai d) m.at_.toNat) i).a.toNat)) (e:=(aL d ((cd (ga (aI d true (4*d.ae.length)) (ga (ga (ai d) m.at_.toNat) i).a.toNat)).1) ((cd (ga (aI d true (4*d.ae.length)) (ga (ga (ai d) m.at_.toNat) i).a.toNat)).2))) (i:=0) (H':=[_,_,_,_,_,_,_]) (.inl rfl) rfl Gz rfl rfl rfl rfl Ff Jl rfl ?_))))
       intro amj ZP;clear Gz
       refine dB [_] [_,_,_,_,_,_,_] rfl ZP ?_;clear ZP
       refine cm 9 rfl (fun ah4 ZO=>((ou (kc:=(fun x=>Value.agg (cQ.f x).toArray)) (vc:=Value.int .i64) (es:=(mp (ga (aI d false (4*d.ae.length)) (ga (ga (ai d) m.at_.toNat) i).a.toNat) (aL d ((cd (ga (aI d true (4*d.ae.length)) (ga (ga (ai d) m.at_.toNat) i).a.toNat)).1) ((cd (ga (aI d true (4*d.ae.length)) (ga (ga (ai d) m.at_.toNat) i).a.toNat)).2)) es)) (k:=(cd (ga (aI d false (4*d.ae.length)) (ga (ga (ai d) m.at_.toNat) i).a.toNat))) (e:=((ga (ga (ai d) m.at_.toNat) i).a)) (i:=0) (H':=[_,_,_,_,_,_,_]) (.inl rfl) rfl ZO rfl rfl rfl rfl Ff Jl rfl ?_)))
       intro ah3 ZN;clear ZO
       refine dB [_] [_,_,_,_,_,_,_] rfl ZN ?_;clear ZN
       refine cD (fun ami Gy=>(aW [0,5,6,43,44,45,9,10,13] rfl ?_))
       have Gx:=Gy.pick [0,1,2,3,4,5,6] [_,_,_,_,_,_,_] (by decide) ⟨rfl,rfl,rfl,rfl,rfl,rfl,rfl,trivial⟩;clear Gy
       refine zP [_] [_,_,_,_,_,_] rfl (by kernel_rfl) Gx 12 rfl ?_
       clear Gx
       change WA _ _ _ _ _ _ _ _ _ _ _ _ [_,_,_,_,_,_,_]
       refine aK 10 [0,1] rfl (ay 2 rfl (fun ah Sz=>aU [_,_] rfl dX gX (Sz.suf.bs 0 rfl rfl)) (dQ 3 rfl (fun ah Sz=>dZ rfl rfl rfl rfl rfl Jw Sz (H0 (ga (aI d true (4*d.ae.length)) (ga (ga (ai d) m.at_.toNat) i).a.toNat) (by first|assumption|omega) Sz.aT)) ?_))
       refine aK 7 [4] rfl (ay 5 rfl (fun ah Sz=>aU [_,_] rfl dX gX (Sz.suf.bs 0 rfl rfl)) (aK 4 [6,7] rfl (cm 8 rfl (fun ah2 Gw=>((aay (kc:=(fun x=>Value.agg (cQ.f x).toArray)) (vc:=Value.int .i64) (es:=(mp (cd (ga (aI d false (4*d.ae.length)) (ga (ga (ai d) m.at_.toNat) i).a.toNat)) ((ga (ga (ai d) m.at_.toNat) i).a) (mp (ga (aI d false (4*d.ae.length)) (ga (ga (ai d) m.at_.toNat) i).a.toNat) (aL d ((cd (ga (aI d true (4*d.ae.length)) (ga (ga (ai d) m.at_.toNat) i).a.toNat)).1) ((cd (ga (aI d true (4*d.ae.length)) (ga (ga (ai d) m.at_.toNat) i).a.toNat)).2)) es))) (k:=(cd (ga (aI d true (4*d.ae.length)) (ga (ga (ai d) m.at_.toNat) i).a.toNat))) (zv:=0) (i:=0) rfl rfl rfl Gw rfl rfl rfl Ff Jl BK ?_))))))
       intro sx1 ah1 Dw;clear Gw
       change SH _ _ _ [Rs.GU (fun x=>Value.agg (cQ.f x).toArray) (Value.int .i64) iH (mp (cd (ga (aI d true (4*d.ae.length)) (ga (ga (ai d) m.at_.toNat) i).a.toNat)) ((mg (cd (ga (aI d true (4*d.ae.length)) (ga (ga (ai d) m.at_.toNat) i).a.toNat)) (mp (cd (ga (aI d false (4*d.ae.length)) (ga (ga (ai d) m.at_.toNat) i).a.toNat)) ((ga (ga (ai d) m.at_.toNat) i).a) (mp (ga (aI d false (4*d.ae.length)) (ga (ga (ai d) m.at_.toNat) i).a.toNat) (aL d ((cd (ga (aI d true (4*d.ae.length)) (ga (ga (ai d) m.at_.toNat) i).a.toNat)).1) ((cd (ga (aI d true (4*d.ae.length)) (ga (ga (ai d) m.at_.toNat) i).a.toNat)).2)) es))).getD 0) (mp (cd (ga (aI d false (4*d.ae.length)) (ga (ga (ai d) m.at_.toNat) i).a.toNat)) ((ga (ga (ai d) m.at_.toNat) i).a) (mp (ga (aI d false (4*d.ae.length)) (ga (ga (ai d) m.at_.toNat) i).a.toNat) (aL d ((cd (ga (aI d true (4*d.ae.length)) (ga (ga (ai d) m.at_.toNat) i).a.toNat)).1) ((cd (ga (aI d true (4*d.ae.length)) (ga (ga (ai d) m.at_.toNat) i).a.toNat)).2)) es))) (cd (ga (aI d true (4*d.ae.length)) (ga (ga (ai d) m.at_.toNat) i).a.toNat)) sx1,_,_,_,_,_,_]at Dw
       refine dB [_] [_,_,_,_,_,_,_] rfl Dw ?_;clear Dw
       refine aK 2 [9] rfl (cm 10 rfl (fun ah0 Gv=>((aal (kc:=(fun x=>Value.agg (cQ.f x).toArray)) (vc:=Value.int .i64) (es:=(mp (cd (ga (aI d true (4*d.ae.length)) (ga (ga (ai d) m.at_.toNat) i).a.toNat)) ((mg (cd (ga (aI d true (4*d.ae.length)) (ga (ga (ai d) m.at_.toNat) i).a.toNat)) (mp (cd (ga (aI d false (4*d.ae.length)) (ga (ga (ai d) m.at_.toNat) i).a.toNat)) ((ga (ga (ai d) m.at_.toNat) i).a) (mp (ga (aI d false (4*d.ae.length)) (ga (ga (ai d) m.at_.toNat) i).a.toNat) (aL d ((cd (ga (aI d true (4*d.ae.length)) (ga (ga (ai d) m.at_.toNat) i).a.toNat)).1) ((cd (ga (aI d true (4*d.ae.length)) (ga (ga (ai d) m.at_.toNat) i).a.toNat)).2)) es))).getD 0) (mp (cd (ga (aI d false (4*d.ae.length)) (ga (ga (ai d) m.at_.toNat) i).a.toNat)) ((ga (ga (ai d) m.at_.toNat) i).a) (mp (ga (aI d false (4*d.ae.length)) (ga (ga (ai d) m.at_.toNat) i).a.toNat) (aL d ((cd (ga (aI d true (4*d.ae.length)) (ga (ga (ai d) m.at_.toNat) i).a.toNat)).1) ((cd (ga (aI d true (4*d.ae.length)) (ga (ga (ai d) m.at_.toNat) i).a.toNat)).2)) es)))) (k:=(cd (ga (aI d true (4*d.ae.length)) (ga (ga (ai d) m.at_.toNat) i).a.toNat))) (e:=((ga (ga (ai d) m.at_.toNat) i).a)) (st:=sx1) (i:=0) (H':=[_,_,_,_,_,_,_]) rfl rfl Gv rfl rfl rfl rfl rfl ?_))))
       intro amd uz;clear Gv
       refine dB [_] [_,_,_,_,_,_,_] rfl uz ?_;clear uz
       refine cm 11 rfl (fun amc ZL=>((ou (kc:=(fun x=>Value.agg (cQ.f x).toArray)) (vc:=Value.int .i64) (es:=(mp (cd (ga (aI d true (4*d.ae.length)) (ga (ga (ai d) m.at_.toNat) i).a.toNat)) ((ga (ga (ai d) m.at_.toNat) i).a) (mp (cd (ga (aI d true (4*d.ae.length)) (ga (ga (ai d) m.at_.toNat) i).a.toNat)) ((mg (cd (ga (aI d true (4*d.ae.length)) (ga (ga (ai d) m.at_.toNat) i).a.toNat)) (mp (cd (ga (aI d false (4*d.ae.length)) (ga (ga (ai d) m.at_.toNat) i).a.toNat)) ((ga (ga (ai d) m.at_.toNat) i).a) (mp (ga (aI d false (4*d.ae.length)) (ga (ga (ai d) m.at_.toNat) i).a.toNat) (aL d ((cd (ga (aI d true (4*d.ae.length)) (ga (ga (ai d) m.at_.toNat) i).a.toNat)).1) ((cd (ga (aI d true (4*d.ae.length)) (ga (ga (ai d) m.at_.toNat) i).a.toNat)).2)) es))).getD 0) (mp (cd (ga (aI d false (4*d.ae.length)) (ga (ga (ai d) m.at_.toNat) i).a.toNat)) ((ga (ga (ai d) m.at_.toNat) i).a) (mp (ga (aI d false (4*d.ae.length)) (ga (ga (ai d) m.at_.toNat) i).a.toNat) (aL d ((cd (ga (aI d true (4*d.ae.length)) (ga (ga (ai d) m.at_.toNat) i).a.toNat)).1) ((cd (ga (aI d true (4*d.ae.length)) (ga (ga (ai d) m.at_.toNat) i).a.toNat)).2)) es))))) (k:=(ga (aI d true (4*d.ae.length)) (ga (ga (ai d) m.at_.toNat) i).a.toNat)) (e:=(aL d ((cd (ga (aI d false (4*d.ae.length)) (ga (ga (ai d) m.at_.toNat) i).a.toNat)).1) ((cd (ga (aI d false (4*d.ae.length)) (ga (ga (ai d) m.at_.toNat) i).a.toNat)).2))) (i:=0) (H':=[_,_,_,_,_,_,_]) (.inl rfl) rfl ZL rfl rfl rfl rfl Ff Jl rfl ?_)))
       intro amb ZK;clear ZL
       refine dB [_] [_,_,_,_,_,_,_] rfl ZK ?_;clear ZK
       refine cD (fun ama akB=>(bE (aW [0,5,6,43,44,45] rfl (aH (ag rfl (bj rfl) (af 1 rfl (aB (br ?_))))))))
       intro au aq
       refine⟨_,?jr,⟨i+1,mp (ga (aI d true (4*d.ae.length)) (ga (ga (ai d) m.at_.toNat) i).a.toNat) (aL d ((cd (ga (aI d false (4*d.ae.length)) (ga (ga (ai d) m.at_.toNat) i).a.toNat)).1) ((cd (ga (aI d false (4*d.ae.length)) (ga (ga (ai d) m.at_.toNat) i).a.toNat)).2)) (mp (cd (ga (aI d true (4*d.ae.length)) (ga (ga (ai d) m.at_.toNat) i).a.toNat)) ((ga (ga (ai d) m.at_.toNat) i).a) (mp (cd (ga (aI d true (4*d.ae.length)) (ga (ga (ai d) m.at_.toNat) i).a.toNat)) ((mg (cd (ga (aI d true (4*d.ae.length)) (ga (ga (ai d) m.at_.toNat) i).a.toNat)) (mp (cd (ga (aI d false (4*d.ae.length)) (ga (ga (ai d) m.at_.toNat) i).a.toNat)) ((ga (ga (ai d) m.at_.toNat) i).a) (mp (ga (aI d false (4*d.ae.length)) (ga (ga (ai d) m.at_.toNat) i).a.toNat) (aL d ((cd (ga (aI d true (4*d.ae.length)) (ga (ga (ai d) m.at_.toNat) i).a.toNat)).1) ((cd (ga (aI d true (4*d.ae.length)) (ga (ga (ai d) m.at_.toNat) i).a.toNat)).2)) es))).getD 0) (mp (cd (ga (aI d false (4*d.ae.length)) (ga (ga (ai d) m.at_.toNat) i).a.toNat)) ((ga (ga (ai d) m.at_.toNat) i).a) (mp (ga (aI d false (4*d.ae.length)) (ga (ga (ai d) m.at_.toNat) i).a.toNat) (aL d ((cd (ga (aI d true (4*d.ae.length)) (ga (ga (ai d) m.at_.toNat) i).a.toNat)).1) ((cd (ga (aI d true (4*d.ae.length)) (ga (ga (ai d) m.at_.toNat) i).a.toNat)).2)) es)))),rfl,aq.su rfl,akB.pick [0,4,5,6] [_,_,_,_] (by decide) ⟨rfl,rfl,rfl,rfl,trivial⟩,?fJ,?fZ⟩⟩
       case fJ=>omega
       case fZ=>(rw[htg,hfg,hes,Wo];rfl)
       case jr=>omega
     ·refine bX rfl (bC [0,6] rfl ?_)
      obtain⟨hs3,_⟩:=of_decide_eq_true (show decide _=true from xe)
      obtain rfl:i=3:=by omega
      have KJ:tI d (nY d (ga (ai d) m.at_.toNat) 3):=LU hab hok 3 (by omega)
      have XF:es=nY d (ga (ai d) m.at_.toNat) 3:=hes
      rw[XF]at gM;clear XF
      refine aH (af 1 rfl ?_)
      obtain⟨M94,CW,Px,Ky⟩:=gM.aeR (i:=0) (H':=[_,_,_,_]) rfl rfl;clear gM
      replace hsi:=hsi.mono CW
      replace bq:=bq.mono CW
      replace gZ:=gZ.mono CW
      replace il:=il.mono CW
      replace hr1:=hr1.mono CW
      obtain⟨akp,Yg,wk⟩:=Ky.ajS
      refine aj rfl (abX rfl rfl rfl rfl Ff Px wk Px.m ?_)
      intro r1 al9 ZJ;clear Px
      refine ax [0,107] rfl (bg ?_)
      refine ck (fun aZ au aR=>∃(sn:Array Nat) (dn:List ((Nat×Nat)×Int)) (lf:List ((Nat×Nat)×Int)) (cs:List Cr),aZ=lf.length/\Env 117 [(0,.pointer (some ⟨dO,0,none⟩)),(107,.pointer (some ⟨r1,0,none⟩))] au/\SH aR M94 X [Rs.x5 iH Yg r1 sn,Rs.box dO 63 [.pointer (some ⟨ggs,0,none⟩),.slice fA fv.length fc],Rs.box ggs 66 [dY,.int .i64 d.loops,.slice iA (aI d false (4*d.ae.length)).length ic,.slice oA (aI d true (4*d.ae.length)).length oc],Rs.row bu dY cs]/\zO (fun x=>Value.agg (cQ.f x).toArray) (Value.int .i64) akp sn lf/\(dn++lf).Perm (nY d (ga (ai d) m.at_.toNat) 3)/\cs=iu d.ae dn) rfl ?_ ?_
      ·intro au aq
       refine⟨_,⟨#[],[],(nY d (ga (ai d) m.at_.toNat) 3),d.ae,rfl,aq.su rfl,ZJ.pick [0,2,3,4] [_,_,_,_] (by decide) ⟨rfl,rfl,rfl,rfl,trivial⟩,?fI,?fY,?lW⟩⟩
       case fI=>exact wk.lft
       case fY=>exact List.Perm.refl _
       case lW=>rfl
      ·rintro m3 a3 al8 ⟨sn,dn,lf,cs,rfl,fB,Gu,hlf,oD,hcs⟩
       clear ZJ
       refine cy fB ?_
       clear fB a3
       refine ar ?_
       refine aj rfl (ac5 (i:=0) rfl rfl rfl rfl Gu rfl wk Gu.m hlf (fun OI=>?_) (fun k1 v1 aiu ait sn1 al7 OI alb agW Gt=>?_))
       ·refine af 1 rfl (bM [0,107,109] rfl (sD (bX rfl ?_)))
        obtain rfl:lf=[]:=OI
        rw[List.append_nil]at oD
        have hcl:cs.length=d.ae.length:=by rw[hcs];exact HJ _ _
        have e8:cs=iu d.ae (nY d (ga (ai d) m.at_.toNat) 3):=by rw[hcs];exact aaO oD KJ
        refine l8 hC [] rfl trivial ?_
        obtain⟨M95,yK,akz,⟨A1,c1,e1,hr2⟩⟩:=Gu.gP (i:=3) (H':=[_,_,_,_]) rfl rfl (by show _*40<=_;first|omega|(simp only[ls];omega))
        clear Gu;subst e1
        replace hsi:=hsi.mono yK
        replace bq:=bq.mono yK
        replace gZ:=gZ.mono yK
        replace il:=il.mono yK
        replace hr1:=hr1.mono yK
        replace Ky:=Ky.mono yK
        replace wk:=wk.mono yK
        have fS:iR d m=0:=by unfold iR;rw[if_pos nH,if_pos xe]
        refine .inl ⟨fS,_,rfl,_,_,CW.trans yK,(akz.pick [1,2] [_,_] (by decide) ⟨rfl,rfl,trivial⟩).cV,?_⟩
        rw[show oX d m=⟨cs,d.loops⟩from by unfold oX;rw[<-e8]]
        exact⟨rfl,_,_,rfl,hr2⟩
       ·clear Gu
        change SH _ _ _ [Rs.x5 iH Yg r1 sn1,_,_,_]at Gt
        refine af 1 rfl (bM [0,107,109] rfl (kP (aV (aW [0,107] rfl (bg (ar (ag rfl (abq (i:=0) rfl rfl Gt rfl wk Gt.m agW) (af 2 rfl ?_))))))))
        refine aj rfl (bW (l:=[_,_]) rfl rfl rfl qX rfl Gt ?_)
        intro uY Xd ze;clear Gt
        refine aj rfl (bH 0 [_,_] [_,_] [_,_,_,_,_] rfl ze rfl rfl gX rfl rfl ?_)
        intro ahZ Dv;clear ze
        refine af 1 rfl (ax [0,107,14,15] rfl ?_)
        have hmem:(k1,v1)∈nY d (ga (ai d) m.at_.toNat) 3:=oD.mem_iff.1 (by rw[OI];simp)
        have hko:=KJ.2 k1 (List.mem_map.2 ⟨_,hmem,rfl⟩)
        have hcl:cs.length=d.ae.length:=by rw[hcs];exact HJ _ _
        have hk1:k1.1<cs.length:=by rw[hcl];exact hko.1
        have hk2:k1.2<4:=hko.2
        refine aH (af 1 rfl (ag rfl (aU [_,_] rfl dX gX (Dv.bs 0 rfl rfl)) (af 1 rfl ?_)))
        have ZI:=Dv.pick [2,3,4,0,1] [_,_,_,_,_] (by decide) ⟨rfl,rfl,rfl,rfl,rfl,trivial⟩;clear Dv
        have Bu:SH _ _ _ (Rs.cV [_,_,_]::[_,_]):=SH.qy (A:=[_,_,_]) (B:=[_,_]) ZI;clear ZI
        have J9:SH _ _ _ [_,_,_]:=Bu.less (i:=0) rfl
        have pq:=ahN cs k1.1 k1.2 v1 (by assumption) (by assumption) (Bu.mH (i:=0) rfl);clear J9
        refine aj rfl (r9 (i:=0) rfl rfl rfl rfl rfl rfl rfl ajW Bu rfl pq ?_)
        intro akR al6 M96 ak1 alc Gs uW;clear Bu
        obtain⟨MD,qx,Ck⟩:=uW
        rw[qx]at Gs
        clear qx
        subst MD
        subst Ck
        replace Gs:SH _ _ _ (Rs.cV [_,_,_]::[_,_]):=Gs
        have J8:SH _ _ _ [_,_,_,_,_]:=SH.rX (A:=[_,_,_]) (B:=[_,_]) Gs;clear Gs
        refine aB (bE (br ?_))
        intro au aq
        refine⟨_,?kq,⟨sn1,dn++[(k1,v1)],aiu++ait,eB cs k1.1 k1.2 v1,rfl,aq.su rfl,J8.pick [4,0,1,2] [_,_,_,_] (by decide) ⟨rfl,rfl,rfl,rfl,trivial⟩,?iB,?iW,?px⟩⟩
        case iB=>assumption
        case iW=>(refine List.Perm.trans ?_ oD;simp only[*,List.append_assoc,List.cons_append,List.nil_append];exact(List.perm_append_left_iff _).2 (List.perm_middle.symm))
        case px=>(rw[aaN,<-hcs])
        case kq=>(simp only[*,List.length_append,List.length_cons];omega)
   ·have nH:0<=m.at_/\m.at_<((ai d).length:Int):=by omega
    have fS:iR d m=8:=by unfold iR;rw[if_pos nH,if_neg (by rw[xe];exact Bool.false_ne_true)]
    refine vK (k:=3) rfl rfl rfl rfl rfl rfl rfl og fG (vJ 8 fG.aT) ?_
    intro w9 M9 gU S9
    subst hC
    exact .inr ⟨by rw[fS];first|decide|assumption,by rw[fS],M9,(Hp.le_refl _).trans gU,S9.pick [] [] (by decide) trivial⟩
  ·have fS:iR d m=3:=by unfold iR;rw[if_neg (by omega)]
   refine Tp (i:=13) 0 rfl (by kernel_rfl) rfl rfl rfl rfl rfl rfl rfl og (fun w9 S9=>vJ 3 S9.aT) ?_
   intro w9 M9 gU S9
   subst hC
   exact .inr ⟨by rw[fS];first|decide|assumption,by rw[fS],M9,(Hp.le_refl _).trans gU,S9.pick [] [] (by decide) trivial⟩
 ·refine aK 4 [4,5,6,7,8,9] rfl (aK 1 [10,11,12] rfl ?_)
  have fS:iR d m=3:=by unfold iR;rw[if_neg (by omega)]
  refine Tp (i:=13) 0 rfl (by kernel_rfl) rfl rfl rfl rfl rfl rfl rfl og (fun w9 S9=>vJ 3 S9.aT) ?_
  intro w9 M9 gU S9
  subst hC
  exact .inr ⟨by rw[fS];first|decide|assumption,by rw[fS],M9,(Hp.le_refl _).trans gU,S9.pick [] [] (by decide) trivial⟩
end Go.Proofs.YtcohmplpgcddiaaGreatDoor
namespace Go.Proofs.YtcohmplpgcddiaaGreatDoor
open Go.ChangeShapes Go.WideShapes Go.ChangeAt Go.RowKit
namespace InF
section
variable {P : Program} {n : Nat} {C : Ctx} {c : Code} {s : List K} {L : List (Nat × Value)} {w : World} {M : Hp} {X : Fr} {H : List Rs}
theorem LH(hk:kind c=6)(h:∀a,Env n L a->C.Q .ret a w):WS P n C c s L w:=by
 have hpr:∀{s:List K}{a:Act}{w:World},post P C [] .ret a w->post P C s .ret a w:=by
  intro s
  induction s with
  |nil=>exact fun h=>h
  |cons x s ih=>intro a w h;cases x<;>exact ih h
 intro a ha
 rw[LD hk]
 exact wpIn_ret (hpr (h a ha))
theorem zR:∀{s:List K}{a:Act}{w:World},C.Q .ret a w->post P C s .ret a w:=by
 intro s
 induction s with
 |nil=>exact fun h=>h
 |cons x s ih=>intro a w h;cases x<;>exact ih h
end
end InF
structure pT(D:List Deferred)(n:Nat)(L:List (Nat×Value))(a:Act):Prop where
 sz:a.tmps.size=n
 df:a.defers=D
 at_:∀t v,lk L t=some v->a.tmps.getD t undef=v
section
variable {D : List Deferred} {n : Nat} {L L2 : List (Nat × Value)} {a : Act}
theorem pT.Al(h:pT D n L a):Env n L {a with defers:=[]}:=⟨h.sz,rfl,h.at_⟩
theorem pT.eval(h:pT D n L a){x:Operand}{v:Value}(hx:oev L x=some v):a.eval x=v:=h.Al.eval hx
theorem pT.put(h:pT D n L a){d:Nat}(hd:d<n)(v:Value):pT D n ((d,v)::L) (a.put (some d) v):=⟨(h.Al.put hd v).sz,h.df,(h.Al.put hd v).at_⟩
theorem pT.sub(h:pT D n L a)(hs:Sub L L2):pT D n L2 a:=⟨h.sz,h.df,fun t v hv=>h.at_ t v (hs.lk t v hv)⟩
end
namespace iK
theorem aeU(C:InF.Ctx){P:Program}{o:Oper}{a:Act}{w:World}{next:Act->World->Prop}{Q:Exit->Act->World->Prop}(hnd:∀c,o.op≠.defer c)(h:o.wp P {a with defers:=[]} w (fun a' w'=>a'.defers=[]/\next {a' with defers:=a.defers} w') (fun e a' w'=>Q e {a' with defers:=a.defers} w')):o.wpIn C.F 0 P a w next Q:=by
 obtain⟨tm,df⟩:=a
 have hput:∀v,({Act.put {tmps:=tm,defers:=[]} o.dst v with defers:=df}:Act)=Act.put {tmps:=tm,defers:=df} o.dst v:=fun v=>by cases o.dst<;>rfl
 refine⟨fun f _=>C.xM f,?_⟩
 rw[Oper.semAt_eq _ _ _ hnd]
 unfold Oper.wp at h
 replace h:o.upon P {tmps:=tm,defers:=[]} (fun a' w'=>a'.defers=[]/\next {a' with defers:=df} w') (fun e a' w'=>Q e {a' with defers:=df} w') ((execOp (Act.eval {tmps:=tm,defers:=df}) o).run P w):=h
 generalize (execOp (Act.eval {tmps:=tm,defers:=df}) o).run P w=r at h ⊢
 cases r with
 |ok nx w'=>
  cases nx with
  |value v=>
   replace h:next {Act.put {tmps:=tm,defers:=[]} o.dst v with defers:=df} w':=h.2
   rw[hput]at h;exact h
  |skip=>
   replace h:next {Act.put {tmps:=tm,defers:=[]} o.dst undef with defers:=df} w':=h.2
   rw[hput]at h;exact h
  |defer d=>
   have h1:(Act.put {tmps:=tm,defers:=[d]} o.dst undef).defers=[]:=h.1
   cases hd:o.dst<;>(rw[hd]at h1;cases h1)
  |enter f args=>
   refine⟨C.zg,InF.I6 C (Calls.mono h ?_)⟩
   rintro e w2 hh
   cases e with
   |returned v=>
    replace hh:next {Act.put {tmps:=tm,defers:=[]} o.dst v with defers:=df} w2:=hh.2
    rw[hput]at hh;exact hh
   |panicked chain=>exact hh
   |outgrown=>
    obtain⟨a9,w9,hw⟩:=hh
    exact⟨{a9 with defers:=df},w9,hw⟩
  |row row args=>
   refine⟨C.zg,InF.Np C ?_⟩
   intro c cs
   obtain⟨v,w2,hr,hs⟩:=h c cs
   replace hr:next {Act.put {tmps:=tm,defers:=[]} o.dst v with defers:=df} w2:=hr.2
   rw[hput]at hr
   exact⟨v,w2,hr,hs⟩
  |_=>exact h.elim
 |halt x w'=>
  cases x with
  |panic v=>exact h
  |_=>exact h.elim
def WS(P:Program)(D:List Deferred)(n:Nat)(C:InF.Ctx)(c:Code)(s:List K)(L:List (Nat×Value))(w:World):Prop:=∀a,pT D n L a->c.wpIn C.F 0 P (InF.post P C s) a w
def NM(P:Program)(D:List Deferred)(n:Nat)(C:InF.Ctx)(s:List K)(L:List (Nat×Value))(w:World):Prop:=∀a,pT D n L a->InF.post P C s .normal a w
def WL(P:Program)(D:List Deferred)(n:Nat)(C:InF.Ctx)(c:Code)(k:Nat)(s:List K)(L:List (Nat×Value))(w:World):Prop:=∀a,pT D n L a->wpListIn C.F 0 P (rg c) (InF.post P C s) ((rg c).toList.drop k) a w
section
variable {P : Program} {n : Nat} {C : InF.Ctx} {D : List Deferred} {c : Code} {s : List K} {L : List (Nat × Value)} {w : World}
theorem fy(L2:List (Nat×Value))(hs:Sub L L2)(h:NM P D n C s L2 w):NM P D n C s L w:=fun a ha=>h a (ha.sub hs)
theorem fe(a b:Code)(hk:kind c=1)(ha:cL c=a)(hb:cR c=b)(h:WS P D n C a (.thn b::s) L w):WS P D n C c s L w:=by
 subst ha;subst hb
 intro a ha
 rw[H9 hk]
 exact wpIn_seq (h a ha)
theorem bK(h:WS P D n C c s L w):NM P D n C (.thn c::s) L w:=fun a ha=>h a ha
theorem fQ(hk:kind c=7)(h:WL P D n C c 0 s L w):WS P D n C c s L w:=by
 intro a ha
 rw[K1 hk]
 exact wpIn_region_list (h a ha)
theorem fq{k:Nat}(hk:op c k=none)(h:NM P D n C s L w):WL P D n C c k s L w:=by
 intro a ha
 have:((rg c).toList.drop k)=[]:=by
  unfold op at hk
  rw[ig]at hk
  exact List.drop_eq_nil_of_le (by simpa using hk)
 rw[this]
 exact wpListIn_nil (h a ha)
theorem bG{k k':Nat}{o:Oper}(ho:op c k=some o)(hk:k'=k.succ)(hg:o.guard=none)(h:WO P n o L w (fun L' w'=>WL P D n C c k' s L' w'))(hnd:InF.yZ o=true:=by rfl):WL P D n C c k s L w:=by
 intro a ha
 rw[vH ho]
 subst hk
 refine wpListIn_plain hg fun K hK=>?_
 exact aeU C (InF.Lg hnd) (h _ ha.Al _ _ fun L' a' w' he hw=>⟨he.df,hK _ _ (hw _ ⟨he.sz,ha.df,he.at_⟩)⟩)
end
end iK
end Go.Proofs.YtcohmplpgcddiaaGreatDoor
namespace Go.Proofs.YtcohmplpgcddiaaGreatDoor
open Go.ChangeShapes Go.WideShapes Go.ChangeAt Go.RowKit
section
variable {w : World} {M : Hp} {X : Fr} {H : List Rs} {Ds : List Nat}
end
namespace iK
section
variable {P : Program} {n : Nat} {C : InF.Ctx} {c : Code} {s : List K} {L : List (Nat × Value)} {w : World} {M : Hp} {X : Fr} {H : List Rs}
end
end iK
namespace InF.G
theorem dI{P:Program}{n:Nat}{C:InF.Ctx}{c:Code}{s:List K}{L:List (Nat×Value)}{w:World}{fn:Func}{R:Ending->World->Prop}(hC:C.Q=bodyPostM Fence.wide 0 P fn R){rs:List ResultVar}(vs:List Value)(hr:fn.results=rs.toArray)(hk:kind c=6)(h:wX P L w rs vs)(hR:R (.returned (tup vs)) w):InF.WS P n C c s L w:=by
 refine InF.LH hk fun a ha=>?_
 rw[hC]
 show LeavesInM Fence.wide 0 P fn a.tmps R a.defers .returning w
 rw[ha.df]
 exact⟨tup vs,BH ha hr h,hR⟩
end InF.G
end Go.Proofs.YtcohmplpgcddiaaGreatDoor
namespace Go.Proofs.YtcohmplpgcddiaaGreatDoor
open Go.ChangeShapes Go.WideShapes Go.ChangeAt Go.RowKit
namespace InF
section
variable {P : Program} {n : Nat} {C : Ctx} {c : Code} {s : List K} {L : List (Nat × Value)} {w : World} {ch : List PanicEntry}
theorem sO:∀{s:List K}{a:Act}{w:World},C.Q (.panic ch) a w->post P C s (.panic ch) a w
 |[],_,_,h=>h
 |.thn c::s,_,_,h=>sO (s:=s) h
 |.lp I::s,_,_,h=>sO (s:=s) h
 |.jmp _ _::s,_,_,h=>sO (s:=s) h
 |.blk i::s,_,_,h=>sO (s:=s) h
theorem abg{k k':Nat}{o:Oper}{ca:Call}{fo:Operand}{dP:FuncId}{cap:List Value}(ho:op c k=some o)(hk:k'=k.succ)(hg:o.guard=none)(hd:o.dst=none)(hop:o.op=.defer ca)(eG:ca.callee=.value fo)(hfo:oev L fo=some (.func (.func dP) #[] cap.toArray))(hxs:ca.args=#[])(hr:C.r=none)
  (h:iK.WL P [{target:=.fn (.func dP) cap.toArray,args:=#[]}] n C c k' s L w):WL P n C c k s L w:=by
 intro a ha
 rw[vH ho]
 subst hk
 refine wpListIn_plain hg fun K hK=>?_
 refine⟨fun f _=>C.xM f,?_⟩
 have hF:C.F.round=none:=by unfold Ctx.F;rw[hr];rfl
 have hrun:(o.semAt C.F.round a.eval).run P w=.ok (.defer {target:=.fn (.func dP) cap.toArray,args:=#[]}) w:=by
  rw[hF,Oper.semAt_none]
  unfold execOp
  simp only[hop,resolve,eG,ha.eval hfo,hxs,Deferred.ofValue,Sem.run_bind,Sem.run_pure,Result.andThen_ok]
  simp
 rw[hrun,Oper.uponIn_defer,hd]
 refine hK _ _ (h _ ⟨ha.sz,?_,ha.at_⟩)
 show _::a.defers=_
 rw[ha.df]
end
end InF
namespace iK
section
variable {P : Program} {n d : Nat} {C : InF.Ctx} {c : Code} {s : List K} {L : List (Nat × Value)} {w : World} {D : List Deferred}
theorem ab0{k k':Nat}{o:Oper}{f:FuncId}{vs:List Value}{ca:Call}{fo:Operand}{xs:List Operand}(ho:op c k=some o)(hk:k'=k.succ)(hg:o.guard=none)(hd:o.dst=some d)(hop:o.op=.call ca)(eG:ca.callee=.value fo)(hfo:oev L fo=some (.func (.func f) #[] #[]))
  (hxs:ca.args=xs.toArray)(hvs:oevs L xs=some vs)(hn:Nat.blt d n=true)(hen:∀args w,(callFunc f args).run P w=.ok (.enter f args) w)
  {R1:Value->World->Prop}{R2:List PanicEntry->World->Prop}(hcall:Calls P f vs.toArray w fun e w'=>(∃v,e=.returned v/\R1 v w')\/(∃ch,e=.panicked ch/\R2 ch w'))
  (h1:∀v w',R1 v w'->WL P D n C c k' s ((d,v)::L) w')(h2:∀ch w',R2 ch w'->∀a,pT D n L a->C.Q (.panic ch) a w'):WL P D n C c k s L w:=by
 intro a ha
 rw[vH ho]
 subst hk
 refine wpListIn_plain hg fun K hK=>?_
 have he:List.map a.eval xs=vs:=ha.Al.pE hvs
 have hr:(execOp a.eval o).run P w=.ok (.enter f vs.toArray) w:=by
  unfold execOp
  simp only[hop,resolve,eG,ha.eval hfo,hxs,List.map_toArray,he,Deferred.ofValue,Sem.run_bind,Sem.run_pure,Result.andThen_ok,invoke,Array.empty_append,Array.append_empty]
  exact hen _ _
 refine⟨fun f _=>C.xM f,?_⟩
 rw[Oper.semAt_eq _ _ _ (fun c e=>by rw[e]at hop;cases hop),hr,Oper.uponIn_enter,hd]
 refine⟨C.zg,InF.I6 C (Calls.mono hcall ?_)⟩
 rintro e w' (⟨v,rfl,hR⟩|⟨ch,rfl,hR⟩)
 ·exact hK _ _ (h1 v w' hR _ (ha.put (by simpa using hn) v))
 ·exact InF.sO (h2 ch w' hR a ha)
theorem LH(hk:kind c=6)(h:∀a,pT D n L a->C.Q .ret a w):WS P D n C c s L w:=by
 intro a ha
 rw[LD hk]
 exact wpIn_ret (InF.zR (h a ha))
end
end iK
theorem Sw{P:Program}{fn:Func}{tm:Array Value}{R:Ending->World->Prop}{dP:FuncId}{cap:List Value}{u:FrameMode}{w:World}(hu:u≠.run)(hen:∀args w,(callFunc dP args).run P w=.ok (.enter dP args) w)
  (h:CallsDIn Fence.wide 0 P dP cap.toArray u w fun e u' w'=>∃v,e=.returned v/\settle u'=.returning/\∃vv,(results fn tm).run P w'=.ok vv w'/\R (.returned vv) w'):
  LeavesInM Fence.wide 0 P fn tm R [{target:=.fn (.func dP) cap.toArray,args:=#[]}] u w:=by
 refine⟨hu,.inr ⟨fun h=>(by cases h),.func dP,cap.toArray,dP,cap.toArray,rfl,?_,fun _ _=>trivial,?_⟩⟩
 ·simp only[invoke,Array.empty_append,Array.append_empty]
  exact hen _ _
 ·refine CallsDIn.mono h ?_
  rintro e u' w' ⟨v,rfl,hs,vv,h1,h2⟩
  show LeavesInM Fence.wide 0 P fn tm R [] (settle u') w'
  rw[hs]
  exact⟨vv,h1,h2⟩
theorem aak{F:Fence}{P:Program}{n m id d0 d1:Nat}{c:Code}{o0 o1:Oper}{ca:Call}{L:List (Nat×Value)}{a:Act}{cs cs':List Frame}{v:Value}{w:World}{Q:Exit->Act->List Frame->World->Prop}(hF:∀f,F.fn f)(hc:c=.region id #[o0,o1] false)(ha:Env m L a)(OE:o0.op=.call ca)(eG:ca.callee=.builtin .recover)(hxs:ca.args=#[])(hg0:o0.guard=none)(hd0:o0.dst=some d0)
  (OD:o1.op=.assign (.tmp d0))(hg1:o1.guard=none)(hd1:o1.dst=some d1)(hn:(Nat.blt d0 m&&Nat.blt d1 m)=true)(hrec:recoverD cs=some (v,cs')\/(recoverD cs=none/\v=.nilIface/\cs'=cs))(h:∀a2,Env m ((d1,v)::(d0,v)::L) a2->Q .normal a2 cs' w):c.wpSIn F n P Q a cs w:=by
 subst hc
 simp only[Bool.and_eq_true]at hn
 refine wpSIn_region ?_
 have e0:∀b:Act,Region.wanted o0 (yielded #[o0,o1] b.tmps)=true:=fun b=>by unfold Region.wanted;rw[hg0]
 have e1:∀b:Act,Region.wanted o1 (yielded #[o0,o1] b.tmps)=true:=fun b=>by unfold Region.wanted;rw[hg1]
 have r0:(execOp a.eval o0).run P w=.ok .recover w:=by
  unfold execOp
  simp only[OE,resolve,eG,hxs,Sem.run_bind,Sem.run_pure,Result.andThen_ok]
  rfl
 have ha1:=ha.put (d:=d0) (by simpa using hn.1) v
 have r1:(execOp (a.put (some d0) v).eval o1).run P w=.ok (.value v) w:=by
  unfold execOp
  simp only[OD,ha1.eval (x:=.tmp d0) (v:=v) (by simp[oev,lk])]
  rfl
 have ha2:=ha1.put (d:=d1) (by simpa using hn.2) v
 show wpOpsSIn F n P #[o0,o1] Q [0,1] a cs w
 simp only[wpOpsSIn,List.getElem?_toArray,List.getElem?_cons_zero,List.getElem?_cons_succ,e0,e1,if_true,r0,hd0]
 refine⟨fun f _=>hF f,?_⟩
 rcases hrec with hrec|⟨hrec,rfl,rfl⟩
 ·rw[hrec]
  simp only[r1,hd1]
  exact⟨fun f _=>hF f,h _ ha2⟩
 ·rw[hrec]
  simp only[r1,hd1]
  exact⟨fun f _=>hF f,h _ ha2⟩
section
variable {P : Program} {n : Nat} {o : Oper} {L : List (Nat × Value)} {w : World} {t t' T : TypeId} {x : Operand} {v : Value}
theorem abo{ms}(ho:o.op=.binOp .neq t x (.const .nilIface) t')(hx:oev L x=some .nilIface)(hy:oev L (.const .nilIface)=some .nilIface)(hu:P.underlying t=some (.interface ms)):Run P o L w (.bool false) w:=by
 intro n c hc
 unfold execOp
 have h1:∀w,(eqGuard .neq t x (.const .nilIface) .nilIface .nilIface).run P w=.ok () w:=fun w=>by rw[eqGuard_nil_constR];rfl
 have h2:∀w,(Op.equal t .nilIface .nilIface).run P w=.ok true w:=fun w=>by
  have h:∀d:Nat,(Op.equalIn (d+1) t .nilIface .nilIface).run P w=.ok true w:=fun d=>by simp[Op.equalIn,run_underlying hu]
  exact h 9999
 simp only[ho,hc.eval hx,hc.eval hy,h1,binOp,h2,Sem.run_bind,Result.andThen_ok,Sem.run_pure,Bool.not_true]
theorem abn{ms}{y:Operand}(ho:o.op=.binOp .neq t x y t')(hx:oev L x=some (.iface T v))(hy:oev L y=some .nilIface)(hu:P.underlying t=some (.interface ms)):Run P o L w (.bool true) w:=by
 intro n c hc
 unfold execOp
 have h1:∀w,(eqGuard .neq t x y (.iface T v) .nilIface).run P w=.ok () w:=fun w=>rfl
 have h2:∀w,(Op.equal t (.iface T v) .nilIface).run P w=.ok false w:=fun w=>by
  have h:∀d:Nat,(Op.equalIn (d+1) t (.iface T v) .nilIface).run P w=.ok false w:=fun d=>by simp[Op.equalIn,run_underlying hu]
  exact h 9999
 simp only[ho,hc.eval hx,hc.eval hy,h1,binOp,h2,Sem.run_bind,Result.andThen_ok,Sem.run_pure,Bool.not_false]
theorem aar{s:TypeId}{fs:Array Field}(ho:o.op=.typeAssert x s T true)(hx:oev L x=some (.iface T v))(hu:P.underlying T=some (.struct fs)):Run P o L w (.tuple [v,.bool true].toArray) w:=by
 intro n c hc
 unfold execOp
 simp only[ho,hc.eval hx,Instr.typeAssert,Sem.run_bind,run_underlying hu,Result.andThen_ok,if_true,Sem.run_pure]
theorem abp{ps rs b}{y:Operand}{fn:Fn}{fi cp:Array Value}(ho:o.op=.binOp .eql t x y t')(hx:oev L x=some (.func fn fi cp))(hy:oev L y=some .nilFunc)(hu:P.underlying t=some (.func ps rs b)):Run P o L w (.bool false) w:=by
 intro n c hc
 unfold execOp
 have h1:∀w,(eqGuard .eql t x y (.func fn fi cp) .nilFunc).run P w=.ok () w:=fun w=>rfl
 have h2:∀w,(Op.equal t (.func fn fi cp) .nilFunc).run P w=.ok false w:=fun w=>by
  have h:∀d:Nat,(Op.equalIn (d+1) t (.func fn fi cp) .nilFunc).run P w=.ok false w:=fun d=>by simp[Op.equalIn,run_underlying hu]
  exact h 9999
 simp only[ho,hc.eval hx,hc.eval hy,h1,binOp,h2,Sem.run_bind,Result.andThen_ok,Sem.run_pure]
theorem acM{args:List Value}(hsz:Nat.ble args.length n=true):Env n (argL 0 args) {tmps:=args.toArray++Array.replicate (n-args.toArray.size) undef,defers:=[]}:=by
 refine⟨?_,rfl,fun t v hv=>?_⟩
 ·simp;have:args.length<=n:=by simpa using hsz
  omega
 ·have:=(Ey args 0 t v hv).2
  rw[Nat.sub_zero]at this
  have hlt:=(List.getElem?_eq_some_iff.1 this).1
  simp only[Array.getD_eq_getD_getElem?]
  rw[Array.getElem?_append_left (by simpa using hlt)]
  simp[this]
end
theorem Ru{P:Program}{n m dP id d0 d1:Nat}{fn:Func}{b c0:Code}{args:List Value}{u u2:FrameMode}{w:World}{R:Ending->FrameMode->World->Prop}{o0 o1:Oper}{ca:Call}(v:Value)(hf:P.funcs[dP]? =some fn)(hb:fn.body=some b)(hres:fn.results=#[])(hm:fn.ntmps=m)(hsz:Nat.ble args.length m=true)(hk:kind b=1)(hc0:cL b=c0)(hc:c0=.region id #[o0,o1] false)(OE:o0.op=.call ca)(eG:ca.callee=.builtin .recover)(hxs:ca.args=#[])(hg0:o0.guard=none)(hd0:o0.dst=some d0)
  (OD:o1.op=.assign (.tmp d0))(hg1:o1.guard=none)(hd1:o1.dst=some d1)(hn:(Nat.blt d0 m&&Nat.blt d1 m)=true)(hrec:∀(c₀:Frame) (cs:List Frame),c₀.mode=u->recoverD (c₀::cs)=some (v,{c₀ with mode:=u2}::cs)\/(recoverD (c₀::cs)=none/\v=.nilIface/\u2=u))
  (h:∀C:InF.Ctx,C.r=none->(∀w,R (.returned (.tuple #[])) u2 w->InF.NM P m C [] [] w)->InF.WS P m C (cR b) [] ((d1,v)::(d0,v)::argL 0 args) w):CallsDIn Fence.wide n P dP args.toArray u w R:=by
 refine callsDIn_of_wpSIn hf hb trivial fun c₀ cs hu=>?_
 rw[H9 hk,hc0]
 refine wpSIn_seq ?_
 have ha:Env m (argL 0 args) {tmps:=args.toArray++Array.replicate (fn.ntmps-args.toArray.size) undef,defers:=[]}:=by rw[hm];exact acM (n:=m) hsz
 have key:∀cs',cs'={c₀ with mode:=u2}::cs->recoverD (c₀::cs)=some (v,cs')\/(recoverD (c₀::cs)=none/\v=.nilIface/\cs'=c₀::cs)->c0.wpSIn Fence.wide n P (Exit.thenS ((cR b).wpSIn Fence.wide n P (bodyPostS P fn c₀ cs R)) (bodyPostS P fn c₀ cs R)) {tmps:=args.toArray++Array.replicate (fn.ntmps-args.toArray.size) undef,defers:=[]} (c₀::cs) w:=by
  intro cs' hcs hr
  refine aak (m:=m) (fun _=>trivial) hc ha OE eG hxs hg0 hd0 OD hg1 hd1 hn hr fun a2 ha2=>?_
  refine wpSIn_of_wpIn rfl ?_
  have h1:=h ⟨fun e a' w'=>bodyPostS P fn c₀ cs R e a' cs' w',none⟩ rfl ?_ a2 ha2
  ·exact wpIn_wide.2 (wpIn_wide.1 h1)
  ·intro w' hR a' ha'
   refine⟨ha'.df,u2,hcs,.tuple #[],?_,hR⟩
   exact BH (vs:=[]) (rs:=[]) (L:=[]) ha' (by rw[hres]) trivial
 rcases hrec c₀ cs hu with hr|⟨h1,h2,h3⟩
 ·exact key _ rfl (.inl hr)
 ·refine key (c₀::cs) ?_ (.inr ⟨h1,h2,rfl⟩)
  rw[h3,<-hu]
end Go.Proofs.YtcohmplpgcddiaaGreatDoor
namespace Go.Proofs.YtcohmplpgcddiaaGreatDoor
open Go.ChangeShapes Go.WideShapes Go.ChangeAt Go.RowKit
def xX:Option Nat->Value
 |none=>.nilFunc
 |some f=>.func (.func f) #[] #[]
def MA:List (Int×Option Nat):=[(1,some 75),(2,some 76),(3,some 77),(4,some 78),(5,some 79)]
def Fl(k:Int):Option Nat:=(mg k MA).getD none
def lh(m:Mv):Prop:=m.kd=2\/m.kd=4\/m.kd=5
def jC(d:Dg)(m:Mv):Int:=if m.kd=2 then jW d m else if m.kd=4 then iG d m else iR d m
def jT(d:Dg)(m:Mv):Dg:=if m.kd=2 then C9 d m else if m.kd=4 then DU d m else oX d m
theorem acC{m:Mv}(hm:lh m):∃f,Fl m.kd=some f:=by
 rcases hm with h|h|h
 ·exact⟨76,by rw[h];rfl⟩
 ·exact⟨78,by rw[h];rfl⟩
 ·exact⟨79,by rw[h];rfl⟩
theorem acD{m:Mv}(hm:lh m){f:Nat}(h:Fl m.kd=some f):∀args w,(callFunc f args).run Tryz.prog w=.ok (.enter f args) w:=by
 rcases hm with hq|hq|hq
 ·rw[hq]at h;cases h;exact aj3
 ·rw[hq]at h;cases h;exact aj2
 ·rw[hq]at h;cases h;exact aj1
theorem ac1{w:World}{M:Hp}{X:Fr}{f:Nat}(m:Mv)(hm:lh m)(hk:Fl m.kd=some f)(d:Dg){dO ggs:Nat}{dY:Value}{iA oA fA:Option Addr}{ic oc fc:Nat}{fv:List ei}(hsi:aJ cQ M iA ic (aI d false (4*d.ae.length)))(bq:aJ cQ M oA oc (aI d true (4*d.ae.length)))(gZ:aJ (eZ 87) M fA fc fv)(il:ia ib M fv (ai d))(hn:d.ae.length<=16)(hab:aO d=true)(hlo:0<=d.loops/\d.loops<=16)(S:SH w M X [Rs.cV (bnL d dO ggs dY iA oA fA ic oc fc fv)]):Cm f [.pointer (some ⟨dO,0,none⟩),.agg [.int .i64 m.kd,.int .i64 m.at_,.int .i64 m.dG,.int .i64 m.ua,.bool m.ub,.int .i64 m.va,.bool m.vb,.bool m.ov].toArray] w M X (jC d m) (HA dO ggs (.slice fA fv.length fc) (.slice iA (aI d false (4*d.ae.length)).length ic) (.slice oA (aI d true (4*d.ae.length)).length oc) (jT d m)):=by
 rcases hm with hq|hq|hq
 ·rw[show jC d m=jW d m from by unfold jC;rw[hq];rfl,show jT d m=C9 d m from by unfold jT;rw[hq];rfl]
  rw[hq]at hk;cases hk
  exact acX d m hsi bq gZ il hn hab hlo S
 ·rw[show jC d m=iG d m from by unfold jC;rw[hq];rfl,show jT d m=DU d m from by unfold jT;rw[hq];rfl]
  rw[hq]at hk;cases hk
  exact afL d m hsi bq gZ il hn hab hlo S
 ·rw[show jC d m=iR d m from by unfold jC;rw[hq];rfl,show jT d m=oX d m from by unfold jT;rw[hq];rfl]
  rw[hq]at hk;cases hk
  exact aen d m hsi bq gZ il hn hab hlo S
theorem Cm.two{f:FuncId}{vs:List Value}{w:World}{M:Hp}{X:Fr}{H:List Rs}{r:Rs}{err:Int}{R:Value->Hp->Rs->Prop}(S:SH w M X H)(hi:nth H 0=some r)(h:Cm f vs w M (XH w X (H.set 0 Rs.emp)) err R):Calls Tryz.prog f vs.toArray w fun e w'=>(∃v,e=.returned v/\(err=0/\∃M' r',M.le M'/\SH w' M' X (H.set 0 r')/\R v M' r'))\/(∃ch,e=.panicked ch/\(err≠0/\ch=Dh err/\∃M',M.le M'/\SH w' M' X (H.set 0 Rs.emp))):=by
 refine Calls.mono h ?_
 rintro e w' (⟨h0,v,rfl,M',r',h1,h2,h3⟩|⟨h0,rfl,M',h1,h2⟩)
 ·exact .inl ⟨v,rfl,h0,M',r',h1,S.N2 hi h2 rfl,h3⟩
 ·exact .inr ⟨_,rfl,h0,rfl,M',h1,(S.less hi).back h2⟩
theorem EG{d:Dg}(h:fD d=true):d.ae.length<=16/\aO d=true/\0<=d.loops/\d.loops<=16:=by
 unfold fD at h
 rw[Bool.and_eq_true]at h
 exact qq h.1
def bR(d:Dg)(m:Mv):Dg×Int:=if fD d=false then(⟨[],0⟩,7)else if jC d m=0 then(jT d m,0)else(⟨[],0⟩,jC d m)
def Ee(r:Dg×Int)(u:Value)(N:Hp):Prop:=∃A c,u=.tuple [.agg [.slice A r.1.ae.length c,.int .i64 r.1.loops].toArray,.int .i64 r.2].toArray/\aJ bu N A c r.1.ae
namespace InF
noncomputable def QT:=Tryz.f49.body.getD .skip
noncomputable def Z3p:=cR QT
noncomputable def Z3q:=cL Z3p
noncomputable def Z3r:=cR Z3p
noncomputable def Z3s:=cR Z3r
set_option maxRecDepth 10000 in
theorem catchR{w:World}{p4 p5:Value}:CallsDIn Fence.wide 0 Tryz.prog 49 [p4,p5].toArray .returning w fun e u' w'=>e=.returned (.tuple #[])/\u'=.returning/\w'=w:=by
 refine Ru (b:=QT) (c0:=cL QT) (m:=19) (u2:=.returning) (.nilIface) Tryz.func49 rfl rfl Tryz.ntmps49 rfl rfl rfl rfl rfl rfl rfl rfl rfl rfl rfl rfl rfl (fun c₀ cs hu=>?_) (fun C Cl hC=>?_)
 ·exact .inr ⟨by simp[recoverD,hu],rfl,rfl⟩
 refine fe Z3q Z3r rfl rfl rfl ?_
 refine fQ rfl ?_
 refine bG (k:=0) (k':=1) rfl rfl rfl (bT rfl rfl (run_move rfl rfl) ?_)
 refine bG (k:=1) (k':=2) rfl rfl rfl (bT rfl rfl (abo rfl rfl rfl JG) ?_)
 refine fq rfl ?_
 refine fy [(2,_),(0,_),(1,_),(7,_)] ⟨rfl,rfl,rfl,rfl,trivial⟩ ?_
 refine bK ?_
 refine DI Z3s rfl rfl rfl ?_
 refine uD rfl ?_
 refine fy [] trivial ?_
 exact hC _ ⟨rfl,rfl,rfl⟩
noncomputable def QS:=Tryz.f49.body.getD .skip
noncomputable def Z3u:=cR QS
noncomputable def Z3v:=cL Z3u
noncomputable def Z3w:=cR Z3u
noncomputable def QR:=cL Z3w
noncomputable def Z3y:=cL QR
noncomputable def QQ:=cR QR
noncomputable def QP:=cL QQ
noncomputable def Z41:=cR QQ
noncomputable def Z42:=cL QP
noncomputable def Z43:=cR QP
noncomputable def Z44:=cR Z43
set_option maxRecDepth 10000 in
theorem catchP{w:World}{M:Hp}{X:Fr}{Qv Qu:Nat}{va vb vc:Value}{err:Int}(S:SH w M X [Rs.box Qv 24 [va,vb],Rs.box Qu 26 [vc]]):CallsDIn Fence.wide 0 Tryz.prog 49 [.pointer (some ⟨Qv,0,none⟩),.pointer (some ⟨Qu,0,none⟩)].toArray (.panicking (Dh err)) w fun e u' w'=>e=.returned (.tuple #[])/\settle u'=.returning/\SH w' M X [Rs.box Qv 24 [.slice none 0 0,.int .i64 0],Rs.box Qu 26 [.int .i64 err]]:=by
 refine Ru (b:=QS) (c0:=cL QS) (m:=19) (u2:=.panicking [{v:=.iface 101 (.agg [Value.int .i64 err].toArray),recovered:=true}]) (.iface 101 (.agg [Value.int .i64 err].toArray)) Tryz.func49 rfl rfl Tryz.ntmps49 rfl rfl rfl rfl rfl rfl rfl rfl rfl rfl rfl rfl rfl (fun c₀ cs hu=>?_) (fun C Cl hC=>?_)
 ·exact .inl (by simp[recoverD,hu,Dh])
 refine fe Z3v Z3w rfl rfl rfl ?_
 refine fQ rfl ?_
 refine bG (k:=0) (k':=1) rfl rfl rfl (bT rfl rfl (run_move rfl rfl) ?_)
 refine bG (k:=1) (k':=2) rfl rfl rfl (bT rfl rfl (abn rfl rfl rfl JG) ?_)
 refine fq rfl ?_
 refine fy [(2,_),(0,_),(1,_),(7,_)] ⟨rfl,rfl,rfl,rfl,trivial⟩ ?_
 refine bK ?_
 refine K9 QR rfl rfl rfl ?_
 refine fe Z3y QQ rfl rfl rfl ?_
 refine fQ rfl ?_
 refine bG (k:=0) (k':=1) rfl rfl rfl (bT rfl rfl (run_move rfl rfl) ?_)
 refine bG (k:=1) (k':=2) rfl rfl rfl (bT rfl rfl (aar rfl rfl Jk) ?_)
 refine bG (k:=2) (k':=3) rfl rfl rfl (bT rfl rfl (run_move rfl rfl) ?_)
 refine bG (k:=3) (k':=4) rfl rfl rfl (bT rfl rfl (BG rfl rfl rfl) ?_)
 refine bG (k:=4) (k':=5) rfl rfl rfl (bT rfl rfl (BG rfl rfl rfl) ?_)
 refine bG (k:=5) (k':=6) rfl rfl rfl (bW (l:=[_]) rfl rfl rfl afY rfl S ?_)
 intro aP w1 S1;clear S
 refine bG (k:=6) (k':=7) rfl rfl rfl (gJ (i:=0) (us:=[_]) (l':=[_]) (H':=[_,_,_]) rfl rfl S1 rfl rfl rfl rfl agq rfl rfl rfl rfl ?_)
 intro w2 S2;clear S1
 refine bG (k:=7) (k':=8) rfl rfl rfl (bT rfl rfl (run_assign rfl rfl) ?_)
 refine fq rfl ?_
 refine fy [(2,_),(0,_),(1,_),(3,_),(4,_)] ⟨rfl,rfl,rfl,rfl,rfl,trivial⟩ ?_
 refine bK ?_
 refine fe QP Z41 rfl rfl rfl ?_
 refine fe Z42 Z43 rfl rfl rfl ?_
 refine fQ rfl ?_
 refine bG (k:=0) (k':=1) rfl rfl rfl (bT rfl rfl (run_move rfl rfl) ?_)
 refine bG (k:=1) (k':=2) rfl rfl rfl (bT rfl rfl (CG rfl rfl) ?_)
 refine fq rfl ?_
 refine fy [(2,_),(0,_),(1,_),(3,_),(14,_)] ⟨rfl,rfl,rfl,rfl,rfl,trivial⟩ ?_
 refine bK ?_
 refine DI Z44 rfl rfl rfl ?_
 refine uD rfl ?_
 refine fy [(0,_),(1,_),(3,_)] ⟨rfl,rfl,rfl,trivial⟩ ?_
 refine bK ?_
 have S3:=S2.pick [1,2,0] [_,_,_] (by decide) ⟨rfl,rfl,rfl,trivial⟩;clear S2
 refine zP [_,_] [_] rfl (by kernel_rfl) S3 5 rfl ?_
 clear S3
 change WA _ _ _ _ _ _ _ _ _ _ _ _ [_,_,_]
 refine Ev (i:=0) (d:=16) 4 rfl (by kernel_rfl) (by kernel_rfl) (by kernel_rfl) rfl rfl rfl (fun M1 N1 w3 bh S4=>.inl (run_build (l:=[_,_]) rfl rfl iC rfl rfl)) ?_
 refine Ej (i:=1) (d:=17) 3 rfl (by kernel_rfl) (by kernel_rfl) (by kernel_rfl) rfl rfl rfl (fun w4=>GF rfl rfl Jk rfl (ako) (aiq)) ?_
 refine Ev (i:=2) (d:=18) 2 rfl (by kernel_rfl) (by kernel_rfl) (by kernel_rfl) rfl rfl rfl (fun M3 N3 w5 bZ S6=>.inl (sV rfl rfl JF rfl (S6.suf.nJ (i:=0) rfl rfl))) ?_
 refine Ij (i:=3) 1 rfl (by kernel_rfl) rfl rfl (fun w7 S8=>?_)
 refine(gJ (i:=0) (us:=[_,_]) (l':=[_,_]) (H':=[_,_,_]) rfl rfl S8 rfl rfl rfl rfl aN rfl rfl rfl rfl ?_)
 intro w8 S9;clear S8
 refine lC.grow [_,_] (Hp.le_refl _) S9 ?_;clear S9
 change WA _ _ _ _ _ _ _ _ _ _ _ _ [_,_,_]
 refine Ij (i:=4) 0 rfl (by kernel_rfl) rfl rfl (fun ld cz=>?_)
 refine(gJ (i:=1) (us:=[_]) (l':=[_]) (H':=[_,_,_]) rfl rfl cz rfl rfl rfl rfl Om rfl rfl rfl rfl ?_)
 intro lI cO;clear cz
 refine lC.grow [_,_] (Hp.le_refl _) cO ?_;clear cO
 change WA _ _ _ _ _ _ _ _ _ _ _ _ [_,_,_]
 refine EE (by kernel_rfl) (fun nL cF=>?_)
 refine fy [] trivial ?_
 exact hC _ ⟨rfl,rfl,cF.pick [0,1] [_,_] (by decide) ⟨rfl,rfl,trivial⟩⟩
end InF
open InF (catchR catchP)
noncomputable def QO:=Tryz.f48.body.getD .skip
noncomputable def Z46:=cL QO
noncomputable def QN:=cR QO
noncomputable def Z48:=cL QN
noncomputable def Z49:=cR QN
set_option maxRecDepth 10000 in
theorem aep{w:World}{M:Hp}{X:Fr}(S:SH w M X []):Co Tryz.prog 48 [] w M X (fun v N=>∃gm,v=.map (some gm)/\N=[Rs.mp (Value.int .i64) xX gm MA]):=by
 unfold Co
 refine cw (b:=QO) Tryz.func48 rfl Tryz.ntmps48 rfl (fun C hC=>?_)
 refine yx [] trivial ?_
 refine fe Z46 QN rfl rfl rfl ?_
 refine fQ rfl ?_
 refine bG (k:=0) (k':=1) rfl rfl rfl (bT rfl rfl (run_assign rfl rfl) ?_)
 refine fq rfl ?_
 refine fy [] trivial ?_
 refine bK ?_
 refine fe Z48 Z49 rfl rfl rfl ?_
 refine fQ rfl ?_
 refine bG (k:=0) (k':=1) rfl rfl rfl (xJ Int (Option Nat) (Value.int .i64) xX rfl rfl rfl S ?_)
 intro iH w1 S1;clear S
 refine bG (k:=1) (k':=2) rfl rfl rfl (ou (kc:=Value.int .i64) (vc:=xX) (es:=([])) (k:=1) (e:=(some 75)) (i:=0) (H':=[_]) (.inr rfl) rfl S1 rfl rfl rfl rfl Db mr rfl ?_)
 intro w2 S2;clear S1
 refine bG (k:=2) (k':=3) rfl rfl rfl (ou (kc:=Value.int .i64) (vc:=xX) (es:=(mp 1 (some 75) ([]))) (k:=2) (e:=(some 76)) (i:=0) (H':=[_]) (.inr rfl) rfl S2 rfl rfl rfl rfl Db mr rfl ?_)
 intro w3 S3;clear S2
 refine bG (k:=3) (k':=4) rfl rfl rfl (ou (kc:=Value.int .i64) (vc:=xX) (es:=(mp 2 (some 76) (mp 1 (some 75) ([])))) (k:=3) (e:=(some 77)) (i:=0) (H':=[_]) (.inr rfl) rfl S3 rfl rfl rfl rfl Db mr rfl ?_)
 intro w4 S4;clear S3
 refine bG (k:=4) (k':=5) rfl rfl rfl (ou (kc:=Value.int .i64) (vc:=xX) (es:=(mp 3 (some 77) (mp 2 (some 76) (mp 1 (some 75) ([]))))) (k:=4) (e:=(some 78)) (i:=0) (H':=[_]) (.inr rfl) rfl S4 rfl rfl rfl rfl Db mr rfl ?_)
 intro w5 S5;clear S4
 refine bG (k:=5) (k':=6) rfl rfl rfl (ou (kc:=Value.int .i64) (vc:=xX) (es:=(mp 4 (some 78) (mp 3 (some 77) (mp 2 (some 76) (mp 1 (some 75) ([])))))) (k:=5) (e:=(some 79)) (i:=0) (H':=[_]) (.inr rfl) rfl S5 rfl rfl rfl rfl Db mr rfl ?_)
 intro w6 S6;clear S5
 refine bG (k:=6) (k':=7) rfl rfl rfl (bT rfl rfl (run_move rfl rfl) ?_)
 refine bG (k:=7) (k':=8) rfl rfl rfl (bT rfl rfl (run_assign rfl rfl) ?_)
 refine fq rfl ?_
 refine fy [(0,_)] ⟨rfl,trivial⟩ ?_
 refine bK ?_
 refine dI hC [_] rfl rfl ⟨rfl,trivial⟩ ?_
 exact⟨_,rfl,_,S6.pick [0] [_] (by decide) ⟨rfl,trivial⟩,⟨_,rfl,rfl⟩⟩
end Go.Proofs.YtcohmplpgcddiaaGreatDoor
