/- Part 11 of the proof of the law MovesTake: the walks through its functions and the plain laws that they need. -/
import Derived.Test.YthppkofceancjaaGreatMtZ10
set_option linter.unusedSimpArgs false
set_option linter.unusedVariables false
noncomputable section
namespace Go.Proofs.YthppkofceancjaaGreat
open Go.ChangeShapes Go.WideShapes Go.ChangeAt Go.RowKit
def kA(e:Int)(D:Dg):Dg×Int:=if e=0 then(D,0)else(⟨[],0⟩,e)
theorem fG{e c:Int}{D:Dg}(h:e=c)(hc:c≠0):kA e D=(⟨[],0⟩,c):=by unfold kA;rw[h,if_neg hc]
theorem ue{e:Int}{D E:Dg}(h:e=0)(hD:D=E):kA e D=(E,0):=by unfold kA;rw[if_pos h,hD]
theorem eT{N:Hp}(c:Int):rO (⟨[],0⟩,c) (.tuple [.agg [.slice none 0 0,.int .i64 0].toArray,.int .i64 c].toArray) N:=⟨none,0,rfl,aG.eX⟩
def gS(e n w s:Int)(ux uF standing:Bool):Cr:=
 if standing=true then(if uF=true then⟨e,n,w,s,ux⟩else⟨w,s,e,n,!ux⟩)else(if ux=true then⟨s,e,n,w,!uF⟩else⟨n,w,s,e,uF⟩)
theorem aiZ(m:Mv)(e n w s:Int):nG m (fun k=>ga ([e,n,w,s]:List Int) k) (fw m.ub 3 1)=gS e n w s (!m.ub) (!m.vb) m.ov:=by
 unfold nG gS fw
 cases m.ov<;>cases m.ub<;>cases m.vb<;>rfl
theorem aiY(m:Mv)(e n w s:Int):nG m (fun k=>ga ([e,n,w,s]:List Int) k) (fw m.ub 1 3)=gS e n w s m.ub (!m.vb) m.ov:=by
 unfold nG gS fw
 cases m.ov<;>cases m.ub<;>cases m.vb<;>rfl
noncomputable def Pk:=Tryz.f9.body.getD .skip
def auC:=cL Pk
def Pj:=cR Pk
def auB:=cL Pj
def Ph:=cR Pj
def auA:=cL Ph
def auz:=cR Ph
set_option maxRecDepth 10000 in
theorem CG{w:World}{M:Hp}{X:Fr}(d:Dg){aV:Option Addr}{aU:Nat}(az:aG aF (M.un X.h) aV aU d.ae)(S:SH w M X []):Co Tryz.prog 9 [.agg [.slice aV d.ae.length aU,.int .i64 d.loops].toArray] w M X (fun v N=>∃vr,v=.agg [vr,.int .i64 d.loops].toArray/\N=[Rs.row aF vr d.ae]):=by
 unfold Co
 have gV:d.ae.length*40<=140737488355328:=az.room
 refine Up (b:=Pk) Tryz.func9 rfl Tryz.ntmps9 rfl (fun C hC=>(bq [(0,_)] ⟨rfl,trivial⟩ (U2 auC Pj rfl rfl rfl (U0 rfl (ak 0 1 rfl rfl rfl (bE (l:=[_,_]) rfl rfl rfl rfl rfl S ?_))))))
 intro aI w1 S1;clear S
 refine ak 1 2 rfl rfl rfl (Uh (l:=[_,_]) rfl rfl rfl fR rfl S1 ?_)
 intro aQ w2 S2;clear S1
 refine U5 rfl (ah [1,2] rfl (U3 (U2 auB Ph rfl rfl rfl (U0 rfl (af 0 rfl (U1 rfl rfl ay rfl (bK) (bJ)) (af 1 rfl (U4 rfl rfl bt rfl (S2.ar (i:=1) rfl rfl)) ?_))))))
 have S3:=S2.nH aF;clear S2
 refine ak 2 3 rfl rfl rfl (aao (C:=aF) (i:=0) rfl rfl rfl rfl rfl rfl rfl rfl cD S3 rfl az S3.um (by have h:_*40<=_:=az.room;show(0+_)*40<=_;first|omega|(simp only[ls];omega)) ?_)
 intro Fe w3 S4;clear S3
 change SH _ _ _ [Rs.row aF Fe d.ae,_,_]at S4
 refine af 3 rfl (U1 rfl rfl ay rfl (bK) (bJ)) (ak 4 5 rfl rfl rfl (U6 (i:=2) (us:=[_]) (l':=[_,_]) (H':=[_,_,_]) rfl rfl S4 rfl rfl rfl (S4.ke (i:=0) rfl) mv rfl (dD (S4.one (i:=0) rfl) rfl) rfl rfl ?_))
 intro w4 S5;clear S4
 refine U5 rfl (ah [1,2] rfl (U3 (U2 auA auz rfl rfl rfl (U0 rfl (af 0 rfl (U8 (us:=[_,_]) rfl rfl ay rfl aA (S5.aw (i:=2) rfl ⟨rfl,rfl,trivial⟩)) (ak 1 2 rfl rfl rfl (U6 (i:=1) (us:=[_,_]) (l':=[_,_]) (H':=[_,_,_]) rfl rfl S5 rfl rfl rfl rfl aA rfl (dD (S5.one (i:=0) rfl) (dD rfl rfl)) rfl rfl ?_)))))))
 intro w5 S6;clear S5
 refine U5 rfl (ah [2] rfl (U3 (Uk hC [_] rfl rfl ⟨⟨_,rfl,Um (us:=[_,_]) ay rfl aA (S6.aw (i:=1) rfl ⟨rfl,rfl,trivial⟩)⟩,trivial⟩ ?_)))
 exact⟨_,rfl,_,S6.pick [0] [_] (by decide) ⟨rfl,trivial⟩,⟨_,rfl,rfl⟩⟩
noncomputable def Pg:=Tryz.f75.body.getD .skip
def auy:=cL Pg
def Pf:=cR Pg
def auw:=cL Pf
def Pc:=cR Pf
def Pb:=cL Pc
def auv:=cR Pc
def auu:=cL Pb
def af9:=cR Pb
def O9:=cL af9
def aut:=cL O9
def O8:=cR O9
def aus:=cL O8
def O7:=cR O8
def aur:=cL O7
def O6:=cR O7
def auq:=cL O6
def O5:=cR O6
def aup:=cL O5
def O4:=cR O5
def auo:=cL O4
def O3:=cR O4
def aun:=cL O3
def O2:=cR O3
def aum:=cL O2
def aul:=cR O2
set_option maxRecDepth 10000 in
theorem ui{w:World}{M:Hp}{X:Fr}{bD:Value}(xs:List Cr)(lo:Int)(c k:Nat)(a:Int)(hc:c<xs.length)(hk:k<4)(S:SH w M X [Rs.aX [Rs.row aF bD xs]]):C1 Tryz.prog 75 [.agg [bD,.int .i64 lo].toArray,.agg [.int .i64 (c:Int),.int .i64 (k:Int)].toArray,.int .i64 a] w M X (fun u M' r'=>u=.tuple [].toArray/\M'=M/\r'=Rs.aX [Rs.row aF bD (bk xs c k a)]):=by
 unfold C1
 replace S:=S.kM
 refine Up (b:=Pg) Tryz.func75 rfl Tryz.ntmps75 rfl (fun C hC=>(bq [(0,_),(1,_),(2,_)] ⟨rfl,rfl,rfl,trivial⟩ (U2 auy Pf rfl rfl rfl (U0 rfl (ak 0 1 rfl rfl rfl (bE (l:=[_,_]) rfl rfl rfl rfl rfl S ?_))))))
 intro aI w1 S1;clear S
 refine ak 1 2 rfl rfl rfl (bE (l:=[_,_]) rfl rfl rfl rfl rfl S1 ?_)
 intro aQ w2 S2;clear S1
 refine U5 rfl (ah [2,3,4] rfl (U3 (U2 auw Pc rfl rfl rfl (U0 rfl (af 0 rfl (U1 rfl rfl ay rfl (bK) (bJ)) (af 1 rfl (U4 rfl rfl bt rfl (S2.ar (i:=1) rfl rfl)) (af 2 rfl (U1 rfl rfl dH rfl (aC) (aB)) (af 3 rfl (U4 rfl rfl av rfl (S2.ar (i:=0) rfl rfl)) ?_))))))))
 refine af 4 rfl (Uj (C:=aF) (i:=2) c rfl rfl rfl cD S2 rfl (by first|rfl|omega) (by first|omega|(simp only[ls];omega))) ?_
 refine af 5 rfl (U8 (us:=[_,_,_,_,_]) rfl rfl aW rfl cg (S2.CZ (i:=2) (e:=c) (j:=0) rfl (by first|omega|(simp only[ls];omega)) ⟨rfl,rfl,rfl,rfl,rfl,trivial⟩)) ?_
 refine ak 6 7 rfl rfl rfl (Uh (l:=[_,_,_,_,_]) rfl rfl rfl lG rfl S2 ?_)
 intro bz w3 S3;clear S2
 refine ak 7 8 rfl rfl rfl (U6 (i:=0) (us:=[_,_,_,_,_]) (l':=[_,_,_,_,_]) (H':=[_,_,_,_]) rfl rfl S3 rfl rfl rfl rfl cg rfl rfl rfl rfl ?_)
 intro w4 S4;clear S3
 refine U5 rfl (ah [2,3,4,6] rfl (U3 (U2 Pb auv rfl rfl rfl (U2 auu af9 rfl rfl rfl (U0 rfl (af 0 rfl (U1 rfl rfl dH rfl (aC) (aB)) (af 1 rfl (U4 rfl rfl av rfl (S4.ar (i:=1) rfl rfl)) (U5 rfl ?_))))))))
 refine ah [2,3,4,6,14] rfl (U3 (Uc O9 0 rfl rfl rfl (U2 aut O8 rfl rfl rfl (U0 rfl (af 0 rfl (bR rfl rfl rfl) (ag 1 1 rfl rfl (U5 rfl (ah [2,3,4,6,14,15] rfl ?_))))))))
 refine U3 ?_
 refine Uf aus O7 rfl rfl rfl rfl (fun sS=>?_) (fun sS=>?_)
 ·refine U0 rfl (ag 0 1 rfl rfl (af 1 rfl (U1 rfl rfl aW rfl (aC) (aB)) (ak 2 3 rfl rfl rfl (U6 (i:=0) (us:=[_]) (l':=[_,_,_,_,_]) (H':=[_,_,_,_]) rfl rfl S4 rfl rfl rfl rfl bg rfl rfl rfl rfl ?_))))
  intro w5 S5;clear S4
  refine U5 rfl (bj (ah [3,4,6] rfl (U3 (U0 rfl (af 0 rfl (U1 rfl rfl ay rfl (bK) (bJ)) (af 1 rfl (U4 rfl rfl bt rfl (S5.ar (i:=2) rfl rfl)) (af 2 rfl (U1 rfl rfl dH rfl (aC) (aB)) (af 3 rfl (U4 rfl rfl av rfl (S5.ar (i:=1) rfl rfl)) ?_))))))))
  refine af 4 rfl (U8 (us:=[_,_,_,_,_]) rfl rfl aW rfl cg (S5.aw (i:=0) rfl ⟨rfl,rfl,rfl,rfl,rfl,trivial⟩)) (af 5 rfl (Uj (C:=aF) (i:=3) c rfl rfl rfl cD S5 rfl (by first|rfl|omega) (by first|omega|(simp only[ls];omega))) ?_)
  refine ak 6 7 rfl rfl rfl (ig (C:=aF) (i:=3) (e:=c) (j:=0) (us:=[_,_,_,_,_]) (H':=[_,_,_,_]) (⟨a,(ga xs c).b,(ga xs c).c,(ga xs c).d,(ga xs c).plus⟩:Cr) rfl rfl S5 rfl (by first|omega|(simp only[ls];omega)) rfl rfl rfl cg rfl rfl rfl rfl ?_)
  intro w6 S6;clear S5
  refine U5 rfl (iC hC [] rfl trivial ?_)
  refine⟨_,rfl,_,_,Hp.le_refl _,(S6.pick [3] [_] (by decide) ⟨rfl,trivial⟩).aX,?_⟩
  obtain rfl|rfl|rfl|rfl:k=0\/k=1\/k=2\/k=3:=by omega
  all_goals first|(exfalso;omega)|exact⟨rfl,rfl,rfl⟩
 ·refine U2 aur O6 rfl rfl rfl (U0 rfl (af 0 rfl (bR rfl rfl rfl) (ag 1 1 rfl rfl (U5 rfl (ah [2,3,4,6,14,19] rfl (U3 ?_))))))
  refine Uf auq O5 rfl rfl rfl rfl (fun qK=>?_) (fun qK=>?_)
  ·refine U0 rfl (ag 0 1 rfl rfl (af 1 rfl (U1 rfl rfl aW rfl (aC) (aB)) (ak 2 3 rfl rfl rfl (U6 (i:=0) (us:=[_]) (l':=[_,_,_,_,_]) (H':=[_,_,_,_]) rfl rfl S4 rfl rfl rfl rfl bg rfl rfl rfl rfl ?_))))
   intro w7 S7;clear S4
   refine U5 rfl (bj (ah [3,4,6] rfl (U3 (U0 rfl (af 0 rfl (U1 rfl rfl ay rfl (bK) (bJ)) (af 1 rfl (U4 rfl rfl bt rfl (S7.ar (i:=2) rfl rfl)) (af 2 rfl (U1 rfl rfl dH rfl (aC) (aB)) (af 3 rfl (U4 rfl rfl av rfl (S7.ar (i:=1) rfl rfl)) ?_))))))))
   refine af 4 rfl (U8 (us:=[_,_,_,_,_]) rfl rfl aW rfl cg (S7.aw (i:=0) rfl ⟨rfl,rfl,rfl,rfl,rfl,trivial⟩)) (af 5 rfl (Uj (C:=aF) (i:=3) c rfl rfl rfl cD S7 rfl (by first|rfl|omega) (by first|omega|(simp only[ls];omega))) ?_)
   refine ak 6 7 rfl rfl rfl (ig (C:=aF) (i:=3) (e:=c) (j:=0) (us:=[_,_,_,_,_]) (H':=[_,_,_,_]) (⟨(ga xs c).a,a,(ga xs c).c,(ga xs c).d,(ga xs c).plus⟩:Cr) rfl rfl S7 rfl (by first|omega|(simp only[ls];omega)) rfl rfl rfl cg rfl rfl rfl rfl ?_)
   intro w8 S8;clear S7
   refine U5 rfl (iC hC [] rfl trivial ?_)
   refine⟨_,rfl,_,_,Hp.le_refl _,(S8.pick [3] [_] (by decide) ⟨rfl,trivial⟩).aX,?_⟩
   obtain rfl|rfl|rfl|rfl:k=0\/k=1\/k=2\/k=3:=by omega
   all_goals first|(exfalso;omega)|exact⟨rfl,rfl,rfl⟩
  ·refine U2 aup O4 rfl rfl rfl (U0 rfl (af 0 rfl (bR rfl rfl rfl) (ag 1 1 rfl rfl (U5 rfl (ah [2,3,4,6,14,23] rfl (U3 ?_))))))
   refine Uf auo O3 rfl rfl rfl rfl (fun ao4=>?_) (fun ao4=>?_)
   ·refine U0 rfl (ag 0 1 rfl rfl (af 1 rfl (U1 rfl rfl aW rfl (aC) (aB)) (ak 2 3 rfl rfl rfl (U6 (i:=0) (us:=[_]) (l':=[_,_,_,_,_]) (H':=[_,_,_,_]) rfl rfl S4 rfl rfl rfl rfl bg rfl rfl rfl rfl ?_))))
    intro w9 S9;clear S4
    refine U5 rfl (bj (ah [3,4,6] rfl (U3 (U0 rfl (af 0 rfl (U1 rfl rfl ay rfl (bK) (bJ)) (af 1 rfl (U4 rfl rfl bt rfl (S9.ar (i:=2) rfl rfl)) (af 2 rfl (U1 rfl rfl dH rfl (aC) (aB)) (af 3 rfl (U4 rfl rfl av rfl (S9.ar (i:=1) rfl rfl)) ?_))))))))
    refine af 4 rfl (U8 (us:=[_,_,_,_,_]) rfl rfl aW rfl cg (S9.aw (i:=0) rfl ⟨rfl,rfl,rfl,rfl,rfl,trivial⟩)) (af 5 rfl (Uj (C:=aF) (i:=3) c rfl rfl rfl cD S9 rfl (by first|rfl|omega) (by first|omega|(simp only[ls];omega))) ?_)
    refine ak 6 7 rfl rfl rfl (ig (C:=aF) (i:=3) (e:=c) (j:=0) (us:=[_,_,_,_,_]) (H':=[_,_,_,_]) (⟨(ga xs c).a,(ga xs c).b,a,(ga xs c).d,(ga xs c).plus⟩:Cr) rfl rfl S9 rfl (by first|omega|(simp only[ls];omega)) rfl rfl rfl cg rfl rfl rfl rfl ?_)
    intro jT bw;clear S9
    refine U5 rfl (iC hC [] rfl trivial ?_)
    refine⟨_,rfl,_,_,Hp.le_refl _,(bw.pick [3] [_] (by decide) ⟨rfl,trivial⟩).aX,?_⟩
    obtain rfl|rfl|rfl|rfl:k=0\/k=1\/k=2\/k=3:=by omega
    all_goals first|(exfalso;omega)|exact⟨rfl,rfl,rfl⟩
   ·refine U2 aun O2 rfl rfl rfl (U0 rfl (af 0 rfl (bR rfl rfl rfl) (ag 1 1 rfl rfl (U5 rfl (ah [2,3,4,6,27] rfl (U3 ?_))))))
    refine Uf aum aul rfl rfl rfl rfl (fun zT=>?_) (fun zT=>?_)
    ·refine U0 rfl (ag 0 1 rfl rfl (af 1 rfl (U1 rfl rfl aW rfl (aC) (aB)) (ak 2 3 rfl rfl rfl (U6 (i:=0) (us:=[_]) (l':=[_,_,_,_,_]) (H':=[_,_,_,_]) rfl rfl S4 rfl rfl rfl rfl bg rfl rfl rfl rfl ?_))))
     intro kV bW;clear S4
     refine U5 rfl (bj (ah [3,4,6] rfl (U3 (U0 rfl (af 0 rfl (U1 rfl rfl ay rfl (bK) (bJ)) (af 1 rfl (U4 rfl rfl bt rfl (bW.ar (i:=2) rfl rfl)) (af 2 rfl (U1 rfl rfl dH rfl (aC) (aB)) (af 3 rfl (U4 rfl rfl av rfl (bW.ar (i:=1) rfl rfl)) ?_))))))))
     refine af 4 rfl (U8 (us:=[_,_,_,_,_]) rfl rfl aW rfl cg (bW.aw (i:=0) rfl ⟨rfl,rfl,rfl,rfl,rfl,trivial⟩)) (af 5 rfl (Uj (C:=aF) (i:=3) c rfl rfl rfl cD bW rfl (by first|rfl|omega) (by first|omega|(simp only[ls];omega))) ?_)
     refine ak 6 7 rfl rfl rfl (ig (C:=aF) (i:=3) (e:=c) (j:=0) (us:=[_,_,_,_,_]) (H':=[_,_,_,_]) (⟨(ga xs c).a,(ga xs c).b,(ga xs c).c,a,(ga xs c).plus⟩:Cr) rfl rfl bW rfl (by first|omega|(simp only[ls];omega)) rfl rfl rfl cg rfl rfl rfl rfl ?_)
     intro lU bV;clear bW
     refine U5 rfl (iC hC [] rfl trivial ?_)
     refine⟨_,rfl,_,_,Hp.le_refl _,(bV.pick [3] [_] (by decide) ⟨rfl,trivial⟩).aX,?_⟩
     obtain rfl|rfl|rfl|rfl:k=0\/k=1\/k=2\/k=3:=by omega
     all_goals first|(exfalso;omega)|exact⟨rfl,rfl,rfl⟩
    ·refine Ue rfl (bj (ah [3,4,6] rfl (U3 (U0 rfl (af 0 rfl (U1 rfl rfl ay rfl (bK) (bJ)) (af 1 rfl (U4 rfl rfl bt rfl (S4.ar (i:=2) rfl rfl)) (af 2 rfl (U1 rfl rfl dH rfl (aC) (aB)) (af 3 rfl (U4 rfl rfl av rfl (S4.ar (i:=1) rfl rfl)) ?_))))))))
     refine af 4 rfl (U8 (us:=[_,_,_,_,_]) rfl rfl aW rfl cg (S4.aw (i:=0) rfl ⟨rfl,rfl,rfl,rfl,rfl,trivial⟩)) (af 5 rfl (Uj (C:=aF) (i:=3) c rfl rfl rfl cD S4 rfl (by first|rfl|omega) (by first|omega|(simp only[ls];omega))) ?_)
     refine ak 6 7 rfl rfl rfl (ig (C:=aF) (i:=3) (e:=c) (j:=0) (us:=[_,_,_,_,_]) (H':=[_,_,_,_]) (⟨(ga xs c).a,(ga xs c).b,(ga xs c).c,(ga xs c).d,(ga xs c).plus⟩:Cr) rfl rfl S4 rfl (by first|omega|(simp only[ls];omega)) rfl rfl rfl cg rfl rfl rfl rfl ?_)
     intro kz bZ;clear S4
     refine U5 rfl (iC hC [] rfl trivial ?_)
     refine⟨_,rfl,_,_,Hp.le_refl _,(bZ.pick [3] [_] (by decide) ⟨rfl,trivial⟩).aX,?_⟩
     obtain rfl|rfl|rfl|rfl:k=0\/k=1\/k=2\/k=3:=by omega
     all_goals first|(exfalso;omega)|exact⟨rfl,rfl,rfl⟩
noncomputable def O1:=Tryz.f79.body.getD .skip
def auk:=cL O1
def O0:=cR O1
def auj:=cL O0
def OZ:=cR O0
def OY:=cL OZ
def OX:=cR OZ
def aui:=cL OY
def OW:=cR OY
def OV:=cL OW
def auh:=cR OW
def aug:=cL OV
def auf:=cR OV
def aue:=cL OX
def aud:=cR OX
set_option maxRecDepth 10000 in
theorem acm{w:World}{M:Hp}{X:Fr}(d:Dg){aV:Option Addr}{aU:Nat}{bD:Value}(xs:List Cr)(lo:Int)(x:Da)(n:Int)(az:aG aF (M.un X.h) aV aU d.ae)(hn:0<=n/\n<=1000)(hE:(Ud d x.a false).1<xs.length/\(Ud d x.a false).2<4)(S:SH w M X [Rs.aX [Rs.row aF bD xs]]):C1 Tryz.prog 79 [.agg [.slice aV d.ae.length aU,.int .i64 d.loops].toArray,.agg [bD,.int .i64 lo].toArray,.agg [.int .i64 x.a,.bool x.b].toArray,.int .i64 n] w M X (fun u M' r'=>u=.tuple [.int .i64 (aR x n 0),.int .i64 (aR x n 1),.int .i64 (aR x n 2)].toArray/\M'=M/\r'=Rs.aX [Rs.row aF bD (bk xs (Ud d x.a false).1 (Ud d x.a false).2 (n+1))]):=by
 unfold C1
 replace S:=S.kM
 have gV:d.ae.length*40<=140737488355328:=az.room
 refine Up (b:=O1) Tryz.func79 rfl Tryz.ntmps79 rfl (fun C hC=>(bq [(0,_),(1,_),(2,_),(3,_)] ⟨rfl,rfl,rfl,rfl,trivial⟩ (U2 auk O0 rfl rfl rfl (U0 rfl (ak 0 1 rfl rfl rfl (bE (l:=[_,_]) rfl rfl rfl rfl rfl S ?_))))))
 intro aI w1 S1;clear S
 refine ak 1 2 rfl rfl rfl (bE (l:=[_,_]) rfl rfl rfl rfl rfl S1 ?_)
 intro aQ w2 S2;clear S1
 refine ak 2 3 rfl rfl rfl (bE (l:=[_,_]) rfl rfl rfl rfl rfl S2 ?_)
 intro bz w3 S3;clear S2
 refine ag 3 3 rfl rfl (U5 rfl (ah [3,4,5,6] rfl (U3 (U2 auj OZ rfl rfl rfl (bM rfl (by kernel_rfl) S3 8 rfl ?_)))))
 clear S3
 refine aj 0 7 rfl (by kernel_rfl) (fun _ _ _ hz Sz=>.inl (U8 (us:=[_,_]) rfl rfl ay rfl aA (Sz.suf.aw (i:=1) rfl ⟨rfl,rfl,trivial⟩))) ?_
 refine aj 1 6 rfl (by kernel_rfl) (fun _ _ _ hz Sz=>.inl (U8 (us:=[_,_]) rfl rfl ay rfl aA (Sz.suf.aw (i:=2) rfl ⟨rfl,rfl,trivial⟩))) ?_
 refine ai 2 5 rfl (by kernel_rfl) (fun _=>U1 rfl rfl aZ rfl (aC) (aB)) ?_
 refine aj 3 4 rfl (by kernel_rfl) (fun _ _ _ hz Sz=>.inl (U4 rfl rfl av rfl (Sz.suf.ar (i:=0) rfl rfl))) ?_
 refine aj 4 3 rfl (by kernel_rfl) (fun _ _ _ hz Sz=>Ur rfl rfl rfl rfl rfl mE Sz (mP d x.a false ((az.mono (Hp.Ua hz Sz.mx)).mono Sz.Uy) Sz.aD)) ?_
 refine ai 5 2 rfl (by kernel_rfl) (fun _=>run_move rfl rfl) ?_
 refine ai 6 1 rfl (by kernel_rfl) (fun _=>Ug rfl rfl rfl (by first|omega|(simp only[ls];omega))) ?_
 refine Un (i:=7) 0 rfl (by kernel_rfl) rfl rfl (fun lU bV=>?_)
 have bZ:=bV.pick [3,0,1,2] [_,_,_,_] (by decide) ⟨rfl,rfl,rfl,rfl,trivial⟩;clear bV
 have bI:SH _ _ _ (Rs.aX [_]::[_,_,_]):=SH.jd (A:=[_]) (B:=[_,_,_]) bZ;clear bZ
 have bO:SH _ _ _ [_,_,_,_]:=bI.less (i:=0) rfl
 have iE:=ui xs lo ((Ud d x.a false).1) ((Ud d x.a false).2) (n+1) (by exact hE.1) (by exact hE.2) (bI.iG (i:=0) rfl);clear bO
 refine(jP (i:=0) rfl rfl rfl rfl rfl rfl rfl uZ bI rfl iE ?_)
 intro anZ kz M9 ayp ct cm jJ;clear bI
 obtain⟨lu,iK,l6⟩:=jJ
 rw[iK]at cm
 clear iK
 subst lu
 subst l6
 replace cm:SH _ _ _ (Rs.aX [_]::[_,_,_]):=cm
 have bF:SH _ _ _ [_,_,_,_]:=SH.jK (A:=[_]) (B:=[_,_,_]) cm;clear cm
 refine aP.turn (by kernel_rfl) bF ?_;clear bF
 change WA _ _ _ _ _ _ _ _ _ _ _ _ [_,_,_,_]
 refine Uu (by kernel_rfl) (fun jG bU=>?_)
 refine ah [3,6] rfl (U3 (U2 OY OX rfl rfl rfl (U2 aui OW rfl rfl rfl (U0 rfl (af 0 rfl (U1 rfl rfl aZ rfl (gI) (gH)) (af 1 rfl (U4 rfl rfl dL rfl (bU.ar (i:=1) rfl rfl)) (U5 rfl (ah [3,6,20] rfl ?_))))))))
 refine U3 ?_
 refine dN OV auh rfl rfl rfl rfl (fun qJ=>?_) (fun qJ=>?_)
 ·refine U2 aug auf rfl rfl rfl (bM rfl (by kernel_rfl) bU 8 rfl ?_)
  clear bU
  refine ai 0 7 rfl (by kernel_rfl) (fun _=>run_move rfl rfl) ?_
  refine ai 1 6 rfl (by kernel_rfl) (fun _=>Ug rfl rfl rfl (by first|omega|(simp only[ls];omega))) ?_
  refine ai 2 5 rfl (by kernel_rfl) (fun _=>run_move rfl rfl) ?_
  refine ai 3 4 rfl (by kernel_rfl) (fun _=>U1 rfl rfl aZ rfl (aC) (aB)) ?_
  refine aj 4 3 rfl (by kernel_rfl) (fun _ _ _ hz Sz=>.inl (U4 rfl rfl av rfl (Sz.suf.ar (i:=1) rfl rfl))) ?_
  refine ai 5 2 rfl (by kernel_rfl) (fun _=>run_assign rfl rfl) ?_
  refine ai 6 1 rfl (by kernel_rfl) (fun _=>run_assign rfl rfl) ?_
  refine ai 7 0 rfl (by kernel_rfl) (fun _=>run_assign rfl rfl) ?_
  refine Uu (by kernel_rfl) (fun q8 eG=>?_)
  refine ah [8,9,10] rfl (U3 (Uk hC [_,_,_] rfl rfl ⟨rfl,rfl,rfl,trivial⟩ ?_))
  refine⟨_,rfl,_,_,Hp.le_refl _,(eG.pick [0] [_] (by decide) ⟨rfl,trivial⟩).aX,?_⟩
  refine⟨?_,rfl,rfl⟩
  show Value.tuple [_,_,_].toArray=_
  unfold aR
  first|(rw[if_pos (by assumption)];rfl)|(rw[if_neg (by simp[*])];rfl)
 ·refine Ue rfl (ah [3,6] rfl (U3 (U2 aue aud rfl rfl rfl (U0 rfl (af 0 rfl (U1 rfl rfl aZ rfl (aC) (aB)) (af 1 rfl (U4 rfl rfl av rfl (bU.ar (i:=1) rfl rfl)) (ag 2 2 rfl rfl (af 4 rfl (Ug rfl rfl rfl (by first|omega|(simp only[ls];omega))) ?_))))))))
  refine ag 5 3 rfl rfl (U5 rfl (ah [8,9,10] rfl (U3 (Uk hC [_,_,_] rfl rfl ⟨rfl,rfl,rfl,trivial⟩ ?_))))
  refine⟨_,rfl,_,_,Hp.le_refl _,(bU.pick [0] [_] (by decide) ⟨rfl,trivial⟩).aX,?_⟩
  refine⟨?_,rfl,rfl⟩
  show Value.tuple [_,_,_].toArray=_
  unfold aR
  first|(rw[if_pos (by assumption)];rfl)|(rw[if_neg (by simp[*])];rfl)
noncomputable def OU:=Tryz.f80.body.getD .skip
def auc:=cL OU
def OT:=cR OU
def aub:=cL OT
def OS:=cR OT
def aua:=cL OS
def OQ:=cR OS
def OP:=cL OQ
def OO:=cR OQ
def at8:=cL OP
def OM:=cR OP
def OL:=cL OM
def OJ:=cR OM
def at7:=cL OL
def OI:=cR OL
def OH:=cL OI
def OG:=cR OI
def at6:=cL OH
def OE:=cR OH
def at5:=cL OE
def OD:=cR OE
def at4:=cL OD
def OC:=cR OD
def at3:=cL OC
def at2:=cR OC
def at1:=cL OG
def OB:=cR OG
def at0:=cL OB
def OA:=cR OB
def atZ:=cL OA
def Oz:=cR OA
def atY:=cL Oz
def atX:=cR Oz
def atW:=cL OJ
def Oy:=cR OJ
def Ox:=cL Oy
def Ov:=cR Oy
def atV:=cL Ox
def Ou:=cR Ox
def atU:=cL Ou
def Ot:=cR Ou
def atT:=cL Ot
def Oq:=cR Ot
def atS:=cL Oq
def atQ:=cR Oq
def atP:=cL Ov
def Oo:=cR Ov
def atO:=cL Oo
def Om:=cR Oo
def atN:=cL Om
def Ol:=cR Om
def atM:=cL Ol
def atL:=cR Ol
def atK:=cL OO
def atJ:=cR OO
set_option maxRecDepth 10000 in
theorem acQ{w:World}{M:Hp}{X:Fr}(e:Int)(n:Int)(w0:Int)(s0:Int)(ux:Bool)(uF:Bool)(standing:Bool)(S:SH w M X []):Cq Tryz.prog 80 [.int .i64 e,.int .i64 n,.int .i64 w0,.int .i64 s0,.bool ux,.bool uF,.bool standing] w M X (fun u=>u=.agg (mM (gS e n w0 s0 ux uF standing)).toArray):=by
 unfold Cq
 refine Up (b:=OU) Tryz.func80 rfl Tryz.ntmps80 rfl (fun C hC=>(bq [(0,_),(1,_),(2,_),(3,_),(4,_),(5,_),(6,_)] ⟨rfl,rfl,rfl,rfl,rfl,rfl,rfl,trivial⟩ (U2 auc OT rfl rfl rfl (U0 rfl (ak 0 1 rfl rfl rfl (Uh (l:=[_,_,_,_,_]) rfl rfl rfl lG rfl S ?_))))))
 intro aI w1 S1;clear S
 refine U5 rfl (U3 (U2 aub OS rfl rfl rfl (U0 rfl (ag 0 1 rfl rfl (U5 rfl (ah [0,1,2,3,4,5,6,14] rfl (U3 (U2 aua OQ rfl rfl rfl ?_))))))))
 refine U0 rfl (ag 0 1 rfl rfl (U5 rfl (ah [0,1,2,3,4,5,6,14] rfl (U3 (U2 OP OO rfl rfl rfl ?_)))))
 refine nE (fun au aM=>∃(l0:Int) (l1:Int) (l2:Int) (l3:Int) (co:Int) (RV:Nat),Env 63 [(14,.pointer (some ⟨aI,0,none⟩)),(15,.slice (some ⟨RV,0,none⟩) 4 4),(16,.int .i64 co)] au/\SH aM M X [Rs.box RV 3 [.int .i64 l0,.int .i64 l1,.int .i64 l2,.int .i64 l3],Rs.box aI 77 [.int .i64 0,.int .i64 0,.int .i64 0,.int .i64 0,.bool false]]/\gS e n w0 s0 ux uF standing=⟨l0,l1,l2,l3,decide (co=3)⟩) ?_ ?_
 ·refine U2 at8 OM rfl rfl rfl (U0 rfl (ag 0 1 rfl rfl (U5 rfl (ah [0,1,2,3,4,5,14,17] rfl (U3 ?_)))))
  refine dN OL OJ rfl rfl rfl rfl (fun lQ=>?_) (fun lQ=>?_)
  ·subst lQ
   refine U2 at7 OI rfl rfl rfl (U0 rfl (ag 0 1 rfl rfl (U5 rfl (ah [0,1,2,3,4,14,18] rfl (U3 ?_)))))
   refine dN OH OG rfl rfl rfl rfl (fun lN=>?_) (fun lN=>?_)
   ·subst lN
    refine U2 at6 OE rfl rfl rfl (U0 rfl (ag 0 4 rfl rfl (ak 4 5 rfl rfl rfl (wh (C:=Uv) (l:=[_,_,_,_]) (pl:=[(0,1),(1,1),(2,1),(3,1)]) rfl rfl rfl rfl bA rfl rfl rfl rfl rfl S1 ?_))))
    intro aQ w4 S4;clear S1
    refine ag 5 1 rfl rfl (U5 rfl (ah [4,14,15] rfl (U3 (U2 at5 OD rfl rfl rfl (U0 rfl (ag 0 1 rfl rfl (U5 rfl (U3 ?_))))))))
    refine U2 at4 OC rfl rfl rfl (U0 rfl (ag 0 1 rfl rfl (af 1 rfl (dS rfl rfl) (U5 rfl (ah [14,15,16,25] rfl (U3 ?_))))))
    refine dN at3 at2 rfl rfl rfl rfl (fun uX=>?_) (fun uX=>?_)
    ·simp only[Bool.and_eq_true,Bool.or_eq_true,Bool.and_eq_false_iff,Bool.or_eq_false_iff,decide_eq_true_eq,decide_eq_false_iff_not,Bool.not_eq_true',Bool.not_eq_false']at uX
     subst uX
     refine U0 rfl (ag 0 1 rfl rfl (U5 rfl (aO ?_)))
     intro au aq
     refine⟨e,n,w0,s0,1,_,aq.sub ⟨rfl,rfl,rfl,trivial⟩,S4.pick [0,1] [_,_] (by decide) ⟨rfl,rfl,trivial⟩,?cd⟩
     case cd=>rfl
    ·simp only[Bool.and_eq_true,Bool.or_eq_true,Bool.and_eq_false_iff,Bool.or_eq_false_iff,decide_eq_true_eq,decide_eq_false_iff_not,Bool.not_eq_true',Bool.not_eq_false']at uX
     subst uX
     refine Ue rfl (aO ?_)
     intro au aq
     refine⟨e,n,w0,s0,3,_,aq.sub ⟨rfl,rfl,rfl,trivial⟩,S4.pick [0,1] [_,_] (by decide) ⟨rfl,rfl,trivial⟩,?cx⟩
     case cx=>rfl
   ·subst lN
    refine U2 at1 OB rfl rfl rfl (U0 rfl (ag 0 4 rfl rfl (ak 4 5 rfl rfl rfl (wh (C:=Uv) (l:=[_,_,_,_]) (pl:=[(0,1),(1,1),(2,1),(3,1)]) rfl rfl rfl rfl bA rfl rfl rfl rfl rfl S1 ?_))))
    intro bz w6 S6;clear S1
    refine ag 5 1 rfl rfl (U5 rfl (ah [4,14,15] rfl (U3 (U2 at0 OA rfl rfl rfl (U0 rfl (ag 0 1 rfl rfl (U5 rfl (U3 ?_))))))))
    refine U2 atZ Oz rfl rfl rfl (U0 rfl (ag 0 1 rfl rfl (af 1 rfl (dS rfl rfl) (U5 rfl (ah [14,15,16,32] rfl (U3 ?_))))))
    refine dN atY atX rfl rfl rfl rfl (fun uW=>?_) (fun uW=>?_)
    ·simp only[Bool.and_eq_true,Bool.or_eq_true,Bool.and_eq_false_iff,Bool.or_eq_false_iff,decide_eq_true_eq,decide_eq_false_iff_not,Bool.not_eq_true',Bool.not_eq_false']at uW
     subst uW
     refine U0 rfl (ag 0 1 rfl rfl (U5 rfl (aO ?_)))
     intro au aq
     refine⟨w0,s0,e,n,3,_,aq.sub ⟨rfl,rfl,rfl,trivial⟩,S6.pick [0,1] [_,_] (by decide) ⟨rfl,rfl,trivial⟩,?eB⟩
     case eB=>rfl
    ·simp only[Bool.and_eq_true,Bool.or_eq_true,Bool.and_eq_false_iff,Bool.or_eq_false_iff,decide_eq_true_eq,decide_eq_false_iff_not,Bool.not_eq_true',Bool.not_eq_false']at uW
     subst uW
     refine Ue rfl (aO ?_)
     intro au aq
     refine⟨w0,s0,e,n,1,_,aq.sub ⟨rfl,rfl,rfl,trivial⟩,S6.pick [0,1] [_,_] (by decide) ⟨rfl,rfl,trivial⟩,?eW⟩
     case eW=>rfl
  ·subst lQ
   refine U2 atW Oy rfl rfl rfl (U0 rfl (ag 0 1 rfl rfl (U5 rfl (ah [0,1,2,3,5,14,33] rfl (U3 ?_)))))
   refine dN Ox Ov rfl rfl rfl rfl (fun Js=>?_) (fun Js=>?_)
   ·subst Js
    refine U2 atV Ou rfl rfl rfl (U0 rfl (ag 0 4 rfl rfl (ak 4 5 rfl rfl rfl (wh (C:=Uv) (l:=[_,_,_,_]) (pl:=[(0,1),(1,1),(2,1),(3,1)]) rfl rfl rfl rfl bA rfl rfl rfl rfl rfl S1 ?_))))
    intro gZ w8 S8;clear S1
    refine ag 5 1 rfl rfl (U5 rfl (ah [5,14,15] rfl (U3 (U2 atU Ot rfl rfl rfl (U0 rfl (ag 0 1 rfl rfl (U5 rfl (U3 ?_))))))))
    refine U2 atT Oq rfl rfl rfl (U0 rfl (ag 0 1 rfl rfl (af 1 rfl (dS rfl rfl) (U5 rfl (ah [14,15,16,40] rfl (U3 ?_))))))
    refine dN atS atQ rfl rfl rfl rfl (fun jF=>?_) (fun jF=>?_)
    ·simp only[Bool.and_eq_true,Bool.or_eq_true,Bool.and_eq_false_iff,Bool.or_eq_false_iff,decide_eq_true_eq,decide_eq_false_iff_not,Bool.not_eq_true',Bool.not_eq_false']at jF
     subst jF
     refine U0 rfl (ag 0 1 rfl rfl (U5 rfl (aO ?_)))
     intro au aq
     refine⟨s0,e,n,w0,3,_,aq.sub ⟨rfl,rfl,rfl,trivial⟩,S8.pick [0,1] [_,_] (by decide) ⟨rfl,rfl,trivial⟩,?fC⟩
     case fC=>rfl
    ·simp only[Bool.and_eq_true,Bool.or_eq_true,Bool.and_eq_false_iff,Bool.or_eq_false_iff,decide_eq_true_eq,decide_eq_false_iff_not,Bool.not_eq_true',Bool.not_eq_false']at jF
     subst jF
     refine Ue rfl (aO ?_)
     intro au aq
     refine⟨s0,e,n,w0,1,_,aq.sub ⟨rfl,rfl,rfl,trivial⟩,S8.pick [0,1] [_,_] (by decide) ⟨rfl,rfl,trivial⟩,?gW⟩
     case gW=>rfl
   ·subst Js
    refine U2 atP Oo rfl rfl rfl (U0 rfl (ag 0 4 rfl rfl (ak 4 5 rfl rfl rfl (wh (C:=Uv) (l:=[_,_,_,_]) (pl:=[(0,1),(1,1),(2,1),(3,1)]) rfl rfl rfl rfl bA rfl rfl rfl rfl rfl S1 ?_))))
    intro iy jT bw;clear S1
    refine ag 5 1 rfl rfl (U5 rfl (ah [5,14,15] rfl (U3 (U2 atO Om rfl rfl rfl (U0 rfl (ag 0 1 rfl rfl (U5 rfl (U3 ?_))))))))
    refine U2 atN Ol rfl rfl rfl (U0 rfl (ag 0 1 rfl rfl (af 1 rfl (dS rfl rfl) (U5 rfl (ah [14,15,16,47] rfl (U3 ?_))))))
    refine dN atM atL rfl rfl rfl rfl (fun zR=>?_) (fun zR=>?_)
    ·simp only[Bool.and_eq_true,Bool.or_eq_true,Bool.and_eq_false_iff,Bool.or_eq_false_iff,decide_eq_true_eq,decide_eq_false_iff_not,Bool.not_eq_true',Bool.not_eq_false']at zR
     subst zR
     refine U0 rfl (ag 0 1 rfl rfl (U5 rfl (aO ?_)))
     intro au aq
     refine⟨n,w0,s0,e,1,_,aq.sub ⟨rfl,rfl,rfl,trivial⟩,bw.pick [0,1] [_,_] (by decide) ⟨rfl,rfl,trivial⟩,?iX⟩
     case iX=>rfl
    ·simp only[Bool.and_eq_true,Bool.or_eq_true,Bool.and_eq_false_iff,Bool.or_eq_false_iff,decide_eq_true_eq,decide_eq_false_iff_not,Bool.not_eq_true',Bool.not_eq_false']at zR
     subst zR
     refine Ue rfl (aO ?_)
     intro au aq
     refine⟨n,w0,s0,e,3,_,aq.sub ⟨rfl,rfl,rfl,trivial⟩,bw.pick [0,1] [_,_] (by decide) ⟨rfl,rfl,trivial⟩,?jC⟩
     case jC=>rfl
 ·rintro a1 w2 ⟨l0,l1,l2,l3,co,RV,aY,S2,hlc⟩
  clear S1
  refine nM aY ?_
  clear aY a1
  refine U3 (U2 atK atJ rfl rfl rfl (bM rfl (by kernel_rfl) S2 16 rfl ?_))
  clear S2
  refine ai 0 15 rfl (by kernel_rfl) (fun _=>run_move rfl rfl) ?_
  refine aj 1 14 rfl (by kernel_rfl) (fun _ _ _ hz Sz=>.inl (oo (e:=0) (k:=1) rfl rfl rfl dY bg (by first|rfl|omega) (by decide) rfl)) ?_
  refine aj 2 13 rfl (by kernel_rfl) (fun _ _ _ hz Sz=>.inl (U4 rfl rfl av rfl (Sz.suf.ar (i:=0) rfl rfl))) ?_
  refine ai 3 12 rfl (by kernel_rfl) (fun _=>run_move rfl rfl) ?_
  refine aj 4 11 rfl (by kernel_rfl) (fun _ _ _ hz Sz=>.inl (oo (e:=1) (k:=1) rfl rfl rfl dY bg (by first|rfl|omega) (by decide) rfl)) ?_
  refine aj 5 10 rfl (by kernel_rfl) (fun _ _ _ hz Sz=>.inl (U4 rfl rfl av rfl (Sz.suf.ar (i:=0) rfl rfl))) ?_
  refine ai 6 9 rfl (by kernel_rfl) (fun _=>run_move rfl rfl) ?_
  refine aj 7 8 rfl (by kernel_rfl) (fun _ _ _ hz Sz=>.inl (oo (e:=2) (k:=1) rfl rfl rfl dY bg (by first|rfl|omega) (by decide) rfl)) ?_
  refine aj 8 7 rfl (by kernel_rfl) (fun _ _ _ hz Sz=>.inl (U4 rfl rfl av rfl (Sz.suf.ar (i:=0) rfl rfl))) ?_
  refine ai 9 6 rfl (by kernel_rfl) (fun _=>run_move rfl rfl) ?_
  refine aj 10 5 rfl (by kernel_rfl) (fun _ _ _ hz Sz=>.inl (oo (e:=3) (k:=1) rfl rfl rfl dY bg (by first|rfl|omega) (by decide) rfl)) ?_
  refine aj 11 4 rfl (by kernel_rfl) (fun _ _ _ hz Sz=>.inl (U4 rfl rfl av rfl (Sz.suf.ar (i:=0) rfl rfl))) ?_
  refine ai 12 3 rfl (by kernel_rfl) (fun _=>run_move rfl rfl) ?_
  refine ai 13 2 rfl (by kernel_rfl) (fun _=>bR rfl rfl rfl) ?_
  refine aj 14 1 rfl (by kernel_rfl) (fun _ _ _ hz Sz=>.inl (run_build (l:=[_,_,_,_,_]) rfl rfl mY rfl rfl)) ?_
  refine Un (i:=15) 0 rfl (by kernel_rfl) rfl rfl (fun AG eG=>?_)
  refine(U6 (i:=1) (us:=[_,_,_,_,_]) (l':=[_,_,_,_,_]) (H':=[_,_]) rfl rfl eG rfl rfl rfl rfl cg rfl rfl rfl rfl ?_)
  intro ng dB;clear eG
  refine aP.turn (by kernel_rfl) dB ?_;clear dB
  change WA _ _ _ _ _ _ _ _ _ _ _ _ [_,_]
  refine Uu (by kernel_rfl) (fun q7 eV=>?_)
  refine ah [14] rfl (U3 (Uk hC [_] rfl rfl ⟨⟨_,rfl,Um (us:=[_,_,_,_,_]) aW rfl cg (eV.aw (i:=1) rfl ⟨rfl,rfl,rfl,rfl,rfl,trivial⟩)⟩,trivial⟩ ?_))
  exact⟨_,rfl,(eV.pick [] [] (by decide) trivial),(by rw[hlc];rfl)⟩
noncomputable def Oj:=Tryz.f81.body.getD .skip
def atI:=cL Oj
def Oi:=cR Oj
def atH:=cL Oi
def atG:=cR Oi
set_option maxRecDepth 10000 in
theorem F5{w:World}{M:Hp}{X:Fr}(d:Dg){aV:Option Addr}{aU:Nat}(a:Int)(az:aG aF (M.un X.h) aV aU d.ae)(hab:aN d=true)(ha:1<=a/\a<=2*(d.ae.length:Int))(S:SH w M X []):Cq Tryz.prog 81 [.agg [.slice aV d.ae.length aU,.int .i64 d.loops].toArray,.int .i64 a] w M X (fun u=>u=.int .i64 (hgt d a:Int)):=by
 unfold Cq
 have gV:d.ae.length*40<=140737488355328:=az.room
 obtain⟨_,hx1,_⟩:=eF hab ha false
 obtain⟨_,hx2,_⟩:=eF hab ha true
 refine Up (b:=Oj) Tryz.func81 rfl Tryz.ntmps81 rfl (fun C hC=>(bq [(0,_),(1,_)] ⟨rfl,rfl,trivial⟩ (U2 atI Oi rfl rfl rfl (U0 rfl (ak 0 1 rfl rfl rfl (bE (l:=[_,_]) rfl rfl rfl rfl rfl S ?_))))))
 intro aI w1 S1;clear S
 refine ag 1 1 rfl rfl (U5 rfl (ah [1,2] rfl (U3 (U2 atH atG rfl rfl rfl (bM rfl (by kernel_rfl) S1 12 rfl ?_)))))
 clear S1
 refine aj 0 11 rfl (by kernel_rfl) (fun _ _ _ hz Sz=>.inl (U8 (us:=[_,_]) rfl rfl ay rfl aA (Sz.suf.aw (i:=0) rfl ⟨rfl,rfl,trivial⟩))) ?_
 refine ai 1 10 rfl (by kernel_rfl) (fun _=>run_move rfl rfl) ?_
 refine aj 2 9 rfl (by kernel_rfl) (fun _ _ _ hz Sz=>Ur rfl rfl rfl rfl rfl mE Sz (mP d a false ((az.mono (Hp.Ua hz Sz.mx)).mono Sz.Uy) Sz.aD)) ?_
 refine ai 3 8 rfl (by kernel_rfl) (fun _=>ma rfl rfl dH rfl av rfl rfl) ?_
 refine ai 4 7 rfl (by kernel_rfl) (fun _=>jY rfl rfl rfl (by first|omega|(simp only[ls];omega))) ?_
 refine aj 5 6 rfl (by kernel_rfl) (fun _ _ _ hz Sz=>.inl (U8 (us:=[_,_]) rfl rfl ay rfl aA (Sz.suf.aw (i:=0) rfl ⟨rfl,rfl,trivial⟩))) ?_
 refine ai 6 5 rfl (by kernel_rfl) (fun _=>run_move rfl rfl) ?_
 refine aj 7 4 rfl (by kernel_rfl) (fun _ _ _ hz Sz=>Ur rfl rfl rfl rfl rfl mE Sz (mP d a true ((az.mono (Hp.Ua hz Sz.mx)).mono Sz.Uy) Sz.aD)) ?_
 refine ai 8 3 rfl (by kernel_rfl) (fun _=>ma rfl rfl dH rfl av rfl rfl) ?_
 refine ai 9 2 rfl (by kernel_rfl) (fun _=>jY rfl rfl rfl (by first|omega|(simp only[ls];omega))) ?_
 refine ai 10 1 rfl (by kernel_rfl) (fun _=>Ug rfl rfl rfl (by first|omega|(simp only[ls];omega))) ?_
 refine ai 11 0 rfl (by kernel_rfl) (fun _=>run_assign rfl rfl) ?_
 refine Uu (by kernel_rfl) (fun jG bI=>?_)
 refine ah [4] rfl (U3 (Uk hC [_] rfl rfl ⟨rfl,trivial⟩ ?_))
 exact⟨_,rfl,(bI.pick [] [] (by decide) trivial),(by show Value.int _ _=_;unfold hgt;rfl)⟩
theorem aji{x:Cr}{k:Nat}(hk:k<4)(h:decide (cK x k=cK x ((k+1)%4))=true):jx x 4=true:=by
 obtain rfl|rfl|rfl|rfl:k=0\/k=1\/k=2\/k=3:=by omega
 all_goals simp only[jx,h,Bool.or_true,Bool.true_or]
noncomputable def Oh:=Tryz.f34.body.getD .skip
def atF:=cL Oh
def Og:=cR Oh
def Oe:=cL Og
def Od:=cR Og
def atE:=cL Oe
def af8:=cR Oe
def af7:=cL af8
def Oc:=cL af7
def Ob:=cL Oc
def Oa:=cR Oc
def atD:=cL Ob
def N9:=cR Ob
def atC:=cL N9
def atB:=cR N9
def af6:=cL Oa
def atA:=cR Oa
def N8:=cL af6
def atz:=cL N8
def N7:=cR N8
def N5:=cL N7
def aty:=cR N7
def atx:=cL N5
def atw:=cR N5
def atv:=cL Od
def atu:=cR Od
set_option maxRecDepth 10000 in
theorem abz{w:World}{M:Hp}{X:Fr}(d:Dg){aV:Option Addr}{aU:Nat}(i:Nat)(az:aG aF (M.un X.h) aV aU d.ae)(hi:i<d.ae.length)(S:SH w M X []):Cq Tryz.prog 34 [.agg [.slice aV d.ae.length aU,.int .i64 d.loops].toArray,.int .i64 (i:Int)] w M X (fun u=>u=.bool (jx (ga d.ae i) 4)):=by
 unfold Cq
 have gV:d.ae.length*40<=140737488355328:=az.room
 refine Up (b:=Oh) Tryz.func34 rfl Tryz.ntmps34 rfl (fun C hC=>(bq [(0,_),(1,_)] ⟨rfl,rfl,trivial⟩ (U2 atF Og rfl rfl rfl (U0 rfl (ak 0 1 rfl rfl rfl (bE (l:=[_,_]) rfl rfl rfl rfl rfl S ?_))))))
 intro aI w1 S1;clear S
 refine ag 1 1 rfl rfl (U5 rfl (ah [1,2] rfl (U3 (U2 Oe Od rfl rfl rfl (U2 atE af8 rfl rfl rfl (U0 rfl (ag 0 1 rfl rfl (U5 rfl ?_))))))))
 refine U3 (Uc af7 0 rfl rfl rfl ?_)
 refine Ux (fun aS au aM=>∃(k:Nat),aS=4-k/\Env 23 [(1,.int .i64 (i:Int)),(2,.pointer (some ⟨aI,0,none⟩)),(5,.int .i64 (k:Int))] au/\SH aM M X [Rs.box aI 24 [.slice aV d.ae.length aU,.int .i64 d.loops]]/\k<=4/\jx (ga d.ae i) k=false) rfl ?_ ?_
 ·intro au aq
  refine⟨_,⟨0,rfl,aq.sub ⟨rfl,rfl,rfl,trivial⟩,S1.pick [0] [_] (by decide) ⟨rfl,trivial⟩,?cd,?dm⟩⟩
  case cd=>omega
  case dm=>rfl
 ·rintro m1 a1 w2 ⟨k,rfl,aY,S2,hk,hno⟩
  clear S1
  refine bX aY (c:=Oc) rfl ?_
  clear aY a1
  refine U2 Ob Oa rfl rfl rfl (U2 atD N9 rfl rfl rfl (U0 rfl (ag 0 1 rfl rfl (af 1 rfl (bS rfl rfl rfl) (U5 rfl (ah [1,2,5,7] rfl (U3 ?_)))))))
  refine Uf atC atB rfl rfl rfl rfl (fun RN=>?_) (fun RN=>?_)
  ·refine Ue rfl (ah [1,2,5] rfl (U3 (U2 af6 atA rfl rfl rfl (Uc N8 1 rfl rfl rfl (U2 atz N7 rfl rfl rfl (bM rfl (by kernel_rfl) S2 13 rfl ?_))))))
   clear S2
   refine aj 0 12 rfl (by kernel_rfl) (fun _ _ _ hz Sz=>.inl (U8 (us:=[_,_]) rfl rfl ay rfl aA (Sz.suf.aw (i:=0) rfl ⟨rfl,rfl,trivial⟩))) ?_
   refine ai 1 11 rfl (by kernel_rfl) (fun _=>run_move rfl rfl) ?_
   refine ai 2 10 rfl (by kernel_rfl) (fun _=>run_move rfl rfl) ?_
   refine aj 3 9 rfl (by kernel_rfl) (fun _ _ _ hz Sz=>.inl (run_build (l:=[_,_]) rfl rfl pN rfl rfl)) ?_
   refine aj 4 8 rfl (by kernel_rfl) (fun _ _ _ hz Sz=>Ur rfl rfl rfl rfl rfl qO Sz (qm d i k ((az.mono (Hp.Ua hz Sz.mx)).mono Sz.Uy) (by omega) (by omega) Sz.aD)) ?_
   refine aj 5 7 rfl (by kernel_rfl) (fun _ _ _ hz Sz=>.inl (U8 (us:=[_,_]) rfl rfl ay rfl aA (Sz.suf.aw (i:=0) rfl ⟨rfl,rfl,trivial⟩))) ?_
   refine ai 6 6 rfl (by kernel_rfl) (fun _=>run_move rfl rfl) ?_
   refine ai 7 5 rfl (by kernel_rfl) (fun _=>run_move rfl rfl) ?_
   refine ai 8 4 rfl (by kernel_rfl) (fun _=>Ug rfl rfl rfl (by first|omega|(simp only[ls];omega))) ?_
   refine ai 9 3 rfl (by kernel_rfl) (fun _=>jY rfl rfl rfl (by first|omega|(simp only[ls];omega))) ?_
   refine kg 19 (.int .i64 (((k+1)%4:Nat):Int)) rfl (int_eq (by omega)) ?_
   refine aj 10 2 rfl (by kernel_rfl) (fun _ _ _ hz Sz=>.inl (run_build (l:=[_,_]) rfl rfl pN rfl rfl)) ?_
   refine aj 11 1 rfl (by kernel_rfl) (fun _ _ _ hz Sz=>Ur rfl rfl rfl rfl rfl qO Sz (qm d i ((k+1)%4) ((az.mono (Hp.Ua hz Sz.mx)).mono Sz.Uy) (by omega) (by omega) Sz.aD)) ?_
   refine ai 12 0 rfl (by kernel_rfl) (fun _=>bR rfl rfl rfl) ?_
   refine Uu (by kernel_rfl) (fun ni cm=>?_)
   refine ah [1,2,5,22] rfl (U3 ?_)
   refine Uf N5 aty rfl rfl rfl rfl (fun zU=>?_) (fun zU=>?_)
   ·refine U2 atx atw rfl rfl rfl (U0 rfl (ag 0 1 rfl rfl (U5 rfl (ah [4] rfl (U3 (Uk hC [_] rfl rfl ⟨rfl,trivial⟩ ?_))))))
    exact⟨_,rfl,(cm.pick [] [] (by decide) trivial),(by show Value.bool _=Value.bool _;rw[aji (k:=k) (by omega) (decide_eq_true zU)])⟩
   ·refine Ue rfl (bj (ah [1,2,5] rfl (U3 (U0 rfl (ag 0 1 rfl rfl (af 1 rfl (Ug rfl rfl rfl (by first|omega|(simp only[ls];omega))) ?_))))))
    refine ag 2 1 rfl rfl (U5 rfl (aO ?_))
    intro au aq
    refine⟨_,?dQ,⟨k+1,rfl,aq.sub ⟨rfl,rfl,rfl,trivial⟩,cm.pick [0] [_] (by decide) ⟨rfl,trivial⟩,?cx,?dC⟩⟩
    case cx=>omega
    case dC=>(rw[jx,hno];exact decide_eq_false zU)
    case dQ=>omega
  ·refine bP rfl rfl (bN [] trivial (U3 (U2 atv atu rfl rfl rfl (U0 rfl (ag 0 1 rfl rfl (U5 rfl (U3 (Uk hC [_] rfl rfl ⟨rfl,trivial⟩ ?_))))))))
   exact⟨_,rfl,(S2.pick [] [] (by decide) trivial),(by obtain rfl:k=4:=(by omega);show Value.bool _=Value.bool _;rw[hno])⟩
noncomputable def N2:=Tryz.f35.body.getD .skip
def att:=cL N2
def NZ:=cR N2
def NY:=cL NZ
def NW:=cR NZ
def atr:=cL NY
def NV:=cR NY
def NU:=cL NV
def atq:=cR NV
def atp:=cL NU
def ato:=cR NU
def atn:=cL NW
def atm:=cR NW
set_option maxRecDepth 10000 in
theorem aax{w:World}{M:Hp}{X:Fr}(d:Dg){aV:Option Addr}{aU:Nat}(az:aG aF M aV aU d.ae)(S:SH w M X []):Ct Tryz.prog 35 [.agg [.slice aV d.ae.length aU,.int .i64 d.loops].toArray] w M X (rO (kA (if d.loops<=16 then 0 else 2) d)):=by
 unfold Ct
 have gV:d.ae.length*40<=140737488355328:=az.room
 refine Up (b:=N2) Tryz.func35 rfl Tryz.ntmps35 rfl (fun C hC=>(bq [(0,_)] ⟨rfl,trivial⟩ (U2 att NZ rfl rfl rfl (U0 rfl (ak 0 1 rfl rfl rfl (bE (l:=[_,_]) rfl rfl rfl rfl rfl S ?_))))))
 intro aI w1 S1;clear S
 refine ak 1 2 rfl rfl rfl (Uh (l:=[_,_]) rfl rfl rfl fR rfl S1 ?_)
 intro aQ w2 S2;clear S1
 refine ag 2 1 rfl rfl (U5 rfl (ah [1,2] rfl (U3 (U2 NY NW rfl rfl rfl (U2 atr NV rfl rfl rfl (U0 rfl (af 0 rfl (U1 rfl rfl ay rfl (aC) (aB)) (af 1 rfl (U4 rfl rfl av rfl (S2.ar (i:=1) rfl rfl)) ?_))))))))
 refine af 2 rfl (tV rfl rfl rfl) (U5 rfl (ah [1,2,6] rfl (U3 ?_)))
 refine Uf NU atq rfl rfl rfl rfl (fun vM=>?_) (fun vM=>?_)
 ·refine U2 atp ato rfl rfl rfl (U0 rfl (af 0 rfl (run_build (l:=[_,_]) rfl rfl dI rfl rfl) (ak 1 2 rfl rfl rfl (U6 (i:=0) (us:=[_,_]) (l':=[_,_]) (H':=[_,_]) rfl rfl S2 rfl rfl rfl rfl aA rfl rfl rfl rfl ?_))))
  intro w3 S3;clear S2
  refine ag 2 1 rfl rfl (U5 rfl (ah [2,3] rfl (U3 (Uk hC [_,_] rfl rfl ⟨⟨_,rfl,Um (us:=[_,_]) ay rfl aA (S3.aw (i:=0) rfl ⟨rfl,rfl,trivial⟩)⟩,rfl,trivial⟩ ?_))))
  refine⟨_,rfl,_,Hp.le_refl _,(S3.pick [] [] (by decide) trivial),?_⟩
  rw[fG (c:=2) (by rw[if_neg (by omega)]) (by decide)]
  exact eT 2
 ·refine Ue rfl (ah [1,2] rfl (U3 (U2 atn atm rfl rfl rfl (U0 rfl (af 0 rfl (U8 (us:=[_,_]) rfl rfl ay rfl aA (S2.aw (i:=1) rfl ⟨rfl,rfl,trivial⟩)) (ak 1 2 rfl rfl rfl (U6 (i:=0) (us:=[_,_]) (l':=[_,_]) (H':=[_,_]) rfl rfl S2 rfl rfl rfl rfl aA rfl rfl rfl rfl ?_)))))))
  intro w4 S4;clear S2
  refine ag 2 1 rfl rfl (U5 rfl (ah [2,3] rfl (U3 (Uk hC [_,_] rfl rfl ⟨⟨_,rfl,Um (us:=[_,_]) ay rfl aA (S4.aw (i:=0) rfl ⟨rfl,rfl,trivial⟩)⟩,rfl,trivial⟩ ?_))))
  refine⟨_,rfl,_,Hp.le_refl _,(S4.pick [] [] (by decide) trivial),?_⟩
  rw[ue (E:=d) (by rw[if_pos (by omega)]) rfl]
  exact⟨_,_,rfl,az⟩
theorem tI(x y:Da):decide (y.a=x.a/\y.b=x.b)=pn x y:=by
 unfold pn
 refine decide_eq_decide.2 ⟨fun h=>⟨h.1.symm,h.2.symm⟩,fun h=>⟨h.1.symm,h.2.symm⟩⟩
theorem tH{α:Type}[Inhabited α](p:α->Bool)(xs:List α){i:Nat}(hi:i<xs.length):(xs.take (i+1)).any p=((xs.take i).any p||p (ga xs i)):=by
 rw[Cu xs i hi,List.any_append]
 simp
noncomputable def NT:=Tryz.f78.body.getD .skip
def atl:=cL NT
def NS:=cR NT
def atk:=cL NS
def NR:=cR NS
def NQ:=cL NR
def NP:=cR NR
def atj:=cL NQ
def af5:=cR NQ
def af4:=cL af5
def NN:=cL af4
def NL:=cL NN
def NK:=cR NN
def ati:=cL NL
def NJ:=cR NL
def ath:=cL NJ
def atg:=cR NJ
def af3:=cL NK
def atf:=cR NK
def NI:=cL af3
def ate:=cL NI
def NH:=cR NI
def NG:=cL NH
def NF:=cR NH
def atd:=cL NG
def af2:=cR NG
def af1:=cL af2
def ND:=cL af1
def NC:=cL ND
def NB:=cR ND
def atc:=cL NC
def NA:=cR NC
def atb:=cL NA
def ata:=cR NA
def af0:=cL NB
def as9:=cR NB
def Nz:=cL af0
def as8:=cL Nz
def as7:=cR Nz
def as6:=cL NF
def Ny:=cR NF
def Nx:=cL Ny
def afZ:=cR Ny
def as5:=cL Nx
def as4:=cR Nx
def as3:=cL NP
def as2:=cR NP
set_option maxRecDepth 10000 in
theorem aho{w:World}{M:Hp}{X:Fr}(d:Dg){aV:Option Addr}{aU:Nat}(u:Da)(v:Da)(az:aG aF (M.un X.h) aV aU d.ae)(hn:d.ae.length<=16)(hab:aN d=true)(S:SH w M X []):Ct Tryz.prog 78 [.agg [.slice aV d.ae.length aU,.int .i64 d.loops].toArray,.agg [.int .i64 u.a,.bool u.b].toArray,.agg [.int .i64 v.a,.bool v.b].toArray] w M X (fun x _=>x=.bool ((U7 d).any (np u v))):=by
 unfold Ct
 have gV:d.ae.length*40<=140737488355328:=az.room
 refine Up (b:=NT) Tryz.func78 rfl Tryz.ntmps78 rfl (fun C hC=>(bq [(0,_),(1,_),(2,_)] ⟨rfl,rfl,rfl,trivial⟩ (U2 atl NS rfl rfl rfl (U0 rfl (ak 0 1 rfl rfl rfl (bE (l:=[_,_]) rfl rfl rfl rfl rfl S ?_))))))
 intro aI w1 S1;clear S
 refine ak 1 2 rfl rfl rfl (bE (l:=[_,_]) rfl rfl rfl rfl rfl S1 ?_)
 intro aQ w2 S2;clear S1
 refine ak 2 3 rfl rfl rfl (bE (l:=[_,_]) rfl rfl rfl rfl rfl S2 ?_)
 intro bz w3 S3;clear S2
 refine ag 3 1 rfl rfl (U5 rfl (ah [3,4,5] rfl (U3 (U2 atk NR rfl rfl rfl (U0 rfl (af 0 rfl (U8 (us:=[_,_]) rfl rfl ay rfl aA (S3.aw (i:=2) rfl ⟨rfl,rfl,trivial⟩)) (ak 1 2 rfl rfl rfl (eZ rfl rfl rfl rfl rfl rfl rfl DM S3 (BU d (az.mono S3.Uy) (hn) (hab) S3.aD) ?_))))))))
 intro vw4 w4 M1 aL S4 Jx;clear S3
 replace az:=az.mono (Hp.Ua aL S4.mx)
 obtain⟨A1,c1,vs1,rfl,hr1,hd1⟩:=Jx
 have adu:=hd1.1
 refine ag 2 1 rfl rfl (U5 rfl (ah [4,5,7] rfl (U3 (U2 NQ NP rfl rfl rfl (U2 atj af5 rfl rfl rfl (U0 rfl (ag 0 1 rfl rfl (U5 rfl ?_))))))))
 refine U3 (Uc af4 0 rfl rfl rfl ?_)
 refine Ux (fun aS au aM=>∃(i:Nat),aS=(U7 d).length-i/\Env 57 [(4,.pointer (some ⟨aQ,0,none⟩)),(5,.pointer (some ⟨bz,0,none⟩)),(7,.slice A1 vs1.length c1),(8,.int .i64 (i:Int))] au/\SH aM M1 X [Rs.box bz 26 [.int .i64 v.a,.bool v.b],Rs.box aQ 26 [.int .i64 u.a,.bool u.b]]/\i<=(U7 d).length/\(∀j,j<i->np u v (ga (U7 d) j)=false)) rfl ?_ ?_
 ·intro au aq
  refine⟨_,⟨0,rfl,aq.sub ⟨rfl,rfl,rfl,rfl,trivial⟩,S4.pick [0,1] [_,_] (by decide) ⟨rfl,rfl,trivial⟩,?cd,?dm⟩⟩
  case cd=>omega
  case dm=>(intro j hj;omega)
 ·rintro m1 a1 w5 ⟨i,rfl,aY,S5,hi,hno⟩
  clear S4
  refine bX aY (c:=NN) rfl ?_
  clear aY a1
  have aon:=BG d
  refine U2 NL NK rfl rfl rfl (U2 ati NJ rfl rfl rfl (U0 rfl (ag 0 2 rfl rfl (af 2 rfl (cU rfl rfl rfl rfl rfl rfl mr) (af 3 rfl (bS rfl rfl rfl) (U5 rfl (ah [4,5,7,8,17] rfl (U3 ?_))))))))
  refine Uf ath atg rfl rfl rfl rfl (fun lQ=>?_) (fun lQ=>?_)
  ·refine Ue rfl (ah [4,5,7,8] rfl (U3 (U2 af3 atf rfl rfl rfl (Uc NI 1 rfl rfl rfl (U2 ate NH rfl rfl rfl (U0 rfl (ag 0 2 rfl rfl (U5 rfl ?_))))))))
   refine U3 (U2 NG NF rfl rfl rfl (U2 atd af2 rfl rfl rfl (U0 rfl (ag 0 1 rfl rfl (U5 rfl (U3 (Uc af1 2 rfl rfl rfl ?_)))))))
   refine Ux (fun aS au aM=>∃(k:Nat) (a:Bool) (b:Bool),aS=(ga (U7 d) i).length-k/\Env 57 [(4,.pointer (some ⟨aQ,0,none⟩)),(5,.pointer (some ⟨bz,0,none⟩)),(7,.slice A1 vs1.length c1),(8,.int .i64 (i:Int)),(9,.bool a),(10,.bool b),(11,.int .i64 (k:Int))] au/\SH aM M1 X [Rs.box bz 26 [.int .i64 v.a,.bool v.b],Rs.box aQ 26 [.int .i64 u.a,.bool u.b]]/\k<=(ga (U7 d) i).length/\a=((ga (U7 d) i).take k).any (pn u)/\b=((ga (U7 d) i).take k).any (pn v)) rfl ?_ ?_
   ·intro au aq
    refine⟨_,⟨0,false,false,rfl,aq.sub ⟨rfl,rfl,rfl,rfl,rfl,rfl,rfl,trivial⟩,S5.pick [0,1] [_,_] (by decide) ⟨rfl,rfl,trivial⟩,?cx,?dC,?lC⟩⟩
    case cx=>omega
    case dC=>rfl
    case lC=>rfl
   ·rintro m2 a2 w6 ⟨k,a,b,rfl,cB,S6,hk,ha,hb⟩
    clear S5
    refine bX cB (c:=ND) rfl ?_
    clear cB a2
    refine U2 NC NB rfl rfl rfl (U2 atc NA rfl rfl rfl (U0 rfl (ag 0 3 rfl rfl (af 3 rfl (Ul (C:=(di 141)) i rfl rfl rfl kr (by first|rfl|omega) hr1 (by first|omega|(simp only[ls];omega))) ?_))))
    obtain⟨lY,hr2⟩:=hd1.2 i (by first|omega|(simp only[ls];omega))
    have H9:(ga (U7 d) i).length*16<=140737488355328:=hr2.room
    refine af 4 rfl (U4 rfl rfl iO rfl (hr1.cell S6.m (i:=i) (by first|omega|(simp only[ls];omega)) 0 rfl (congrArg (fun n=>some (Value.slice _ n _)) lY))) ?_
    refine af 5 rfl (cU rfl rfl rfl rfl rfl rfl iO) (af 6 rfl (bS rfl rfl rfl) (U5 rfl (ah [4,5,7,8,9,10,11,26] rfl (U3 ?_))))
    refine Uf atb ata rfl rfl rfl rfl (fun Jt=>?_) (fun Jt=>?_)
    ·refine Ue rfl (ah [4,5,7,8,9,10,11] rfl (U3 (U2 af0 as9 rfl rfl rfl (Uc Nz 3 rfl rfl rfl (U2 as8 as7 rfl rfl rfl (bM rfl (by kernel_rfl) S6 13 rfl ?_))))))
     clear S6
     refine ai 0 12 rfl (by kernel_rfl) (fun _=>run_move rfl rfl) ?_
     refine ai 1 11 rfl (by kernel_rfl) (fun _=>run_move rfl rfl) ?_
     refine yH (t:=30) rfl (fun qD=>?_) (fun qD=>?_)
     ·refine Us (i:=2) (d:=31) 10 rfl (by kernel_rfl) (by kernel_rfl) (by kernel_rfl) ⟨_,_,_,rfl,rfl,rfl,rfl⟩ rfl rfl ?_
      refine Us (i:=3) (d:=32) 9 rfl (by kernel_rfl) (by kernel_rfl) (by kernel_rfl) ⟨_,_,_,rfl,rfl,rfl,rfl⟩ rfl rfl ?_
      refine Us (i:=4) (d:=33) 8 rfl (by kernel_rfl) (by kernel_rfl) (by kernel_rfl) ⟨_,_,_,rfl,rfl,rfl,rfl⟩ rfl rfl ?_
      refine Us (i:=5) (d:=34) 7 rfl (by kernel_rfl) (by kernel_rfl) (by kernel_rfl) ⟨_,_,_,rfl,rfl,rfl,rfl⟩ rfl rfl ?_
      refine Us (i:=6) (d:=35) 6 rfl (by kernel_rfl) (by kernel_rfl) (by kernel_rfl) ⟨_,_,_,rfl,rfl,rfl,rfl⟩ rfl rfl ?_
      refine Us (i:=7) (d:=36) 5 rfl (by kernel_rfl) (by kernel_rfl) (by kernel_rfl) ⟨_,_,_,rfl,rfl,rfl,rfl⟩ rfl rfl ?_
      refine Us (i:=8) (d:=37) 4 rfl (by kernel_rfl) (by kernel_rfl) (by kernel_rfl) ⟨_,_,_,rfl,rfl,rfl,rfl⟩ rfl rfl ?_
      refine Us (i:=9) (d:=38) 3 rfl (by kernel_rfl) (by kernel_rfl) (by kernel_rfl) ⟨_,_,_,rfl,rfl,rfl,rfl⟩ rfl rfl ?_
      refine Us (i:=10) (d:=39) 2 rfl (by kernel_rfl) (by kernel_rfl) (by kernel_rfl) ⟨_,_,_,rfl,rfl,rfl,rfl⟩ rfl rfl ?_
      refine ai 11 1 rfl (by kernel_rfl) (fun _=>gK rfl rfl rfl) ?_
      refine ai 12 0 rfl (by kernel_rfl) (fun _=>run_assign rfl rfl) ?_
      refine Uu (by kernel_rfl) (fun kV bW=>?_)
      refine ah [4,5,7,8,9,10,11] rfl (U3 (bM rfl (by kernel_rfl) bW 13 rfl ?_))
      clear bW
      refine ai 0 12 rfl (by kernel_rfl) (fun _=>run_move rfl rfl) ?_
      refine ai 1 11 rfl (by kernel_rfl) (fun _=>run_move rfl rfl) ?_
      refine yH (t:=42) rfl (fun oO=>?_) (fun oO=>?_)
      ·refine Us (i:=2) (d:=43) 10 rfl (by kernel_rfl) (by kernel_rfl) (by kernel_rfl) ⟨_,_,_,rfl,rfl,rfl,rfl⟩ rfl rfl ?_
       refine Us (i:=3) (d:=44) 9 rfl (by kernel_rfl) (by kernel_rfl) (by kernel_rfl) ⟨_,_,_,rfl,rfl,rfl,rfl⟩ rfl rfl ?_
       refine Us (i:=4) (d:=45) 8 rfl (by kernel_rfl) (by kernel_rfl) (by kernel_rfl) ⟨_,_,_,rfl,rfl,rfl,rfl⟩ rfl rfl ?_
       refine Us (i:=5) (d:=46) 7 rfl (by kernel_rfl) (by kernel_rfl) (by kernel_rfl) ⟨_,_,_,rfl,rfl,rfl,rfl⟩ rfl rfl ?_
       refine Us (i:=6) (d:=47) 6 rfl (by kernel_rfl) (by kernel_rfl) (by kernel_rfl) ⟨_,_,_,rfl,rfl,rfl,rfl⟩ rfl rfl ?_
       refine Us (i:=7) (d:=48) 5 rfl (by kernel_rfl) (by kernel_rfl) (by kernel_rfl) ⟨_,_,_,rfl,rfl,rfl,rfl⟩ rfl rfl ?_
       refine Us (i:=8) (d:=49) 4 rfl (by kernel_rfl) (by kernel_rfl) (by kernel_rfl) ⟨_,_,_,rfl,rfl,rfl,rfl⟩ rfl rfl ?_
       refine Us (i:=9) (d:=50) 3 rfl (by kernel_rfl) (by kernel_rfl) (by kernel_rfl) ⟨_,_,_,rfl,rfl,rfl,rfl⟩ rfl rfl ?_
       refine Us (i:=10) (d:=51) 2 rfl (by kernel_rfl) (by kernel_rfl) (by kernel_rfl) ⟨_,_,_,rfl,rfl,rfl,rfl⟩ rfl rfl ?_
       refine ai 11 1 rfl (by kernel_rfl) (fun _=>gK rfl rfl rfl) ?_
       refine ai 12 0 rfl (by kernel_rfl) (fun _=>run_assign rfl rfl) ?_
       refine Uu (by kernel_rfl) (fun ni cm=>?_)
       refine bj (ah [4,5,7,8,9,10,11] rfl (U3 (U0 rfl (ag 0 1 rfl rfl (af 1 rfl (Ug rfl rfl rfl (by first|omega|(simp only[ls];omega))) ?_)))))
       refine ag 2 1 rfl rfl (U5 rfl (aO ?_))
       intro au aq
       refine⟨_,?lM,⟨k+1,_,_,rfl,aq.sub ⟨rfl,rfl,rfl,rfl,rfl,rfl,rfl,trivial⟩,cm.pick [0,1] [_,_] (by decide) ⟨rfl,rfl,trivial⟩,?eB,?gu,?qs⟩⟩
       case eB=>omega
       case gu=>(rw[tH _ _ (by omega),<-ha,<-tI];(try rw[qD]);rfl)
       case qs=>(rw[tH _ _ (by omega),<-hb,<-tI];(try rw[oO]);rfl)
       case lM=>omega
      ·refine ai 2 10 rfl (by kernel_rfl) (fun _=>run_move rfl rfl) ?_
       refine ai 3 9 rfl (by kernel_rfl) (fun _=>run_move rfl rfl) ?_
       refine aj 4 8 rfl (by kernel_rfl) (fun _ _ _ hz Sz=>.inl (Ul (C:=(di 141)) i rfl rfl rfl kr (by first|rfl|omega) (hr1.mono hz) (by first|omega|(simp only[ls];omega)))) ?_
       obtain⟨nY,hr3⟩:=hd1.2 i (by first|omega|(simp only[ls];omega))
       have adh:(ga (U7 d) i).length*16<=140737488355328:=hr3.room
       refine aj 5 7 rfl (by kernel_rfl) (fun _ _ _ hz Sz=>.inl (U4 rfl rfl iO rfl ((hr1.mono hz).cell Sz.m (i:=i) (by first|omega|(simp only[ls];omega)) 0 rfl (congrArg (fun n=>some (Value.slice _ n _)) nY)))) ?_
       refine ai 6 6 rfl (by kernel_rfl) (fun _=>run_move rfl rfl) ?_
       refine aj 7 5 rfl (by kernel_rfl) (fun _ _ _ hz Sz=>.inl (Ul (C:=cu) k rfl rfl rfl iF (by first|rfl|omega) (hr3.mono hz) (by first|omega|(simp only[ls];omega)))) ?_
       refine aj 8 4 rfl (by kernel_rfl) (fun _ _ _ hz Sz=>.inl (U8 (us:=[_,_]) rfl rfl aZ rfl cC ((hr3.mono hz).fU Sz.m (e:=k) (by first|omega|(simp only[ls];omega)) (j:=0) ⟨rfl,rfl,trivial⟩))) ?_
       refine aj 9 3 rfl (by kernel_rfl) (fun _ _ _ hz Sz=>.inl (U8 (us:=[_,_]) rfl rfl aZ rfl cC (Sz.suf.aw (i:=0) rfl ⟨rfl,rfl,trivial⟩))) ?_
       refine ai 10 2 rfl (by kernel_rfl) (fun _=>BX (Q:=((ga (ga (U7 d) i) k).a)=v.a/\((ga (ga (U7 d) i) k).b)=v.b) rfl rfl rfl zE ⟨_,_,_,_,rfl,rfl,⟨_,_,rfl,rfl,rfl⟩,rfl⟩) ?_
       refine ai 11 1 rfl (by kernel_rfl) (fun _=>jy rfl rfl rfl) ?_
       refine ai 12 0 rfl (by kernel_rfl) (fun _=>run_assign rfl rfl) ?_
       refine Uu (by kernel_rfl) (fun ng dB=>?_)
       refine bj (ah [4,5,7,8,9,10,11] rfl (U3 (U0 rfl (ag 0 1 rfl rfl (af 1 rfl (Ug rfl rfl rfl (by first|omega|(simp only[ls];omega))) ?_)))))
       refine ag 2 1 rfl rfl (U5 rfl (aO ?_))
       intro au aq
       refine⟨_,?kx,⟨k+1,_,_,rfl,aq.sub ⟨rfl,rfl,rfl,rfl,rfl,rfl,rfl,trivial⟩,dB.pick [0,1] [_,_] (by decide) ⟨rfl,rfl,trivial⟩,?eW,?gq,?oG⟩⟩
       case eW=>omega
       case gq=>(rw[tH _ _ (by omega),<-ha,<-tI];(try rw[qD]);rfl)
       case oG=>(rw[tH _ _ (by omega),<-hb,<-tI];(try rw[oO]);rfl)
       case kx=>omega
     ·refine ai 2 10 rfl (by kernel_rfl) (fun _=>run_move rfl rfl) ?_
      refine ai 3 9 rfl (by kernel_rfl) (fun _=>run_move rfl rfl) ?_
      refine aj 4 8 rfl (by kernel_rfl) (fun _ _ _ hz Sz=>.inl (Ul (C:=(di 141)) i rfl rfl rfl kr (by first|rfl|omega) (hr1.mono hz) (by first|omega|(simp only[ls];omega)))) ?_
      obtain⟨AZ,hr4⟩:=hd1.2 i (by first|omega|(simp only[ls];omega))
      have H8:(ga (U7 d) i).length*16<=140737488355328:=hr4.room
      refine aj 5 7 rfl (by kernel_rfl) (fun _ _ _ hz Sz=>.inl (U4 rfl rfl iO rfl ((hr1.mono hz).cell Sz.m (i:=i) (by first|omega|(simp only[ls];omega)) 0 rfl (congrArg (fun n=>some (Value.slice _ n _)) AZ)))) ?_
      refine ai 6 6 rfl (by kernel_rfl) (fun _=>run_move rfl rfl) ?_
      refine aj 7 5 rfl (by kernel_rfl) (fun _ _ _ hz Sz=>.inl (Ul (C:=cu) k rfl rfl rfl iF (by first|rfl|omega) (hr4.mono hz) (by first|omega|(simp only[ls];omega)))) ?_
      refine aj 8 4 rfl (by kernel_rfl) (fun _ _ _ hz Sz=>.inl (U8 (us:=[_,_]) rfl rfl aZ rfl cC ((hr4.mono hz).fU Sz.m (e:=k) (by first|omega|(simp only[ls];omega)) (j:=0) ⟨rfl,rfl,trivial⟩))) ?_
      refine aj 9 3 rfl (by kernel_rfl) (fun _ _ _ hz Sz=>.inl (U8 (us:=[_,_]) rfl rfl aZ rfl cC (Sz.suf.aw (i:=1) rfl ⟨rfl,rfl,trivial⟩))) ?_
      refine ai 10 2 rfl (by kernel_rfl) (fun _=>BX (Q:=((ga (ga (U7 d) i) k).a)=u.a/\((ga (ga (U7 d) i) k).b)=u.b) rfl rfl rfl zE ⟨_,_,_,_,rfl,rfl,⟨_,_,rfl,rfl,rfl⟩,rfl⟩) ?_
      refine ai 11 1 rfl (by kernel_rfl) (fun _=>jy rfl rfl rfl) ?_
      refine ai 12 0 rfl (by kernel_rfl) (fun _=>run_assign rfl rfl) ?_
      refine Uu (by kernel_rfl) (fun xR dV=>?_)
      refine ah [4,5,7,8,9,10,11] rfl (U3 (bM rfl (by kernel_rfl) dV 13 rfl ?_))
      clear dV
      refine ai 0 12 rfl (by kernel_rfl) (fun _=>run_move rfl rfl) ?_
      refine ai 1 11 rfl (by kernel_rfl) (fun _=>run_move rfl rfl) ?_
      refine yH (t:=42) rfl (fun oO=>?_) (fun oO=>?_)
      ·refine Us (i:=2) (d:=43) 10 rfl (by kernel_rfl) (by kernel_rfl) (by kernel_rfl) ⟨_,_,_,rfl,rfl,rfl,rfl⟩ rfl rfl ?_
       refine Us (i:=3) (d:=44) 9 rfl (by kernel_rfl) (by kernel_rfl) (by kernel_rfl) ⟨_,_,_,rfl,rfl,rfl,rfl⟩ rfl rfl ?_
       refine Us (i:=4) (d:=45) 8 rfl (by kernel_rfl) (by kernel_rfl) (by kernel_rfl) ⟨_,_,_,rfl,rfl,rfl,rfl⟩ rfl rfl ?_
       refine Us (i:=5) (d:=46) 7 rfl (by kernel_rfl) (by kernel_rfl) (by kernel_rfl) ⟨_,_,_,rfl,rfl,rfl,rfl⟩ rfl rfl ?_
       refine Us (i:=6) (d:=47) 6 rfl (by kernel_rfl) (by kernel_rfl) (by kernel_rfl) ⟨_,_,_,rfl,rfl,rfl,rfl⟩ rfl rfl ?_
       refine Us (i:=7) (d:=48) 5 rfl (by kernel_rfl) (by kernel_rfl) (by kernel_rfl) ⟨_,_,_,rfl,rfl,rfl,rfl⟩ rfl rfl ?_
       refine Us (i:=8) (d:=49) 4 rfl (by kernel_rfl) (by kernel_rfl) (by kernel_rfl) ⟨_,_,_,rfl,rfl,rfl,rfl⟩ rfl rfl ?_
       refine Us (i:=9) (d:=50) 3 rfl (by kernel_rfl) (by kernel_rfl) (by kernel_rfl) ⟨_,_,_,rfl,rfl,rfl,rfl⟩ rfl rfl ?_
       refine Us (i:=10) (d:=51) 2 rfl (by kernel_rfl) (by kernel_rfl) (by kernel_rfl) ⟨_,_,_,rfl,rfl,rfl,rfl⟩ rfl rfl ?_
       refine ai 11 1 rfl (by kernel_rfl) (fun _=>gK rfl rfl rfl) ?_
       refine ai 12 0 rfl (by kernel_rfl) (fun _=>run_assign rfl rfl) ?_
       refine Uu (by kernel_rfl) (fun xO fW=>?_)
       refine bj (ah [4,5,7,8,9,10,11] rfl (U3 (U0 rfl (ag 0 1 rfl rfl (af 1 rfl (Ug rfl rfl rfl (by first|omega|(simp only[ls];omega))) ?_)))))
       refine ag 2 1 rfl rfl (U5 rfl (aO ?_))
       intro au aq
       refine⟨_,?kv,⟨k+1,_,_,rfl,aq.sub ⟨rfl,rfl,rfl,rfl,rfl,rfl,rfl,trivial⟩,fW.pick [0,1] [_,_] (by decide) ⟨rfl,rfl,trivial⟩,?fC,?gp,?mV⟩⟩
       case fC=>omega
       case gp=>(rw[tH _ _ (by omega),<-ha,<-tI];(try rw[qD]);rfl)
       case mV=>(rw[tH _ _ (by omega),<-hb,<-tI];(try rw[oO]);rfl)
       case kv=>omega
      ·refine ai 2 10 rfl (by kernel_rfl) (fun _=>run_move rfl rfl) ?_
       refine ai 3 9 rfl (by kernel_rfl) (fun _=>run_move rfl rfl) ?_
       refine aj 4 8 rfl (by kernel_rfl) (fun _ _ _ hz Sz=>.inl (Ul (C:=(di 141)) i rfl rfl rfl kr (by first|rfl|omega) (hr1.mono hz) (by first|omega|(simp only[ls];omega)))) ?_
       obtain⟨hn4,mJ⟩:=hd1.2 i (by first|omega|(simp only[ls];omega))
       have al8:(ga (U7 d) i).length*16<=140737488355328:=mJ.room
       refine aj 5 7 rfl (by kernel_rfl) (fun _ _ _ hz Sz=>.inl (U4 rfl rfl iO rfl ((hr1.mono hz).cell Sz.m (i:=i) (by first|omega|(simp only[ls];omega)) 0 rfl (congrArg (fun n=>some (Value.slice _ n _)) hn4)))) ?_
       refine ai 6 6 rfl (by kernel_rfl) (fun _=>run_move rfl rfl) ?_
       refine aj 7 5 rfl (by kernel_rfl) (fun _ _ _ hz Sz=>.inl (Ul (C:=cu) k rfl rfl rfl iF (by first|rfl|omega) (mJ.mono hz) (by first|omega|(simp only[ls];omega)))) ?_
       refine aj 8 4 rfl (by kernel_rfl) (fun _ _ _ hz Sz=>.inl (U8 (us:=[_,_]) rfl rfl aZ rfl cC ((mJ.mono hz).fU Sz.m (e:=k) (by first|omega|(simp only[ls];omega)) (j:=0) ⟨rfl,rfl,trivial⟩))) ?_
       refine aj 9 3 rfl (by kernel_rfl) (fun _ _ _ hz Sz=>.inl (U8 (us:=[_,_]) rfl rfl aZ rfl cC (Sz.suf.aw (i:=0) rfl ⟨rfl,rfl,trivial⟩))) ?_
       refine ai 10 2 rfl (by kernel_rfl) (fun _=>BX (Q:=((ga (ga (U7 d) i) k).a)=v.a/\((ga (ga (U7 d) i) k).b)=v.b) rfl rfl rfl zE ⟨_,_,_,_,rfl,rfl,⟨_,_,rfl,rfl,rfl⟩,rfl⟩) ?_
       refine ai 11 1 rfl (by kernel_rfl) (fun _=>jy rfl rfl rfl) ?_
       refine ai 12 0 rfl (by kernel_rfl) (fun _=>run_assign rfl rfl) ?_
       refine Uu (by kernel_rfl) (fun Re nD=>?_)
       refine bj (ah [4,5,7,8,9,10,11] rfl (U3 (U0 rfl (ag 0 1 rfl rfl (af 1 rfl (Ug rfl rfl rfl (by first|omega|(simp only[ls];omega))) ?_)))))
       refine ag 2 1 rfl rfl (U5 rfl (aO ?_))
       intro au aq
       refine⟨_,?ku,⟨k+1,_,_,rfl,aq.sub ⟨rfl,rfl,rfl,rfl,rfl,rfl,rfl,trivial⟩,nD.pick [0,1] [_,_] (by decide) ⟨rfl,rfl,trivial⟩,?gW,?iY,?uA⟩⟩
       case gW=>omega
       case iY=>(rw[tH _ _ (by omega),<-ha,<-tI];(try rw[qD]);rfl)
       case uA=>(rw[tH _ _ (by omega),<-hb,<-tI];(try rw[oO]);rfl)
       case ku=>omega
    ·refine bP rfl rfl (ah [4,5,7,8,9,10] rfl (U3 (U2 as6 Ny rfl rfl rfl ?_)))
     obtain rfl:k=(ga (U7 d) i).length:=by omega
     rw[List.take_length]at ha hb
     refine U0 rfl (ag 0 2 rfl rfl ?_)
     refine mR (t:=54) rfl (fun DB=>?_) (fun DB=>?_)
     ·refine ag 2 2 rfl rfl (U5 rfl (ah [4,5,7,8,56] rfl (U3 ?_)))
      refine dN Nx afZ rfl rfl rfl rfl (fun DJ=>?_) (fun DJ=>?_)
      ·have aox:np u v (ga (U7 d) i)=true:=by unfold np;rw[<-ha,<-hb,DB,DJ];rfl
       refine U2 as5 as4 rfl rfl rfl (U0 rfl (ag 0 1 rfl rfl (U5 rfl (ah [6] rfl (U3 (Uk hC [_] rfl rfl ⟨rfl,trivial⟩ ?_))))))
       refine⟨_,rfl,_,aL,(S6.pick [] [] (by decide) trivial),?_⟩
       have:=iB (show i<(U7 d).length by omega)
       show Value.bool _=Value.bool _
       rw[List.any_eq_true.2 ⟨_,this,aox⟩]
      ·refine Ue rfl (bj (ah [4,5,7,8] rfl (U3 (U0 rfl (ag 0 1 rfl rfl (af 1 rfl (Ug rfl rfl rfl (by first|omega|(simp only[ls];omega))) ?_))))))
       refine ag 2 1 rfl rfl (U5 rfl (aO ?_))
       have IZ:np u v (ga (U7 d) i)=false:=by unfold np;rw[<-ha,<-hb];first|(rw[DB];rfl)|(rw[DJ,Bool.and_false])
       intro au aq
       refine⟨_,?lL,⟨i+1,rfl,aq.sub ⟨rfl,rfl,rfl,rfl,trivial⟩,S6.pick [0,1] [_,_] (by decide) ⟨rfl,rfl,trivial⟩,?iX,?ki⟩⟩
       case iX=>omega
       case ki=>(intro j hj;by_cases e:j=i;(subst e;exact IZ);exact hno j (by omega))
       case lL=>omega
     ·refine ag 2 2 rfl rfl (U5 rfl (ah [4,5,7,8,56] rfl (U3 (jz afZ rfl rfl rfl (Ue rfl (bj (ah [4,5,7,8] rfl (U3 ?_))))))))
      refine U0 rfl (ag 0 1 rfl rfl (af 1 rfl (Ug rfl rfl rfl (by first|omega|(simp only[ls];omega))) ?_))
      refine ag 2 1 rfl rfl (U5 rfl (aO ?_))
      have IZ:np u v (ga (U7 d) i)=false:=by unfold np;rw[<-ha,<-hb];first|(rw[DB];rfl)|(rw[DJ,Bool.and_false])
      intro au aq
      refine⟨_,?lK,⟨i+1,rfl,aq.sub ⟨rfl,rfl,rfl,rfl,trivial⟩,S6.pick [0,1] [_,_] (by decide) ⟨rfl,rfl,trivial⟩,?jC,?lB⟩⟩
      case jC=>omega
      case lB=>(intro j hj;by_cases e:j=i;(subst e;exact IZ);exact hno j (by omega))
      case lK=>omega
  ·refine bP rfl rfl (bN [] trivial (U3 (U2 as3 as2 rfl rfl rfl (U0 rfl (ag 0 1 rfl rfl (U5 rfl (U3 (Uk hC [_] rfl rfl ⟨rfl,trivial⟩ ?_))))))))
   refine⟨_,rfl,_,aL,(S5.pick [] [] (by decide) trivial),?_⟩
   show Value.bool _=Value.bool _
   rw[List.any_eq_false.2 (fun x hx=>by obtain⟨j,hj,rfl⟩:=List.mem_iff_getElem.1 hx;rw[<-eo hj,hno j (by omega)];decide)]
end Go.Proofs.YthppkofceancjaaGreat
