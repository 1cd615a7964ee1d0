/- Part 11 of the proof of the law MovesRows: the walks through its functions and the plain laws that they need. -/
import Derived.Test.YthppkofceancjaaGreatMxZ10
set_option linter.unusedSimpArgs false
set_option linter.unusedVariables false
noncomputable section
namespace Go.Proofs.YthppkofceancjaaGreat
open Go.ChangeShapes Go.WideShapes Go.ChangeAt Go.RowKit
def kL(e:Int)(D:Dg):Dg×Int:=if e=0 then(D,0)else(⟨[],0⟩,e)
theorem eH{e c:Int}{D:Dg}(h:e=c)(hc:c≠0):kL e D=(⟨[],0⟩,c):=by unfold kL;rw[h,if_neg hc]
theorem r9{e:Int}{D E:Dg}(h:e=0)(hD:D=E):kL e D=(E,0):=by unfold kL;rw[if_pos h,hD]
theorem dU{N:Hp}(c:Int):qq (⟨[],0⟩,c) (.tuple [.agg [.slice none 0 0,.int .i64 0].toArray,.int .i64 c].toArray) N:=⟨none,0,rfl,aF.dW⟩
def fW(e n w s:Int)(sG sN standing:Bool):Cr:=
 if standing=true then(if sN=true then⟨e,n,w,s,sG⟩else⟨w,s,e,n,!sG⟩)else(if sG=true then⟨s,e,n,w,!sN⟩else⟨n,w,s,e,sN⟩)
theorem ahz(m:Mv)(e n w s:Int):mB m (fun k=>ga ([e,n,w,s]:List Int) k) (ek m.ub 3 1)=fW e n w s (!m.ub) (!m.vb) m.ov:=by
 unfold mB fW ek
 cases m.ov<;>cases m.ub<;>cases m.vb<;>rfl
theorem ahy(m:Mv)(e n w s:Int):mB m (fun k=>ga ([e,n,w,s]:List Int) k) (ek m.ub 1 3)=fW e n w s m.ub (!m.vb) m.ov:=by
 unfold mB fW ek
 cases m.ov<;>cases m.ub<;>cases m.vb<;>rfl
noncomputable def L5:=Tryz.f9.body.getD .skip
def arN:=cL L5
def L4:=cR L5
def arM:=cL L4
def L3:=cR L4
def arL:=cL L3
def arK:=cR L3
set_option maxRecDepth 10000 in
theorem Aw{w:World}{M:Hp}{X:Fr}(d:Dg){aV:Option Addr}{aU:Nat}(aC:aF aG (M.un X.h) aV aU d.ae)(S:SH w M X []):Co Tryz.prog 9 [.agg [.slice aV d.ae.length aU,.int .i64 d.loops].toArray] w M X (fun v N=>∃vr,v=.agg [vr,.int .i64 d.loops].toArray/\N=[Rs.row aG vr d.ae]):=by
 unfold Co
 have gK:d.ae.length*40<=140737488355328:=aC.room
 refine Up (b:=L5) Tryz.func9 rfl Tryz.ntmps9 rfl (fun C hC=>(bq [(0,_)] ⟨rfl,trivial⟩ (U2 arN L4 rfl rfl rfl (U0 rfl (ak 0 1 rfl rfl rfl (bA (l:=[_,_]) rfl rfl rfl rfl rfl S ?_))))))
 intro aI w1 S1;clear S
 refine ak 1 2 rfl rfl rfl (Uh (l:=[_,_]) rfl rfl rfl fQ rfl S1 ?_)
 intro aQ w2 S2;clear S1
 refine U5 rfl (ah [1,2] rfl (U3 (U2 arM L3 rfl rfl rfl (U0 rfl (af 0 rfl (U1 rfl rfl ay rfl (bK) (bJ)) (af 1 rfl (U4 rfl rfl bG rfl (S2.ar (i:=1) rfl rfl)) ?_))))))
 have S3:=S2.np aG;clear S2
 refine ak 2 3 rfl rfl rfl (D3 (C:=aG) (i:=0) rfl rfl rfl rfl rfl rfl rfl rfl b8 S3 rfl aC S3.um (by have h:_*40<=_:=aC.room;show(0+_)*40<=_;first|omega|(simp only[ls];omega)) ?_)
 intro vP w3 S4;clear S3
 change SH _ _ _ [Rs.row aG vP d.ae,_,_]at S4
 refine af 3 rfl (U1 rfl rfl ay rfl (bK) (bJ)) (ak 4 5 rfl rfl rfl (U7 (i:=2) (us:=[_]) (l':=[_,_]) (H':=[_,_,_]) rfl rfl S4 rfl rfl rfl (S4.jx (i:=0) rfl) kZ rfl (Uy (S4.one (i:=0) rfl) rfl) rfl rfl ?_))
 intro w4 S5;clear S4
 refine U5 rfl (ah [1,2] rfl (U3 (U2 arL arK rfl rfl rfl (U0 rfl (af 0 rfl (U8 (us:=[_,_]) rfl rfl ay rfl az (S5.ax (i:=2) rfl ⟨rfl,rfl,trivial⟩)) (ak 1 2 rfl rfl rfl (U7 (i:=1) (us:=[_,_]) (l':=[_,_]) (H':=[_,_,_]) rfl rfl S5 rfl rfl rfl rfl az rfl (Uy (S5.one (i:=0) rfl) (Uy rfl rfl)) rfl rfl ?_)))))))
 intro w5 S6;clear S5
 refine U5 rfl (ah [2] rfl (U3 (Uj hC [_] rfl rfl ⟨⟨_,rfl,Um (us:=[_,_]) ay rfl az (S6.ax (i:=1) rfl ⟨rfl,rfl,trivial⟩)⟩,trivial⟩ ?_)))
 exact⟨_,rfl,_,S6.pick [0] [_] (by decide) ⟨rfl,trivial⟩,⟨_,rfl,rfl⟩⟩
noncomputable def LZ:=Tryz.f75.body.getD .skip
def arJ:=cL LZ
def LY:=cR LZ
def arI:=cL LY
def LX:=cR LY
def LW:=cL LX
def arH:=cR LX
def arG:=cL LW
def ae1:=cR LW
def LV:=cL ae1
def arF:=cL LV
def LU:=cR LV
def arE:=cL LU
def LS:=cR LU
def arD:=cL LS
def LR:=cR LS
def arC:=cL LR
def LQ:=cR LR
def arB:=cL LQ
def LP:=cR LQ
def arA:=cL LP
def LO:=cR LP
def arz:=cL LO
def LN:=cR LO
def ary:=cL LN
def arx:=cR LN
set_option maxRecDepth 10000 in
theorem sj{w:World}{M:Hp}{X:Fr}{bz:Value}(xs:List Cr)(lo:Int)(c k:Nat)(a:Int)(hc:c<xs.length)(hk:k<4)(S:SH w M X [Rs.aW [Rs.row aG bz xs]]):C1 Tryz.prog 75 [.agg [bz,.int .i64 lo].toArray,.agg [.int .i64 (c:Int),.int .i64 (k:Int)].toArray,.int .i64 a] w M X (fun u M' r'=>u=.tuple [].toArray/\M'=M/\r'=Rs.aW [Rs.row aG bz (bg xs c k a)]):=by
 unfold C1
 replace S:=S.jT
 refine Up (b:=LZ) Tryz.func75 rfl Tryz.ntmps75 rfl (fun C hC=>(bq [(0,_),(1,_),(2,_)] ⟨rfl,rfl,rfl,trivial⟩ (U2 arJ LY rfl rfl rfl (U0 rfl (ak 0 1 rfl rfl rfl (bA (l:=[_,_]) rfl rfl rfl rfl rfl S ?_))))))
 intro aI w1 S1;clear S
 refine ak 1 2 rfl rfl rfl (bA (l:=[_,_]) rfl rfl rfl rfl rfl S1 ?_)
 intro aQ w2 S2;clear S1
 refine U5 rfl (ah [2,3,4] rfl (U3 (U2 arI LX rfl rfl rfl (U0 rfl (af 0 rfl (U1 rfl rfl ay rfl (bK) (bJ)) (af 1 rfl (U4 rfl rfl bG rfl (S2.ar (i:=1) rfl rfl)) (af 2 rfl (U1 rfl rfl cN rfl (aB) (aA)) (af 3 rfl (U4 rfl rfl av rfl (S2.ar (i:=0) rfl rfl)) ?_))))))))
 refine af 4 rfl (Ui (C:=aG) (i:=2) c rfl rfl rfl b8 S2 rfl (by first|rfl|omega) (by first|omega|(simp only[ls];omega))) ?_
 refine af 5 rfl (U8 (us:=[_,_,_,_,_]) rfl rfl aT rfl bT (S2.AU (i:=2) (e:=c) (j:=0) rfl (by first|omega|(simp only[ls];omega)) ⟨rfl,rfl,rfl,rfl,rfl,trivial⟩)) ?_
 refine ak 6 7 rfl rfl rfl (Uh (l:=[_,_,_,_,_]) rfl rfl rfl kz rfl S2 ?_)
 intro bE w3 S3;clear S2
 refine ak 7 8 rfl rfl rfl (U7 (i:=0) (us:=[_,_,_,_,_]) (l':=[_,_,_,_,_]) (H':=[_,_,_,_]) rfl rfl S3 rfl rfl rfl rfl bT rfl rfl rfl rfl ?_)
 intro w4 S4;clear S3
 refine U5 rfl (ah [2,3,4,6] rfl (U3 (U2 LW arH rfl rfl rfl (U2 arG ae1 rfl rfl rfl (U0 rfl (af 0 rfl (U1 rfl rfl cN rfl (aB) (aA)) (af 1 rfl (U4 rfl rfl av rfl (S4.ar (i:=1) rfl rfl)) (U5 rfl ?_))))))))
 refine ah [2,3,4,6,14] rfl (U3 (Uc LV 0 rfl rfl rfl (U2 arF LU rfl rfl rfl (U0 rfl (af 0 rfl (bP rfl rfl rfl) (ag 1 1 rfl rfl (U5 rfl (ah [2,3,4,6,14,15] rfl ?_))))))))
 refine U3 ?_
 refine Ue arE LS rfl rfl rfl rfl (fun ana=>?_) (fun ana=>?_)
 ·refine U0 rfl (ag 0 1 rfl rfl (af 1 rfl (U1 rfl rfl aT rfl (aB) (aA)) (ak 2 3 rfl rfl rfl (U7 (i:=0) (us:=[_]) (l':=[_,_,_,_,_]) (H':=[_,_,_,_]) rfl rfl S4 rfl rfl rfl rfl aY rfl rfl rfl rfl ?_))))
  intro w5 S5;clear S4
  refine U5 rfl (bk (ah [3,4,6] rfl (U3 (U0 rfl (af 0 rfl (U1 rfl rfl ay rfl (bK) (bJ)) (af 1 rfl (U4 rfl rfl bG rfl (S5.ar (i:=2) rfl rfl)) (af 2 rfl (U1 rfl rfl cN rfl (aB) (aA)) (af 3 rfl (U4 rfl rfl av rfl (S5.ar (i:=1) rfl rfl)) ?_))))))))
  refine af 4 rfl (U8 (us:=[_,_,_,_,_]) rfl rfl aT rfl bT (S5.ax (i:=0) rfl ⟨rfl,rfl,rfl,rfl,rfl,trivial⟩)) (af 5 rfl (Ui (C:=aG) (i:=3) c rfl rfl rfl b8 S5 rfl (by first|rfl|omega) (by first|omega|(simp only[ls];omega))) ?_)
  refine ak 6 7 rfl rfl rfl (gy (C:=aG) (i:=3) (e:=c) (j:=0) (us:=[_,_,_,_,_]) (H':=[_,_,_,_]) (⟨a,(ga xs c).b,(ga xs c).c,(ga xs c).d,(ga xs c).plus⟩:Cr) rfl rfl S5 rfl (by first|omega|(simp only[ls];omega)) rfl rfl rfl bT rfl rfl rfl rfl ?_)
  intro w6 S6;clear S5
  refine U5 rfl (gI hC [] rfl trivial ?_)
  refine⟨_,rfl,_,_,Hp.le_refl _,(S6.pick [3] [_] (by decide) ⟨rfl,trivial⟩).aW,?_⟩
  obtain rfl|rfl|rfl|rfl:k=0\/k=1\/k=2\/k=3:=by omega
  all_goals first|(exfalso;omega)|exact⟨rfl,rfl,rfl⟩
 ·refine U2 arD LR rfl rfl rfl (U0 rfl (af 0 rfl (bP rfl rfl rfl) (ag 1 1 rfl rfl (U5 rfl (ah [2,3,4,6,14,19] rfl (U3 ?_))))))
  refine Ue arC LQ rfl rfl rfl rfl (fun pK=>?_) (fun pK=>?_)
  ·refine U0 rfl (ag 0 1 rfl rfl (af 1 rfl (U1 rfl rfl aT rfl (aB) (aA)) (ak 2 3 rfl rfl rfl (U7 (i:=0) (us:=[_]) (l':=[_,_,_,_,_]) (H':=[_,_,_,_]) rfl rfl S4 rfl rfl rfl rfl aY rfl rfl rfl rfl ?_))))
   intro w7 S7;clear S4
   refine U5 rfl (bk (ah [3,4,6] rfl (U3 (U0 rfl (af 0 rfl (U1 rfl rfl ay rfl (bK) (bJ)) (af 1 rfl (U4 rfl rfl bG rfl (S7.ar (i:=2) rfl rfl)) (af 2 rfl (U1 rfl rfl cN rfl (aB) (aA)) (af 3 rfl (U4 rfl rfl av rfl (S7.ar (i:=1) rfl rfl)) ?_))))))))
   refine af 4 rfl (U8 (us:=[_,_,_,_,_]) rfl rfl aT rfl bT (S7.ax (i:=0) rfl ⟨rfl,rfl,rfl,rfl,rfl,trivial⟩)) (af 5 rfl (Ui (C:=aG) (i:=3) c rfl rfl rfl b8 S7 rfl (by first|rfl|omega) (by first|omega|(simp only[ls];omega))) ?_)
   refine ak 6 7 rfl rfl rfl (gy (C:=aG) (i:=3) (e:=c) (j:=0) (us:=[_,_,_,_,_]) (H':=[_,_,_,_]) (⟨(ga xs c).a,a,(ga xs c).c,(ga xs c).d,(ga xs c).plus⟩:Cr) rfl rfl S7 rfl (by first|omega|(simp only[ls];omega)) rfl rfl rfl bT rfl rfl rfl rfl ?_)
   intro w8 S8;clear S7
   refine U5 rfl (gI hC [] rfl trivial ?_)
   refine⟨_,rfl,_,_,Hp.le_refl _,(S8.pick [3] [_] (by decide) ⟨rfl,trivial⟩).aW,?_⟩
   obtain rfl|rfl|rfl|rfl:k=0\/k=1\/k=2\/k=3:=by omega
   all_goals first|(exfalso;omega)|exact⟨rfl,rfl,rfl⟩
  ·refine U2 arB LP rfl rfl rfl (U0 rfl (af 0 rfl (bP rfl rfl rfl) (ag 1 1 rfl rfl (U5 rfl (ah [2,3,4,6,14,23] rfl (U3 ?_))))))
   refine Ue arA LO rfl rfl rfl rfl (fun am9=>?_) (fun am9=>?_)
   ·refine U0 rfl (ag 0 1 rfl rfl (af 1 rfl (U1 rfl rfl aT rfl (aB) (aA)) (ak 2 3 rfl rfl rfl (U7 (i:=0) (us:=[_]) (l':=[_,_,_,_,_]) (H':=[_,_,_,_]) rfl rfl S4 rfl rfl rfl rfl aY rfl rfl rfl rfl ?_))))
    intro w9 S9;clear S4
    refine U5 rfl (bk (ah [3,4,6] rfl (U3 (U0 rfl (af 0 rfl (U1 rfl rfl ay rfl (bK) (bJ)) (af 1 rfl (U4 rfl rfl bG rfl (S9.ar (i:=2) rfl rfl)) (af 2 rfl (U1 rfl rfl cN rfl (aB) (aA)) (af 3 rfl (U4 rfl rfl av rfl (S9.ar (i:=1) rfl rfl)) ?_))))))))
    refine af 4 rfl (U8 (us:=[_,_,_,_,_]) rfl rfl aT rfl bT (S9.ax (i:=0) rfl ⟨rfl,rfl,rfl,rfl,rfl,trivial⟩)) (af 5 rfl (Ui (C:=aG) (i:=3) c rfl rfl rfl b8 S9 rfl (by first|rfl|omega) (by first|omega|(simp only[ls];omega))) ?_)
    refine ak 6 7 rfl rfl rfl (gy (C:=aG) (i:=3) (e:=c) (j:=0) (us:=[_,_,_,_,_]) (H':=[_,_,_,_]) (⟨(ga xs c).a,(ga xs c).b,a,(ga xs c).d,(ga xs c).plus⟩:Cr) rfl rfl S9 rfl (by first|omega|(simp only[ls];omega)) rfl rfl rfl bT rfl rfl rfl rfl ?_)
    intro jZ bF;clear S9
    refine U5 rfl (gI hC [] rfl trivial ?_)
    refine⟨_,rfl,_,_,Hp.le_refl _,(bF.pick [3] [_] (by decide) ⟨rfl,trivial⟩).aW,?_⟩
    obtain rfl|rfl|rfl|rfl:k=0\/k=1\/k=2\/k=3:=by omega
    all_goals first|(exfalso;omega)|exact⟨rfl,rfl,rfl⟩
   ·refine U2 arz LN rfl rfl rfl (U0 rfl (af 0 rfl (bP rfl rfl rfl) (ag 1 1 rfl rfl (U5 rfl (ah [2,3,4,6,27] rfl (U3 ?_))))))
    refine Ue ary arx rfl rfl rfl rfl (fun yc=>?_) (fun yc=>?_)
    ·refine U0 rfl (ag 0 1 rfl rfl (af 1 rfl (U1 rfl rfl aT rfl (aB) (aA)) (ak 2 3 rfl rfl rfl (U7 (i:=0) (us:=[_]) (l':=[_,_,_,_,_]) (H':=[_,_,_,_]) rfl rfl S4 rfl rfl rfl rfl aY rfl rfl rfl rfl ?_))))
     intro kH bQ;clear S4
     refine U5 rfl (bk (ah [3,4,6] rfl (U3 (U0 rfl (af 0 rfl (U1 rfl rfl ay rfl (bK) (bJ)) (af 1 rfl (U4 rfl rfl bG rfl (bQ.ar (i:=2) rfl rfl)) (af 2 rfl (U1 rfl rfl cN rfl (aB) (aA)) (af 3 rfl (U4 rfl rfl av rfl (bQ.ar (i:=1) rfl rfl)) ?_))))))))
     refine af 4 rfl (U8 (us:=[_,_,_,_,_]) rfl rfl aT rfl bT (bQ.ax (i:=0) rfl ⟨rfl,rfl,rfl,rfl,rfl,trivial⟩)) (af 5 rfl (Ui (C:=aG) (i:=3) c rfl rfl rfl b8 bQ rfl (by first|rfl|omega) (by first|omega|(simp only[ls];omega))) ?_)
     refine ak 6 7 rfl rfl rfl (gy (C:=aG) (i:=3) (e:=c) (j:=0) (us:=[_,_,_,_,_]) (H':=[_,_,_,_]) (⟨(ga xs c).a,(ga xs c).b,(ga xs c).c,a,(ga xs c).plus⟩:Cr) rfl rfl bQ rfl (by first|omega|(simp only[ls];omega)) rfl rfl rfl bT rfl rfl rfl rfl ?_)
     intro mb cw;clear bQ
     refine U5 rfl (gI hC [] rfl trivial ?_)
     refine⟨_,rfl,_,_,Hp.le_refl _,(cw.pick [3] [_] (by decide) ⟨rfl,trivial⟩).aW,?_⟩
     obtain rfl|rfl|rfl|rfl:k=0\/k=1\/k=2\/k=3:=by omega
     all_goals first|(exfalso;omega)|exact⟨rfl,rfl,rfl⟩
    ·refine Uf rfl (bk (ah [3,4,6] rfl (U3 (U0 rfl (af 0 rfl (U1 rfl rfl ay rfl (bK) (bJ)) (af 1 rfl (U4 rfl rfl bG rfl (S4.ar (i:=2) rfl rfl)) (af 2 rfl (U1 rfl rfl cN rfl (aB) (aA)) (af 3 rfl (U4 rfl rfl av rfl (S4.ar (i:=1) rfl rfl)) ?_))))))))
     refine af 4 rfl (U8 (us:=[_,_,_,_,_]) rfl rfl aT rfl bT (S4.ax (i:=0) rfl ⟨rfl,rfl,rfl,rfl,rfl,trivial⟩)) (af 5 rfl (Ui (C:=aG) (i:=3) c rfl rfl rfl b8 S4 rfl (by first|rfl|omega) (by first|omega|(simp only[ls];omega))) ?_)
     refine ak 6 7 rfl rfl rfl (gy (C:=aG) (i:=3) (e:=c) (j:=0) (us:=[_,_,_,_,_]) (H':=[_,_,_,_]) (⟨(ga xs c).a,(ga xs c).b,(ga xs c).c,(ga xs c).d,(ga xs c).plus⟩:Cr) rfl rfl S4 rfl (by first|omega|(simp only[ls];omega)) rfl rfl rfl bT rfl rfl rfl rfl ?_)
     intro lB bZ;clear S4
     refine U5 rfl (gI hC [] rfl trivial ?_)
     refine⟨_,rfl,_,_,Hp.le_refl _,(bZ.pick [3] [_] (by decide) ⟨rfl,trivial⟩).aW,?_⟩
     obtain rfl|rfl|rfl|rfl:k=0\/k=1\/k=2\/k=3:=by omega
     all_goals first|(exfalso;omega)|exact⟨rfl,rfl,rfl⟩
noncomputable def LM:=Tryz.f79.body.getD .skip
def arw:=cL LM
def LL:=cR LM
def arv:=cL LL
def LK:=cR LL
def LJ:=cL LK
def LI:=cR LK
def aru:=cL LJ
def LH:=cR LJ
def LG:=cL LH
def art:=cR LH
def ars:=cL LG
def arq:=cR LG
def arp:=cL LI
def aro:=cR LI
set_option maxRecDepth 10000 in
theorem abY{w:World}{M:Hp}{X:Fr}(d:Dg){aV:Option Addr}{aU:Nat}{bz:Value}(xs:List Cr)(lo:Int)(x:Da)(n:Int)(aC:aF aG (M.un X.h) aV aU d.ae)(hn:0<=n/\n<=1000)(hE:(Ud d x.a false).1<xs.length/\(Ud d x.a false).2<4)(S:SH w M X [Rs.aW [Rs.row aG bz xs]]):C1 Tryz.prog 79 [.agg [.slice aV d.ae.length aU,.int .i64 d.loops].toArray,.agg [bz,.int .i64 lo].toArray,.agg [.int .i64 x.a,.bool x.b].toArray,.int .i64 n] w M X (fun u M' r'=>u=.tuple [.int .i64 (aO x n 0),.int .i64 (aO x n 1),.int .i64 (aO x n 2)].toArray/\M'=M/\r'=Rs.aW [Rs.row aG bz (bg xs (Ud d x.a false).1 (Ud d x.a false).2 (n+1))]):=by
 unfold C1
 replace S:=S.jT
 have gK:d.ae.length*40<=140737488355328:=aC.room
 refine Up (b:=LM) Tryz.func79 rfl Tryz.ntmps79 rfl (fun C hC=>(bq [(0,_),(1,_),(2,_),(3,_)] ⟨rfl,rfl,rfl,rfl,trivial⟩ (U2 arw LL rfl rfl rfl (U0 rfl (ak 0 1 rfl rfl rfl (bA (l:=[_,_]) rfl rfl rfl rfl rfl S ?_))))))
 intro aI w1 S1;clear S
 refine ak 1 2 rfl rfl rfl (bA (l:=[_,_]) rfl rfl rfl rfl rfl S1 ?_)
 intro aQ w2 S2;clear S1
 refine ak 2 3 rfl rfl rfl (bA (l:=[_,_]) rfl rfl rfl rfl rfl S2 ?_)
 intro bE w3 S3;clear S2
 refine ag 3 3 rfl rfl (U5 rfl (ah [3,4,5,6] rfl (U3 (U2 arv LK rfl rfl rfl (Ux rfl (by kernel_rfl) S3 8 rfl ?_)))))
 clear S3
 refine aj 0 7 rfl (by kernel_rfl) (fun _ _ _ hz Sz=>.inl (U8 (us:=[_,_]) rfl rfl ay rfl az (Sz.suf.ax (i:=1) rfl ⟨rfl,rfl,trivial⟩))) ?_
 refine aj 1 6 rfl (by kernel_rfl) (fun _ _ _ hz Sz=>.inl (U8 (us:=[_,_]) rfl rfl ay rfl az (Sz.suf.ax (i:=2) rfl ⟨rfl,rfl,trivial⟩))) ?_
 refine ai 2 5 rfl (by kernel_rfl) (fun _=>U1 rfl rfl aZ rfl (aB) (aA)) ?_
 refine aj 3 4 rfl (by kernel_rfl) (fun _ _ _ hz Sz=>.inl (U4 rfl rfl av rfl (Sz.suf.ar (i:=0) rfl rfl))) ?_
 refine aj 4 3 rfl (by kernel_rfl) (fun _ _ _ hz Sz=>Uq rfl rfl rfl rfl rfl lj Sz (lH d x.a false ((aC.mono (Hp.Ua hz Sz.mx)).mono Sz.Uw) Sz.aD)) ?_
 refine ai 5 2 rfl (by kernel_rfl) (fun _=>run_move rfl rfl) ?_
 refine ai 6 1 rfl (by kernel_rfl) (fun _=>Ug rfl rfl rfl (by first|omega|(simp only[ls];omega))) ?_
 refine Un (i:=7) 0 rfl (by kernel_rfl) rfl rfl (fun mb cw=>?_)
 have bZ:=cw.pick [3,0,1,2] [_,_,_,_] (by decide) ⟨rfl,rfl,rfl,rfl,trivial⟩;clear cw
 have bN:SH _ _ _ (Rs.aW [_]::[_,_,_]):=SH.iD (A:=[_]) (B:=[_,_,_]) bZ;clear bZ
 have bX:SH _ _ _ [_,_,_,_]:=bN.less (i:=0) rfl
 have gL:=sj xs lo ((Ud d x.a false).1) ((Ud d x.a false).2) (n+1) (by exact hE.1) (by exact hE.2) (bN.gN (i:=0) rfl);clear bX
 refine(jk (i:=0) rfl rfl rfl rfl rfl rfl rfl tE bN rfl gL ?_)
 intro avz lB M9 avM ck bM jc;clear bN
 obtain⟨kq,gX,kP⟩:=jc
 rw[gX]at bM
 clear gX
 subst kq
 subst kP
 replace bM:SH _ _ _ (Rs.aW [_]::[_,_,_]):=bM
 have bI:SH _ _ _ [_,_,_,_]:=SH.je (A:=[_]) (B:=[_,_,_]) bM;clear bM
 refine aN.turn (by kernel_rfl) bI ?_;clear bI
 change WA _ _ _ _ _ _ _ _ _ _ _ _ [_,_,_,_]
 refine Uu (by kernel_rfl) (fun jY bY=>?_)
 refine ah [3,6] rfl (U3 (U2 LJ LI rfl rfl rfl (U2 aru LH rfl rfl rfl (U0 rfl (af 0 rfl (U1 rfl rfl aZ rfl (fI) (fH)) (af 1 rfl (U4 rfl rfl dh rfl (bY.ar (i:=1) rfl rfl)) (U5 rfl (ah [3,6,20] rfl ?_))))))))
 refine U3 ?_
 refine cS LG art rfl rfl rfl rfl (fun pJ=>?_) (fun pJ=>?_)
 ·refine U2 ars arq rfl rfl rfl (Ux rfl (by kernel_rfl) bY 8 rfl ?_)
  clear bY
  refine ai 0 7 rfl (by kernel_rfl) (fun _=>run_move rfl rfl) ?_
  refine ai 1 6 rfl (by kernel_rfl) (fun _=>Ug rfl rfl rfl (by first|omega|(simp only[ls];omega))) ?_
  refine ai 2 5 rfl (by kernel_rfl) (fun _=>run_move rfl rfl) ?_
  refine ai 3 4 rfl (by kernel_rfl) (fun _=>U1 rfl rfl aZ rfl (aB) (aA)) ?_
  refine aj 4 3 rfl (by kernel_rfl) (fun _ _ _ hz Sz=>.inl (U4 rfl rfl av rfl (Sz.suf.ar (i:=1) rfl rfl))) ?_
  refine ai 5 2 rfl (by kernel_rfl) (fun _=>run_assign rfl rfl) ?_
  refine ai 6 1 rfl (by kernel_rfl) (fun _=>run_assign rfl rfl) ?_
  refine ai 7 0 rfl (by kernel_rfl) (fun _=>run_assign rfl rfl) ?_
  refine Uu (by kernel_rfl) (fun rB ey=>?_)
  refine ah [8,9,10] rfl (U3 (Uj hC [_,_,_] rfl rfl ⟨rfl,rfl,rfl,trivial⟩ ?_))
  refine⟨_,rfl,_,_,Hp.le_refl _,(ey.pick [0] [_] (by decide) ⟨rfl,trivial⟩).aW,?_⟩
  refine⟨?_,rfl,rfl⟩
  show Value.tuple [_,_,_].toArray=_
  unfold aO
  first|(rw[if_pos (by assumption)];rfl)|(rw[if_neg (by simp[*])];rfl)
 ·refine Uf rfl (ah [3,6] rfl (U3 (U2 arp aro rfl rfl rfl (U0 rfl (af 0 rfl (U1 rfl rfl aZ rfl (aB) (aA)) (af 1 rfl (U4 rfl rfl av rfl (bY.ar (i:=1) rfl rfl)) (ag 2 2 rfl rfl (af 4 rfl (Ug rfl rfl rfl (by first|omega|(simp only[ls];omega))) ?_))))))))
  refine ag 5 3 rfl rfl (U5 rfl (ah [8,9,10] rfl (U3 (Uj hC [_,_,_] rfl rfl ⟨rfl,rfl,rfl,trivial⟩ ?_))))
  refine⟨_,rfl,_,_,Hp.le_refl _,(bY.pick [0] [_] (by decide) ⟨rfl,trivial⟩).aW,?_⟩
  refine⟨?_,rfl,rfl⟩
  show Value.tuple [_,_,_].toArray=_
  unfold aO
  first|(rw[if_pos (by assumption)];rfl)|(rw[if_neg (by simp[*])];rfl)
noncomputable def LF:=Tryz.f80.body.getD .skip
def arn:=cL LF
def LD:=cR LF
def arl:=cL LD
def LC:=cR LD
def ark:=cL LC
def LB:=cR LC
def LA:=cL LB
def Lz:=cR LB
def arj:=cL LA
def Lx:=cR LA
def Lv:=cL Lx
def Lu:=cR Lx
def ari:=cL Lv
def Lt:=cR Lv
def Ls:=cL Lt
def Lr:=cR Lt
def arh:=cL Ls
def Lq:=cR Ls
def arf:=cL Lq
def Lp:=cR Lq
def ard:=cL Lp
def Lm:=cR Lp
def arc:=cL Lm
def arb:=cR Lm
def ara:=cL Lr
def Ll:=cR Lr
def aq9:=cL Ll
def Lj:=cR Ll
def aq8:=cL Lj
def Li:=cR Lj
def aq7:=cL Li
def aq6:=cR Li
def aq5:=cL Lu
def Lh:=cR Lu
def Lg:=cL Lh
def Lf:=cR Lh
def aq4:=cL Lg
def Le:=cR Lg
def aq3:=cL Le
def Ld:=cR Le
def aq2:=cL Ld
def Lc:=cR Ld
def aq1:=cL Lc
def aq0:=cR Lc
def aqZ:=cL Lf
def Lb:=cR Lf
def aqY:=cL Lb
def La:=cR Lb
def aqX:=cL La
def K9:=cR La
def aqW:=cL K9
def aqV:=cR K9
def aqU:=cL Lz
def aqT:=cR Lz
set_option maxRecDepth 10000 in
theorem acf{w:World}{M:Hp}{X:Fr}(e:Int)(n:Int)(w0:Int)(s0:Int)(sG:Bool)(sN:Bool)(standing:Bool)(S:SH w M X []):Cq Tryz.prog 80 [.int .i64 e,.int .i64 n,.int .i64 w0,.int .i64 s0,.bool sG,.bool sN,.bool standing] w M X (fun u=>u=.agg (lD (fW e n w0 s0 sG sN standing)).toArray):=by
 unfold Cq
 refine Up (b:=LF) Tryz.func80 rfl Tryz.ntmps80 rfl (fun C hC=>(bq [(0,_),(1,_),(2,_),(3,_),(4,_),(5,_),(6,_)] ⟨rfl,rfl,rfl,rfl,rfl,rfl,rfl,trivial⟩ (U2 arn LD rfl rfl rfl (U0 rfl (ak 0 1 rfl rfl rfl (Uh (l:=[_,_,_,_,_]) rfl rfl rfl kz rfl S ?_))))))
 intro aI w1 S1;clear S
 refine U5 rfl (U3 (U2 arl LC rfl rfl rfl (U0 rfl (ag 0 1 rfl rfl (U5 rfl (ah [0,1,2,3,4,5,6,14] rfl (U3 (U2 ark LB rfl rfl rfl ?_))))))))
 refine U0 rfl (ag 0 1 rfl rfl (U5 rfl (ah [0,1,2,3,4,5,6,14] rfl (U3 (U2 LA Lz rfl rfl rfl ?_)))))
 refine mA (fun au aM=>∃(l0:Int) (l1:Int) (l2:Int) (l3:Int) (co:Int) (OZ:Nat),Env 63 [(14,.pointer (some ⟨aI,0,none⟩)),(15,.slice (some ⟨OZ,0,none⟩) 4 4),(16,.int .i64 co)] au/\SH aM M X [Rs.box OZ 3 [.int .i64 l0,.int .i64 l1,.int .i64 l2,.int .i64 l3],Rs.box aI 77 [.int .i64 0,.int .i64 0,.int .i64 0,.int .i64 0,.bool false]]/\fW e n w0 s0 sG sN standing=⟨l0,l1,l2,l3,decide (co=3)⟩) ?_ ?_
 ·refine U2 arj Lx rfl rfl rfl (U0 rfl (ag 0 1 rfl rfl (U5 rfl (ah [0,1,2,3,4,5,14,17] rfl (U3 ?_)))))
  refine cS Lv Lu rfl rfl rfl rfl (fun ij=>?_) (fun ij=>?_)
  ·subst ij
   refine U2 ari Lt rfl rfl rfl (U0 rfl (ag 0 1 rfl rfl (U5 rfl (ah [0,1,2,3,4,14,18] rfl (U3 ?_)))))
   refine cS Ls Lr rfl rfl rfl rfl (fun l5=>?_) (fun l5=>?_)
   ·subst l5
    refine U2 arh Lq rfl rfl rfl (U0 rfl (ag 0 4 rfl rfl (ak 4 5 rfl rfl rfl (wC (C:=Uv) (l:=[_,_,_,_]) (pl:=[(0,1),(1,1),(2,1),(3,1)]) rfl rfl rfl rfl bw rfl rfl rfl rfl rfl S1 ?_))))
    intro aQ w4 S4;clear S1
    refine ag 5 1 rfl rfl (U5 rfl (ah [4,14,15] rfl (U3 (U2 arf Lp rfl rfl rfl (U0 rfl (ag 0 1 rfl rfl (U5 rfl (U3 ?_))))))))
    refine U2 ard Lm rfl rfl rfl (U0 rfl (ag 0 1 rfl rfl (af 1 rfl (dE rfl rfl) (U5 rfl (ah [14,15,16,25] rfl (U3 ?_))))))
    refine cS arc arb rfl rfl rfl rfl (fun tB=>?_) (fun tB=>?_)
    ·simp only[Bool.and_eq_true,Bool.or_eq_true,Bool.and_eq_false_iff,Bool.or_eq_false_iff,decide_eq_true_eq,decide_eq_false_iff_not,Bool.not_eq_true',Bool.not_eq_false']at tB
     subst tB
     refine U0 rfl (ag 0 1 rfl rfl (U5 rfl (aP ?_)))
     intro au aq
     refine⟨e,n,w0,s0,1,_,aq.sub ⟨rfl,rfl,rfl,trivial⟩,S4.pick [0,1] [_,_] (by decide) ⟨rfl,rfl,trivial⟩,?cd⟩
     case cd=>rfl
    ·simp only[Bool.and_eq_true,Bool.or_eq_true,Bool.and_eq_false_iff,Bool.or_eq_false_iff,decide_eq_true_eq,decide_eq_false_iff_not,Bool.not_eq_true',Bool.not_eq_false']at tB
     subst tB
     refine Uf rfl (aP ?_)
     intro au aq
     refine⟨e,n,w0,s0,3,_,aq.sub ⟨rfl,rfl,rfl,trivial⟩,S4.pick [0,1] [_,_] (by decide) ⟨rfl,rfl,trivial⟩,?cu⟩
     case cu=>rfl
   ·subst l5
    refine U2 ara Ll rfl rfl rfl (U0 rfl (ag 0 4 rfl rfl (ak 4 5 rfl rfl rfl (wC (C:=Uv) (l:=[_,_,_,_]) (pl:=[(0,1),(1,1),(2,1),(3,1)]) rfl rfl rfl rfl bw rfl rfl rfl rfl rfl S1 ?_))))
    intro bE w6 S6;clear S1
    refine ag 5 1 rfl rfl (U5 rfl (ah [4,14,15] rfl (U3 (U2 aq9 Lj rfl rfl rfl (U0 rfl (ag 0 1 rfl rfl (U5 rfl (U3 ?_))))))))
    refine U2 aq8 Li rfl rfl rfl (U0 rfl (ag 0 1 rfl rfl (af 1 rfl (dE rfl rfl) (U5 rfl (ah [14,15,16,32] rfl (U3 ?_))))))
    refine cS aq7 aq6 rfl rfl rfl rfl (fun tA=>?_) (fun tA=>?_)
    ·simp only[Bool.and_eq_true,Bool.or_eq_true,Bool.and_eq_false_iff,Bool.or_eq_false_iff,decide_eq_true_eq,decide_eq_false_iff_not,Bool.not_eq_true',Bool.not_eq_false']at tA
     subst tA
     refine U0 rfl (ag 0 1 rfl rfl (U5 rfl (aP ?_)))
     intro au aq
     refine⟨w0,s0,e,n,3,_,aq.sub ⟨rfl,rfl,rfl,trivial⟩,S6.pick [0,1] [_,_] (by decide) ⟨rfl,rfl,trivial⟩,?dO⟩
     case dO=>rfl
    ·simp only[Bool.and_eq_true,Bool.or_eq_true,Bool.and_eq_false_iff,Bool.or_eq_false_iff,decide_eq_true_eq,decide_eq_false_iff_not,Bool.not_eq_true',Bool.not_eq_false']at tA
     subst tA
     refine Uf rfl (aP ?_)
     intro au aq
     refine⟨w0,s0,e,n,1,_,aq.sub ⟨rfl,rfl,rfl,trivial⟩,S6.pick [0,1] [_,_] (by decide) ⟨rfl,rfl,trivial⟩,?eU⟩
     case eU=>rfl
  ·subst ij
   refine U2 aq5 Lh rfl rfl rfl (U0 rfl (ag 0 1 rfl rfl (U5 rfl (ah [0,1,2,3,5,14,33] rfl (U3 ?_)))))
   refine cS Lg Lf rfl rfl rfl rfl (fun G5=>?_) (fun G5=>?_)
   ·subst G5
    refine U2 aq4 Le rfl rfl rfl (U0 rfl (ag 0 4 rfl rfl (ak 4 5 rfl rfl rfl (wC (C:=Uv) (l:=[_,_,_,_]) (pl:=[(0,1),(1,1),(2,1),(3,1)]) rfl rfl rfl rfl bw rfl rfl rfl rfl rfl S1 ?_))))
    intro gY w8 S8;clear S1
    refine ag 5 1 rfl rfl (U5 rfl (ah [5,14,15] rfl (U3 (U2 aq3 Ld rfl rfl rfl (U0 rfl (ag 0 1 rfl rfl (U5 rfl (U3 ?_))))))))
    refine U2 aq2 Lc rfl rfl rfl (U0 rfl (ag 0 1 rfl rfl (af 1 rfl (dE rfl rfl) (U5 rfl (ah [14,15,16,40] rfl (U3 ?_))))))
    refine cS aq1 aq0 rfl rfl rfl rfl (fun jH=>?_) (fun jH=>?_)
    ·simp only[Bool.and_eq_true,Bool.or_eq_true,Bool.and_eq_false_iff,Bool.or_eq_false_iff,decide_eq_true_eq,decide_eq_false_iff_not,Bool.not_eq_true',Bool.not_eq_false']at jH
     subst jH
     refine U0 rfl (ag 0 1 rfl rfl (U5 rfl (aP ?_)))
     intro au aq
     refine⟨s0,e,n,w0,3,_,aq.sub ⟨rfl,rfl,rfl,trivial⟩,S8.pick [0,1] [_,_] (by decide) ⟨rfl,rfl,trivial⟩,?fB⟩
     case fB=>rfl
    ·simp only[Bool.and_eq_true,Bool.or_eq_true,Bool.and_eq_false_iff,Bool.or_eq_false_iff,decide_eq_true_eq,decide_eq_false_iff_not,Bool.not_eq_true',Bool.not_eq_false']at jH
     subst jH
     refine Uf rfl (aP ?_)
     intro au aq
     refine⟨s0,e,n,w0,1,_,aq.sub ⟨rfl,rfl,rfl,trivial⟩,S8.pick [0,1] [_,_] (by decide) ⟨rfl,rfl,trivial⟩,?iz⟩
     case iz=>rfl
   ·subst G5
    refine U2 aqZ Lb rfl rfl rfl (U0 rfl (ag 0 4 rfl rfl (ak 4 5 rfl rfl rfl (wC (C:=Uv) (l:=[_,_,_,_]) (pl:=[(0,1),(1,1),(2,1),(3,1)]) rfl rfl rfl rfl bw rfl rfl rfl rfl rfl S1 ?_))))
    intro iq jZ bF;clear S1
    refine ag 5 1 rfl rfl (U5 rfl (ah [5,14,15] rfl (U3 (U2 aqY La rfl rfl rfl (U0 rfl (ag 0 1 rfl rfl (U5 rfl (U3 ?_))))))))
    refine U2 aqX K9 rfl rfl rfl (U0 rfl (ag 0 1 rfl rfl (af 1 rfl (dE rfl rfl) (U5 rfl (ah [14,15,16,47] rfl (U3 ?_))))))
    refine cS aqW aqV rfl rfl rfl rfl (fun pH=>?_) (fun pH=>?_)
    ·simp only[Bool.and_eq_true,Bool.or_eq_true,Bool.and_eq_false_iff,Bool.or_eq_false_iff,decide_eq_true_eq,decide_eq_false_iff_not,Bool.not_eq_true',Bool.not_eq_false']at pH
     subst pH
     refine U0 rfl (ag 0 1 rfl rfl (U5 rfl (aP ?_)))
     intro au aq
     refine⟨n,w0,s0,e,1,_,aq.sub ⟨rfl,rfl,rfl,trivial⟩,bF.pick [0,1] [_,_] (by decide) ⟨rfl,rfl,trivial⟩,?iX⟩
     case iX=>rfl
    ·simp only[Bool.and_eq_true,Bool.or_eq_true,Bool.and_eq_false_iff,Bool.or_eq_false_iff,decide_eq_true_eq,decide_eq_false_iff_not,Bool.not_eq_true',Bool.not_eq_false']at pH
     subst pH
     refine Uf rfl (aP ?_)
     intro au aq
     refine⟨n,w0,s0,e,3,_,aq.sub ⟨rfl,rfl,rfl,trivial⟩,bF.pick [0,1] [_,_] (by decide) ⟨rfl,rfl,trivial⟩,?jA⟩
     case jA=>rfl
 ·rintro a1 w2 ⟨l0,l1,l2,l3,co,OZ,bh,S2,hlc⟩
  clear S1
  refine mG bh ?_
  clear bh a1
  refine U3 (U2 aqU aqT rfl rfl rfl (Ux rfl (by kernel_rfl) S2 16 rfl ?_))
  clear S2
  refine ai 0 15 rfl (by kernel_rfl) (fun _=>run_move rfl rfl) ?_
  refine aj 1 14 rfl (by kernel_rfl) (fun _ _ _ hz Sz=>.inl (mZ (e:=0) (k:=1) rfl rfl rfl dD aY (by first|rfl|omega) (by decide) rfl)) ?_
  refine aj 2 13 rfl (by kernel_rfl) (fun _ _ _ hz Sz=>.inl (U4 rfl rfl av rfl (Sz.suf.ar (i:=0) rfl rfl))) ?_
  refine ai 3 12 rfl (by kernel_rfl) (fun _=>run_move rfl rfl) ?_
  refine aj 4 11 rfl (by kernel_rfl) (fun _ _ _ hz Sz=>.inl (mZ (e:=1) (k:=1) rfl rfl rfl dD aY (by first|rfl|omega) (by decide) rfl)) ?_
  refine aj 5 10 rfl (by kernel_rfl) (fun _ _ _ hz Sz=>.inl (U4 rfl rfl av rfl (Sz.suf.ar (i:=0) rfl rfl))) ?_
  refine ai 6 9 rfl (by kernel_rfl) (fun _=>run_move rfl rfl) ?_
  refine aj 7 8 rfl (by kernel_rfl) (fun _ _ _ hz Sz=>.inl (mZ (e:=2) (k:=1) rfl rfl rfl dD aY (by first|rfl|omega) (by decide) rfl)) ?_
  refine aj 8 7 rfl (by kernel_rfl) (fun _ _ _ hz Sz=>.inl (U4 rfl rfl av rfl (Sz.suf.ar (i:=0) rfl rfl))) ?_
  refine ai 9 6 rfl (by kernel_rfl) (fun _=>run_move rfl rfl) ?_
  refine aj 10 5 rfl (by kernel_rfl) (fun _ _ _ hz Sz=>.inl (mZ (e:=3) (k:=1) rfl rfl rfl dD aY (by first|rfl|omega) (by decide) rfl)) ?_
  refine aj 11 4 rfl (by kernel_rfl) (fun _ _ _ hz Sz=>.inl (U4 rfl rfl av rfl (Sz.suf.ar (i:=0) rfl rfl))) ?_
  refine ai 12 3 rfl (by kernel_rfl) (fun _=>run_move rfl rfl) ?_
  refine ai 13 2 rfl (by kernel_rfl) (fun _=>bP rfl rfl rfl) ?_
  refine aj 14 1 rfl (by kernel_rfl) (fun _ _ _ hz Sz=>.inl (run_build (l:=[_,_,_,_,_]) rfl rfl lW rfl rfl)) ?_
  refine Un (i:=15) 0 rfl (by kernel_rfl) rfl rfl (fun yU ey=>?_)
  refine(U7 (i:=1) (us:=[_,_,_,_,_]) (l':=[_,_,_,_,_]) (H':=[_,_]) rfl rfl ey rfl rfl rfl rfl bT rfl rfl rfl rfl ?_)
  intro l9 cy;clear ey
  refine aN.turn (by kernel_rfl) cy ?_;clear cy
  change WA _ _ _ _ _ _ _ _ _ _ _ _ [_,_]
  refine Uu (by kernel_rfl) (fun pX dL=>?_)
  refine ah [14] rfl (U3 (Uj hC [_] rfl rfl ⟨⟨_,rfl,Um (us:=[_,_,_,_,_]) aT rfl bT (dL.ax (i:=1) rfl ⟨rfl,rfl,rfl,rfl,rfl,trivial⟩)⟩,trivial⟩ ?_))
  exact⟨_,rfl,(dL.pick [] [] (by decide) trivial),(by rw[hlc];rfl)⟩
noncomputable def K8:=Tryz.f81.body.getD .skip
def aqS:=cL K8
def K7:=cR K8
def aqR:=cL K7
def aqQ:=cR K7
set_option maxRecDepth 10000 in
theorem D6{w:World}{M:Hp}{X:Fr}(d:Dg){aV:Option Addr}{aU:Nat}(a:Int)(aC:aF aG (M.un X.h) aV aU d.ae)(hab:aX d=true)(ha:1<=a/\a<=2*(d.ae.length:Int))(S:SH w M X []):Cq Tryz.prog 81 [.agg [.slice aV d.ae.length aU,.int .i64 d.loops].toArray,.int .i64 a] w M X (fun u=>u=.int .i64 (hgt d a:Int)):=by
 unfold Cq
 have gK:d.ae.length*40<=140737488355328:=aC.room
 obtain⟨_,hx1,_⟩:=fe hab ha false
 obtain⟨_,hx2,_⟩:=fe hab ha true
 refine Up (b:=K8) Tryz.func81 rfl Tryz.ntmps81 rfl (fun C hC=>(bq [(0,_),(1,_)] ⟨rfl,rfl,trivial⟩ (U2 aqS K7 rfl rfl rfl (U0 rfl (ak 0 1 rfl rfl rfl (bA (l:=[_,_]) rfl rfl rfl rfl rfl S ?_))))))
 intro aI w1 S1;clear S
 refine ag 1 1 rfl rfl (U5 rfl (ah [1,2] rfl (U3 (U2 aqR aqQ rfl rfl rfl (Ux rfl (by kernel_rfl) S1 12 rfl ?_)))))
 clear S1
 refine aj 0 11 rfl (by kernel_rfl) (fun _ _ _ hz Sz=>.inl (U8 (us:=[_,_]) rfl rfl ay rfl az (Sz.suf.ax (i:=0) rfl ⟨rfl,rfl,trivial⟩))) ?_
 refine ai 1 10 rfl (by kernel_rfl) (fun _=>run_move rfl rfl) ?_
 refine aj 2 9 rfl (by kernel_rfl) (fun _ _ _ hz Sz=>Uq rfl rfl rfl rfl rfl lj Sz (lH d a false ((aC.mono (Hp.Ua hz Sz.mx)).mono Sz.Uw) Sz.aD)) ?_
 refine ai 3 8 rfl (by kernel_rfl) (fun _=>mr rfl rfl cN rfl av rfl rfl) ?_
 refine ai 4 7 rfl (by kernel_rfl) (fun _=>jq rfl rfl rfl (by first|omega|(simp only[ls];omega))) ?_
 refine aj 5 6 rfl (by kernel_rfl) (fun _ _ _ hz Sz=>.inl (U8 (us:=[_,_]) rfl rfl ay rfl az (Sz.suf.ax (i:=0) rfl ⟨rfl,rfl,trivial⟩))) ?_
 refine ai 6 5 rfl (by kernel_rfl) (fun _=>run_move rfl rfl) ?_
 refine aj 7 4 rfl (by kernel_rfl) (fun _ _ _ hz Sz=>Uq rfl rfl rfl rfl rfl lj Sz (lH d a true ((aC.mono (Hp.Ua hz Sz.mx)).mono Sz.Uw) Sz.aD)) ?_
 refine ai 8 3 rfl (by kernel_rfl) (fun _=>mr rfl rfl cN rfl av rfl rfl) ?_
 refine ai 9 2 rfl (by kernel_rfl) (fun _=>jq rfl rfl rfl (by first|omega|(simp only[ls];omega))) ?_
 refine ai 10 1 rfl (by kernel_rfl) (fun _=>Ug rfl rfl rfl (by first|omega|(simp only[ls];omega))) ?_
 refine ai 11 0 rfl (by kernel_rfl) (fun _=>run_assign rfl rfl) ?_
 refine Uu (by kernel_rfl) (fun jY bN=>?_)
 refine ah [4] rfl (U3 (Uj hC [_] rfl rfl ⟨rfl,trivial⟩ ?_))
 exact⟨_,rfl,(bN.pick [] [] (by decide) trivial),(by show Value.int _ _=_;unfold hgt;rfl)⟩
theorem ahP{x:Cr}{k:Nat}(hk:k<4)(h:decide (cD x k=cD x ((k+1)%4))=true):curlN x 4=true:=by
 obtain rfl|rfl|rfl|rfl:k=0\/k=1\/k=2\/k=3:=by omega
 all_goals simp only[curlN,h,Bool.or_true,Bool.true_or]
noncomputable def K6:=Tryz.f34.body.getD .skip
def aqP:=cL K6
def K5:=cR K6
def K4:=cL K5
def K3:=cR K5
def aqO:=cL K4
def ae0:=cR K4
def aeZ:=cL ae0
def K1:=cL aeZ
def K0:=cL K1
def KZ:=cR K1
def aqN:=cL K0
def KY:=cR K0
def aqM:=cL KY
def aqL:=cR KY
def aeY:=cL KZ
def aqK:=cR KZ
def KX:=cL aeY
def aqJ:=cL KX
def KW:=cR KX
def KV:=cL KW
def aqI:=cR KW
def aqH:=cL KV
def aqG:=cR KV
def aqF:=cL K3
def aqE:=cR K3
set_option maxRecDepth 10000 in
theorem ahQ{w:World}{M:Hp}{X:Fr}(d:Dg){aV:Option Addr}{aU:Nat}(i:Nat)(aC:aF aG (M.un X.h) aV aU d.ae)(hi:i<d.ae.length)(S:SH w M X []):Cq Tryz.prog 34 [.agg [.slice aV d.ae.length aU,.int .i64 d.loops].toArray,.int .i64 (i:Int)] w M X (fun u=>u=.bool (curlN (ga d.ae i) 4)):=by
 unfold Cq
 have gK:d.ae.length*40<=140737488355328:=aC.room
 refine Up (b:=K6) Tryz.func34 rfl Tryz.ntmps34 rfl (fun C hC=>(bq [(0,_),(1,_)] ⟨rfl,rfl,trivial⟩ (U2 aqP K5 rfl rfl rfl (U0 rfl (ak 0 1 rfl rfl rfl (bA (l:=[_,_]) rfl rfl rfl rfl rfl S ?_))))))
 intro aI w1 S1;clear S
 refine ag 1 1 rfl rfl (U5 rfl (ah [1,2] rfl (U3 (U2 K4 K3 rfl rfl rfl (U2 aqO ae0 rfl rfl rfl (U0 rfl (ag 0 1 rfl rfl (U5 rfl ?_))))))))
 refine U3 (Uc aeZ 0 rfl rfl rfl ?_)
 refine Uz (fun aS au aM=>∃(k:Nat),aS=4-k/\Env 23 [(1,.int .i64 (i:Int)),(2,.pointer (some ⟨aI,0,none⟩)),(5,.int .i64 (k:Int))] au/\SH aM M X [Rs.box aI 24 [.slice aV d.ae.length aU,.int .i64 d.loops]]/\k<=4/\curlN (ga d.ae i) k=false) rfl ?_ ?_
 ·intro au aq
  refine⟨_,⟨0,rfl,aq.sub ⟨rfl,rfl,rfl,trivial⟩,S1.pick [0] [_] (by decide) ⟨rfl,trivial⟩,?cd,?cT⟩⟩
  case cd=>omega
  case cT=>rfl
 ·rintro m1 a1 w2 ⟨k,rfl,bh,S2,hk,hno⟩
  clear S1
  refine b7 bh (c:=K1) rfl ?_
  clear bh a1
  refine U2 K0 KZ rfl rfl rfl (U2 aqN KY rfl rfl rfl (U0 rfl (ag 0 1 rfl rfl (af 1 rfl (bV rfl rfl rfl) (U5 rfl (ah [1,2,5,7] rfl (U3 ?_)))))))
  refine Ue aqM aqL rfl rfl rfl rfl (fun OS=>?_) (fun OS=>?_)
  ·refine Uf rfl (ah [1,2,5] rfl (U3 (U2 aeY aqK rfl rfl rfl (Uc KX 1 rfl rfl rfl (U2 aqJ KW rfl rfl rfl (Ux rfl (by kernel_rfl) S2 13 rfl ?_))))))
   clear S2
   refine aj 0 12 rfl (by kernel_rfl) (fun _ _ _ hz Sz=>.inl (U8 (us:=[_,_]) rfl rfl ay rfl az (Sz.suf.ax (i:=0) rfl ⟨rfl,rfl,trivial⟩))) ?_
   refine ai 1 11 rfl (by kernel_rfl) (fun _=>run_move rfl rfl) ?_
   refine ai 2 10 rfl (by kernel_rfl) (fun _=>run_move rfl rfl) ?_
   refine aj 3 9 rfl (by kernel_rfl) (fun _ _ _ hz Sz=>.inl (run_build (l:=[_,_]) rfl rfl oa rfl rfl)) ?_
   refine aj 4 8 rfl (by kernel_rfl) (fun _ _ _ hz Sz=>Uq rfl rfl rfl rfl rfl pN Sz (oY d i k ((aC.mono (Hp.Ua hz Sz.mx)).mono Sz.Uw) (by omega) (by omega) Sz.aD)) ?_
   refine aj 5 7 rfl (by kernel_rfl) (fun _ _ _ hz Sz=>.inl (U8 (us:=[_,_]) rfl rfl ay rfl az (Sz.suf.ax (i:=0) rfl ⟨rfl,rfl,trivial⟩))) ?_
   refine ai 6 6 rfl (by kernel_rfl) (fun _=>run_move rfl rfl) ?_
   refine ai 7 5 rfl (by kernel_rfl) (fun _=>run_move rfl rfl) ?_
   refine ai 8 4 rfl (by kernel_rfl) (fun _=>Ug rfl rfl rfl (by first|omega|(simp only[ls];omega))) ?_
   refine ai 9 3 rfl (by kernel_rfl) (fun _=>jq rfl rfl rfl (by first|omega|(simp only[ls];omega))) ?_
   refine jz 19 (.int .i64 (((k+1)%4:Nat):Int)) rfl (int_eq (by omega)) ?_
   refine aj 10 2 rfl (by kernel_rfl) (fun _ _ _ hz Sz=>.inl (run_build (l:=[_,_]) rfl rfl oa rfl rfl)) ?_
   refine aj 11 1 rfl (by kernel_rfl) (fun _ _ _ hz Sz=>Uq rfl rfl rfl rfl rfl pN Sz (oY d i ((k+1)%4) ((aC.mono (Hp.Ua hz Sz.mx)).mono Sz.Uw) (by omega) (by omega) Sz.aD)) ?_
   refine ai 12 0 rfl (by kernel_rfl) (fun _=>bP rfl rfl rfl) ?_
   refine Uu (by kernel_rfl) (fun ma bM=>?_)
   refine ah [1,2,5,22] rfl (U3 ?_)
   refine Ue KV aqI rfl rfl rfl rfl (fun yf=>?_) (fun yf=>?_)
   ·refine U2 aqH aqG rfl rfl rfl (U0 rfl (ag 0 1 rfl rfl (U5 rfl (ah [4] rfl (U3 (Uj hC [_] rfl rfl ⟨rfl,trivial⟩ ?_))))))
    exact⟨_,rfl,(bM.pick [] [] (by decide) trivial),(by show Value.bool _=Value.bool _;rw[ahP (k:=k) (by omega) (decide_eq_true yf)])⟩
   ·refine Uf rfl (bk (ah [1,2,5] rfl (U3 (U0 rfl (ag 0 1 rfl rfl (af 1 rfl (Ug rfl rfl rfl (by first|omega|(simp only[ls];omega))) ?_))))))
    refine ag 2 1 rfl rfl (U5 rfl (aP ?_))
    intro au aq
    refine⟨_,?dJ,⟨k+1,rfl,aq.sub ⟨rfl,rfl,rfl,trivial⟩,bM.pick [0] [_] (by decide) ⟨rfl,trivial⟩,?cu,?cY⟩⟩
    case cu=>omega
    case cY=>(rw[curlN,hno];exact decide_eq_false yf)
    case dJ=>omega
  ·refine bS rfl rfl (bL [] trivial (U3 (U2 aqF aqE rfl rfl rfl (U0 rfl (ag 0 1 rfl rfl (U5 rfl (U3 (Uj hC [_] rfl rfl ⟨rfl,trivial⟩ ?_))))))))
   exact⟨_,rfl,(S2.pick [] [] (by decide) trivial),(by obtain rfl:k=4:=(by omega);show Value.bool _=Value.bool _;rw[hno])⟩
noncomputable def KU:=Tryz.f35.body.getD .skip
def aqD:=cL KU
def KT:=cR KU
def KS:=cL KT
def KR:=cR KT
def aqC:=cL KS
def KQ:=cR KS
def KP:=cL KQ
def aqB:=cR KQ
def aqA:=cL KP
def aqz:=cR KP
def aqy:=cL KR
def aqx:=cR KR
set_option maxRecDepth 10000 in
theorem aav{w:World}{M:Hp}{X:Fr}(d:Dg){aV:Option Addr}{aU:Nat}(aC:aF aG M aV aU d.ae)(S:SH w M X []):Ct Tryz.prog 35 [.agg [.slice aV d.ae.length aU,.int .i64 d.loops].toArray] w M X (qq (kL (if d.loops<=16 then 0 else 2) d)):=by
 unfold Ct
 have gK:d.ae.length*40<=140737488355328:=aC.room
 refine Up (b:=KU) Tryz.func35 rfl Tryz.ntmps35 rfl (fun C hC=>(bq [(0,_)] ⟨rfl,trivial⟩ (U2 aqD KT rfl rfl rfl (U0 rfl (ak 0 1 rfl rfl rfl (bA (l:=[_,_]) rfl rfl rfl rfl rfl S ?_))))))
 intro aI w1 S1;clear S
 refine ak 1 2 rfl rfl rfl (Uh (l:=[_,_]) rfl rfl rfl fQ rfl S1 ?_)
 intro aQ w2 S2;clear S1
 refine ag 2 1 rfl rfl (U5 rfl (ah [1,2] rfl (U3 (U2 KS KR rfl rfl rfl (U2 aqC KQ rfl rfl rfl (U0 rfl (af 0 rfl (U1 rfl rfl ay rfl (aB) (aA)) (af 1 rfl (U4 rfl rfl av rfl (S2.ar (i:=1) rfl rfl)) ?_))))))))
 refine af 2 rfl (oW rfl rfl rfl) (U5 rfl (ah [1,2,6] rfl (U3 ?_)))
 refine Ue KP aqB rfl rfl rfl rfl (fun ue=>?_) (fun ue=>?_)
 ·refine U2 aqA aqz rfl rfl rfl (U0 rfl (af 0 rfl (run_build (l:=[_,_]) rfl rfl cJ rfl rfl) (ak 1 2 rfl rfl rfl (U7 (i:=0) (us:=[_,_]) (l':=[_,_]) (H':=[_,_]) rfl rfl S2 rfl rfl rfl rfl az rfl rfl rfl rfl ?_))))
  intro w3 S3;clear S2
  refine ag 2 1 rfl rfl (U5 rfl (ah [2,3] rfl (U3 (Uj hC [_,_] rfl rfl ⟨⟨_,rfl,Um (us:=[_,_]) ay rfl az (S3.ax (i:=0) rfl ⟨rfl,rfl,trivial⟩)⟩,rfl,trivial⟩ ?_))))
  refine⟨_,rfl,_,Hp.le_refl _,(S3.pick [] [] (by decide) trivial),?_⟩
  rw[eH (c:=2) (by rw[if_neg (by omega)]) (by decide)]
  exact dU 2
 ·refine Uf rfl (ah [1,2] rfl (U3 (U2 aqy aqx rfl rfl rfl (U0 rfl (af 0 rfl (U8 (us:=[_,_]) rfl rfl ay rfl az (S2.ax (i:=1) rfl ⟨rfl,rfl,trivial⟩)) (ak 1 2 rfl rfl rfl (U7 (i:=0) (us:=[_,_]) (l':=[_,_]) (H':=[_,_]) rfl rfl S2 rfl rfl rfl rfl az rfl rfl rfl rfl ?_)))))))
  intro w4 S4;clear S2
  refine ag 2 1 rfl rfl (U5 rfl (ah [2,3] rfl (U3 (Uj hC [_,_] rfl rfl ⟨⟨_,rfl,Um (us:=[_,_]) ay rfl az (S4.ax (i:=0) rfl ⟨rfl,rfl,trivial⟩)⟩,rfl,trivial⟩ ?_))))
  refine⟨_,rfl,_,Hp.le_refl _,(S4.pick [] [] (by decide) trivial),?_⟩
  rw[r9 (E:=d) (by rw[if_pos (by omega)]) rfl]
  exact⟨_,_,rfl,aC⟩
theorem rM(x y:Da):decide (y.a=x.a/\y.b=x.b)=nR x y:=by
 unfold nR
 refine decide_eq_decide.2 ⟨fun h=>⟨h.1.symm,h.2.symm⟩,fun h=>⟨h.1.symm,h.2.symm⟩⟩
theorem rL{α:Type}[Inhabited α](p:α->Bool)(xs:List α){i:Nat}(hi:i<xs.length):(xs.take (i+1)).any p=((xs.take i).any p||p (ga xs i)):=by
 rw[Al xs i hi,List.any_append]
 simp
noncomputable def KO:=Tryz.f78.body.getD .skip
def aqw:=cL KO
def KN:=cR KO
def aqv:=cL KN
def KM:=cR KN
def KL:=cL KM
def KJ:=cR KM
def aqu:=cL KL
def aeX:=cR KL
def aeW:=cL aeX
def KI:=cL aeW
def KH:=cL KI
def KG:=cR KI
def aqt:=cL KH
def KF:=cR KH
def aqs:=cL KF
def aqr:=cR KF
def aeV:=cL KG
def aqq:=cR KG
def KE:=cL aeV
def aqp:=cL KE
def KD:=cR KE
def KC:=cL KD
def KB:=cR KD
def aqo:=cL KC
def aeU:=cR KC
def aeT:=cL aeU
def KA:=cL aeT
def Kz:=cL KA
def Ky:=cR KA
def aqn:=cL Kz
def Kw:=cR Kz
def aqm:=cL Kw
def aql:=cR Kw
def aeS:=cL Ky
def aqk:=cR Ky
def Kv:=cL aeS
def aqj:=cL Kv
def aqi:=cR Kv
def aqh:=cL KB
def Ku:=cR KB
def Ks:=cL Ku
def aeR:=cR Ku
def aqg:=cL Ks
def aqf:=cR Ks
def aqe:=cL KJ
def aqd:=cR KJ
set_option maxRecDepth 10000 in
theorem agh{w:World}{M:Hp}{X:Fr}(d:Dg){aV:Option Addr}{aU:Nat}(u:Da)(v:Da)(aC:aF aG (M.un X.h) aV aU d.ae)(hn:d.ae.length<=16)(hab:aX d=true)(S:SH w M X []):Ct Tryz.prog 78 [.agg [.slice aV d.ae.length aU,.int .i64 d.loops].toArray,.agg [.int .i64 u.a,.bool u.b].toArray,.agg [.int .i64 v.a,.bool v.b].toArray] w M X (fun x _=>x=.bool ((U6 d).any (mj u v))):=by
 unfold Ct
 have gK:d.ae.length*40<=140737488355328:=aC.room
 refine Up (b:=KO) Tryz.func78 rfl Tryz.ntmps78 rfl (fun C hC=>(bq [(0,_),(1,_),(2,_)] ⟨rfl,rfl,rfl,trivial⟩ (U2 aqw KN rfl rfl rfl (U0 rfl (ak 0 1 rfl rfl rfl (bA (l:=[_,_]) rfl rfl rfl rfl rfl S ?_))))))
 intro aI w1 S1;clear S
 refine ak 1 2 rfl rfl rfl (bA (l:=[_,_]) rfl rfl rfl rfl rfl S1 ?_)
 intro aQ w2 S2;clear S1
 refine ak 2 3 rfl rfl rfl (bA (l:=[_,_]) rfl rfl rfl rfl rfl S2 ?_)
 intro bE w3 S3;clear S2
 refine ag 3 1 rfl rfl (U5 rfl (ah [3,4,5] rfl (U3 (U2 aqv KM rfl rfl rfl (U0 rfl (af 0 rfl (U8 (us:=[_,_]) rfl rfl ay rfl az (S3.ax (i:=2) rfl ⟨rfl,rfl,trivial⟩)) (ak 1 2 rfl rfl rfl (fp rfl rfl rfl rfl rfl rfl rfl BK S3 (zX d (aC.mono S3.Uw) (hn) (hab) S3.aD) ?_))))))))
 intro vw4 w4 M1 aL S4 ym;clear S3
 replace aC:=aC.mono (Hp.Ua aL S4.mx)
 obtain⟨A1,c1,vs1,rfl,hr1,hd1⟩:=ym
 have acL:=hd1.1
 refine ag 2 1 rfl rfl (U5 rfl (ah [4,5,7] rfl (U3 (U2 KL KJ rfl rfl rfl (U2 aqu aeX rfl rfl rfl (U0 rfl (ag 0 1 rfl rfl (U5 rfl ?_))))))))
 refine U3 (Uc aeW 0 rfl rfl rfl ?_)
 refine Uz (fun aS au aM=>∃(i:Nat),aS=(U6 d).length-i/\Env 57 [(4,.pointer (some ⟨aQ,0,none⟩)),(5,.pointer (some ⟨bE,0,none⟩)),(7,.slice A1 vs1.length c1),(8,.int .i64 (i:Int))] au/\SH aM M1 X [Rs.box bE 26 [.int .i64 v.a,.bool v.b],Rs.box aQ 26 [.int .i64 u.a,.bool u.b]]/\i<=(U6 d).length/\(∀j,j<i->mj u v (ga (U6 d) j)=false)) rfl ?_ ?_
 ·intro au aq
  refine⟨_,⟨0,rfl,aq.sub ⟨rfl,rfl,rfl,rfl,trivial⟩,S4.pick [0,1] [_,_] (by decide) ⟨rfl,rfl,trivial⟩,?cd,?cT⟩⟩
  case cd=>omega
  case cT=>(intro j hj;omega)
 ·rintro m1 a1 w5 ⟨i,rfl,bh,S5,hi,hno⟩
  clear S4
  refine b7 bh (c:=KI) rfl ?_
  clear bh a1
  have amt:=zN d
  refine U2 KH KG rfl rfl rfl (U2 aqt KF rfl rfl rfl (U0 rfl (ag 0 2 rfl rfl (af 2 rfl (cI rfl rfl rfl rfl rfl rfl kY) (af 3 rfl (bV rfl rfl rfl) (U5 rfl (ah [4,5,7,8,17] rfl (U3 ?_))))))))
  refine Ue aqs aqr rfl rfl rfl rfl (fun ij=>?_) (fun ij=>?_)
  ·refine Uf rfl (ah [4,5,7,8] rfl (U3 (U2 aeV aqq rfl rfl rfl (Uc KE 1 rfl rfl rfl (U2 aqp KD rfl rfl rfl (U0 rfl (ag 0 2 rfl rfl (U5 rfl ?_))))))))
   refine U3 (U2 KC KB rfl rfl rfl (U2 aqo aeU rfl rfl rfl (U0 rfl (ag 0 1 rfl rfl (U5 rfl (U3 (Uc aeT 2 rfl rfl rfl ?_)))))))
   refine Uz (fun aS au aM=>∃(k:Nat) (a:Bool) (b:Bool),aS=(ga (U6 d) i).length-k/\Env 57 [(4,.pointer (some ⟨aQ,0,none⟩)),(5,.pointer (some ⟨bE,0,none⟩)),(7,.slice A1 vs1.length c1),(8,.int .i64 (i:Int)),(9,.bool a),(10,.bool b),(11,.int .i64 (k:Int))] au/\SH aM M1 X [Rs.box bE 26 [.int .i64 v.a,.bool v.b],Rs.box aQ 26 [.int .i64 u.a,.bool u.b]]/\k<=(ga (U6 d) i).length/\a=((ga (U6 d) i).take k).any (nR u)/\b=((ga (U6 d) i).take k).any (nR v)) rfl ?_ ?_
   ·intro au aq
    refine⟨_,⟨0,false,false,rfl,aq.sub ⟨rfl,rfl,rfl,rfl,rfl,rfl,rfl,trivial⟩,S5.pick [0,1] [_,_] (by decide) ⟨rfl,rfl,trivial⟩,?cu,?cY,?ku⟩⟩
    case cu=>omega
    case cY=>rfl
    case ku=>rfl
   ·rintro m2 a2 w6 ⟨k,a,b,rfl,cx,S6,hk,ha,hb⟩
    clear S5
    refine b7 cx (c:=KA) rfl ?_
    clear cx a2
    refine U2 Kz Ky rfl rfl rfl (U2 aqn Kw rfl rfl rfl (U0 rfl (ag 0 3 rfl rfl (af 3 rfl (Uk (C:=(cB 141)) i rfl rfl rfl jF (by first|rfl|omega) hr1 (by first|omega|(simp only[ls];omega))) ?_))))
    obtain⟨kN,hr2⟩:=hd1.2 i (by first|omega|(simp only[ls];omega))
    have FI:(ga (U6 d) i).length*16<=140737488355328:=hr2.room
    refine af 4 rfl (U4 rfl rfl ig rfl (hr1.cell S6.m (i:=i) (by first|omega|(simp only[ls];omega)) 0 rfl (congrArg (fun n=>some (Value.slice _ n _)) kN))) ?_
    refine af 5 rfl (cI rfl rfl rfl rfl rfl rfl ig) (af 6 rfl (bV rfl rfl rfl) (U5 rfl (ah [4,5,7,8,9,10,11,26] rfl (U3 ?_))))
    refine Ue aqm aql rfl rfl rfl rfl (fun ye=>?_) (fun ye=>?_)
    ·refine Uf rfl (ah [4,5,7,8,9,10,11] rfl (U3 (U2 aeS aqk rfl rfl rfl (Uc Kv 3 rfl rfl rfl (U2 aqj aqi rfl rfl rfl (Ux rfl (by kernel_rfl) S6 13 rfl ?_))))))
     clear S6
     refine ai 0 12 rfl (by kernel_rfl) (fun _=>run_move rfl rfl) ?_
     refine ai 1 11 rfl (by kernel_rfl) (fun _=>run_move rfl rfl) ?_
     refine wL (t:=30) rfl (fun mM=>?_) (fun mM=>?_)
     ·refine Ur (i:=2) (d:=31) 10 rfl (by kernel_rfl) (by kernel_rfl) (by kernel_rfl) ⟨_,_,_,rfl,rfl,rfl,rfl⟩ rfl rfl ?_
      refine Ur (i:=3) (d:=32) 9 rfl (by kernel_rfl) (by kernel_rfl) (by kernel_rfl) ⟨_,_,_,rfl,rfl,rfl,rfl⟩ rfl rfl ?_
      refine Ur (i:=4) (d:=33) 8 rfl (by kernel_rfl) (by kernel_rfl) (by kernel_rfl) ⟨_,_,_,rfl,rfl,rfl,rfl⟩ rfl rfl ?_
      refine Ur (i:=5) (d:=34) 7 rfl (by kernel_rfl) (by kernel_rfl) (by kernel_rfl) ⟨_,_,_,rfl,rfl,rfl,rfl⟩ rfl rfl ?_
      refine Ur (i:=6) (d:=35) 6 rfl (by kernel_rfl) (by kernel_rfl) (by kernel_rfl) ⟨_,_,_,rfl,rfl,rfl,rfl⟩ rfl rfl ?_
      refine Ur (i:=7) (d:=36) 5 rfl (by kernel_rfl) (by kernel_rfl) (by kernel_rfl) ⟨_,_,_,rfl,rfl,rfl,rfl⟩ rfl rfl ?_
      refine Ur (i:=8) (d:=37) 4 rfl (by kernel_rfl) (by kernel_rfl) (by kernel_rfl) ⟨_,_,_,rfl,rfl,rfl,rfl⟩ rfl rfl ?_
      refine Ur (i:=9) (d:=38) 3 rfl (by kernel_rfl) (by kernel_rfl) (by kernel_rfl) ⟨_,_,_,rfl,rfl,rfl,rfl⟩ rfl rfl ?_
      refine Ur (i:=10) (d:=39) 2 rfl (by kernel_rfl) (by kernel_rfl) (by kernel_rfl) ⟨_,_,_,rfl,rfl,rfl,rfl⟩ rfl rfl ?_
      refine ai 11 1 rfl (by kernel_rfl) (fun _=>fL rfl rfl rfl) ?_
      refine ai 12 0 rfl (by kernel_rfl) (fun _=>run_assign rfl rfl) ?_
      refine Uu (by kernel_rfl) (fun kH bQ=>?_)
      refine ah [4,5,7,8,9,10,11] rfl (U3 (Ux rfl (by kernel_rfl) bQ 13 rfl ?_))
      clear bQ
      refine ai 0 12 rfl (by kernel_rfl) (fun _=>run_move rfl rfl) ?_
      refine ai 1 11 rfl (by kernel_rfl) (fun _=>run_move rfl rfl) ?_
      refine wL (t:=42) rfl (fun nG=>?_) (fun nG=>?_)
      ·refine Ur (i:=2) (d:=43) 10 rfl (by kernel_rfl) (by kernel_rfl) (by kernel_rfl) ⟨_,_,_,rfl,rfl,rfl,rfl⟩ rfl rfl ?_
       refine Ur (i:=3) (d:=44) 9 rfl (by kernel_rfl) (by kernel_rfl) (by kernel_rfl) ⟨_,_,_,rfl,rfl,rfl,rfl⟩ rfl rfl ?_
       refine Ur (i:=4) (d:=45) 8 rfl (by kernel_rfl) (by kernel_rfl) (by kernel_rfl) ⟨_,_,_,rfl,rfl,rfl,rfl⟩ rfl rfl ?_
       refine Ur (i:=5) (d:=46) 7 rfl (by kernel_rfl) (by kernel_rfl) (by kernel_rfl) ⟨_,_,_,rfl,rfl,rfl,rfl⟩ rfl rfl ?_
       refine Ur (i:=6) (d:=47) 6 rfl (by kernel_rfl) (by kernel_rfl) (by kernel_rfl) ⟨_,_,_,rfl,rfl,rfl,rfl⟩ rfl rfl ?_
       refine Ur (i:=7) (d:=48) 5 rfl (by kernel_rfl) (by kernel_rfl) (by kernel_rfl) ⟨_,_,_,rfl,rfl,rfl,rfl⟩ rfl rfl ?_
       refine Ur (i:=8) (d:=49) 4 rfl (by kernel_rfl) (by kernel_rfl) (by kernel_rfl) ⟨_,_,_,rfl,rfl,rfl,rfl⟩ rfl rfl ?_
       refine Ur (i:=9) (d:=50) 3 rfl (by kernel_rfl) (by kernel_rfl) (by kernel_rfl) ⟨_,_,_,rfl,rfl,rfl,rfl⟩ rfl rfl ?_
       refine Ur (i:=10) (d:=51) 2 rfl (by kernel_rfl) (by kernel_rfl) (by kernel_rfl) ⟨_,_,_,rfl,rfl,rfl,rfl⟩ rfl rfl ?_
       refine ai 11 1 rfl (by kernel_rfl) (fun _=>fL rfl rfl rfl) ?_
       refine ai 12 0 rfl (by kernel_rfl) (fun _=>run_assign rfl rfl) ?_
       refine Uu (by kernel_rfl) (fun ma bM=>?_)
       refine bk (ah [4,5,7,8,9,10,11] rfl (U3 (U0 rfl (ag 0 1 rfl rfl (af 1 rfl (Ug rfl rfl rfl (by first|omega|(simp only[ls];omega))) ?_)))))
       refine ag 2 1 rfl rfl (U5 rfl (aP ?_))
       intro au aq
       refine⟨_,?kC,⟨k+1,_,_,rfl,aq.sub ⟨rfl,rfl,rfl,rfl,rfl,rfl,rfl,trivial⟩,bM.pick [0,1] [_,_] (by decide) ⟨rfl,rfl,trivial⟩,?dO,?gh,?ny⟩⟩
       case dO=>omega
       case gh=>(rw[rL _ _ (by omega),<-ha,<-rM];(try rw[mM]);rfl)
       case ny=>(rw[rL _ _ (by omega),<-hb,<-rM];(try rw[nG]);rfl)
       case kC=>omega
      ·refine ai 2 10 rfl (by kernel_rfl) (fun _=>run_move rfl rfl) ?_
       refine ai 3 9 rfl (by kernel_rfl) (fun _=>run_move rfl rfl) ?_
       refine aj 4 8 rfl (by kernel_rfl) (fun _ _ _ hz Sz=>.inl (Uk (C:=(cB 141)) i rfl rfl rfl jF (by first|rfl|omega) (hr1.mono hz) (by first|omega|(simp only[ls];omega)))) ?_
       obtain⟨mR,hr3⟩:=hd1.2 i (by first|omega|(simp only[ls];omega))
       have acB:(ga (U6 d) i).length*16<=140737488355328:=hr3.room
       refine aj 5 7 rfl (by kernel_rfl) (fun _ _ _ hz Sz=>.inl (U4 rfl rfl ig rfl ((hr1.mono hz).cell Sz.m (i:=i) (by first|omega|(simp only[ls];omega)) 0 rfl (congrArg (fun n=>some (Value.slice _ n _)) mR)))) ?_
       refine ai 6 6 rfl (by kernel_rfl) (fun _=>run_move rfl rfl) ?_
       refine aj 7 5 rfl (by kernel_rfl) (fun _ _ _ hz Sz=>.inl (Uk (C:=bW) k rfl rfl rfl gM (by first|rfl|omega) (hr3.mono hz) (by first|omega|(simp only[ls];omega)))) ?_
       refine aj 8 4 rfl (by kernel_rfl) (fun _ _ _ hz Sz=>.inl (U8 (us:=[_,_]) rfl rfl aZ rfl cg ((hr3.mono hz).fq Sz.m (e:=k) (by first|omega|(simp only[ls];omega)) (j:=0) ⟨rfl,rfl,trivial⟩))) ?_
       refine aj 9 3 rfl (by kernel_rfl) (fun _ _ _ hz Sz=>.inl (U8 (us:=[_,_]) rfl rfl aZ rfl cg (Sz.suf.ax (i:=0) rfl ⟨rfl,rfl,trivial⟩))) ?_
       refine ai 10 2 rfl (by kernel_rfl) (fun _=>z6 (Q:=((ga (ga (U6 d) i) k).a)=v.a/\((ga (ga (U6 d) i) k).b)=v.b) rfl rfl rfl xR ⟨_,_,_,_,rfl,rfl,⟨_,_,rfl,rfl,rfl⟩,rfl⟩) ?_
       refine ai 11 1 rfl (by kernel_rfl) (fun _=>iU rfl rfl rfl) ?_
       refine ai 12 0 rfl (by kernel_rfl) (fun _=>run_assign rfl rfl) ?_
       refine Uu (by kernel_rfl) (fun l9 cy=>?_)
       refine bk (ah [4,5,7,8,9,10,11] rfl (U3 (U0 rfl (ag 0 1 rfl rfl (af 1 rfl (Ug rfl rfl rfl (by first|omega|(simp only[ls];omega))) ?_)))))
       refine ag 2 1 rfl rfl (U5 rfl (aP ?_))
       intro au aq
       refine⟨_,?jG,⟨k+1,_,_,rfl,aq.sub ⟨rfl,rfl,rfl,rfl,rfl,rfl,rfl,trivial⟩,cy.pick [0,1] [_,_] (by decide) ⟨rfl,rfl,trivial⟩,?eU,?gQ,?o8⟩⟩
       case eU=>omega
       case gQ=>(rw[rL _ _ (by omega),<-ha,<-rM];(try rw[mM]);rfl)
       case o8=>(rw[rL _ _ (by omega),<-hb,<-rM];(try rw[nG]);rfl)
       case jG=>omega
     ·refine ai 2 10 rfl (by kernel_rfl) (fun _=>run_move rfl rfl) ?_
      refine ai 3 9 rfl (by kernel_rfl) (fun _=>run_move rfl rfl) ?_
      refine aj 4 8 rfl (by kernel_rfl) (fun _ _ _ hz Sz=>.inl (Uk (C:=(cB 141)) i rfl rfl rfl jF (by first|rfl|omega) (hr1.mono hz) (by first|omega|(simp only[ls];omega)))) ?_
      obtain⟨zh,hr4⟩:=hd1.2 i (by first|omega|(simp only[ls];omega))
      have FH:(ga (U6 d) i).length*16<=140737488355328:=hr4.room
      refine aj 5 7 rfl (by kernel_rfl) (fun _ _ _ hz Sz=>.inl (U4 rfl rfl ig rfl ((hr1.mono hz).cell Sz.m (i:=i) (by first|omega|(simp only[ls];omega)) 0 rfl (congrArg (fun n=>some (Value.slice _ n _)) zh)))) ?_
      refine ai 6 6 rfl (by kernel_rfl) (fun _=>run_move rfl rfl) ?_
      refine aj 7 5 rfl (by kernel_rfl) (fun _ _ _ hz Sz=>.inl (Uk (C:=bW) k rfl rfl rfl gM (by first|rfl|omega) (hr4.mono hz) (by first|omega|(simp only[ls];omega)))) ?_
      refine aj 8 4 rfl (by kernel_rfl) (fun _ _ _ hz Sz=>.inl (U8 (us:=[_,_]) rfl rfl aZ rfl cg ((hr4.mono hz).fq Sz.m (e:=k) (by first|omega|(simp only[ls];omega)) (j:=0) ⟨rfl,rfl,trivial⟩))) ?_
      refine aj 9 3 rfl (by kernel_rfl) (fun _ _ _ hz Sz=>.inl (U8 (us:=[_,_]) rfl rfl aZ rfl cg (Sz.suf.ax (i:=1) rfl ⟨rfl,rfl,trivial⟩))) ?_
      refine ai 10 2 rfl (by kernel_rfl) (fun _=>z6 (Q:=((ga (ga (U6 d) i) k).a)=u.a/\((ga (ga (U6 d) i) k).b)=u.b) rfl rfl rfl xR ⟨_,_,_,_,rfl,rfl,⟨_,_,rfl,rfl,rfl⟩,rfl⟩) ?_
      refine ai 11 1 rfl (by kernel_rfl) (fun _=>iU rfl rfl rfl) ?_
      refine ai 12 0 rfl (by kernel_rfl) (fun _=>run_assign rfl rfl) ?_
      refine Uu (by kernel_rfl) (fun tM dG=>?_)
      refine ah [4,5,7,8,9,10,11] rfl (U3 (Ux rfl (by kernel_rfl) dG 13 rfl ?_))
      clear dG
      refine ai 0 12 rfl (by kernel_rfl) (fun _=>run_move rfl rfl) ?_
      refine ai 1 11 rfl (by kernel_rfl) (fun _=>run_move rfl rfl) ?_
      refine wL (t:=42) rfl (fun nG=>?_) (fun nG=>?_)
      ·refine Ur (i:=2) (d:=43) 10 rfl (by kernel_rfl) (by kernel_rfl) (by kernel_rfl) ⟨_,_,_,rfl,rfl,rfl,rfl⟩ rfl rfl ?_
       refine Ur (i:=3) (d:=44) 9 rfl (by kernel_rfl) (by kernel_rfl) (by kernel_rfl) ⟨_,_,_,rfl,rfl,rfl,rfl⟩ rfl rfl ?_
       refine Ur (i:=4) (d:=45) 8 rfl (by kernel_rfl) (by kernel_rfl) (by kernel_rfl) ⟨_,_,_,rfl,rfl,rfl,rfl⟩ rfl rfl ?_
       refine Ur (i:=5) (d:=46) 7 rfl (by kernel_rfl) (by kernel_rfl) (by kernel_rfl) ⟨_,_,_,rfl,rfl,rfl,rfl⟩ rfl rfl ?_
       refine Ur (i:=6) (d:=47) 6 rfl (by kernel_rfl) (by kernel_rfl) (by kernel_rfl) ⟨_,_,_,rfl,rfl,rfl,rfl⟩ rfl rfl ?_
       refine Ur (i:=7) (d:=48) 5 rfl (by kernel_rfl) (by kernel_rfl) (by kernel_rfl) ⟨_,_,_,rfl,rfl,rfl,rfl⟩ rfl rfl ?_
       refine Ur (i:=8) (d:=49) 4 rfl (by kernel_rfl) (by kernel_rfl) (by kernel_rfl) ⟨_,_,_,rfl,rfl,rfl,rfl⟩ rfl rfl ?_
       refine Ur (i:=9) (d:=50) 3 rfl (by kernel_rfl) (by kernel_rfl) (by kernel_rfl) ⟨_,_,_,rfl,rfl,rfl,rfl⟩ rfl rfl ?_
       refine Ur (i:=10) (d:=51) 2 rfl (by kernel_rfl) (by kernel_rfl) (by kernel_rfl) ⟨_,_,_,rfl,rfl,rfl,rfl⟩ rfl rfl ?_
       refine ai 11 1 rfl (by kernel_rfl) (fun _=>fL rfl rfl rfl) ?_
       refine ai 12 0 rfl (by kernel_rfl) (fun _=>run_assign rfl rfl) ?_
       refine Uu (by kernel_rfl) (fun tK eN=>?_)
       refine bk (ah [4,5,7,8,9,10,11] rfl (U3 (U0 rfl (ag 0 1 rfl rfl (af 1 rfl (Ug rfl rfl rfl (by first|omega|(simp only[ls];omega))) ?_)))))
       refine ag 2 1 rfl rfl (U5 rfl (aP ?_))
       intro au aq
       refine⟨_,?kB,⟨k+1,_,_,rfl,aq.sub ⟨rfl,rfl,rfl,rfl,rfl,rfl,rfl,trivial⟩,eN.pick [0,1] [_,_] (by decide) ⟨rfl,rfl,trivial⟩,?fB,?gP,?o7⟩⟩
       case fB=>omega
       case gP=>(rw[rL _ _ (by omega),<-ha,<-rM];(try rw[mM]);rfl)
       case o7=>(rw[rL _ _ (by omega),<-hb,<-rM];(try rw[nG]);rfl)
       case kB=>omega
      ·refine ai 2 10 rfl (by kernel_rfl) (fun _=>run_move rfl rfl) ?_
       refine ai 3 9 rfl (by kernel_rfl) (fun _=>run_move rfl rfl) ?_
       refine aj 4 8 rfl (by kernel_rfl) (fun _ _ _ hz Sz=>.inl (Uk (C:=(cB 141)) i rfl rfl rfl jF (by first|rfl|omega) (hr1.mono hz) (by first|omega|(simp only[ls];omega)))) ?_
       obtain⟨hn4,p9⟩:=hd1.2 i (by first|omega|(simp only[ls];omega))
       have akc:(ga (U6 d) i).length*16<=140737488355328:=p9.room
       refine aj 5 7 rfl (by kernel_rfl) (fun _ _ _ hz Sz=>.inl (U4 rfl rfl ig rfl ((hr1.mono hz).cell Sz.m (i:=i) (by first|omega|(simp only[ls];omega)) 0 rfl (congrArg (fun n=>some (Value.slice _ n _)) hn4)))) ?_
       refine ai 6 6 rfl (by kernel_rfl) (fun _=>run_move rfl rfl) ?_
       refine aj 7 5 rfl (by kernel_rfl) (fun _ _ _ hz Sz=>.inl (Uk (C:=bW) k rfl rfl rfl gM (by first|rfl|omega) (p9.mono hz) (by first|omega|(simp only[ls];omega)))) ?_
       refine aj 8 4 rfl (by kernel_rfl) (fun _ _ _ hz Sz=>.inl (U8 (us:=[_,_]) rfl rfl aZ rfl cg ((p9.mono hz).fq Sz.m (e:=k) (by first|omega|(simp only[ls];omega)) (j:=0) ⟨rfl,rfl,trivial⟩))) ?_
       refine aj 9 3 rfl (by kernel_rfl) (fun _ _ _ hz Sz=>.inl (U8 (us:=[_,_]) rfl rfl aZ rfl cg (Sz.suf.ax (i:=0) rfl ⟨rfl,rfl,trivial⟩))) ?_
       refine ai 10 2 rfl (by kernel_rfl) (fun _=>z6 (Q:=((ga (ga (U6 d) i) k).a)=v.a/\((ga (ga (U6 d) i) k).b)=v.b) rfl rfl rfl xR ⟨_,_,_,_,rfl,rfl,⟨_,_,rfl,rfl,rfl⟩,rfl⟩) ?_
       refine ai 11 1 rfl (by kernel_rfl) (fun _=>iU rfl rfl rfl) ?_
       refine ai 12 0 rfl (by kernel_rfl) (fun _=>run_assign rfl rfl) ?_
       refine Uu (by kernel_rfl) (fun Od mv=>?_)
       refine bk (ah [4,5,7,8,9,10,11] rfl (U3 (U0 rfl (ag 0 1 rfl rfl (af 1 rfl (Ug rfl rfl rfl (by first|omega|(simp only[ls];omega))) ?_)))))
       refine ag 2 1 rfl rfl (U5 rfl (aP ?_))
       intro au aq
       refine⟨_,?lZ,⟨k+1,_,_,rfl,aq.sub ⟨rfl,rfl,rfl,rfl,rfl,rfl,rfl,trivial⟩,mv.pick [0,1] [_,_] (by decide) ⟨rfl,rfl,trivial⟩,?iz,?jB,?xF⟩⟩
       case iz=>omega
       case jB=>(rw[rL _ _ (by omega),<-ha,<-rM];(try rw[mM]);rfl)
       case xF=>(rw[rL _ _ (by omega),<-hb,<-rM];(try rw[nG]);rfl)
       case lZ=>omega
    ·refine bS rfl rfl (ah [4,5,7,8,9,10] rfl (U3 (U2 aqh Ku rfl rfl rfl ?_)))
     obtain rfl:k=(ga (U6 d) i).length:=by omega
     rw[List.take_length]at ha hb
     refine U0 rfl (ag 0 2 rfl rfl ?_)
     refine mX (t:=54) rfl (fun BA=>?_) (fun BA=>?_)
     ·refine ag 2 2 rfl rfl (U5 rfl (ah [4,5,7,8,56] rfl (U3 ?_)))
      refine cS Ks aeR rfl rfl rfl rfl (fun BG=>?_) (fun BG=>?_)
      ·have amD:mj u v (ga (U6 d) i)=true:=by unfold mj;rw[<-ha,<-hb,BA,BG];rfl
       refine U2 aqg aqf rfl rfl rfl (U0 rfl (ag 0 1 rfl rfl (U5 rfl (ah [6] rfl (U3 (Uj hC [_] rfl rfl ⟨rfl,trivial⟩ ?_))))))
       refine⟨_,rfl,_,aL,(S6.pick [] [] (by decide) trivial),?_⟩
       have:=gZ (show i<(U6 d).length by omega)
       show Value.bool _=Value.bool _
       rw[List.any_eq_true.2 ⟨_,this,amD⟩]
      ·refine Uf rfl (bk (ah [4,5,7,8] rfl (U3 (U0 rfl (ag 0 1 rfl rfl (af 1 rfl (Ug rfl rfl rfl (by first|omega|(simp only[ls];omega))) ?_))))))
       refine ag 2 1 rfl rfl (U5 rfl (aP ?_))
       have Gq:mj u v (ga (U6 d) i)=false:=by unfold mj;rw[<-ha,<-hb];first|(rw[BA];rfl)|(rw[BG,Bool.and_false])
       intro au aq
       refine⟨_,?lY,⟨i+1,rfl,aq.sub ⟨rfl,rfl,rfl,rfl,trivial⟩,S6.pick [0,1] [_,_] (by decide) ⟨rfl,rfl,trivial⟩,?iX,?kr⟩⟩
       case iX=>omega
       case kr=>(intro j hj;by_cases e:j=i;(subst e;exact Gq);exact hno j (by omega))
       case lY=>omega
     ·refine ag 2 2 rfl rfl (U5 rfl (ah [4,5,7,8,56] rfl (U3 (lK aeR rfl rfl rfl (Uf rfl (bk (ah [4,5,7,8] rfl (U3 ?_))))))))
      refine U0 rfl (ag 0 1 rfl rfl (af 1 rfl (Ug rfl rfl rfl (by first|omega|(simp only[ls];omega))) ?_))
      refine ag 2 1 rfl rfl (U5 rfl (aP ?_))
      have Gq:mj u v (ga (U6 d) i)=false:=by unfold mj;rw[<-ha,<-hb];first|(rw[BA];rfl)|(rw[BG,Bool.and_false])
      intro au aq
      refine⟨_,?lX,⟨i+1,rfl,aq.sub ⟨rfl,rfl,rfl,rfl,trivial⟩,S6.pick [0,1] [_,_] (by decide) ⟨rfl,rfl,trivial⟩,?jA,?lR⟩⟩
      case jA=>omega
      case lR=>(intro j hj;by_cases e:j=i;(subst e;exact Gq);exact hno j (by omega))
      case lX=>omega
  ·refine bS rfl rfl (bL [] trivial (U3 (U2 aqe aqd rfl rfl rfl (U0 rfl (ag 0 1 rfl rfl (U5 rfl (U3 (Uj hC [_] rfl rfl ⟨rfl,trivial⟩ ?_))))))))
   refine⟨_,rfl,_,aL,(S5.pick [] [] (by decide) trivial),?_⟩
   show Value.bool _=Value.bool _
   rw[List.any_eq_false.2 (fun x hx=>by obtain⟨j,hj,rfl⟩:=List.mem_iff_getElem.1 hx;rw[<-fJ hj,hno j (by omega)];decide)]
end Go.Proofs.YthppkofceancjaaGreat
