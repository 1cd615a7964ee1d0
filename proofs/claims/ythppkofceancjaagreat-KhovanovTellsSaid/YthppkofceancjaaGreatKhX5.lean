/- Part 5 of the proof of the law KhovanovTells: the walks through its functions and the plain laws that they need. -/
import Derived.Test.YthppkofceancjaaGreatKhX4
import Derived.Test.YthppkofceancjaaGreatProg
set_option linter.unusedSimpArgs false
set_option linter.unusedVariables false
noncomputable section
namespace Go.Proofs.YthppkofceancjaaGreat
open Go.ChangeShapes Go.WideShapes Go.ChangeAt Go.RowKit
noncomputable def Z46:=Tryz.f72.body.getD .skip
def Z47:=cL Z46
def Z48:=cR Z46
def Z49:=cL Z48
def Z4a:=cR Z48
def Z4b:=cL Z4a
def Z4c:=cR Z4a
def Z4d:=cL Z4b
def Z4e:=cR Z4b
def Z4f:=cL Z4e
def Z4g:=cL Z4f
def Z4h:=cR Z4f
def Z4i:=cL Z4h
def Z4j:=cR Z4h
def Z4k:=cL Z4i
def Z4l:=cR Z4i
def Z4m:=cL Z4j
def Z4n:=cR Z4j
def Z4o:=cL Z4n
def Z4p:=cR Z4n
def Z4q:=cL Z4o
def Z4r:=cR Z4o
def Z4s:=cL Z4p
def Z4t:=cR Z4p
def Z4u:=cL Z4t
def Z4v:=cR Z4t
def Z4w:=cL Z4u
def Z4x:=cR Z4u
def Z4y:=cL Z4c
def Z4z:=cR Z4c
set_option maxRecDepth 10000 in
theorem adf{w:World}{M:Hp}{X:Fr}(d:Dg){aV:Option Addr}{aU:Nat}(c k:Nat)(ay:aB bw (M.un X.h) aV aU d.ae)(hc:c<d.ae.length)(hk:k<4)(S:SH w M X []):Cq Tryz.prog 72 [.agg [.slice aV d.ae.length aU,.int .i64 d.loops].toArray,.agg [.int .i64 (c:Int),.int .i64 (k:Int)].toArray] w M X (fun u=>u=.int .i64 (cz d c k)):=by
 unfold Cq
 have jH:d.ae.length*40<=140737488355328:=ay.room
 refine Up (b:=Z46) Tryz.func72 rfl Tryz.ntmps72 rfl (fun C hC=>(bu [(0,_),(1,_)] ⟨rfl,rfl,trivial⟩ (U1 Z47 Z48 rfl rfl rfl (U0 rfl (ar 0 1 rfl rfl rfl (cU (l:=[_,_]) rfl rfl rfl rfl rfl S ?_))))))
 intro aI w1 S1;clear S
 refine ar 1 2 rfl rfl rfl (cU (l:=[_,_]) rfl rfl rfl rfl rfl S1 ?_)
 intro bq w2 S2;clear S1
 refine af 2 1 rfl rfl (U3 rfl (ah [2,3] rfl (U2 (U1 Z49 Z4a rfl rfl rfl (U0 rfl (ag 0 rfl (U4 rfl rfl bg rfl (dV) (dS)) (ag 1 rfl (U5 rfl rfl bF rfl (S2.aG (i:=1) rfl rfl)) (ag 2 rfl (U4 rfl rfl iP rfl (aL) (aJ)) ?_))))))))
 refine ag 3 rfl (U5 rfl rfl aw rfl (S2.aG (i:=0) rfl rfl)) (ag 4 rfl (U9 (C:=bw) c rfl rfl rfl mH (by first|rfl|omega) ay (by first|omega|(simp only[ls];omega))) ?_)
 refine ag 5 rfl (Uc (us:=[_,_,_,_,_]) rfl rfl bR rfl kT (ay.fV S2.um (e:=c) (by first|omega|(simp only[ls];omega)) (j:=0) ⟨rfl,rfl,rfl,rfl,rfl,trivial⟩)) ?_
 refine ar 6 7 rfl rfl rfl (dh (l:=[_,_,_,_,_]) rfl rfl rfl y5 rfl S2 ?_)
 intro dD w3 S3;clear S2
 refine ar 7 8 rfl rfl rfl (Uo (i:=0) (us:=[_,_,_,_,_]) (l':=[_,_,_,_,_]) (H':=[_,_,_]) rfl rfl S3 rfl rfl rfl rfl kT rfl rfl rfl rfl ?_)
 intro w4 S4;clear S3
 refine U3 rfl (ah [3,5] rfl (U2 (U1 Z4b Z4c rfl rfl rfl (U1 Z4d Z4e rfl rfl rfl (U0 rfl (ag 0 rfl (U4 rfl rfl iP rfl (aL) (aJ)) (ag 1 rfl (U5 rfl rfl aw rfl (S4.aG (i:=1) rfl rfl)) (U3 rfl ?_))))))))
 refine ah [5,13] rfl (U2 (U7 Z4f 0 rfl rfl rfl (U1 Z4g Z4h rfl rfl rfl (U0 rfl (ag 0 rfl (Uz rfl rfl rfl) (af 1 1 rfl rfl (U3 rfl (ah [5,13,14] rfl ?_))))))))
 refine U2 ?_
 refine Ua Z4i Z4j rfl rfl rfl rfl (fun iT=>?_) (fun iT=>?_)
 ·refine U1 Z4k Z4l rfl rfl rfl (U0 rfl (ag 0 rfl (U4 rfl rfl bR rfl (aL) (aJ)) (ag 1 rfl (U5 rfl rfl aw rfl (S4.aG (i:=0) rfl rfl)) (af 2 1 rfl rfl (U3 rfl (ah [4] rfl (U2 (Us hC [_] rfl rfl ⟨rfl,trivial⟩ ?_))))))))
  exact⟨_,rfl,(S4.pick [] [] (by decide) trivial),(by first|(obtain rfl:k=0:=(by omega);rfl)|(obtain rfl:k=1:=(by omega);rfl)|(obtain rfl:k=2:=(by omega);rfl)|(obtain rfl:k=3:=(by omega);rfl))⟩
 ·refine U1 Z4m Z4n rfl rfl rfl (U0 rfl (ag 0 rfl (Uz rfl rfl rfl) (af 1 1 rfl rfl (U3 rfl (ah [5,13,18] rfl (U2 ?_))))))
  refine Ua Z4o Z4p rfl rfl rfl rfl (fun CF=>?_) (fun CF=>?_)
  ·refine U1 Z4q Z4r rfl rfl rfl (U0 rfl (ag 0 rfl (U4 rfl rfl bR rfl (aL) (aJ)) (ag 1 rfl (U5 rfl rfl aw rfl (S4.aG (i:=0) rfl rfl)) (af 2 1 rfl rfl (U3 rfl (ah [4] rfl (U2 (Us hC [_] rfl rfl ⟨rfl,trivial⟩ ?_))))))))
   exact⟨_,rfl,(S4.pick [] [] (by decide) trivial),(by first|(obtain rfl:k=0:=(by omega);rfl)|(obtain rfl:k=1:=(by omega);rfl)|(obtain rfl:k=2:=(by omega);rfl)|(obtain rfl:k=3:=(by omega);rfl))⟩
  ·refine U1 Z4s Z4t rfl rfl rfl (U0 rfl (ag 0 rfl (Uz rfl rfl rfl) (af 1 1 rfl rfl (U3 rfl (ah [5,22] rfl (U2 ?_))))))
   refine Ua Z4u Z4v rfl rfl rfl rfl (fun Mr=>?_) (fun Mr=>?_)
   ·refine U1 Z4w Z4x rfl rfl rfl (U0 rfl (ag 0 rfl (U4 rfl rfl bR rfl (aL) (aJ)) (ag 1 rfl (U5 rfl rfl aw rfl (S4.aG (i:=0) rfl rfl)) (af 2 1 rfl rfl (U3 rfl (ah [4] rfl (U2 (Us hC [_] rfl rfl ⟨rfl,trivial⟩ ?_))))))))
    exact⟨_,rfl,(S4.pick [] [] (by decide) trivial),(by first|(obtain rfl:k=0:=(by omega);rfl)|(obtain rfl:k=1:=(by omega);rfl)|(obtain rfl:k=2:=(by omega);rfl)|(obtain rfl:k=3:=(by omega);rfl))⟩
   ·refine Ub rfl (Ul (ah [5] rfl (U2 (U1 Z4y Z4z rfl rfl rfl (U0 rfl (ag 0 rfl (U4 rfl rfl bR rfl (aL) (aJ)) (ag 1 rfl (U5 rfl rfl aw rfl (S4.aG (i:=0) rfl rfl)) (af 2 1 rfl rfl ?_))))))))
    refine U3 rfl (ah [4] rfl (U2 (Us hC [_] rfl rfl ⟨rfl,trivial⟩ ?_)))
    exact⟨_,rfl,(S4.pick [] [] (by decide) trivial),(by first|(obtain rfl:k=0:=(by omega);rfl)|(obtain rfl:k=1:=(by omega);rfl)|(obtain rfl:k=2:=(by omega);rfl)|(obtain rfl:k=3:=(by omega);rfl))⟩
noncomputable def Z50:=Tryz.f73.body.getD .skip
def Z51:=cL Z50
def Z52:=cR Z50
def Z53:=cL Z52
def Z54:=cR Z52
set_option maxRecDepth 10000 in
theorem adb{w:World}{M:Hp}{X:Fr}(d:Dg){aV:Option Addr}{aU:Nat}(c k:Nat)(ay:aB bw (M.un X.h) aV aU d.ae)(hc:c<d.ae.length)(hk:k<4)(S:SH w M X []):Cq Tryz.prog 73 [.agg [.slice aV d.ae.length aU,.int .i64 d.loops].toArray,.agg [.int .i64 (c:Int),.int .i64 (k:Int)].toArray] w M X (fun u=>u=.bool (cm d c k)):=by
 unfold Cq
 have jH:d.ae.length*40<=140737488355328:=ay.room
 refine Up (b:=Z50) Tryz.func73 rfl Tryz.ntmps73 rfl (fun C hC=>(bu [(0,_),(1,_)] ⟨rfl,rfl,trivial⟩ (U1 Z51 Z52 rfl rfl rfl (U0 rfl (ar 0 1 rfl rfl rfl (cU (l:=[_,_]) rfl rfl rfl rfl rfl S ?_))))))
 intro aI w1 S1;clear S
 refine ar 1 2 rfl rfl rfl (cU (l:=[_,_]) rfl rfl rfl rfl rfl S1 ?_)
 intro bq w2 S2;clear S1
 refine af 2 1 rfl rfl (U3 rfl (ah [2,3] rfl (U2 (U1 Z53 Z54 rfl rfl rfl (U0 rfl (ag 0 rfl (U4 rfl rfl iP rfl (aL) (aJ)) (ag 1 rfl (U5 rfl rfl aw rfl (S2.aG (i:=0) rfl rfl)) (ag 2 rfl (Uz rfl rfl rfl) ?_))))))))
 refine af 3 1 rfl rfl ?_
 refine Uy (t:=8) rfl (fun hg8=>?_) (fun hg8=>?_)
 ·refine af 4 6 rfl rfl (af 10 6 rfl rfl (af 16 6 rfl rfl (af 22 6 rfl rfl (af 28 5 rfl rfl (U3 rfl (ah [4] rfl (U2 (Us hC [_] rfl rfl ⟨rfl,trivial⟩ ?_))))))))
  exact⟨_,rfl,(S2.pick [] [] (by decide) trivial),(by have e0:k=0\/k=1\/k=2\/k=3:=(by omega);rcases e0 with rfl|rfl|rfl|rfl<;>first|(exfalso;omega)|(show Value.bool _=_;unfold cm nI;simp[*]))⟩
 ·refine aP 4 5 rfl rfl rfl rfl rfl rfl rfl rfl (U8 rfl rfl (U4 rfl rfl iP rfl (aL) (aJ)) (aP 5 6 rfl rfl rfl rfl rfl rfl rfl rfl (U8 rfl rfl (U5 rfl rfl aw rfl (S2.aG (i:=0) rfl rfl)) (aP 6 7 rfl rfl rfl rfl rfl rfl rfl rfl (U8 rfl rfl (Uz rfl rfl rfl) (af 7 1 rfl rfl ?_))))))
  refine Uy (t:=12) rfl (fun arW=>?_) (fun arW=>?_)
  ·refine aP 8 9 rfl rfl rfl rfl rfl rfl rfl rfl (U8 rfl rfl (U4 rfl rfl bg rfl (dV) (dS)) (aP 9 10 rfl rfl rfl rfl rfl rfl rfl rfl (U8 rfl rfl (U5 rfl rfl bF rfl (S2.aG (i:=1) rfl rfl)) (aP 10 11 rfl rfl rfl rfl rfl rfl rfl rfl (U8 rfl rfl (U4 rfl rfl iP rfl (aL) (aJ)) (aP 11 12 rfl rfl rfl rfl rfl rfl rfl rfl (U8 rfl rfl (U5 rfl rfl aw rfl (S2.aG (i:=0) rfl rfl)) (aP 12 13 rfl rfl rfl rfl rfl rfl rfl rfl (U8 rfl rfl (U9 (C:=bw) c rfl rfl rfl mH (by first|rfl|omega) ay (by first|omega|(simp only[ls];omega))) ?_)))))))))
   refine aP 13 14 rfl rfl rfl rfl rfl rfl rfl rfl (U8 rfl rfl (U4 rfl rfl bR rfl (rF) (rh)) (aP 14 15 rfl rfl rfl rfl rfl rfl rfl rfl (U8 rfl rfl (U5 rfl rfl gD rfl (ay.cell S2.um (i:=c) (by first|omega|(simp only[ls];omega)) 4 rfl rfl)) ?_)))
   refine aP 15 16 rfl rfl rfl rfl rfl rfl rfl rfl (U8 rfl rfl (mX rfl rfl) (af 16 3 rfl rfl ?_))
   refine Ap (t:=23) rfl (fun Me=>?_) (fun Me=>?_)
   ·simp only[Bool.and_eq_true,Bool.or_eq_true,Bool.and_eq_false_iff,Bool.or_eq_false_iff,decide_eq_true_eq,decide_eq_false_iff_not,Bool.not_eq_true',Bool.not_eq_false']at Me
    refine af 19 6 rfl rfl (af 25 6 rfl rfl (af 31 2 rfl rfl (U3 rfl (ah [4] rfl (U2 (Us hC [_] rfl rfl ⟨rfl,trivial⟩ ?_))))))
    exact⟨_,rfl,(S2.pick [] [] (by decide) trivial),(by have e0:k=0\/k=1\/k=2\/k=3:=(by omega);rcases e0 with rfl|rfl|rfl|rfl<;>first|(exfalso;omega)|(show Value.bool _=_;unfold cm nI;simp[*]))⟩
   ·simp only[Bool.and_eq_true,Bool.or_eq_true,Bool.and_eq_false_iff,Bool.or_eq_false_iff,decide_eq_true_eq,decide_eq_false_iff_not,Bool.not_eq_true',Bool.not_eq_false']at Me
    refine aP 19 20 rfl rfl rfl rfl rfl rfl rfl rfl (U8 rfl rfl (U4 rfl rfl iP rfl (aL) (aJ)) (aP 20 21 rfl rfl rfl rfl rfl rfl rfl rfl (U8 rfl rfl (U5 rfl rfl aw rfl (S2.aG (i:=0) rfl rfl)) (aP 21 22 rfl rfl rfl rfl rfl rfl rfl rfl (U8 rfl rfl (Uz rfl rfl rfl) (af 22 1 rfl rfl ?_))))))
    refine Uy (t:=27) rfl (fun p6=>?_) (fun p6=>?_)
    ·refine aP 23 24 rfl rfl rfl rfl rfl rfl rfl rfl (U8 rfl rfl (U4 rfl rfl bg rfl (dV) (dS)) (aP 24 25 rfl rfl rfl rfl rfl rfl rfl rfl (U8 rfl rfl (U5 rfl rfl bF rfl (S2.aG (i:=1) rfl rfl)) (aP 25 26 rfl rfl rfl rfl rfl rfl rfl rfl (U8 rfl rfl (U4 rfl rfl iP rfl (aL) (aJ)) (aP 26 27 rfl rfl rfl rfl rfl rfl rfl rfl (U8 rfl rfl (U5 rfl rfl aw rfl (S2.aG (i:=0) rfl rfl)) (aP 27 28 rfl rfl rfl rfl rfl rfl rfl rfl (U8 rfl rfl (U9 (C:=bw) c rfl rfl rfl mH (by first|rfl|omega) ay (by first|omega|(simp only[ls];omega))) ?_)))))))))
     refine aP 28 29 rfl rfl rfl rfl rfl rfl rfl rfl (U8 rfl rfl (U4 rfl rfl bR rfl (rF) (rh)) (aP 29 30 rfl rfl rfl rfl rfl rfl rfl rfl (U8 rfl rfl (U5 rfl rfl gD rfl (ay.cell S2.um (i:=c) (by first|omega|(simp only[ls];omega)) 4 rfl rfl)) ?_)))
     refine af 30 3 rfl rfl (U3 rfl (ah [4] rfl (U2 (Us hC [_] rfl rfl ⟨rfl,trivial⟩ ?_))))
     exact⟨_,rfl,(S2.pick [] [] (by decide) trivial),(by have e0:k=0\/k=1\/k=2\/k=3:=(by omega);rcases e0 with rfl|rfl|rfl|rfl<;>first|(exfalso;omega)|(show Value.bool _=_;unfold cm nI;simp[*]))⟩
    ·refine af 23 6 rfl rfl (af 29 4 rfl rfl (U3 rfl (ah [4] rfl (U2 (Us hC [_] rfl rfl ⟨rfl,trivial⟩ ?_)))))
     exact⟨_,rfl,(S2.pick [] [] (by decide) trivial),(by have e0:k=0\/k=1\/k=2\/k=3:=(by omega);rcases e0 with rfl|rfl|rfl|rfl<;>first|(exfalso;omega)|(show Value.bool _=_;unfold cm nI;simp[*]))⟩
  ·refine af 8 6 rfl rfl (af 14 5 rfl rfl (aP 19 20 rfl rfl rfl rfl rfl rfl rfl rfl (U8 rfl rfl (U4 rfl rfl iP rfl (aL) (aJ)) (aP 20 21 rfl rfl rfl rfl rfl rfl rfl rfl (U8 rfl rfl (U5 rfl rfl aw rfl (S2.aG (i:=0) rfl rfl)) (aP 21 22 rfl rfl rfl rfl rfl rfl rfl rfl (U8 rfl rfl (Uz rfl rfl rfl) (af 22 1 rfl rfl ?_))))))))
   refine Uy (t:=27) rfl (fun p6=>?_) (fun p6=>?_)
   ·refine aP 23 24 rfl rfl rfl rfl rfl rfl rfl rfl (U8 rfl rfl (U4 rfl rfl bg rfl (dV) (dS)) (aP 24 25 rfl rfl rfl rfl rfl rfl rfl rfl (U8 rfl rfl (U5 rfl rfl bF rfl (S2.aG (i:=1) rfl rfl)) (aP 25 26 rfl rfl rfl rfl rfl rfl rfl rfl (U8 rfl rfl (U4 rfl rfl iP rfl (aL) (aJ)) (aP 26 27 rfl rfl rfl rfl rfl rfl rfl rfl (U8 rfl rfl (U5 rfl rfl aw rfl (S2.aG (i:=0) rfl rfl)) (aP 27 28 rfl rfl rfl rfl rfl rfl rfl rfl (U8 rfl rfl (U9 (C:=bw) c rfl rfl rfl mH (by first|rfl|omega) ay (by first|omega|(simp only[ls];omega))) ?_)))))))))
    refine aP 28 29 rfl rfl rfl rfl rfl rfl rfl rfl (U8 rfl rfl (U4 rfl rfl bR rfl (rF) (rh)) (aP 29 30 rfl rfl rfl rfl rfl rfl rfl rfl (U8 rfl rfl (U5 rfl rfl gD rfl (ay.cell S2.um (i:=c) (by first|omega|(simp only[ls];omega)) 4 rfl rfl)) ?_)))
    refine af 30 3 rfl rfl (U3 rfl (ah [4] rfl (U2 (Us hC [_] rfl rfl ⟨rfl,trivial⟩ ?_))))
    exact⟨_,rfl,(S2.pick [] [] (by decide) trivial),(by have e0:k=0\/k=1\/k=2\/k=3:=(by omega);rcases e0 with rfl|rfl|rfl|rfl<;>first|(exfalso;omega)|(show Value.bool _=_;unfold cm nI;simp[*]))⟩
   ·refine af 23 6 rfl rfl (af 29 4 rfl rfl (U3 rfl (ah [4] rfl (U2 (Us hC [_] rfl rfl ⟨rfl,trivial⟩ ?_)))))
    exact⟨_,rfl,(S2.pick [] [] (by decide) trivial),(by have e0:k=0\/k=1\/k=2\/k=3:=(by omega);rcases e0 with rfl|rfl|rfl|rfl<;>first|(exfalso;omega)|(show Value.bool _=_;unfold cm nI;simp[*]))⟩
noncomputable def Z55:=Tryz.f60.body.getD .skip
def Z56:=cL Z55
def Z57:=cR Z55
def Z58:=cL Z57
def Z59:=cR Z57
def Z5a:=cL Z58
def Z5b:=cR Z58
def Z5c:=cL Z5b
def Z5d:=cL Z5c
def Z5e:=cL Z5d
def Z5f:=cR Z5d
def Z5g:=cL Z5e
def Z5h:=cR Z5e
def Z5i:=cL Z5h
def Z5j:=cR Z5h
def Z5k:=cL Z5f
def Z5l:=cR Z5f
def Z5m:=cL Z5k
def Z5n:=cL Z5m
def Z5o:=cR Z5m
def Z5p:=cL Z5o
def Z5q:=cL Z5p
def Z5r:=cL Z5q
def Z5s:=cR Z5q
def Z5t:=cL Z5r
def Z5u:=cR Z5r
def Z5v:=cL Z5u
def Z5w:=cR Z5u
def Z5x:=cL Z5s
def Z5y:=cR Z5s
def Z5z:=cL Z5x
def Z60:=cL Z5z
def Z61:=cR Z5z
def Z62:=cL Z61
def Z63:=cR Z61
def Z64:=cL Z63
def Z65:=cR Z63
def Z66:=cL Z64
def Z67:=cR Z64
def Z68:=cL Z59
def Z69:=cR Z59
set_option maxHeartbeats 1000000 in
set_option maxRecDepth 10000 in
theorem Fh{w:World}{M:Hp}{X:Fr}(d:Dg){aV:Option Addr}{aU:Nat}(a:Int)(back:Bool)(ay:aB bw (M.un X.h) aV aU d.ae)(S:SH w M X []):Cq Tryz.prog 60 [.agg [.slice aV d.ae.length aU,.int .i64 d.loops].toArray,.int .i64 a,.bool back] w M X (fun u=>u=.agg (rf (aX d a back)).toArray):=by
 unfold Cq
 have jH:d.ae.length*40<=140737488355328:=ay.room
 refine Up (b:=Z55) Tryz.func60 rfl Tryz.ntmps60 rfl (fun C hC=>(bu [(0,_),(1,_),(2,_)] ⟨rfl,rfl,rfl,trivial⟩ (U1 Z56 Z57 rfl rfl rfl (U0 rfl (ar 0 1 rfl rfl rfl (cU (l:=[_,_]) rfl rfl rfl rfl rfl S ?_))))))
 intro aI w1 S1;clear S
 refine ar 1 2 rfl rfl rfl (dh (l:=[_,_]) rfl rfl rfl FJ rfl S1 ?_)
 intro bq w2 S2;clear S1
 refine U3 rfl (ah [1,2,3,6] rfl (U2 (U1 Z58 Z59 rfl rfl rfl (U1 Z5a Z5b rfl rfl rfl (U0 rfl (af 0 1 rfl rfl (U3 rfl (U2 ?_))))))))
 refine U7 Z5c 0 rfl rfl rfl ?_
 refine Ui (fun aF ak aA=>∃(i:Nat),aF=d.ae.length-i/\Env 38 [(1,.int .i64 a),(2,.bool back),(3,.pointer (some ⟨aI,0,none⟩)),(6,.pointer (some ⟨bq,0,none⟩)),(7,.int .i64 (i:Int))] ak/\SH aA M X [Rs.box bq 120 [.int .i64 0,.int .i64 0],Rs.box aI 24 [.slice aV d.ae.length aU,.int .i64 d.loops]]/\i<=d.ae.length/\(∀j,j<4*i->gA d a back j=false)) rfl ?_ ?_
 ·intro ak ai
  refine⟨_,⟨0,rfl,ai.sub ⟨rfl,rfl,rfl,rfl,rfl,trivial⟩,S2.pick [0,1] [_,_] (by decide) ⟨rfl,rfl,trivial⟩,?bn,?bE⟩⟩
  case bn=>omega
  case bE=>(intro j hj;omega)
 ·rintro m1 a1 w3 ⟨i,rfl,aQ,S3,hi,hno⟩
  clear S2
  refine aW aQ (c:=Z5d) rfl ?_
  clear aQ a1
  refine U1 Z5e Z5f rfl rfl rfl (U1 Z5g Z5h rfl rfl rfl (U0 rfl (af 0 1 rfl rfl (ag 1 rfl (U4 rfl rfl bg rfl (dV) (dS)) (ag 2 rfl (U5 rfl rfl bF rfl (S3.aG (i:=1) rfl rfl)) (ag 3 rfl (Uv rfl rfl rfl rfl rfl rfl bF) (ag 4 rfl (Un rfl rfl rfl) (U3 rfl ?_))))))))
  refine ah [1,2,3,6,7,14] rfl (U2 ?_)
  refine Ua Z5i Z5j rfl rfl rfl rfl (fun iT=>?_) (fun iT=>?_)
  ·refine Ub rfl (ah [1,2,3,6,7] rfl (U2 (U1 Z5k Z5l rfl rfl rfl (U7 Z5m 1 rfl rfl rfl (U1 Z5n Z5o rfl rfl rfl (U0 rfl (af 0 1 rfl rfl (U3 rfl ?_))))))))
   refine U2 (U7 Z5p 2 rfl rfl rfl ?_)
   refine Ui (fun aF ak aA=>∃(k:Nat),aF=4-k/\Env 38 [(1,.int .i64 a),(2,.bool back),(3,.pointer (some ⟨aI,0,none⟩)),(6,.pointer (some ⟨bq,0,none⟩)),(7,.int .i64 (i:Int)),(8,.int .i64 (k:Int))] ak/\SH aA M X [Rs.box bq 120 [.int .i64 0,.int .i64 0],Rs.box aI 24 [.slice aV d.ae.length aU,.int .i64 d.loops]]/\k<=4/\(∀j,j<4*i+k->gA d a back j=false)) rfl ?_ ?_
   ·intro ak ai
    refine⟨_,⟨0,rfl,ai.sub ⟨rfl,rfl,rfl,rfl,rfl,rfl,trivial⟩,S3.pick [0,1] [_,_] (by decide) ⟨rfl,rfl,trivial⟩,?bk,?bD⟩⟩
    case bk=>omega
    case bD=>(intro j hj;exact hno j (by omega))
   ·rintro m2 a2 w4 ⟨k,rfl,bS,S4,hk,Cj⟩
    clear S3
    refine aW bS (c:=Z5q) rfl ?_
    clear bS a2
    refine U1 Z5r Z5s rfl rfl rfl (U1 Z5t Z5u rfl rfl rfl (U0 rfl (af 0 1 rfl rfl (ag 1 rfl (Un rfl rfl rfl) (U3 rfl (ah [1,2,3,6,7,8,18] rfl (U2 ?_)))))))
    refine Ua Z5v Z5w rfl rfl rfl rfl (fun CF=>?_) (fun CF=>?_)
    ·refine Ub rfl (ah [1,2,3,6,7,8] rfl (U2 (U1 Z5x Z5y rfl rfl rfl (U7 Z5z 3 rfl rfl rfl (U1 Z60 Z61 rfl rfl rfl (U0 rfl (af 0 2 rfl rfl (ag 2 rfl (run_build (l:=[_,_]) rfl rfl KW rfl rfl) ?_))))))))
     refine ar 3 4 rfl rfl rfl (dh (l:=[_,_]) rfl rfl rfl FJ rfl S4 ?_)
     intro dD w5 S5;clear S4
     refine ar 4 5 rfl rfl rfl (Uo (i:=0) (us:=[_,_]) (l':=[_,_]) (H':=[_,_,_]) rfl rfl S5 rfl rfl rfl rfl oC rfl rfl rfl rfl ?_)
     intro w6 S6;clear S5
     refine U3 rfl (ah [1,2,3,6,7,8,9] rfl (U2 (U1 Z62 Z63 rfl rfl rfl (U0 rfl (ag 0 rfl (Uc (us:=[_,_]) rfl rfl bg rfl dM (S6.aY (i:=2) rfl ⟨rfl,rfl,trivial⟩)) (ag 1 rfl (Uc (us:=[_,_]) rfl rfl iP rfl oC (S6.aY (i:=0) rfl ⟨rfl,rfl,trivial⟩)) (ar 2 3 rfl rfl rfl (gJ rfl rfl rfl rfl rfl rfl rfl afR S6 (adf d i k (ay.mono S6.Uq) (by omega) (by omega) S6.aR) ?_))))))))
     rintro _ w7 S7 rfl;clear S6
     refine af 3 1 rfl rfl (ag 4 rfl (Uz rfl rfl rfl) (af 5 1 rfl rfl ?_))
     refine Uy (t:=29) rfl (fun arS=>?_) (fun arS=>?_)
     ·refine aP 6 7 rfl rfl rfl rfl rfl rfl rfl rfl (U8 rfl rfl (Uc (us:=[_,_]) rfl rfl bg rfl dM (S7.aY (i:=2) rfl ⟨rfl,rfl,trivial⟩)) (aP 7 8 rfl rfl rfl rfl rfl rfl rfl rfl (U8 rfl rfl (Uc (us:=[_,_]) rfl rfl iP rfl oC (S7.aY (i:=0) rfl ⟨rfl,rfl,trivial⟩)) (aP 8 9 rfl rfl rfl rfl rfl rfl rfl rfl (gJ rfl rfl rfl rfl rfl rfl rfl afQ S7 (adb d i k (ay.mono S7.Uq) (by omega) (by omega) S7.aR) ?_)))))
      rintro _ w8 S8 rfl;clear S7
      refine af 9 1 rfl rfl (aP 10 11 rfl rfl rfl rfl rfl rfl rfl rfl (U8 rfl rfl (acq rfl rfl rfl gD) (af 11 1 rfl rfl (U3 rfl (ah [1,2,3,6,7,8,9,35] rfl (U2 ?_))))))
      refine dH Z64 Z65 rfl rfl rfl rfl (fun sO=>?_) (fun sO=>?_)
      ·refine U1 Z66 Z67 rfl rfl rfl (U0 rfl (ag 0 rfl (Uc (us:=[_,_]) rfl rfl iP rfl oC (S8.aY (i:=0) rfl ⟨rfl,rfl,trivial⟩)) (ar 1 2 rfl rfl rfl (Uo (i:=1) (us:=[_,_]) (l':=[_,_]) (H':=[_,_,_]) rfl rfl S8 rfl rfl rfl rfl oC rfl rfl rfl rfl ?_))))
       intro w9 S9;clear S8
       refine U3 rfl (ah [6] rfl (U2 (Us hC [_] rfl rfl ⟨⟨_,rfl,oa (us:=[_,_]) iP rfl oC (S9.aY (i:=1) rfl ⟨rfl,rfl,trivial⟩)⟩,trivial⟩ ?_)))
       exact⟨_,rfl,(S9.pick [] [] (by decide) trivial),(by first|(rw[aay (fun j hj=>hno j (by omega))];rfl)|(rw[IV (j:=4*i+k) (by omega) (by rw[yq (by omega),decide_eq_true (by omega)];simpa using sO) Cj,show(4*i+k)/4=i by omega,show(4*i+k)%4=k by omega];rfl))⟩
      ·refine Ub rfl (Ul (ah [1,2,3,6,7,8] rfl (U2 (U0 rfl (af 0 1 rfl rfl (ag 1 rfl (Ud rfl rfl rfl (by first|omega|(simp only[ls];omega))) ?_))))))
       refine af 2 1 rfl rfl (U3 rfl (Ut ?_))
       intro ak ai
       refine⟨_,?fM,⟨k+1,rfl,ai.sub ⟨rfl,rfl,rfl,rfl,rfl,rfl,trivial⟩,S8.pick [1,2] [_,_] (by decide) ⟨rfl,rfl,trivial⟩,?cu,?cN⟩⟩
       case cu=>omega
       case cN=>(intro j hj;by_cases h:j=4*i+k;(subst h;rw[yq (by omega)];first|(rw[decide_eq_false (by omega)];rfl)|(rw[Bool.and_eq_false_iff];right;simpa using sO));exact Cj j (by omega))
       case fM=>omega
     ·refine af 6 6 rfl rfl (U3 rfl (ah [1,2,3,6,7,8,9,35] rfl (U2 (jq Z65 rfl rfl rfl (Ub rfl (Ul (ah [1,2,3,6,7,8] rfl (U2 ?_))))))))
      refine U0 rfl (af 0 1 rfl rfl (ag 1 rfl (Ud rfl rfl rfl (by first|omega|(simp only[ls];omega))) ?_))
      refine af 2 1 rfl rfl (U3 rfl (Ut ?_))
      intro ak ai
      refine⟨_,?jf,⟨k+1,rfl,ai.sub ⟨rfl,rfl,rfl,rfl,rfl,rfl,trivial⟩,S7.pick [1,2] [_,_] (by decide) ⟨rfl,rfl,trivial⟩,?dL,?ek⟩⟩
      case dL=>omega
      case ek=>(intro j hj;by_cases h:j=4*i+k;(subst h;rw[yq (by omega)];first|(rw[decide_eq_false (by omega)];rfl)|(rw[Bool.and_eq_false_iff];right;simpa using sO));exact Cj j (by omega))
      case jf=>omega
    ·refine Uk rfl rfl (Ul (ah [1,2,3,6,7] rfl (U2 (U0 rfl (af 0 1 rfl rfl (ag 1 rfl (Ud rfl rfl rfl (by first|omega|(simp only[ls];omega))) ?_))))))
     refine af 2 1 rfl rfl (U3 rfl (Ut ?_))
     intro ak ai
     refine⟨_,?je,⟨i+1,rfl,ai.sub ⟨rfl,rfl,rfl,rfl,rfl,trivial⟩,S4.pick [0,1] [_,_] (by decide) ⟨rfl,rfl,trivial⟩,?ei,?fK⟩⟩
     case ei=>omega
     case fK=>(intro j hj;exact Cj j (by omega))
     case je=>omega
  ·refine Uk rfl rfl (ah [6] rfl (U2 (U1 Z68 Z69 rfl rfl rfl (U0 rfl (ag 0 rfl (run_build (l:=[_,_]) rfl rfl KW rfl rfl) (ar 1 2 rfl rfl rfl (Uo (i:=0) (us:=[_,_]) (l':=[_,_]) (H':=[_,_]) rfl rfl S3 rfl rfl rfl rfl oC rfl rfl rfl rfl ?_)))))))
   intro oZ bM;clear S3
   refine U3 rfl (ah [6] rfl (U2 (Us hC [_] rfl rfl ⟨⟨_,rfl,oa (us:=[_,_]) iP rfl oC (bM.aY (i:=0) rfl ⟨rfl,rfl,trivial⟩)⟩,trivial⟩ ?_)))
   exact⟨_,rfl,(bM.pick [] [] (by decide) trivial),(by first|(rw[aay (fun j hj=>hno j (by omega))];rfl)|(rw[IV (j:=4*i+k) (by omega) (by rw[yq (by omega),decide_eq_true (by omega)];simpa using sO) Cj,show(4*i+k)/4=i by omega,show(4*i+k)%4=k by omega];rfl))⟩
noncomputable def Z6a:=Tryz.f131.body.getD .skip
def Z6b:=cL Z6a
def Z6c:=cR Z6a
def Z6d:=cL Z6c
def Z6e:=cR Z6c
def Z6f:=cL Z6e
def Z6g:=cR Z6e
def Z6h:=cL Z6g
def Z6i:=cR Z6g
set_option maxRecDepth 10000 in
theorem aiT{w:World}{M:Hp}{X:Fr}(d:Dg){aV:Option Addr}{aU:Nat}(x:Da)(ay:aB bw (M.un X.h) aV aU d.ae)(hab:Uu d=true)(hx:okD d x)(S:SH w M X []):Cq Tryz.prog 131 [.agg [.slice aV d.ae.length aU,.int .i64 d.loops].toArray,.agg [.int .i64 x.a,.bool x.b].toArray] w M X (fun u=>u=.agg (zT (lI d x)).toArray):=by
 unfold Cq
 have jH:d.ae.length*40<=140737488355328:=ay.room
 obtain⟨cd,VD,qo,VC,VB⟩:=nH hab hx x.b
 have afC:((aX d x.a x.b).2+3)%4<4:=Nat.mod_lt _ (by decide)
 refine Up (b:=Z6a) Tryz.func131 rfl Tryz.ntmps131 rfl (fun C hC=>(bu [(0,_),(1,_)] ⟨rfl,rfl,trivial⟩ (U1 Z6b Z6c rfl rfl rfl (U0 rfl (ar 0 1 rfl rfl rfl (cU (l:=[_,_]) rfl rfl rfl rfl rfl S ?_))))))
 intro aI w1 S1;clear S
 refine ar 1 2 rfl rfl rfl (cU (l:=[_,_]) rfl rfl rfl rfl rfl S1 ?_)
 intro bq w2 S2;clear S1
 refine ar 2 3 rfl rfl rfl (dh (l:=[_,_]) rfl rfl rfl y7 rfl S2 ?_)
 intro dD w3 S3;clear S2
 refine U3 rfl (ah [2,3,4] rfl (U2 (U1 Z6d Z6e rfl rfl rfl (U0 rfl (ag 0 rfl (Uc (us:=[_,_]) rfl rfl bg rfl dM (S3.aY (i:=2) rfl ⟨rfl,rfl,trivial⟩)) (ag 1 rfl (U4 rfl rfl gw rfl (aL) (aJ)) (ag 2 rfl (U5 rfl rfl aw rfl (S3.aG (i:=1) rfl rfl)) (ag 3 rfl (U4 rfl rfl gw rfl (rF) (rh)) ?_))))))))
 refine ag 4 rfl (U5 rfl rfl gD rfl (S3.aG (i:=1) rfl rfl)) (ar 5 6 rfl rfl rfl (gJ rfl rfl rfl rfl rfl rfl rfl Gy S3 (Fh d x.a x.b (ay.mono S3.Uq) S3.aR) ?_))
 rintro _ w4 S4 rfl;clear S3
 refine ar 6 7 rfl rfl rfl (dh (l:=[_,_]) rfl rfl rfl FJ rfl S4 ?_)
 intro jR w5 S5;clear S4
 refine ar 7 8 rfl rfl rfl (Uo (i:=0) (us:=[_,_]) (l':=[_,_]) (H':=[_,_,_,_]) rfl rfl S5 rfl rfl rfl rfl oC rfl rfl rfl rfl ?_)
 intro w6 S6;clear S5
 refine U3 rfl (ah [2,4,5] rfl (U2 (U1 Z6f Z6g rfl rfl rfl (U0 rfl (ag 0 rfl (U4 rfl rfl iP rfl (aL) (aJ)) (ag 1 rfl (U5 rfl rfl aw rfl (S6.aG (i:=0) rfl rfl)) (ag 2 rfl (U4 rfl rfl iP rfl (aL) (aJ)) (ag 3 rfl (U5 rfl rfl aw rfl (S6.aG (i:=0) rfl rfl)) ?_))))))))
 refine ag 4 rfl (Ud rfl rfl rfl (by first|omega|(simp only[ls];omega))) ?_
 refine ag 5 rfl (EX rfl rfl rfl (by first|omega|(simp only[ls];omega))) ?_
 refine cZ 18 (.int .i64 ((((aX d x.a x.b).2+3)%4:Nat):Int)) rfl (int_eq (by omega)) ?_
 refine ag 6 rfl (run_build (l:=[_,_]) rfl rfl KW rfl rfl) (ar 7 8 rfl rfl rfl (dh (l:=[_,_]) rfl rfl rfl FJ rfl S6 ?_))
 intro rD w7 S7;clear S6
 refine ar 8 9 rfl rfl rfl (Uo (i:=0) (us:=[_,_]) (l':=[_,_]) (H':=[_,_,_,_,_]) rfl rfl S7 rfl rfl rfl rfl oC rfl rfl rfl rfl ?_)
 intro w8 S8;clear S7
 refine U3 rfl (ah [2,4,6] rfl (U2 (U1 Z6h Z6i rfl rfl rfl (cM rfl (by kernel_rfl) S8 8 rfl ?_))))
 clear S8
 refine au 0 7 rfl (by kernel_rfl) (fun _ _ _ aj Sz=>.inl (Uc (us:=[_,_]) rfl rfl bg rfl dM (Sz.suf.aY (i:=4) rfl ⟨rfl,rfl,trivial⟩))) ?_
 refine au 1 6 rfl (by kernel_rfl) (fun _ _ _ aj Sz=>.inl (Uc (us:=[_,_]) rfl rfl iP rfl oC (Sz.suf.aY (i:=0) rfl ⟨rfl,rfl,trivial⟩))) ?_
 refine au 2 5 rfl (by kernel_rfl) (fun _ _ _ aj Sz=>jT rfl rfl rfl rfl rfl afR Sz (adf d ((aX d x.a x.b).1) (((aX d x.a x.b).2+3)%4) ((ay.mono (Hp.U6 aj Sz.mx)).mono Sz.Uq) (by omega) (by omega) Sz.aR)) ?_
 refine au 3 4 rfl (by kernel_rfl) (fun _ _ _ aj Sz=>.inl (Uc (us:=[_,_]) rfl rfl bg rfl dM (Sz.suf.aY (i:=4) rfl ⟨rfl,rfl,trivial⟩))) ?_
 refine au 4 3 rfl (by kernel_rfl) (fun _ _ _ aj Sz=>.inl (Uc (us:=[_,_]) rfl rfl iP rfl oC (Sz.suf.aY (i:=0) rfl ⟨rfl,rfl,trivial⟩))) ?_
 refine au 5 2 rfl (by kernel_rfl) (fun _ _ _ aj Sz=>jT rfl rfl rfl rfl rfl afQ Sz (adb d ((aX d x.a x.b).1) (((aX d x.a x.b).2+3)%4) ((ay.mono (Hp.U6 aj Sz.mx)).mono Sz.Uq) (by omega) (by omega) Sz.aR)) ?_
 refine au 6 1 rfl (by kernel_rfl) (fun _ _ _ aj Sz=>.inl (run_build (l:=[_,_]) rfl rfl Gd rfl rfl)) ?_
 refine dv (i:=7) 0 rfl (by kernel_rfl) rfl rfl (fun zw dK=>?_)
 refine(Uo (i:=2) (us:=[_,_]) (l':=[_,_]) (H':=[_,_,_,_,_]) rfl rfl dK rfl rfl rfl rfl iz rfl rfl rfl rfl ?_)
 intro Hl fZ;clear dK
 refine bU.turn (by kernel_rfl) fZ ?_;clear fZ
 change WA _ _ _ _ _ _ _ _ _ _ _ _ [_,_,_,_,_]
 refine cF (by kernel_rfl) (fun Hk iu=>?_)
 refine ah [4] rfl (U2 (Us hC [_] rfl rfl ⟨⟨_,rfl,oa (us:=[_,_]) gw rfl iz (iu.aY (i:=2) rfl ⟨rfl,rfl,trivial⟩)⟩,trivial⟩ ?_))
 exact⟨_,rfl,(iu.pick [] [] (by decide) trivial),rfl⟩
noncomputable def Z6j:=Tryz.f130.body.getD .skip
def Z6k:=cL Z6j
def Z6l:=cR Z6j
def Z6m:=cL Z6l
def Z6n:=cR Z6l
def Z6o:=cL Z6m
def Z6p:=cR Z6m
def Z6q:=cL Z6p
def Z6r:=cR Z6p
def Z6s:=cL Z6q
def Z6t:=cR Z6q
def Z6u:=cL Z6n
def Z6v:=cR Z6n
set_option maxRecDepth 10000 in
theorem aaA{w:World}{M:Hp}{X:Fr}(x:Da)(hx:1<=x.a/\x.a<=1000)(S:SH w M X []):Cq Tryz.prog 130 [.agg [.int .i64 x.a,.bool x.b].toArray] w M X (fun u=>u=.int .i64 (kg x:Int)):=by
 unfold Cq
 refine Up (b:=Z6j) Tryz.func130 rfl Tryz.ntmps130 rfl (fun C hC=>(bu [(0,_)] ⟨rfl,trivial⟩ (U1 Z6k Z6l rfl rfl rfl (U0 rfl (ar 0 1 rfl rfl rfl (cU (l:=[_,_]) rfl rfl rfl rfl rfl S ?_))))))
 intro aI w1 S1;clear S
 refine af 1 1 rfl rfl (U3 rfl (ah [1] rfl (U2 (U1 Z6m Z6n rfl rfl rfl (U1 Z6o Z6p rfl rfl rfl (U0 rfl (ag 0 rfl (U4 rfl rfl gw rfl (rF) (rh)) (ag 1 rfl (U5 rfl rfl gD rfl (S1.aG (i:=0) rfl rfl)) ?_))))))))
 refine U3 rfl (ah [1,4] rfl (U2 ?_))
 refine dH Z6q Z6r rfl rfl rfl rfl (fun hb4=>?_) (fun hb4=>?_)
 ·refine U1 Z6s Z6t rfl rfl rfl (U0 rfl (ag 0 rfl (U4 rfl rfl gw rfl (aL) (aJ)) (ag 1 rfl (U5 rfl rfl aw rfl (S1.aG (i:=0) rfl rfl)) (ag 2 rfl (pj rfl rfl rfl (by first|omega|(simp only[ls];omega))) ?_))))
  refine ag 3 rfl (Ud rfl rfl rfl (by first|omega|(simp only[ls];omega))) ?_
  refine af 4 1 rfl rfl (U3 rfl (ah [2] rfl (U2 (Us hC [_] rfl rfl ⟨rfl,trivial⟩ ?_))))
  exact⟨_,rfl,(S1.pick [] [] (by decide) trivial),(by show Value.int _ _=_;refine congrArg (Value.int .i64) ?_;unfold kg;rw[hb4];first|(rw[if_pos rfl];omega)|(rw[if_neg Bool.false_ne_true];omega))⟩
 ·refine Ub rfl (ah [1] rfl (U2 (U1 Z6u Z6v rfl rfl rfl (U0 rfl (ag 0 rfl (U4 rfl rfl gw rfl (aL) (aJ)) (ag 1 rfl (U5 rfl rfl aw rfl (S1.aG (i:=0) rfl rfl)) (ag 2 rfl (pj rfl rfl rfl (by first|omega|(simp only[ls];omega))) ?_)))))))
  refine af 3 1 rfl rfl (U3 rfl (ah [2] rfl (U2 (Us hC [_] rfl rfl ⟨rfl,trivial⟩ ?_))))
  exact⟨_,rfl,(S1.pick [] [] (by decide) trivial),(by show Value.int _ _=_;refine congrArg (Value.int .i64) ?_;unfold kg;rw[hb4];first|(rw[if_pos rfl];omega)|(rw[if_neg Bool.false_ne_true];omega))⟩
noncomputable def Z6w:=Tryz.f74.body.getD .skip
def Z6x:=cL Z6w
def Z6y:=cR Z6w
def Z6z:=cL Z6y
def Z70:=cR Z6y
def Z71:=cL Z70
def Z72:=cR Z70
def Z73:=cL Z72
def Z74:=cR Z72
def Z75:=cL Z74
def Z76:=cR Z74
def Z77:=cL Z75
def Z78:=cR Z75
def Z79:=cL Z78
def Z7a:=cL Z79
def Z7b:=cL Z7a
def Z7c:=cR Z7a
def Z7d:=cL Z7b
def Z7e:=cR Z7b
def Z7f:=cL Z7e
def Z7g:=cR Z7e
def Z7h:=cL Z7c
def Z7i:=cR Z7c
def Z7j:=cL Z7h
def Z7k:=cL Z7j
def Z7l:=cR Z7j
def Z7m:=cL Z7k
def Z7n:=cR Z7k
def Z7o:=cL Z7n
def Z7p:=cR Z7n
def Z7q:=cL Z7l
def Z7r:=cR Z7l
def Z7s:=cL Z7r
def Z7t:=cR Z7r
def Z7u:=cL Z7t
def Z7v:=cR Z7t
def Z7w:=cL Z7u
def Z7x:=cL Z7w
def Z7y:=cL Z7x
def Z7z:=cR Z7x
def Z80:=cL Z7y
def Z81:=cR Z7y
def Z82:=cL Z81
def Z83:=cR Z81
def Z84:=cL Z7z
def Z85:=cL Z84
def Z86:=cR Z84
def Z87:=cL Z86
def Z88:=cR Z86
def Z89:=cL Z76
def Z8a:=cR Z76
set_option maxHeartbeats 1000000 in
set_option maxRecDepth 10000 in
theorem ajv{w:World}{M:Hp}{X:Fr}(d:Dg){aV:Option Addr}{aU:Nat}(ay:aB bw (M.un X.h) aV aU d.ae)(hn:d.ae.length<=16)(hab:Uu d=true)(S:SH w M X []):Ct Tryz.prog 74 [.agg [.slice aV d.ae.length aU,.int .i64 d.loops].toArray] w M X (KP d):=by
 unfold Ct
 have jH:d.ae.length*40<=140737488355328:=ay.room
 refine Up (b:=Z6w) Tryz.func74 rfl Tryz.ntmps74 rfl (fun C hC=>(bu [(0,_)] ⟨rfl,trivial⟩ (U1 Z6x Z6y rfl rfl rfl (U0 rfl (ar 0 1 rfl rfl rfl (cU (l:=[_,_]) rfl rfl rfl rfl rfl S ?_))))))
 intro aI w1 S1;clear S
 refine af 1 1 rfl rfl (U3 rfl (ah [1] rfl (U2 (U1 Z6z Z70 rfl rfl rfl (U0 rfl (ag 0 rfl (U4 rfl rfl bg rfl (dV) (dS)) (ag 1 rfl (U5 rfl rfl bF rfl (S1.aG (i:=0) rfl rfl)) (ag 2 rfl (Uv rfl rfl rfl rfl rfl rfl bF) ?_))))))))
 refine ag 3 rfl (pj rfl rfl rfl (by first|omega|(simp only[ls];omega))) ?_
 refine ag 4 rfl (Ud rfl rfl rfl (by first|omega|(simp only[ls];omega))) ?_
 refine af 5 1 rfl rfl (U3 rfl (ah [1,3] rfl (U2 (U1 Z71 Z72 rfl rfl rfl (U0 rfl (af 0 1 rfl rfl (ar 1 2 rfl rfl rfl (rJ (C:=cS) ((4*(d.ae.length:Int)).toNat+2) rfl rfl rfl rfl rfl jK (by first|rfl|omega) (by show _*1<=_;first|omega|(simp only[ls];omega)) S1 ?_))))))))
 intro zz w2 S2;clear S1
 refine af 2 1 rfl rfl (U3 rfl (ah [1,3,4] rfl (U2 (U1 Z73 Z74 rfl rfl rfl (U0 rfl (af 0 1 rfl rfl (U3 rfl (U2 ?_))))))))
 refine U1 Z75 Z76 rfl rfl rfl (U1 Z77 Z78 rfl rfl rfl (U0 rfl (af 0 1 rfl rfl (U3 rfl (U2 (U7 Z79 0 rfl rfl rfl ?_))))))
 have S3:=S2.gL (ck 141);clear S2
 refine Ui (fun aF ak aA=>∃(k:Nat) (seen:List Bool) (jd:List (List Int)) (vs:List eO) (nO:Value) (aZ:Value) (M1:Hp),M.le M1/\aF=4*d.ae.length-k/\Env 53 [(1,.pointer (some ⟨aI,0,none⟩)),(3,.int .i64 ((4*(d.ae.length:Int))+2)),(4,nO),(5,aZ),(6,.int .i64 ((k+2:Nat):Int))] ak/\SH aA M1 X [Rs.row (ck 141) aZ vs,Rs.row cS nO seen,Rs.box aI 24 [.slice aV d.ae.length aU,.int .i64 d.loops]]/\k<=4*d.ae.length/\dQ d k=(seen,jd)/\iY gN M1 vs (jd.map jY)) rfl ?_ ?_
 ·intro ak ai
  refine⟨_,⟨0,_,[],_,_,_,_,Hp.le_refl _,rfl,ai.sub ⟨rfl,rfl,rfl,rfl,rfl,trivial⟩,S3.pick [0,1,2] [_,_,_] (by decide) ⟨rfl,rfl,rfl,trivial⟩,?bn,?bE,?ez⟩⟩
  case bn=>omega
  case bE=>(unfold dQ;first|rfl|(congr 1))
  case ez=>first|exact iY.bN|(rw[e9];exact iY.bN)
 ·rintro m1 a1 w3 ⟨k,seen,jd,vs,nO,aZ,M1,hle1,rfl,aQ,S4,hk,hfn,fE⟩
  clear S3
  refine aW aQ (c:=Z7a) rfl ?_
  clear aQ a1
  replace ay:=ay.mono (Hp.U6 hle1 S4.mx)
  have hvs:=fE.1
  rw[List.length_map]at hvs
  have lK:=Ev d k
  rw[hfn]at lK
  replace lK:jd.length<=k:=lK
  have hsl:seen.length=4*d.ae.length+2:=by have h9:=xY d k;rw[hfn]at h9;exact h9
  refine U1 Z7b Z7c rfl rfl rfl (U1 Z7d Z7e rfl rfl rfl (U0 rfl (af 0 2 rfl rfl (ag 2 rfl (Un rfl rfl rfl) (U3 rfl (ah [1,3,4,5,6,18] rfl (U2 ?_)))))))
  refine Ua Z7f Z7g rfl rfl rfl rfl (fun CF=>?_) (fun CF=>?_)
  ·refine Ub rfl (ah [1,3,4,5,6] rfl (U2 (U1 Z7h Z7i rfl rfl rfl (U7 Z7j 1 rfl rfl rfl (U1 Z7k Z7l rfl rfl rfl (U1 Z7m Z7n rfl rfl rfl (U0 rfl (af 0 2 rfl rfl ?_))))))))
   refine ag 2 rfl (Ue (C:=cS) (i:=1) (k+2) rfl rfl rfl jK S4 rfl (by first|rfl|omega) (by first|omega|(simp only[ls];omega))) ?_
   refine ag 3 rfl (U5 rfl rfl gD rfl (S4.cK (i:=1) (e:=k+2) (j:=0) rfl (by first|omega|(simp only[ls];omega)) rfl rfl)) ?_
   refine U3 rfl (ah [1,3,4,5,6,24] rfl (U2 ?_))
   refine dH Z7o Z7p rfl rfl rfl rfl (fun nD=>?_) (fun nD=>?_)
   ·refine Uk rfl rfl (ah [1,3,4,5,6] rfl (U2 (U0 rfl (af 0 1 rfl rfl (ag 1 rfl (Ud rfl rfl rfl (by first|omega|(simp only[ls];omega))) ?_)))))
    refine af 2 1 rfl rfl (U3 rfl (Ut ?_))
    intro ak ai
    refine⟨_,?bG,⟨k+1,_,jd,_,_,_,_,(hle1),rfl,ai.sub ⟨rfl,rfl,rfl,rfl,rfl,trivial⟩,S4.pick [0,1,2] [_,_,_] (by decide) ⟨rfl,rfl,rfl,trivial⟩,?bk,?bD,?fL⟩⟩
    case bk=>omega
    case bD=>first|exact vR hfn nD|exact vQ hfn (by simpa using nD) (hrg.trans (IB (by simpa using qV)))
    case fL=>first|exact fE|(rw[e9];exact fE)
    case bG=>omega
   ·refine Ub rfl (ah [1,3,4,5,6] rfl (U2 (U1 Z7q Z7r rfl rfl rfl (U0 rfl (af 0 1 rfl rfl (U3 rfl (U2 (U1 Z7s Z7t rfl rfl rfl ?_))))))))
    refine U0 rfl (af 0 1 rfl rfl (ag 1 rfl (acm rfl rfl rfl (by first|omega|(simp only[ls];omega))) ?_))
    refine af 2 1 rfl rfl (ag 3 rfl (EX rfl rfl rfl (by first|omega|(simp only[ls];omega))) ?_)
    refine ag 4 rfl (Uz rfl rfl rfl) (cZ 26 (.int .i64 ((dA (k+2)).a)) rfl (int_eq (by show _=(((k+2)/2:Nat):Int);omega)) ?_)
    refine cZ 29 (.bool ((dA (k+2)).b)) rfl (congrArg Value.bool (by show _=decide _;exact decide_eq_decide.2 (by omega))) ?_
    refine ag 5 rfl (run_build (l:=[_,_]) rfl rfl Gd rfl rfl) (ar 6 7 rfl rfl rfl (dh (l:=[_,_]) rfl rfl rfl y7 rfl S4 ?_))
    intro bq w4 S5;clear S4
    refine ar 7 8 rfl rfl rfl (Uo (i:=0) (us:=[_,_]) (l':=[_,_]) (H':=[_,_,_,_]) rfl rfl S5 rfl rfl rfl rfl iz rfl rfl rfl rfl ?_)
    intro w5 S6;clear S5
    refine U3 rfl (ah [1,3,4,5,6,7,8] rfl (U2 (U1 Z7u Z7v rfl rfl rfl (U7 Z7w 2 rfl rfl rfl ?_))))
    have S7:=S6.gL gN;clear S6
    refine Ui (fun aF ak aA=>∃(gh:List Bool) (x:Nat) (y:Da) (acc:List Int) (mE:List Da) (xg:Value) (wD:Value),aF=free gh/\Env 53 [(1,.pointer (some ⟨aI,0,none⟩)),(3,.int .i64 ((4*(d.ae.length:Int))+2)),(4,xg),(5,aZ),(6,.int .i64 ((k+2:Nat):Int)),(7,wD),(8,.pointer (some ⟨bq,0,none⟩))] ak/\SH aA M1 X [Rs.row gN wD mE,Rs.box bq 26 [.int .i64 y.a,.bool y.b],Rs.row (ck 141) aZ vs,Rs.row cS xg gh,Rs.box aI 24 [.slice aV d.ae.length aU,.int .i64 d.loops]]/\fA (dI d) seen (k+2) []=fA (dI d) gh x acc/\mE=jY acc/\(2<=x/\x<4*d.ae.length+2)/\gh.length=4*d.ae.length+2/\y=dA x/\acc.length+free gh<=100) rfl ?_ ?_
    ·intro ak ai
     refine⟨_,⟨seen,k+2,(dA (k+2)),[],_,_,_,rfl,ai.sub ⟨rfl,rfl,rfl,rfl,rfl,rfl,rfl,trivial⟩,S7.pick [0,1,2,3,4] [_,_,_,_,_] (by decide) ⟨rfl,rfl,rfl,rfl,rfl,trivial⟩,?cu,?cN,?jb,?sy,?wO,?apx⟩⟩
     case cu=>rfl
     case cN=>rfl
     case jb=>omega
     case sy=>exact hsl
     case wO=>rfl
     case apx=>(have h8:free seen<=seen.length:=List.countP_le_length;simp only[List.length_nil];omega)
    ·rintro m2 a2 w6 ⟨gh,x,y,acc,mE,xg,wD,rfl,bS,S8,hrg,wL,hx,hs2,hy,hroom⟩
     clear S7
     refine aW bS (c:=Z7x) rfl ?_
     clear bS a2
     have hyk:okD d y:=by rw[hy];exact oG hx
     have aBa:=hyk.1
     have aA9:=hyk.2
     have hrl:mE.length=acc.length:=by rw[wL];simp[jY]
     have hdc:kg y=x:=by rw[hy];exact yL x
     refine U1 Z7y Z7z rfl rfl rfl (U1 Z80 Z81 rfl rfl rfl (U0 rfl (af 0 1 rfl rfl (ag 1 rfl (Uc (us:=[_,_]) rfl rfl gw rfl iz (S8.aY (i:=1) rfl ⟨rfl,rfl,trivial⟩)) (ar 2 3 rfl rfl rfl (gJ rfl rfl rfl rfl rfl rfl rfl aeV S8 (aaA y ((by omega)) S8.aR) ?_))))))
     rintro _ w7 S9 rfl;clear S8
     refine cZ 33 (.int .i64 (x:Int)) rfl (int_eq (by rw[hdc])) ?_
     refine ag 3 rfl (Ue (C:=cS) (i:=3) x rfl rfl rfl jK S9 rfl (by first|rfl|omega) (by first|omega|(simp only[ls];omega))) ?_
     refine ag 4 rfl (U5 rfl rfl gD rfl (S9.cK (i:=3) (e:=x) (j:=0) rfl (by first|omega|(simp only[ls];omega)) rfl rfl)) ?_
     refine ag 5 rfl (mX rfl rfl) (U3 rfl (ah [1,3,4,5,6,7,8,36] rfl (U2 ?_)))
     refine dH Z82 Z83 rfl rfl rfl rfl (fun qV=>?_) (fun qV=>?_)
     ·simp only[Bool.and_eq_true,Bool.or_eq_true,Bool.and_eq_false_iff,Bool.or_eq_false_iff,decide_eq_true_eq,decide_eq_false_iff_not,Bool.not_eq_true',Bool.not_eq_false']at qV
      refine Ub rfl (ah [1,3,4,5,6,7,8] rfl (U2 (U7 Z84 3 rfl rfl rfl (U1 Z85 Z86 rfl rfl rfl (U0 rfl (af 0 1 rfl rfl (ag 1 rfl (Uc (us:=[_,_]) rfl rfl gw rfl iz (S9.aY (i:=1) rfl ⟨rfl,rfl,trivial⟩)) (ar 2 3 rfl rfl rfl (gJ rfl rfl rfl rfl rfl rfl rfl aeV S9 (aaA y ((by omega)) S9.aR) ?_)))))))))
      rintro _ w8 bM rfl;clear S9
      refine cZ 39 (.int .i64 (x:Int)) rfl (int_eq (by rw[hdc])) ?_
      refine ag 3 rfl (Ue (C:=cS) (i:=3) x rfl rfl rfl jK bM rfl (by first|rfl|omega) (by first|omega|(simp only[ls];omega))) ?_
      refine ar 4 5 rfl rfl rfl (ij (C:=cS) (i:=3) (e:=x) (j:=0) (us:=[_]) (H':=[_,_,_,_,_]) true rfl rfl bM rfl (by first|omega|(simp only[ls];omega)) rfl rfl rfl xH rfl rfl rfl rfl ?_)
      intro w9 bJ;clear bM
      refine U3 rfl (ah [1,3,4,5,6,7,8] rfl (U2 (U1 Z87 Z88 rfl rfl rfl (U0 rfl (af 0 1 rfl rfl (ag 1 rfl (Uc (us:=[_,_]) rfl rfl gw rfl iz (bJ.aY (i:=1) rfl ⟨rfl,rfl,trivial⟩)) (ar 2 3 rfl rfl rfl (Uf (C:=gN) (l:=[_,_]) rfl rfl rfl rfl wF rfl rfl rfl rfl bJ ?_))))))))
      intro dD oZ cB;clear bJ
      refine ar 3 4 rfl rfl rfl (Ux (C:=gN) (i:=1) (q:=0) (⟨y.a,y.b⟩:Da) rfl rfl rfl rfl rfl rfl rfl rfl wF cB rfl rfl rfl (by show(_+1)*16<=_;first|omega|(simp only[ls];omega)) ?_)
      intro amM mO bY;clear cB
      have bX:=bY.pick [1,2,3,4,5] [_,_,_,_,_] (by decide) ⟨rfl,rfl,rfl,rfl,rfl,trivial⟩;clear bY
      refine af 4 1 rfl rfl (U3 rfl (ah [1,3,4,5,6,7,8] rfl (U2 (U0 rfl (ag 0 rfl (Uc (us:=[_,_]) rfl rfl bg rfl dM (bX.aY (i:=4) rfl ⟨rfl,rfl,trivial⟩)) (ag 1 rfl (Uc (us:=[_,_]) rfl rfl gw rfl iz (bX.aY (i:=1) rfl ⟨rfl,rfl,trivial⟩)) (ar 2 3 rfl rfl rfl (gJ rfl rfl rfl rfl rfl rfl rfl aqn bX (aiT d y (ay.mono bX.Uq) (hab) ((by first|assumption|omega)) bX.aR) ?_))))))))
      rintro _ ra bT rfl;clear bX
      refine ar 3 4 rfl rfl rfl (Uo (i:=1) (us:=[_,_]) (l':=[_,_]) (H':=[_,_,_,_,_]) rfl rfl bT rfl rfl rfl rfl iz rfl rfl rfl rfl ?_)
      intro q8 cO;clear bT
      refine U3 rfl (Ul (Ut ?_))
      have mU:ga gh x=false:=by simpa using qV
      have Dy:=px (seen:=gh) (x:=x) (by omega) mU
      intro ak ai
      refine⟨_,?jf,⟨gh.set x true,dI d x,lI d y,acc++[(x:Int)],_,_,_,rfl,ai.sub ⟨rfl,rfl,rfl,rfl,rfl,rfl,rfl,trivial⟩,cO.pick [0,1,2,3,4] [_,_,_,_,_] (by decide) ⟨rfl,rfl,rfl,rfl,rfl,trivial⟩,?dL,?ek,?lJ,?K7,?K6,?K5⟩⟩
      case dL=>(rw[hrg];exact vG (by omega) mU)
      case ek=>(rw[abe,<-wL,hy])
      case lJ=>exact AW hab hx
      case K7=>(rw[List.length_set];exact hs2)
      case K6=>(rw[hy,Fz hab hx])
      case K5=>(simp only[List.length_append,List.length_cons,List.length_nil];omega)
      case jf=>omega
     ·simp only[Bool.and_eq_true,Bool.or_eq_true,Bool.and_eq_false_iff,Bool.or_eq_false_iff,decide_eq_true_eq,decide_eq_false_iff_not,Bool.not_eq_true',Bool.not_eq_false']at qV
      refine Uk rfl rfl (ah [1,3,4,5,6,7] rfl (U2 (U0 rfl (af 0 2 rfl rfl ?_))))
      obtain⟨M2,cG,dK,⟨A1,c1,e1,hr1⟩⟩:=S9.gW (i:=0) (H':=[_,_,_,_,_]) rfl rfl (by show _*16<=_;first|omega|(simp only[ls];omega))
      clear S9;subst e1
      replace ay:=ay.mono (Hp.U6 cG dK.mx)
      replace fE:=fE.mono cG
      refine ar 2 3 rfl rfl rfl (Uf (C:=(ck 141)) (l:=[_]) rfl rfl rfl rfl xh rfl rfl rfl rfl dK ?_)
      intro jR zx fZ;clear dK
      refine ar 3 4 rfl rfl rfl (Ux (C:=(ck 141)) (i:=3) (q:=0) (⟨A1,mE.length,c1⟩:eO) rfl rfl rfl rfl rfl rfl rfl rfl xh fZ rfl rfl rfl (by show(_+1)*24<=_;first|omega|(simp only[ls];omega)) ?_)
      intro sH De iu;clear fZ
      have qG:=iu.pick [1,2,3,4,5] [_,_,_,_,_] (by decide) ⟨rfl,rfl,rfl,rfl,rfl,trivial⟩;clear iu
      have hd1:=fE.snoc (c:=c1) hr1
      refine af 4 1 rfl rfl (U3 rfl (Ul (ah [1,3,4,5,6] rfl (U2 (U0 rfl (af 0 1 rfl rfl (ag 1 rfl (Ud rfl rfl rfl (by first|omega|(simp only[ls];omega))) ?_)))))))
      refine af 2 1 rfl rfl (U3 rfl (Ut ?_))
      have hdx:kg y=x:=by rw[hy];exact yL x
      have e9:List.map jY (jd++[acc])=List.map jY jd++[mE]:=by rw[List.map_append,show List.map jY [acc]=[mE]from by rw[wL];rfl]
      intro ak ai
      refine⟨_,?je,⟨k+1,_,(jd++[acc]),_,_,_,_,(hle1.trans cG),rfl,ai.sub ⟨rfl,rfl,rfl,rfl,rfl,trivial⟩,qG.pick [2,3,4] [_,_,_] (by decide) ⟨rfl,rfl,rfl,trivial⟩,?ei,?fK,?pV⟩⟩
      case ei=>omega
      case fK=>first|exact vR hfn nD|exact vQ hfn (by simpa using nD) (hrg.trans (IB (by simpa using qV)))
      case pV=>first|exact hd1|(rw[e9];exact hd1)
      case je=>omega
  ·refine Uk rfl rfl (ah [5] rfl (U2 (U1 Z89 Z8a rfl rfl rfl (U0 rfl (af 0 2 rfl rfl (U3 rfl (ah [2] rfl (U2 ?_))))))))
   obtain⟨M3,bt,lD,⟨A2,c2,e2,hr2⟩⟩:=S4.gW (i:=0) (H':=[_,_,_]) rfl rfl (by show _*24<=_;first|omega|(simp only[ls];omega))
   clear S4;subst e2
   replace ay:=ay.mono (Hp.U6 bt lD.mx)
   replace fE:=fE.mono bt
   refine Us hC [_] rfl rfl ⟨rfl,trivial⟩ ?_
   refine⟨_,rfl,_,hle1.trans bt,(lD.pick [] [] (by decide) trivial),?_⟩
   obtain rfl:k=4*d.ae.length:=by omega
   have e2:cD d=jd.map jY:=by unfold cD BD;rw[hfn]
   unfold KP
   rw[e2]
   exact⟨_,_,_,rfl,hr2,fE⟩
end Go.Proofs.YthppkofceancjaaGreat
namespace Go.Proofs.YthppkofceancjaaGreat
open Go.ChangeShapes Go.WideShapes Go.ChangeAt Go.RowKit
def mD(ws:List Int)(x y:Nat):List Int:=if ga ws x<ga ws y then ws.set y (ga ws x)else ws.set x (ga ws y)
def iniW(n:Nat):Nat->List Int
 |0=>List.replicate n 0
 |k+1=>(iniW n k).set k (k:Int)
def dU(d:Dg)(k:Nat)(b:Bool):Nat:=(aX d ((k+1:Nat):Int) b).1
def wj(d:Dg)(ws:List Int):Nat->List Int
 |0=>ws
 |k+1=>mD (wj d ws k) (dU d k false) (dU d k true)
def wH(d:Dg):Nat->List Int
 |0=>iniW d.ae.length d.ae.length
 |j+1=>wj d (wH d j) (2*d.ae.length)
def dR(d:Dg):List Int:=wH d d.ae.length
theorem aaL(ws:List Int)(x y:Nat):(mD ws x y).length=ws.length:=by
 unfold mD
 split<;>rw[List.length_set]
theorem vE(n k:Nat):(iniW n k).length=n:=by
 induction k with
 |zero=>exact List.length_replicate
 |succ k ih=>rw[iniW,List.length_set,ih]
theorem aar(d:Dg)(ws:List Int)(k:Nat):(wj d ws k).length=ws.length:=by
 induction k with
 |zero=>rfl
 |succ k ih=>rw[wj,aaL,ih]
theorem Ez(d:Dg)(j:Nat):(wH d j).length=d.ae.length:=by
 induction j with
 |zero=>exact vE _ _
 |succ j ih=>rw[wH,aar,ih]
theorem yt{d:Dg}(h:Uu d=true){k:Nat}(hk:k<2*d.ae.length)(b:Bool):dU d k b<d.ae.length:=(nH h (a:=((k+1:Nat):Int)) (by omega) b).1
noncomputable def Z8b:=Tryz.f25.body.getD .skip
def Z8c:=cL Z8b
def Z8d:=cR Z8b
def Z8e:=cL Z8d
def Z8f:=cR Z8d
def Z8g:=cL Z8f
def Z8h:=cR Z8f
def Z8i:=cL Z8h
def Z8j:=cR Z8h
def Z8k:=cL Z8i
def Z8l:=cR Z8i
def Z8m:=cL Z8l
def Z8n:=cL Z8m
def Z8o:=cL Z8n
def Z8p:=cR Z8n
def Z8q:=cL Z8o
def Z8r:=cR Z8o
def Z8s:=cL Z8r
def Z8t:=cR Z8r
def Z8u:=cL Z8p
def Z8v:=cR Z8p
def Z8w:=cL Z8u
def Z8x:=cL Z8j
def Z8y:=cR Z8j
def Z8z:=cL Z8x
def Z90:=cR Z8x
def Z91:=cL Z90
def Z92:=cL Z91
def Z93:=cL Z92
def Z94:=cR Z92
def Z95:=cL Z93
def Z96:=cR Z93
def Z97:=cL Z96
def Z98:=cR Z96
def Z99:=cL Z94
def Z9a:=cR Z94
def Z9b:=cL Z99
def Z9c:=cL Z9b
def Z9d:=cR Z9b
def Z9e:=cL Z9d
def Z9f:=cL Z9e
def Z9g:=cL Z9f
def Z9h:=cR Z9f
def Z9i:=cL Z9g
def Z9j:=cR Z9g
def Z9k:=cL Z9j
def Z9l:=cR Z9j
def Z9m:=cL Z9h
def Z9n:=cR Z9h
def Z9o:=cL Z9m
def Z9p:=cL Z9o
def Z9q:=cR Z9o
def Z9r:=cL Z9q
def Z9s:=cR Z9q
def Z9t:=cL Z9s
def Z9u:=cR Z9s
def Z9v:=cL Z8y
def Z9w:=cR Z8y
set_option maxHeartbeats 1000000 in
set_option maxRecDepth 10000 in
theorem aaD{w:World}{M:Hp}{X:Fr}(d:Dg){aV:Option Addr}{aU:Nat}(ay:aB bw (M.un X.h) aV aU d.ae)(hn:d.ae.length<=16)(hab:Uu d=true)(S:SH w M X []):Ct Tryz.prog 25 [.agg [.slice aV d.ae.length aU,.int .i64 d.loops].toArray] w M X (fun u M=>∃A c,u=.slice A (dR d).length c/\aB Uh M A c (dR d)):=by
 unfold Ct
 have jH:d.ae.length*40<=140737488355328:=ay.room
 refine Up (b:=Z8b) Tryz.func25 rfl Tryz.ntmps25 rfl (fun C hC=>(bu [(0,_)] ⟨rfl,trivial⟩ (U1 Z8c Z8d rfl rfl rfl (U0 rfl (ar 0 1 rfl rfl rfl (cU (l:=[_,_]) rfl rfl rfl rfl rfl S ?_))))))
 intro aI w1 S1;clear S
 refine af 1 1 rfl rfl (U3 rfl (ah [1] rfl (U2 (U1 Z8e Z8f rfl rfl rfl (U0 rfl (ag 0 rfl (U4 rfl rfl bg rfl (dV) (dS)) (ag 1 rfl (U5 rfl rfl bF rfl (S1.aG (i:=0) rfl rfl)) (ag 2 rfl (Uv rfl rfl rfl rfl rfl rfl bF) ?_))))))))
 refine af 3 1 rfl rfl (U3 rfl (ah [1,3] rfl (U2 (U1 Z8g Z8h rfl rfl rfl (U0 rfl (af 0 1 rfl rfl (ar 1 2 rfl rfl rfl (rJ (C:=Uh) d.ae.length rfl rfl rfl rfl rfl aS (by first|rfl|omega) (by show _*8<=_;first|omega|(simp only[ls];omega)) S1 ?_))))))))
 intro zz w2 S2;clear S1
 refine af 2 1 rfl rfl (U3 rfl (ah [1,3,4] rfl (U2 (U1 Z8i Z8j rfl rfl rfl (U1 Z8k Z8l rfl rfl rfl (U0 rfl (af 0 1 rfl rfl (U3 rfl ?_))))))))
 refine U2 (U7 Z8m 0 rfl rfl rfl ?_)
 refine Ui (fun aF ak aA=>∃(i:Nat) (ws:List Int) (cH:Value),aF=d.ae.length-i/\Env 67 [(1,.pointer (some ⟨aI,0,none⟩)),(3,.int .i64 (d.ae.length:Int)),(4,cH),(5,.int .i64 (i:Int))] ak/\SH aA M X [Rs.row Uh cH ws,Rs.box aI 24 [.slice aV d.ae.length aU,.int .i64 d.loops]]/\i<=d.ae.length/\ws=iniW d.ae.length i) rfl ?_ ?_
 ·intro ak ai
  refine⟨_,⟨0,_,_,rfl,ai.sub ⟨rfl,rfl,rfl,rfl,trivial⟩,S2.pick [0,1] [_,_] (by decide) ⟨rfl,rfl,trivial⟩,?bn,?bE⟩⟩
  case bn=>omega
  case bE=>rfl
 ·rintro m1 a1 w3 ⟨i,ws,cH,rfl,aQ,S3,hi,hw⟩
  clear S2
  refine aW aQ (c:=Z8n) rfl ?_
  clear aQ a1
  have HA:ws.length=d.ae.length:=by rw[hw,vE]
  refine U1 Z8o Z8p rfl rfl rfl (U1 Z8q Z8r rfl rfl rfl (U0 rfl (af 0 2 rfl rfl (ag 2 rfl (Un rfl rfl rfl) (U3 rfl (ah [1,3,4,5,17] rfl (U2 ?_)))))))
  refine Ua Z8s Z8t rfl rfl rfl rfl (fun xu=>?_) (fun xu=>?_)
  ·refine Ub rfl (ah [1,3,4,5] rfl (U2 (U1 Z8u Z8v rfl rfl rfl (U7 Z8w 1 rfl rfl rfl (U0 rfl (af 0 3 rfl rfl (ag 3 rfl (Ue (C:=Uh) (i:=0) i rfl rfl rfl aS S3 rfl (by first|rfl|omega) (by first|omega|(simp only[ls];omega))) ?_)))))))
   refine ar 4 5 rfl rfl rfl (ij (C:=Uh) (i:=0) (e:=i) (j:=0) (us:=[_]) (H':=[_,_]) (i:Int) rfl rfl S3 rfl (by first|omega|(simp only[ls];omega)) rfl rfl rfl dw rfl rfl rfl rfl ?_)
   intro w4 S4;clear S3
   refine U3 rfl (Ul (ah [1,3,4,5] rfl (U2 (U0 rfl (af 0 1 rfl rfl (ag 1 rfl (Ud rfl rfl rfl (by first|omega|(simp only[ls];omega))) ?_))))))
   refine af 2 1 rfl rfl (U3 rfl (Ut ?_))
   intro ak ai
   refine⟨_,?bG,⟨i+1,_,_,rfl,ai.sub ⟨rfl,rfl,rfl,rfl,trivial⟩,S4.pick [0,1] [_,_] (by decide) ⟨rfl,rfl,trivial⟩,?bk,?bD⟩⟩
   case bk=>omega
   case bD=>(rw[hw];rfl)
   case bG=>omega
  ·refine Uk rfl rfl (ah [1,3,4] rfl (U2 (U1 Z8x Z8y rfl rfl rfl (U1 Z8z Z90 rfl rfl rfl (U0 rfl (af 0 1 rfl rfl (U3 rfl (U2 ?_))))))))
   refine U7 Z91 2 rfl rfl rfl ?_
   refine Ui (fun aF ak aA=>∃(j:Nat) (Db:List Int) (LI:Value),aF=d.ae.length-j/\Env 67 [(1,.pointer (some ⟨aI,0,none⟩)),(3,.int .i64 (d.ae.length:Int)),(4,LI),(6,.int .i64 (j:Int))] ak/\SH aA M X [Rs.row Uh LI Db,Rs.box aI 24 [.slice aV d.ae.length aU,.int .i64 d.loops]]/\j<=d.ae.length/\Db=wH d j) rfl ?_ ?_
   ·intro ak ai
    refine⟨_,⟨0,_,_,rfl,ai.sub ⟨rfl,rfl,rfl,rfl,trivial⟩,S3.pick [0,1] [_,_] (by decide) ⟨rfl,rfl,trivial⟩,?cu,?cN⟩⟩
    case cu=>omega
    case cN=>(obtain rfl:i=d.ae.length:=(by omega);exact hw)
   ·rintro m2 a2 w5 ⟨j,Db,LI,rfl,bS,S5,hj,hw2⟩
    clear S3
    refine aW bS (c:=Z92) rfl ?_
    clear bS a2
    have hl2:Db.length=d.ae.length:=by rw[hw2,Ez]
    refine U1 Z93 Z94 rfl rfl rfl (U1 Z95 Z96 rfl rfl rfl (U0 rfl (af 0 2 rfl rfl (ag 2 rfl (Un rfl rfl rfl) (U3 rfl (ah [1,3,4,6,26] rfl (U2 ?_)))))))
    refine Ua Z97 Z98 rfl rfl rfl rfl (fun xq=>?_) (fun xq=>?_)
    ·refine Ub rfl (ah [1,3,4,6] rfl (U2 (U1 Z99 Z9a rfl rfl rfl (U7 Z9b 3 rfl rfl rfl (U1 Z9c Z9d rfl rfl rfl (U0 rfl (af 0 1 rfl rfl (U3 rfl ?_))))))))
     refine U2 (U7 Z9e 4 rfl rfl rfl ?_)
     refine Ui (fun aF ak aA=>∃(k:Nat) (zt:List Int) (LH:Value),aF=2*d.ae.length-k/\Env 67 [(1,.pointer (some ⟨aI,0,none⟩)),(3,.int .i64 (d.ae.length:Int)),(4,LH),(6,.int .i64 (j:Int)),(7,.int .i64 ((k+1:Nat):Int))] ak/\SH aA M X [Rs.row Uh LH zt,Rs.box aI 24 [.slice aV d.ae.length aU,.int .i64 d.loops]]/\k<=2*d.ae.length/\zt=wj d Db k) rfl ?_ ?_
     ·intro ak ai
      refine⟨_,⟨0,_,_,rfl,ai.sub ⟨rfl,rfl,rfl,rfl,rfl,trivial⟩,S5.pick [0,1] [_,_] (by decide) ⟨rfl,rfl,trivial⟩,?dL,?ek⟩⟩
      case dL=>omega
      case ek=>rfl
     ·rintro m3 a3 w6 ⟨k,zt,LH,rfl,cW,S6,hk,hw3⟩
      clear S5
      refine aW cW (c:=Z9f) rfl ?_
      clear cW a3
      have hl3:zt.length=d.ae.length:=by rw[hw3,aar,hw2,Ez]
      refine U1 Z9g Z9h rfl rfl rfl (U1 Z9i Z9j rfl rfl rfl (U0 rfl (af 0 2 rfl rfl (ag 2 rfl (pj rfl rfl rfl (by first|omega|(simp only[ls];omega))) ?_))))
      refine ag 3 rfl (acp rfl rfl rfl) (U3 rfl (ah [1,3,4,6,7,32] rfl (U2 ?_)))
      refine Ua Z9k Z9l rfl rfl rfl rfl (fun nC=>?_) (fun nC=>?_)
      ·have hx:=yt hab (k:=k) (by omega) false
       have hy:=yt hab (k:=k) (by omega) true
       refine Ub rfl (ah [1,3,4,6,7] rfl (U2 (U1 Z9m Z9n rfl rfl rfl (U7 Z9o 5 rfl rfl rfl (U1 Z9p Z9q rfl rfl rfl (cM rfl (by kernel_rfl) S6 10 rfl ?_))))))
       clear S6
       refine au 0 9 rfl (by kernel_rfl) (fun _ _ _ aj Sz=>.inl (Uc (us:=[_,_]) rfl rfl bg rfl dM (Sz.suf.aY (i:=1) rfl ⟨rfl,rfl,trivial⟩))) ?_
       refine aq 1 8 rfl (by kernel_rfl) (fun _=>run_move rfl rfl) ?_
       refine au 2 7 rfl (by kernel_rfl) (fun _ _ _ aj Sz=>jT rfl rfl rfl rfl rfl Gy Sz (Fh d ((k+1:Nat):Int) false ((ay.mono (Hp.U6 aj Sz.mx)).mono Sz.Uq) Sz.aR)) ?_
       refine aq 3 6 rfl (by kernel_rfl) (fun _=>D6 rfl rfl iP rfl aw rfl rfl) ?_
       refine au 4 5 rfl (by kernel_rfl) (fun _ _ _ aj Sz=>.inl (Uc (us:=[_,_]) rfl rfl bg rfl dM (Sz.suf.aY (i:=1) rfl ⟨rfl,rfl,trivial⟩))) ?_
       refine aq 5 4 rfl (by kernel_rfl) (fun _=>run_move rfl rfl) ?_
       refine au 6 3 rfl (by kernel_rfl) (fun _ _ _ aj Sz=>jT rfl rfl rfl rfl rfl Gy Sz (Fh d ((k+1:Nat):Int) true ((ay.mono (Hp.U6 aj Sz.mx)).mono Sz.Uq) Sz.aR)) ?_
       refine aq 7 2 rfl (by kernel_rfl) (fun _=>D6 rfl rfl iP rfl aw rfl rfl) ?_
       refine aq 8 1 rfl (by kernel_rfl) (fun _=>run_assign rfl rfl) ?_
       refine aq 9 0 rfl (by kernel_rfl) (fun _=>run_assign rfl rfl) ?_
       refine cF (by kernel_rfl) (fun zw dK=>?_)
       refine ah [1,3,4,6,7,8,9] rfl (U2 (U1 Z9r Z9s rfl rfl rfl (eZ 8 (.int .i64 ((dU d k false:Nat):Int)) rfl (int_eq rfl) (eZ 9 (.int .i64 ((dU d k true:Nat):Int)) rfl (int_eq rfl) (cM rfl (by kernel_rfl) dK 9 rfl ?_)))))
       clear dK
       refine aq 0 8 rfl (by kernel_rfl) (fun _=>run_move rfl rfl) ?_
       refine aq 1 7 rfl (by kernel_rfl) (fun _=>run_move rfl rfl) ?_
       refine au 2 6 rfl (by kernel_rfl) (fun _ _ _ aj Sz=>.inl (Ue (C:=Uh) (i:=0) (dU d k false) rfl rfl rfl aS Sz.suf rfl (by first|rfl|omega) (by first|omega|(simp only[ls];omega)))) ?_
       refine au 3 5 rfl (by kernel_rfl) (fun _ _ _ aj Sz=>.inl (U5 rfl rfl aw rfl (Sz.suf.cK (i:=0) (e:=dU d k false) (j:=0) rfl (by first|omega|(simp only[ls];omega)) rfl rfl))) ?_
       refine aq 4 4 rfl (by kernel_rfl) (fun _=>run_move rfl rfl) ?_
       refine aq 5 3 rfl (by kernel_rfl) (fun _=>run_move rfl rfl) ?_
       refine au 6 2 rfl (by kernel_rfl) (fun _ _ _ aj Sz=>.inl (Ue (C:=Uh) (i:=0) (dU d k true) rfl rfl rfl aS Sz.suf rfl (by first|rfl|omega) (by first|omega|(simp only[ls];omega)))) ?_
       refine au 7 1 rfl (by kernel_rfl) (fun _ _ _ aj Sz=>.inl (U5 rfl rfl aw rfl (Sz.suf.cK (i:=0) (e:=dU d k true) (j:=0) rfl (by first|omega|(simp only[ls];omega)) rfl rfl))) ?_
       refine aq 8 0 rfl (by kernel_rfl) (fun _=>Un rfl rfl rfl) ?_
       refine cF (by kernel_rfl) (fun Dc fQ=>?_)
       refine ah [1,3,4,6,7,8,9,51] rfl (U2 ?_)
       refine Ua Z9t Z9u rfl rfl rfl rfl (fun Mk=>?_) (fun Mk=>?_)
       ·refine U0 rfl (af 0 4 rfl rfl (ag 4 rfl (Ue (C:=Uh) (i:=0) (dU d k false) rfl rfl rfl aS fQ rfl (by first|rfl|omega) (by first|omega|(simp only[ls];omega))) ?_))
        refine ag 5 rfl (U5 rfl rfl aw rfl (fQ.cK (i:=0) (e:=dU d k false) (j:=0) rfl (by first|omega|(simp only[ls];omega)) rfl rfl)) ?_
        refine ag 6 rfl (Ue (C:=Uh) (i:=0) (dU d k true) rfl rfl rfl aS fQ rfl (by first|rfl|omega) (by first|omega|(simp only[ls];omega))) ?_
        refine ar 7 8 rfl rfl rfl (ij (C:=Uh) (i:=0) (e:=dU d k true) (j:=0) (us:=[_]) (H':=[_,_]) (ga zt (dU d k false)) rfl rfl fQ rfl (by first|omega|(simp only[ls];omega)) rfl rfl rfl dw rfl rfl rfl rfl ?_)
        intro UI jF;clear fQ
        refine U3 rfl (Ul (ah [1,3,4,6,7] rfl (U2 (U0 rfl (af 0 1 rfl rfl (ag 1 rfl (Ud rfl rfl rfl (by first|omega|(simp only[ls];omega))) ?_))))))
        refine af 2 1 rfl rfl (U3 rfl (Ut ?_))
        intro ak ai
        refine⟨_,?je,⟨k+1,_,_,rfl,ai.sub ⟨rfl,rfl,rfl,rfl,rfl,trivial⟩,jF.pick [0,1] [_,_] (by decide) ⟨rfl,rfl,trivial⟩,?ei,?fK⟩⟩
        case ei=>omega
        case fK=>(show _=mD _ _ _;rw[<-hw3];unfold mD;first|rw[if_pos (by omega)]|rw[if_neg (by omega)])
        case je=>omega
       ·refine U0 rfl (af 0 4 rfl rfl (ag 4 rfl (Ue (C:=Uh) (i:=0) (dU d k true) rfl rfl rfl aS fQ rfl (by first|rfl|omega) (by first|omega|(simp only[ls];omega))) ?_))
        refine ag 5 rfl (U5 rfl rfl aw rfl (fQ.cK (i:=0) (e:=dU d k true) (j:=0) rfl (by first|omega|(simp only[ls];omega)) rfl rfl)) ?_
        refine ag 6 rfl (Ue (C:=Uh) (i:=0) (dU d k false) rfl rfl rfl aS fQ rfl (by first|rfl|omega) (by first|omega|(simp only[ls];omega))) ?_
        refine ar 7 8 rfl rfl rfl (ij (C:=Uh) (i:=0) (e:=dU d k false) (j:=0) (us:=[_]) (H':=[_,_]) (ga zt (dU d k true)) rfl rfl fQ rfl (by first|omega|(simp only[ls];omega)) rfl rfl rfl dw rfl rfl rfl rfl ?_)
        intro UH fB;clear fQ
        refine U3 rfl (Ul (ah [1,3,4,6,7] rfl (U2 (U0 rfl (af 0 1 rfl rfl (ag 1 rfl (Ud rfl rfl rfl (by first|omega|(simp only[ls];omega))) ?_))))))
        refine af 2 1 rfl rfl (U3 rfl (Ut ?_))
        intro ak ai
        refine⟨_,?lS,⟨k+1,_,_,rfl,ai.sub ⟨rfl,rfl,rfl,rfl,rfl,trivial⟩,fB.pick [0,1] [_,_] (by decide) ⟨rfl,rfl,trivial⟩,?fJ,?gu⟩⟩
        case fJ=>omega
        case gu=>(show _=mD _ _ _;rw[<-hw3];unfold mD;first|rw[if_pos (by omega)]|rw[if_neg (by omega)])
        case lS=>omega
      ·refine Uk rfl rfl (Ul (ah [1,3,4,6] rfl (U2 (U0 rfl (af 0 1 rfl rfl (ag 1 rfl (Ud rfl rfl rfl (by first|omega|(simp only[ls];omega))) ?_))))))
       refine af 2 1 rfl rfl (U3 rfl (Ut ?_))
       intro ak ai
       refine⟨_,?nB,⟨j+1,_,_,rfl,ai.sub ⟨rfl,rfl,rfl,rfl,trivial⟩,S6.pick [0,1] [_,_] (by decide) ⟨rfl,rfl,trivial⟩,?gq,?gj⟩⟩
       case gq=>omega
       case gj=>(obtain rfl:k=2*d.ae.length:=(by omega);rw[hw3,hw2];rfl)
       case nB=>omega
    ·refine Uk rfl rfl (ah [4] rfl (U2 (U1 Z9v Z9w rfl rfl rfl (U0 rfl (af 0 2 rfl rfl (U3 rfl (ah [2] rfl (U2 ?_))))))))
     obtain⟨M20,aeH,ki,⟨A1,c1,e1,hr1⟩⟩:=S5.gW (i:=0) (H':=[_,_]) rfl rfl (by show _*8<=_;first|omega|(simp only[ls];omega))
     clear S5;subst e1
     replace ay:=ay.mono (Hp.U6 aeH ki.mx)
     refine Us hC [_] rfl rfl ⟨rfl,trivial⟩ ?_
     refine⟨_,rfl,_,aeH,(ki.pick [] [] (by decide) trivial),?_⟩
     obtain rfl:j=d.ae.length:=by omega
     subst hw2
     exact⟨_,_,rfl,hr1⟩
end Go.Proofs.YthppkofceancjaaGreat
namespace Go.Proofs.YthppkofceancjaaGreat
open Go.ChangeShapes Go.WideShapes Go.ChangeAt Go.RowKit
theorem ai0(nx:Nat->Nat)(seen:List Bool)(x:Nat)(acc:List Int):∃t,(fA nx seen x acc).2=acc++t:=by
 induction hk:free seen using Nat.strongRecOn generalizing seen x acc with
 |_ k ih=>
  by_cases h:x<seen.length/\ga seen x=false
  ·rw[vG h.1 h.2]
   have:=px h.1 h.2
   obtain⟨t,ht⟩:=ih (free (seen.set x true)) (by omega) (seen.set x true) (nx x) (acc++[(x:Int)]) rfl
   exact⟨(x:Int)::t,by rw[ht];simp⟩
  ·refine⟨[],?_⟩
   rw[fA]
   simp[h]
theorem Iy(d:Dg)(k:Nat)(hk:k<=4*d.ae.length):∀r∈(dQ d k).2,∃(c:Nat) (t:List Int),r=(c:Int)::t/\2<=c/\c<4*d.ae.length+2:=by
 induction k with
 |zero=>intro r hr;simp[dQ]at hr
 |succ k ih=>
  by_cases hg:ga (dQ d k).1 (k+2)=true
  ·rw[vR rfl hg];exact ih (by omega)
  ·rw[vQ rfl (by simpa using hg) rfl]
   intro r hr
   rcases List.mem_append.1 hr with hr|hr
   ·exact ih (by omega) r hr
   ·rw[List.mem_singleton]at hr
    subst hr
    have hl:=xY d k
    rw[vG (by omega) (by simpa using hg)]
    obtain⟨t,ht⟩:=ai0 (dI d) ((dQ d k).1.set (k+2) true) (dI d (k+2)) ([]++[((k+2:Nat):Int)])
    exact⟨k+2,t,by rw[ht];rfl,by omega,by omega⟩
def hd0(d:Dg)(k:Nat):Da:=ga (ga (cD d) k) 0
theorem KA{d:Dg}{k:Nat}(hk:k<(cD d).length):0<(ga (cD d) k).length/\okD d (hd0 d k):=by
 have hm:ga (cD d) k∈cD d:=by rw[bV hk];exact List.getElem_mem hk
 unfold cD BD at hm
 rw[List.mem_map]at hm
 obtain⟨r,hr,e⟩:=hm
 obtain⟨c,t,rfl,h1,h2⟩:=Iy d _ (Nat.le_refl _) r hr
 have e':ga (cD d) k=dA c::jY t:=e.symm
 refine⟨by rw[e'];simp,?_⟩
 unfold hd0
 rw[e']
 exact oG ⟨h1,h2⟩
def gU(d:Dg)(k:Nat):Nat:=(aX d (hd0 d k).a (hd0 d k).b).1
theorem KE{d:Dg}(h:Uu d=true){k:Nat}(hk:k<(cD d).length):gU d k<d.ae.length:=(nH h (KA hk).2 (hd0 d k).b).1
def negW(ws:List Int)(p:Int):Nat->Int
 |0=>0
 |k+1=>if ga ws k=p then negW ws p k-1 else negW ws p k
def lX(d:Dg)(ws:List Int)(p:Int)(m:Int):Nat->Int
 |0=>m
 |k+1=>if ga ws (gU d k)=p then lX d ws p m k+1 else lX d ws p m k
def rW(d:Dg)(p:Nat):Bool:=decide (ga (dR d) p≠(p:Int))||decide (lX d (dR d) p (negW (dR d) p d.ae.length) (cD d).length=2)
def yE(d:Dg):Bool:=(List.range d.ae.length).all (rW d)
theorem abI{d:Dg}(h:∀p,p<d.ae.length->rW d p=true):yE d=true:=by
 unfold yE
 rw[List.all_eq_true]
 intro p hp
 exact h p (List.mem_range.1 hp)
theorem aj8{d:Dg}{p:Nat}(hp:p<d.ae.length)(h:rW d p=false):yE d=false:=by
 unfold yE
 rw[List.all_eq_false]
 exact⟨p,List.mem_range.2 hp,by rw[h];decide⟩
theorem acC(ws:List Int)(p:Int)(k:Nat):-(k:Int)<=negW ws p k/\negW ws p k<=0:=by
 induction k with
 |zero=>simp[negW]
 |succ k ih=>rw[negW];split<;>omega
theorem al6(d:Dg)(ws:List Int)(p m:Int)(k:Nat):m<=lX d ws p m k/\lX d ws p m k<=m+k:=by
 induction k with
 |zero=>simp[lX]
 |succ k ih=>rw[lX];split<;>omega
theorem aak(d:Dg):(cD d).length<=4*d.ae.length:=by
 unfold cD BD
 rw[List.length_map]
 exact Ev d _
noncomputable def Z9x:=Tryz.f32.body.getD .skip
def Z9y:=cL Z9x
def Z9z:=cR Z9x
def Za0:=cL Z9z
def Za1:=cR Z9z
def Za2:=cL Za1
def Za3:=cR Za1
def Za4:=cL Za3
def Za5:=cR Za3
def Za6:=cL Za4
def Za7:=cR Za4
def Za8:=cL Za7
def Za9:=cL Za8
def Zaa:=cL Za9
def Zab:=cR Za9
def Zac:=cL Zaa
def Zad:=cR Zaa
def Zae:=cL Zad
def Zaf:=cR Zad
def Zag:=cL Zab
def Zah:=cR Zab
def Zai:=cL Zag
def Zaj:=cL Zai
def Zak:=cR Zai
def Zal:=cL Zaj
def Zam:=cR Zaj
def Zan:=cL Zam
def Zao:=cR Zam
def Zap:=cL Zak
def Zaq:=cR Zak
def Zar:=cL Zaq
def Zas:=cR Zaq
def Zat:=cL Zar
def Zau:=cR Zar
def Zav:=cL Zau
def Zaw:=cL Zav
def Zax:=cL Zaw
def Zay:=cR Zaw
def Zaz:=cL Zax
def Zb0:=cR Zax
def Zb1:=cL Zb0
def Zb2:=cR Zb0
def Zb3:=cL Zay
def Zb4:=cR Zay
def Zb5:=cL Zb3
def Zb6:=cL Zb5
def Zb7:=cR Zb5
def Zb8:=cL Zb7
def Zb9:=cR Zb7
def Zba:=cL Zas
def Zbb:=cR Zas
def Zbc:=cL Zba
def Zbd:=cR Zba
def Zbe:=cL Zbd
def Zbf:=cL Zbe
def Zbg:=cL Zbf
def Zbh:=cR Zbf
def Zbi:=cL Zbg
def Zbj:=cR Zbg
def Zbk:=cL Zbj
def Zbl:=cR Zbj
def Zbm:=cL Zbh
def Zbn:=cR Zbh
def Zbo:=cL Zbm
def Zbp:=cL Zbo
def Zbq:=cR Zbo
def Zbr:=cL Zbq
def Zbs:=cR Zbq
def Zbt:=cL Zbb
def Zbu:=cR Zbb
def Zbv:=cL Zbu
def Zbw:=cR Zbu
def Zbx:=cL Zbv
def Zby:=cR Zbv
def Zbz:=cL Za5
def Zc0:=cR Za5
set_option maxHeartbeats 1000000 in
set_option maxRecDepth 10000 in
theorem aiS{w:World}{M:Hp}{X:Fr}(d:Dg){aV:Option Addr}{aU:Nat}(ay:aB bw (M.un X.h) aV aU d.ae)(hn:d.ae.length<=16)(hab:Uu d=true)(S:SH w M X []):Ct Tryz.prog 32 [.agg [.slice aV d.ae.length aU,.int .i64 d.loops].toArray] w M X (fun u _=>u=.bool (yE d)):=by
 unfold Ct
 have jH:d.ae.length*40<=140737488355328:=ay.room
 refine Up (b:=Z9x) Tryz.func32 rfl Tryz.ntmps32 rfl (fun C hC=>(bu [(0,_)] ⟨rfl,trivial⟩ (U1 Z9y Z9z rfl rfl rfl (U0 rfl (ar 0 1 rfl rfl rfl (cU (l:=[_,_]) rfl rfl rfl rfl rfl S ?_))))))
 intro aI w1 S1;clear S
 refine af 1 1 rfl rfl (U3 rfl (ah [1] rfl (U2 (U1 Za0 Za1 rfl rfl rfl (U0 rfl (ag 0 rfl (Uc (us:=[_,_]) rfl rfl bg rfl dM (S1.aY (i:=0) rfl ⟨rfl,rfl,trivial⟩)) (ar 1 2 rfl rfl rfl (dt rfl rfl rfl rfl rfl rfl rfl afU S1 (aaD d (ay.mono S1.Uq) (hn) (hab) S1.aR) ?_))))))))
 intro mP w2 M1 hle1 S2 jg;clear S1
 replace ay:=ay.mono (Hp.U6 hle1 S2.mx)
 obtain⟨A1,c1,rfl,hr1⟩:=jg
 refine af 2 1 rfl rfl (U3 rfl (ah [1,3] rfl (U2 (U1 Za2 Za3 rfl rfl rfl (U0 rfl (ag 0 rfl (Uc (us:=[_,_]) rfl rfl bg rfl dM (S2.aY (i:=0) rfl ⟨rfl,rfl,trivial⟩)) (ar 1 2 rfl rfl rfl (dt rfl rfl rfl rfl rfl rfl rfl asD S2 (ajv d (ay.mono S2.Uq) (hn) (hab) S2.aR) ?_))))))))
 intro Df w3 M2 hle2 S3 p7;clear S2
 replace ay:=ay.mono (Hp.U6 hle2 S3.mx)
 replace hr1:=hr1.mono hle2
 obtain⟨A2,c2,vs1,rfl,hr2,hd1⟩:=p7
 have hfl:=hd1.1
 refine af 2 1 rfl rfl (U3 rfl (ah [1,3,4] rfl (U2 (U1 Za4 Za5 rfl rfl rfl (U1 Za6 Za7 rfl rfl rfl (U0 rfl (af 0 1 rfl rfl (U3 rfl ?_))))))))
 refine U2 (U7 Za8 0 rfl rfl rfl ?_)
 refine Ui (fun aF ak aA=>∃(p:Nat),aF=d.ae.length-p/\Env 71 [(1,.pointer (some ⟨aI,0,none⟩)),(3,.slice A1 (dR d).length c1),(4,.slice A2 vs1.length c2),(5,.int .i64 (p:Int))] ak/\SH aA M2 X [Rs.box aI 24 [.slice aV d.ae.length aU,.int .i64 d.loops]]/\p<=d.ae.length/\(∀q,q<p->rW d q=true)) rfl ?_ ?_
 ·intro ak ai
  refine⟨_,⟨0,rfl,ai.sub ⟨rfl,rfl,rfl,rfl,trivial⟩,S3.pick [0] [_] (by decide) ⟨rfl,trivial⟩,?bn,?bE⟩⟩
  case bn=>omega
  case bE=>(intro q hq;omega)
 ·rintro m1 a1 w4 ⟨p,rfl,aQ,S4,hp,hall⟩
  clear S3
  refine aW aQ (c:=Za9) rfl ?_
  clear aQ a1
  have xN:=Ez d d.ae.length
  replace xN:(dR d).length=d.ae.length:=xN
  have hfm:=aak d
  refine U1 Zaa Zab rfl rfl rfl (U1 Zac Zad rfl rfl rfl (U0 rfl (af 0 2 rfl rfl (ag 2 rfl (Uv rfl rfl rfl rfl rfl rfl cI) (ag 3 rfl (Un rfl rfl rfl) (U3 rfl (ah [1,3,4,5,16] rfl (U2 ?_))))))))
  refine Ua Zae Zaf rfl rfl rfl rfl (fun CG=>?_) (fun CG=>?_)
  ·refine Ub rfl (ah [1,3,4,5] rfl (U2 (U1 Zag Zah rfl rfl rfl (U7 Zai 1 rfl rfl rfl (U1 Zaj Zak rfl rfl rfl (U1 Zal Zam rfl rfl rfl (U0 rfl (af 0 2 rfl rfl ?_))))))))
   refine ag 2 rfl (U9 (C:=Uh) p rfl rfl rfl aS (by first|rfl|omega) hr1 (by first|omega|(simp only[ls];omega))) ?_
   refine ag 3 rfl (U5 rfl rfl aw rfl (hr1.cell S4.m (i:=p) (by first|omega|(simp only[ls];omega)) 0 rfl rfl)) ?_
   refine af 4 1 rfl rfl (ag 5 rfl (gG rfl rfl rfl) (U3 rfl (ah [1,3,4,5,24] rfl (U2 ?_))))
   refine Ua Zan Zao rfl rfl rfl rfl (fun nD=>?_) (fun nD=>?_)
   ·refine Uk rfl rfl (ah [1,3,4,5] rfl (U2 (U0 rfl (af 0 1 rfl rfl (ag 1 rfl (Ud rfl rfl rfl (by first|omega|(simp only[ls];omega))) ?_)))))
    refine af 2 1 rfl rfl (U3 rfl (Ut ?_))
    intro ak ai
    refine⟨_,?bG,⟨p+1,rfl,ai.sub ⟨rfl,rfl,rfl,rfl,trivial⟩,S4.pick [0] [_] (by decide) ⟨rfl,trivial⟩,?bk,?bD⟩⟩
    case bk=>omega
    case bD=>(intro q hq;by_cases h:q=p;(subst h;unfold rW;rw[Bool.or_eq_true];first|(left;exact decide_eq_true (by omega))|(right;exact decide_eq_true (by omega)));exact hall q (by omega))
    case bG=>omega
   ·refine Ub rfl (ah [1,3,4,5] rfl (U2 (U1 Zap Zaq rfl rfl rfl (U0 rfl (af 0 1 rfl rfl (U3 rfl (U2 (U1 Zar Zas rfl rfl rfl ?_))))))))
    refine U1 Zat Zau rfl rfl rfl (U0 rfl (af 0 1 rfl rfl (U3 rfl (U2 (U7 Zav 2 rfl rfl rfl ?_)))))
    refine Ui (fun aF ak aA=>∃(i:Nat) (m:Int),aF=d.ae.length-i/\Env 71 [(1,.pointer (some ⟨aI,0,none⟩)),(3,.slice A1 (dR d).length c1),(4,.slice A2 vs1.length c2),(5,.int .i64 (p:Int)),(6,.int .i64 m),(7,.int .i64 (i:Int))] ak/\SH aA M2 X [Rs.box aI 24 [.slice aV d.ae.length aU,.int .i64 d.loops]]/\i<=d.ae.length/\m=negW (dR d) p i) rfl ?_ ?_
    ·intro ak ai
     refine⟨_,⟨0,_,rfl,ai.sub ⟨rfl,rfl,rfl,rfl,rfl,rfl,trivial⟩,S4.pick [0] [_] (by decide) ⟨rfl,trivial⟩,?cu,?cN⟩⟩
     case cu=>omega
     case cN=>rfl
    ·rintro m2 a2 w5 ⟨i,m,rfl,bS,S5,hi,hm⟩
     clear S4
     refine aW bS (c:=Zaw) rfl ?_
     clear bS a2
     have hnb:=acC (dR d) p i
     refine U1 Zax Zay rfl rfl rfl (U1 Zaz Zb0 rfl rfl rfl (U0 rfl (af 0 2 rfl rfl (ag 2 rfl (Uv rfl rfl rfl rfl rfl rfl cI) (ag 3 rfl (Un rfl rfl rfl) (U3 rfl (ah [1,3,4,5,6,7,28] rfl (U2 ?_))))))))
     refine Ua Zb1 Zb2 rfl rfl rfl rfl (fun CB=>?_) (fun CB=>?_)
     ·refine Ub rfl (ah [1,3,4,5,6,7] rfl (U2 (U1 Zb3 Zb4 rfl rfl rfl (U7 Zb5 3 rfl rfl rfl (U1 Zb6 Zb7 rfl rfl rfl (U0 rfl (af 0 2 rfl rfl (ag 2 rfl (U9 (C:=Uh) i rfl rfl rfl aS (by first|rfl|omega) hr1 (by first|omega|(simp only[ls];omega))) ?_))))))))
      refine ag 3 rfl (U5 rfl rfl aw rfl (hr1.cell S5.m (i:=i) (by first|omega|(simp only[ls];omega)) 0 rfl rfl)) ?_
      refine af 4 1 rfl rfl (ag 5 rfl (Uz rfl rfl rfl) (U3 rfl (ah [1,3,4,5,6,7,36] rfl (U2 ?_))))
      refine Ua Zb8 Zb9 rfl rfl rfl rfl (fun qV=>?_) (fun qV=>?_)
      ·refine U0 rfl (af 0 1 rfl rfl (ag 1 rfl (qy rfl rfl rfl (by first|omega|(simp only[ls];omega))) ?_))
       refine af 2 1 rfl rfl (U3 rfl (Ul (ah [1,3,4,5,6,7] rfl (U2 (U0 rfl (af 0 1 rfl rfl (ag 1 rfl (Ud rfl rfl rfl (by first|omega|(simp only[ls];omega))) ?_)))))))
       refine af 2 1 rfl rfl (U3 rfl (Ut ?_))
       intro ak ai
       refine⟨_,?jf,⟨i+1,_,rfl,ai.sub ⟨rfl,rfl,rfl,rfl,rfl,rfl,trivial⟩,S5.pick [0] [_] (by decide) ⟨rfl,trivial⟩,?dL,?ek⟩⟩
       case dL=>omega
       case ek=>(rw[negW,hm];first|rw[if_pos (by omega)]|rw[if_neg (by omega)])
       case jf=>omega
      ·refine Ub rfl (Ul (ah [1,3,4,5,6,7] rfl (U2 (U0 rfl (af 0 1 rfl rfl (ag 1 rfl (Ud rfl rfl rfl (by first|omega|(simp only[ls];omega))) ?_))))))
       refine af 2 1 rfl rfl (U3 rfl (Ut ?_))
       intro ak ai
       refine⟨_,?je,⟨i+1,_,rfl,ai.sub ⟨rfl,rfl,rfl,rfl,rfl,rfl,trivial⟩,S5.pick [0] [_] (by decide) ⟨rfl,trivial⟩,?ei,?fK⟩⟩
       case ei=>omega
       case fK=>(rw[negW,hm];first|rw[if_pos (by omega)]|rw[if_neg (by omega)])
       case je=>omega
     ·refine Uk rfl rfl (ah [1,3,4,5,6] rfl (U2 (U1 Zba Zbb rfl rfl rfl (U1 Zbc Zbd rfl rfl rfl (U0 rfl (af 0 1 rfl rfl (U3 rfl (U2 ?_))))))))
      refine U7 Zbe 4 rfl rfl rfl ?_
      refine Ui (fun aF ak aA=>∃(k:Nat) (m2:Int),aF=(cD d).length-k/\Env 71 [(1,.pointer (some ⟨aI,0,none⟩)),(3,.slice A1 (dR d).length c1),(4,.slice A2 vs1.length c2),(5,.int .i64 (p:Int)),(6,.int .i64 m2),(8,.int .i64 (k:Int))] ak/\SH aA M2 X [Rs.box aI 24 [.slice aV d.ae.length aU,.int .i64 d.loops]]/\k<=(cD d).length/\m2=lX d (dR d) p (negW (dR d) p d.ae.length) k) rfl ?_ ?_
      ·intro ak ai
       refine⟨_,⟨0,_,rfl,ai.sub ⟨rfl,rfl,rfl,rfl,rfl,rfl,trivial⟩,S5.pick [0] [_] (by decide) ⟨rfl,trivial⟩,?fJ,?gu⟩⟩
       case fJ=>omega
       case gu=>(rw[hm,show i=d.ae.length by omega];rfl)
      ·rintro m3 a3 w6 ⟨k,m2,rfl,cW,S6,hk,hm2⟩
       clear S5
       refine aW cW (c:=Zbf) rfl ?_
       clear cW a3
       have hnb:=acC (dR d) p d.ae.length
       have hfb:=al6 d (dR d) p (negW (dR d) p d.ae.length) k
       refine U1 Zbg Zbh rfl rfl rfl (U1 Zbi Zbj rfl rfl rfl (U0 rfl (af 0 2 rfl rfl (ag 2 rfl (Uv rfl rfl rfl rfl rfl rfl Cf) (ag 3 rfl (Un rfl rfl rfl) (U3 rfl (ah [1,3,4,5,6,8,42] rfl (U2 ?_))))))))
       refine Ua Zbk Zbl rfl rfl rfl rfl (fun CA=>?_) (fun CA=>?_)
       ·have hhd:=KA (d:=d) (k:=k) (by omega)
        have hfc:=KE hab (k:=k) (by omega)
        obtain⟨hh0,hok⟩:=hhd
        have Vm:gU d k=(aX d (ga (ga (cD d) k) 0).a (ga (ga (cD d) k) 0).b).1:=rfl
        rw[Vm]at hfc
        refine Ub rfl (ah [1,3,4,5,6,8] rfl (U2 (U1 Zbm Zbn rfl rfl rfl (U7 Zbo 5 rfl rfl rfl (U1 Zbp Zbq rfl rfl rfl (cM rfl (by kernel_rfl) S6 22 rfl ?_))))))
        clear S6
        refine aq 0 21 rfl (by kernel_rfl) (fun _=>run_move rfl rfl) ?_
        refine au 1 20 rfl (by kernel_rfl) (fun _ _ _ aj Sz=>.inl (Uc (us:=[_,_]) rfl rfl bg rfl dM (Sz.suf.aY (i:=0) rfl ⟨rfl,rfl,trivial⟩))) ?_
        refine aq 2 19 rfl (by kernel_rfl) (fun _=>run_move rfl rfl) ?_
        refine aq 3 18 rfl (by kernel_rfl) (fun _=>run_move rfl rfl) ?_
        refine au 4 17 rfl (by kernel_rfl) (fun _ _ _ aj Sz=>.inl (U9 (C:=(ck 141)) k rfl rfl rfl xh (by first|rfl|omega) (hr2.mono aj) (by first|omega|(simp only[ls];omega)))) ?_
        obtain⟨Dw,hr3⟩:=hd1.2 k (by first|omega|(simp only[ls];omega))
        have azK:(ga (cD d) k).length*16<=140737488355328:=hr3.room
        refine au 5 16 rfl (by kernel_rfl) (fun _ _ _ aj Sz=>.inl (U5 rfl rfl FO rfl ((hr2.mono aj).cell Sz.m (i:=k) (by first|omega|(simp only[ls];omega)) 0 rfl (congrArg (fun n=>some (Value.slice _ n _)) Dw)))) ?_
        refine au 6 15 rfl (by kernel_rfl) (fun _ _ _ aj Sz=>.inl (U9 (C:=gN) 0 rfl rfl rfl wF (by first|rfl|omega) (hr3.mono aj) (by first|omega|(simp only[ls];omega)))) ?_
        refine aq 7 14 rfl (by kernel_rfl) (fun _=>U4 rfl rfl gw rfl (aL) (aJ)) ?_
        refine au 8 13 rfl (by kernel_rfl) (fun _ _ _ aj Sz=>.inl (U5 rfl rfl aw rfl ((hr3.mono aj).cell Sz.m (i:=0) (by first|omega|(simp only[ls];omega)) 0 rfl rfl))) ?_
        refine aq 9 12 rfl (by kernel_rfl) (fun _=>run_move rfl rfl) ?_
        refine aq 10 11 rfl (by kernel_rfl) (fun _=>run_move rfl rfl) ?_
        refine au 11 10 rfl (by kernel_rfl) (fun _ _ _ aj Sz=>.inl (U9 (C:=(ck 141)) k rfl rfl rfl xh (by first|rfl|omega) (hr2.mono aj) (by first|omega|(simp only[ls];omega)))) ?_
        obtain⟨zK,hr4⟩:=hd1.2 k (by first|omega|(simp only[ls];omega))
        have ao2:(ga (cD d) k).length*16<=140737488355328:=hr4.room
        refine au 12 9 rfl (by kernel_rfl) (fun _ _ _ aj Sz=>.inl (U5 rfl rfl FO rfl ((hr2.mono aj).cell Sz.m (i:=k) (by first|omega|(simp only[ls];omega)) 0 rfl (congrArg (fun n=>some (Value.slice _ n _)) zK)))) ?_
        refine au 13 8 rfl (by kernel_rfl) (fun _ _ _ aj Sz=>.inl (U9 (C:=gN) 0 rfl rfl rfl wF (by first|rfl|omega) (hr4.mono aj) (by first|omega|(simp only[ls];omega)))) ?_
        refine aq 14 7 rfl (by kernel_rfl) (fun _=>U4 rfl rfl gw rfl (rF) (rh)) ?_
        refine au 15 6 rfl (by kernel_rfl) (fun _ _ _ aj Sz=>.inl (U5 rfl rfl gD rfl ((hr4.mono aj).cell Sz.m (i:=0) (by first|omega|(simp only[ls];omega)) 1 rfl rfl))) ?_
        refine au 16 5 rfl (by kernel_rfl) (fun _ _ _ aj Sz=>jT rfl rfl rfl rfl rfl Gy Sz (Fh d ((ga (ga (cD d) k) 0).a) ((ga (ga (cD d) k) 0).b) ((ay.mono (Hp.U6 aj Sz.mx)).mono Sz.Uq) Sz.aR)) ?_
        refine aq 17 4 rfl (by kernel_rfl) (fun _=>D6 rfl rfl iP rfl aw rfl rfl) ?_
        refine au 18 3 rfl (by kernel_rfl) (fun _ _ _ aj Sz=>.inl (U9 (C:=Uh) ((aX d ((ga (ga (cD d) k) 0).a) ((ga (ga (cD d) k) 0).b)).1) rfl rfl rfl aS (by first|rfl|omega) (hr1.mono aj) (by first|omega|(simp only[ls];omega)))) ?_
        refine au 19 2 rfl (by kernel_rfl) (fun _ _ _ aj Sz=>.inl (U5 rfl rfl aw rfl ((hr1.mono aj).cell Sz.m (i:=(aX d ((ga (ga (cD d) k) 0).a) ((ga (ga (cD d) k) 0).b)).1) (by first|omega|(simp only[ls];omega)) 0 rfl rfl))) ?_
        refine aq 20 1 rfl (by kernel_rfl) (fun _=>run_move rfl rfl) ?_
        refine aq 21 0 rfl (by kernel_rfl) (fun _=>Uz rfl rfl rfl) ?_
        refine cF (by kernel_rfl) (fun UH fB=>?_)
        refine ah [1,3,4,5,6,8,66] rfl (U2 ?_)
        refine Ua Zbr Zbs rfl rfl rfl rfl (fun asc=>?_) (fun asc=>?_)
        ·refine U0 rfl (af 0 1 rfl rfl (ag 1 rfl (Ud rfl rfl rfl (by first|omega|(simp only[ls];omega))) ?_))
         refine af 2 1 rfl rfl (U3 rfl (Ul (ah [1,3,4,5,6,8] rfl (U2 (U0 rfl (af 0 1 rfl rfl (ag 1 rfl (Ud rfl rfl rfl (by first|omega|(simp only[ls];omega))) ?_)))))))
         refine af 2 1 rfl rfl (U3 rfl (Ut ?_))
         intro ak ai
         refine⟨_,?nB,⟨k+1,_,rfl,ai.sub ⟨rfl,rfl,rfl,rfl,rfl,rfl,trivial⟩,fB.pick [0] [_] (by decide) ⟨rfl,trivial⟩,?gq,?gj⟩⟩
         case gq=>omega
         case gj=>(rw[lX,hm2,Vm];first|rw[if_pos (by omega)]|rw[if_neg (by omega)])
         case nB=>omega
        ·refine Ub rfl (Ul (ah [1,3,4,5,6,8] rfl (U2 (U0 rfl (af 0 1 rfl rfl (ag 1 rfl (Ud rfl rfl rfl (by first|omega|(simp only[ls];omega))) ?_))))))
         refine af 2 1 rfl rfl (U3 rfl (Ut ?_))
         intro ak ai
         refine⟨_,?nA,⟨k+1,_,rfl,ai.sub ⟨rfl,rfl,rfl,rfl,rfl,rfl,trivial⟩,fB.pick [0] [_] (by decide) ⟨rfl,trivial⟩,?iy,?iw⟩⟩
         case iy=>omega
         case iw=>(rw[lX,hm2,Vm];first|rw[if_pos (by omega)]|rw[if_neg (by omega)])
         case nA=>omega
       ·have hm3:m2=lX d (dR d) p (negW (dR d) p d.ae.length) (cD d).length:=by rw[hm2,show k=(cD d).length by omega]
        refine Uk rfl rfl (ah [1,3,4,5,6] rfl (U2 (U1 Zbt Zbu rfl rfl rfl (U0 rfl (af 0 1 rfl rfl (ag 1 rfl (gG rfl rfl rfl) (U3 rfl (ah [1,3,4,5,70] rfl ?_))))))))
        refine U2 ?_
        refine Ua Zbv Zbw rfl rfl rfl rfl (fun asa=>?_) (fun asa=>?_)
        ·refine U1 Zbx Zby rfl rfl rfl (U0 rfl (af 0 1 rfl rfl (U3 rfl (ah [2] rfl (U2 (Us hC [_] rfl rfl ⟨rfl,trivial⟩ ?_))))))
         refine⟨_,rfl,_,hle1.trans hle2,(S6.pick [] [] (by decide) trivial),?_⟩
         refine congrArg Value.bool (aj8 (p:=p) (by omega) ?_).symm
         unfold rW
         rw[Bool.or_eq_false_iff]
         exact⟨decide_eq_false (by omega),decide_eq_false (by omega)⟩
        ·refine Ub rfl (Ul (ah [1,3,4,5] rfl (U2 (U0 rfl (af 0 1 rfl rfl (ag 1 rfl (Ud rfl rfl rfl (by first|omega|(simp only[ls];omega))) ?_))))))
         refine af 2 1 rfl rfl (U3 rfl (Ut ?_))
         intro ak ai
         refine⟨_,?sK,⟨p+1,rfl,ai.sub ⟨rfl,rfl,rfl,rfl,trivial⟩,S6.pick [0] [_] (by decide) ⟨rfl,trivial⟩,?nk,?nj⟩⟩
         case nk=>omega
         case nj=>(intro q hq;by_cases h:q=p;(subst h;unfold rW;rw[Bool.or_eq_true];first|(left;exact decide_eq_true (by omega))|(right;exact decide_eq_true (by omega)));exact hall q (by omega))
         case sK=>omega
  ·refine Uk rfl rfl (Uw [] trivial (U2 (U1 Zbz Zc0 rfl rfl rfl (U0 rfl (af 0 1 rfl rfl (U3 rfl (U2 (Us hC [_] rfl rfl ⟨rfl,trivial⟩ ?_))))))))
   refine⟨_,rfl,_,hle1.trans hle2,(S4.pick [] [] (by decide) trivial),?_⟩
   exact congrArg Value.bool (abI (fun q hq=>hall q (by omega))).symm
end Go.Proofs.YthppkofceancjaaGreat
namespace Go.Proofs.YthppkofceancjaaGreat
open Go.Shelf
def ajI:Go.Shelf.Ren:=⟨fun|189=>143|125=>102|257=>183|128=>160|129=>161|294=>196|295=>197|296=>198|297=>199|298=>200|299=>201|216=>202|300=>203|301=>204|328=>207|329=>188|330=>189|331=>208|332=>209|215=>210|343=>211|n=>n,fun|28=>53|3=>3|46=>185|0=>0|51=>244|53=>246|4=>4|183=>237|182=>236|131=>241|5=>5|9=>9|218=>265|222=>251|228=>276|229=>152|n=>n,fun|n=>n⟩
theorem aq6:Go.Proofs.Lays.n189 Tryz.prog ajI:={
 mixed:=by kernel_rfl
 f125:=Tryz.func102.trans (congrArg some (by kernel_rfl))
 f128:=Tryz.func160.trans (congrArg some (by kernel_rfl))
 f129:=Tryz.func161.trans (congrArg some (by kernel_rfl))
 f189:=Tryz.func143.trans (congrArg some (by kernel_rfl))
 f215:=Tryz.func210.trans (congrArg some (by kernel_rfl))
 f216:=Tryz.func202.trans (congrArg some (by kernel_rfl))
 f257:=Tryz.func183.trans (congrArg some (by kernel_rfl))
 f294:=Tryz.func196.trans (congrArg some (by kernel_rfl))
 f295:=Tryz.func197.trans (congrArg some (by kernel_rfl))
 f296:=Tryz.func198.trans (congrArg some (by kernel_rfl))
 f297:=Tryz.func199.trans (congrArg some (by kernel_rfl))
 f298:=Tryz.func200.trans (congrArg some (by kernel_rfl))
 f299:=Tryz.func201.trans (congrArg some (by kernel_rfl))
 f300:=Tryz.func203.trans (congrArg some (by kernel_rfl))
 f301:=Tryz.func204.trans (congrArg some (by kernel_rfl))
 f328:=Tryz.func207.trans (congrArg some (by kernel_rfl))
 f329:=Tryz.func188.trans (congrArg some (by kernel_rfl))
 f330:=Tryz.func189.trans (congrArg some (by kernel_rfl))
 f331:=Tryz.func208.trans (congrArg some (by kernel_rfl))
 f332:=Tryz.func209.trans (congrArg some (by kernel_rfl))
 f343:=Tryz.func211.trans (congrArg some (by kernel_rfl))
 t0:=uT0
 a0:=Tryz.isAgg0
 z0:=Tryz.sizeOf0
 v0:=Tryz.zeroValue0
 t3:=aw
 a3:=Tryz.isAgg3
 z3:=Tryz.sizeOf3
 v3:=Tryz.zeroValue3
 t4:=gD
 a4:=Tryz.isAgg4
 z4:=Tryz.sizeOf4
 v4:=Tryz.zeroValue4
 t5:=uT5
 a5:=Tryz.isAgg5
 z5:=Tryz.sizeOf5
 v5:=Tryz.zeroValue5
 t9:=uT9
 a9:=Tryz.isAgg9
 z9:=Tryz.sizeOf9
 v9:=Tryz.zeroValue9
 t28:=cI
 a28:=Tryz.isAgg53
 z28:=Tryz.sizeOf53
 v28:=Tryz.zeroValue53
 t46:=FM
 a46:=Tryz.isAgg185
 z46:=Tryz.sizeOf185
 v46:=Tryz.zeroValue185
 t51:=aeh
 a51:=Tryz.isAgg244
 z51:=Tryz.sizeOf244
 v51:=Tryz.zeroValue244
 t53:=KR
 a53:=Tryz.isAgg246
 z53:=Tryz.sizeOf246
 v53:=Tryz.zeroValue246
 t131:=aei
 a131:=Tryz.isAgg241
 z131:=Tryz.sizeOf241
 v131:=Tryz.zeroValue241
 t182:=aek
 a182:=Tryz.isAgg236
 z182:=Tryz.sizeOf236
 v182:=Tryz.zeroValue236
 t183:=aej
 a183:=Tryz.isAgg237
 z183:=Tryz.sizeOf237
 v183:=Tryz.zeroValue237
 t218:=aee
 a218:=Tryz.isAgg265
 z218:=Tryz.sizeOf265
 v218:=Tryz.zeroValue265
 t222:=aef
 a222:=Tryz.isAgg251
 z222:=Tryz.sizeOf251
 v222:=Tryz.zeroValue251
 t228:=aed
 a228:=Tryz.isAgg276
 z228:=Tryz.sizeOf276
 v228:=Tryz.zeroValue276
 t229:=aen
 a229:=Tryz.isAgg152
 z229:=Tryz.sizeOf152
 v229:=Tryz.zeroValue152}
theorem adr{w:World}{M:Hp}{X:Fr}{v:Value}{xs:List Int}(hsz:xs.length<4611686018427387904)(S:SH w M X [Rs.row Uh v xs]):
 C1 Tryz.prog 143 [v] w M X fun u M' r'=>u=.tuple #[]/\M'=M/\r'=Rs.row Uh v (cC xs):=ams aq6 hsz S
end Go.Proofs.YthppkofceancjaaGreat
namespace Go.Proofs.YthppkofceancjaaGreat
open Go.ChangeShapes Go.WideShapes Go.ChangeAt Go.RowKit
def fT(d:Dg)(x k:Nat):Nat:=(aX d (cz d x k) (cm d x k)).1
def oP(s:List Bool×List Int)(y:Nat):List Bool×List Int:=if ga s.1 y=true then s else(s.1.set y true,s.2++[(y:Int)])
def bfsS(d:Dg)(x:Nat)(s:List Bool×List Int):Nat->List Bool×List Int
 |0=>s
 |k+1=>oP (bfsS d x s k) (fT d x k)
def bfsN(d:Dg):Nat->Nat->List Bool×List Int->List Bool×List Int
 |0,_,s=>s
 |f+1,i,s=>if i<s.2.length then bfsN d f (i+1) (bfsS d (ga s.2 i).toNat s 4)else s
def iB(d:Dg):Nat->List Bool×List (List Int)
 |0=>(List.replicate d.ae.length false,[])
 |c+1=>if ga (iB d c).1 c=true then iB d c else((bfsN d d.ae.length 0 ((iB d c).1.set c true,[(c:Int)])).1,(iB d c).2++[cC (bfsN d d.ae.length 0 ((iB d c).1.set c true,[(c:Int)])).2])
def bK(d:Dg):List (List Int):=(iB d d.ae.length).2
theorem IW{d:Dg}{f i:Nat}{s:List Bool×List Int}(h:s.2.length<=i):bfsN d f i s=s:=by
 cases f with
 |zero=>rfl
 |succ f=>rw[bfsN,if_neg (by omega)]
theorem amx{d:Dg}{f i x:Nat}{s s':List Bool×List Int}(h:i<s.2.length)(hx:ga s.2 i=(x:Int))(hs:bfsS d x s 4=s'):bfsN d (f+1) i s=bfsN d f (i+1) s':=by
 rw[bfsN,if_pos h,hx,Int.toNat_natCast,hs]
theorem IP{d:Dg}{c:Nat}{s:List Bool×List (List Int)}(h:iB d c=s)(hg:ga s.1 c=true):iB d (c+1)=s:=by
 rw[iB,h,if_pos hg]
theorem I9{d:Dg}{c:Nat}{s:List Bool×List (List Int)}{r:List Bool×List Int}(h:iB d c=s)(hg:ga s.1 c=false)(hr:bfsN d d.ae.length 0 (s.1.set c true,[(c:Int)])=r):iB d (c+1)=(r.1,s.2++[cC r.2]):=by
 rw[iB,h,if_neg (by rw[hg];exact Bool.false_ne_true),hr]
theorem akI(d:Dg)(f i:Nat)(s:List Bool×List Int):(bfsN d f i s).1.length=s.1.length:=by
 have h1:∀x s k,(bfsS d x s k).1.length=s.1.length:=fun x s k=>by
  induction k with
  |zero=>rfl
  |succ k ih=>rw[bfsS,oP];split<;>simp[ih]
 induction f generalizing i s with
 |zero=>rfl
 |succ f ih=>rw[bfsN];split<;>simp[ih,h1]
theorem abK(d:Dg)(c:Nat):(iB d c).1.length=d.ae.length:=by
 induction c with
 |zero=>simp[iB]
 |succ c ih=>rw[iB];split<;>simp[ih,akI]
theorem EA(d:Dg)(c:Nat):(iB d c).2.length<=c:=by
 induction c with
 |zero=>simp[iB]
 |succ c ih=>rw[iB];split;exact Nat.le_succ_of_le ih;rw[List.length_append];show _+1<=_;omega
theorem Fs{d:Dg}(h:Uu d=true){x k:Nat}(hx:x<d.ae.length)(hk:k<4):fT d x k<d.ae.length:=(nH h (iN h hx hk) _).1
noncomputable def Zc1:=Tryz.f105.body.getD .skip
def Zc2:=cL Zc1
def Zc3:=cR Zc1
def Zc4:=cL Zc3
def Zc5:=cR Zc3
def Zc6:=cL Zc5
def Zc7:=cR Zc5
def Zc8:=cL Zc7
def Zc9:=cR Zc7
def Zca:=cL Zc8
def Zcb:=cR Zc8
def Zcc:=cL Zcb
def Zcd:=cL Zcc
def Zce:=cL Zcd
def Zcf:=cR Zcd
def Zcg:=cL Zcf
def Zch:=cR Zcf
def Zci:=cL Zcg
def Zcj:=cR Zcg
def Zck:=cL Zch
def Zcl:=cR Zch
def Zcm:=cL Zck
def Zcn:=cL Zcm
def Zco:=cR Zcm
def Zcp:=cL Zco
def Zcq:=cR Zco
def Zcr:=cL Zcp
def Zcs:=cR Zcp
def Zct:=cL Zcs
def Zcu:=cR Zcs
def Zcv:=cL Zcq
def Zcw:=cR Zcq
def Zcx:=cL Zcw
def Zcy:=cR Zcw
def Zcz:=cL Zcy
def Zd0:=cR Zcy
def Zd1:=cL Zcz
def Zd2:=cR Zcz
def Zd3:=cL Zd2
def Zd4:=cL Zd3
def Zd5:=cL Zd4
def Zd6:=cR Zd4
def Zd7:=cL Zd5
def Zd8:=cR Zd5
def Zd9:=cL Zd8
def Zda:=cR Zd8
def Zdb:=cL Zd6
def Zdc:=cR Zd6
def Zdd:=cL Zdb
def Zde:=cL Zdd
def Zdf:=cR Zdd
def Zdg:=cL Zdf
def Zdh:=cL Zdg
def Zdi:=cL Zdh
def Zdj:=cR Zdh
def Zdk:=cL Zdj
def Zdl:=cR Zdj
def Zdm:=cL Zdk
def Zdn:=cR Zdk
def Zdo:=cL Zdl
def Zdp:=cR Zdl
def Zdq:=cL Zdo
def Zdr:=cL Zdq
def Zds:=cR Zdq
def Zdt:=cL Zds
def Zdu:=cR Zds
def Zdv:=cL Zdu
def Zdw:=cR Zdu
def Zdx:=cL Zdw
def Zdy:=cR Zdw
def Zdz:=cL Zdx
def Ze0:=cR Zdx
def Ze1:=cL Zd0
def Ze2:=cR Zd0
def Ze3:=cL Zc9
def Ze4:=cR Zc9
set_option maxHeartbeats 1000000 in
set_option maxRecDepth 10000 in
theorem akM{w:World}{M:Hp}{X:Fr}(d:Dg){bp:Nat}{cA iA oA:Option Addr}{cc ic oc:Nat}(aH:bQ (M.un X.h) bp 70 [.slice cA d.ae.length cc,.int .i64 d.loops,.slice iA (aN d false (4*d.ae.length)).length ic,.slice oA (aN d true (4*d.ae.length)).length oc])(hsc:aB bw (M.un X.h) cA cc d.ae)(hsi:aB cw (M.un X.h) iA ic (aN d false (4*d.ae.length)))(aM:aB cw (M.un X.h) oA oc (aN d true (4*d.ae.length)))(hn:d.ae.length<=16)(hab:Uu d=true)(S:SH w M X []):Ct Tryz.prog 105 [.pointer (some ⟨bp,0,none⟩)] w M X (fun u M=>∃A c vs,u=.slice A vs.length c/\aB (ck 53) M A c vs/\iY Uh M vs (bK d)):=by
 unfold Ct
 refine Up (b:=Zc1) Tryz.func105 rfl Tryz.ntmps105 rfl (fun C hC=>(bu [(0,_)] ⟨rfl,trivial⟩ (U1 Zc2 Zc3 rfl rfl rfl (U0 rfl (af 0 1 rfl rfl (U3 rfl (ah [0] rfl (U2 (U1 Zc4 Zc5 rfl rfl rfl ?_)))))))))
 refine U0 rfl (af 0 1 rfl rfl (ag 1 rfl (Ur rfl rfl) (ag 2 rfl (U4 rfl rfl jM rfl (lY) (lN)) (ag 3 rfl (U4 rfl rfl bg rfl (dV) (dS)) (ag 4 rfl (U5 rfl rfl bF rfl (aH.cell S.um rfl)) (ag 5 rfl (Uv rfl rfl rfl rfl rfl rfl bF) (ar 6 7 rfl rfl rfl (rJ (C:=cS) d.ae.length rfl rfl rfl rfl rfl jK (by first|rfl|omega) (by show _*1<=_;first|omega|(simp only[ls];omega)) S ?_))))))))
 intro zz w1 S1;clear S
 refine af 7 1 rfl rfl (U3 rfl (ah [0,3] rfl (U2 (U1 Zc6 Zc7 rfl rfl rfl (U0 rfl (af 0 1 rfl rfl (U3 rfl (U2 ?_))))))))
 refine U1 Zc8 Zc9 rfl rfl rfl (U1 Zca Zcb rfl rfl rfl (U0 rfl (af 0 1 rfl rfl (ag 1 rfl (Ur rfl rfl) (ag 2 rfl (U4 rfl rfl jM rfl (lY) (lN)) (ag 3 rfl (U4 rfl rfl bg rfl (dV) (dS)) (ag 4 rfl (U5 rfl rfl bF rfl (aH.cell S1.um rfl)) (ag 5 rfl (Uv rfl rfl rfl rfl rfl rfl bF) ?_))))))))
 refine af 6 1 rfl rfl (U3 rfl (ah [0,3,4,22,23] rfl (U2 (U7 Zcc 0 rfl rfl rfl ?_))))
 have S2:=S1.gL (ck 53);clear S1
 refine Ui (fun aF ak aA=>∃(c:Nat) (seen:List Bool) (vs:List eO) (bA:List (List Int)) (nO:Value) (aZ:Value) (M1:Hp),M.le M1/\aF=d.ae.length-c/\Env 74 [(0,.pointer (some ⟨bp,0,none⟩)),(3,nO),(4,aZ),(22,.int .i64 (d.ae.length:Int)),(23,.int .i64 (c:Int))] ak/\SH aA M1 X [Rs.row (ck 53) aZ vs,Rs.row cS nO seen]/\c<=d.ae.length/\iB d c=(seen,bA)/\iY Uh M1 vs bA) rfl ?_ ?_
 ·intro ak ai
  refine⟨_,⟨0,_,_,[],_,_,_,Hp.le_refl _,rfl,ai.sub ⟨rfl,rfl,rfl,rfl,rfl,trivial⟩,S2.pick [0,1] [_,_] (by decide) ⟨rfl,rfl,trivial⟩,?bn,?bE,?ez⟩⟩
  case bn=>omega
  case bE=>rfl
  case ez=>first|exact iY.bN|(rw[e9];exact iY.bN)
 ·rintro m1 a1 w2 ⟨c,seen,vs,bA,nO,aZ,M1,hle1,rfl,aQ,S3,hc,qi,fE⟩
  clear S2
  refine aW aQ (c:=Zcd) rfl ?_
  clear aQ a1
  replace aH:=aH.mono (Hp.U6 hle1 S3.mx)
  replace hsc:=hsc.mono (Hp.U6 hle1 S3.mx)
  replace hsi:=hsi.mono (Hp.U6 hle1 S3.mx)
  replace aM:=aM.mono (Hp.U6 hle1 S3.mx)
  have hvs:=fE.1
  have lK:=EA d c
  rw[qi]at lK
  replace lK:bA.length<=c:=lK
  have hsl:seen.length=d.ae.length:=by have h9:=abK d c;rw[qi]at h9;exact h9
  refine U1 Zce Zcf rfl rfl rfl (U0 rfl (ag 0 rfl (Un rfl rfl rfl) (U3 rfl (U2 (U1 Zcg Zch rfl rfl rfl ?_)))))
  refine Ua Zci Zcj rfl rfl rfl rfl (fun nD=>?_) (fun nD=>?_)
  ·refine Ub rfl (ah [0,3,4,22,23] rfl (U2 (U1 Zck Zcl rfl rfl rfl (U7 Zcm 1 rfl rfl rfl (U1 Zcn Zco rfl rfl rfl (U0 rfl (af 0 2 rfl rfl (U3 rfl ?_))))))))
   refine ah [0,3,4,22,23,5] rfl (U2 (U1 Zcp Zcq rfl rfl rfl (U1 Zcr Zcs rfl rfl rfl (U0 rfl (af 0 2 rfl rfl (ag 2 rfl (Ue (C:=cS) (i:=1) c rfl rfl rfl jK S3 rfl (by first|rfl|omega) (by first|omega|(simp only[ls];omega))) ?_))))))
   refine ag 3 rfl (U5 rfl rfl gD rfl (S3.cK (i:=1) (e:=c) (j:=0) rfl (by first|omega|(simp only[ls];omega)) rfl rfl)) ?_
   refine U3 rfl (ah [0,3,4,22,23,5,29] rfl (U2 ?_))
   refine dH Zct Zcu rfl rfl rfl rfl (fun uO=>?_) (fun uO=>?_)
   ·refine Uk rfl rfl (ah [0,3,4,22,23] rfl (U2 (U0 rfl (ag 0 rfl (Ud rfl rfl rfl (by first|omega|(simp only[ls];omega))) ?_))))
    refine af 1 1 rfl rfl (U3 rfl (Ut ?_))
    intro ak ai
    refine⟨_,?bG,⟨c+1,_,_,bA,_,_,_,(hle1),rfl,ai.sub ⟨rfl,rfl,rfl,rfl,rfl,trivial⟩,S3.pick [0,1] [_,_] (by decide) ⟨rfl,rfl,trivial⟩,?bk,?bD,?fL⟩⟩
    case bk=>omega
    case bD=>first|exact IP qi uO|exact I9 qi (by simpa using uO) (Vr.trans (IW (by show l.length<=i;omega)))
    case fL=>first|exact fE|(rw[e9];exact fE)
    case bG=>omega
   ·refine Ub rfl (ah [0,3,4,22,23,5] rfl (U2 (U1 Zcv Zcw rfl rfl rfl (U0 rfl (af 0 2 rfl rfl (ag 2 rfl (Ue (C:=cS) (i:=1) c rfl rfl rfl jK S3 rfl (by first|rfl|omega) (by first|omega|(simp only[ls];omega))) ?_))))))
    refine ar 3 4 rfl rfl rfl (ij (C:=cS) (i:=1) (e:=c) (j:=0) (us:=[_]) (H':=[_,_]) true rfl rfl S3 rfl (by first|omega|(simp only[ls];omega)) rfl rfl rfl xH rfl rfl rfl rfl ?_)
    intro w3 S4;clear S3
    refine U3 rfl (ah [0,3,4,22,23,5] rfl (U2 (U1 Zcx Zcy rfl rfl rfl (U0 rfl (af 0 1 rfl rfl (ar 1 2 rfl rfl rfl (Uf (C:=Uh) (l:=[_]) rfl rfl rfl rfl aS rfl rfl rfl rfl S4 ?_)))))))
    intro aI w4 S5;clear S4
    refine af 2 1 rfl rfl (U3 rfl (ah [0,3,4,22,23,6] rfl (U2 (U1 Zcz Zd0 rfl rfl rfl (U1 Zd1 Zd2 rfl rfl rfl (U0 rfl (af 0 1 rfl rfl (U3 rfl ?_))))))))
    refine U2 (U7 Zd3 2 rfl rfl rfl ?_)
    have S6:=S5.KM (C:=Uh) [(c:Int)] (i:=0) (H':=[_,_,_]) rfl rfl (by simp) rfl;clear S5
    obtain⟨UN,er3⟩:∃v,v=Value.slice (some ⟨aI,0,none⟩) ([(c:Int)]).length ([(c:Int)]).length:=⟨_,rfl⟩
    rw[<-er3]at S6
    refine eZ 6 (UN) rfl er3.symm ?_
    refine Ui (fun aF ak aA=>∃(i:Nat) (gh:List Bool) (l:List Int) (xg:Value) (xF:Value),aF=d.ae.length-i/\Env 74 [(0,.pointer (some ⟨bp,0,none⟩)),(3,xg),(4,aZ),(22,.int .i64 (d.ae.length:Int)),(23,.int .i64 (c:Int)),(6,xF),(7,.int .i64 (i:Int))] ak/\SH aA M1 X [Rs.row Uh xF l,Rs.row (ck 53) aZ vs,Rs.row cS xg gh]/\bfsN d d.ae.length 0 (seen.set c true,[(c:Int)])=bfsN d (d.ae.length-i) i (gh,l)/\i<=l.length/\l.length+free gh<=d.ae.length/\(∀y,y∈l->0<=y/\y<(d.ae.length:Int))/\gh.length=d.ae.length) rfl ?_ ?_
    ·intro ak ai
     refine⟨_,⟨0,_,_,_,_,rfl,ai.sub ⟨rfl,rfl,rfl,rfl,rfl,rfl,rfl,trivial⟩,S6.pick [0,1,2] [_,_,_] (by decide) ⟨rfl,rfl,rfl,trivial⟩,?cu,?cN,?jb,?sy,?wO⟩⟩
     case cu=>rfl
     case cN=>(exact Nat.zero_le _)
     case jb=>(have h8:=px (seen:=seen) (x:=c) (by omega) (by simpa using uO);have h9:free seen<=seen.length:=List.countP_le_length;show 1+_<=_;omega)
     case sy=>(intro y hy;rw[List.mem_singleton]at hy;subst hy;omega)
     case wO=>(rw[List.length_set];exact hsl)
    ·rintro m2 a2 w5 ⟨i,gh,l,xg,xF,rfl,bS,S7,Vr,hi,Dy,hin,hs2⟩
     clear S6
     refine aW bS (c:=Zd4) rfl ?_
     clear bS a2
     refine U1 Zd5 Zd6 rfl rfl rfl (U1 Zd7 Zd8 rfl rfl rfl (U0 rfl (af 0 2 rfl rfl (ag 2 rfl (kL (C:=Uh) (i:=0) rfl rfl rfl rfl rfl rfl aS S7 rfl) (ag 3 rfl (Un rfl rfl rfl) (U3 rfl (ah [0,3,4,22,23,6,7,38] rfl (U2 ?_))))))))
     refine Ua Zd9 Zda rfl rfl rfl rfl (fun Mn=>?_) (fun Mn=>?_)
     ·have hil:i<l.length:=by omega
      have hxm:=hin (ga l i) (by rw[bV hil];exact List.getElem_mem hil)
      obtain⟨x,hx⟩:∃x:Nat,ga l i=(x:Int):=⟨(ga l i).toNat,by omega⟩
      have hxn:x<d.ae.length:=by omega
      refine Ub rfl (ah [0,3,4,22,23,6,7] rfl (U2 (U1 Zdb Zdc rfl rfl rfl (U7 Zdd 3 rfl rfl rfl (U1 Zde Zdf rfl rfl rfl (U0 rfl (af 0 1 rfl rfl (U3 rfl ?_))))))))
      refine U2 (U7 Zdg 4 rfl rfl rfl ?_)
      refine Ui (fun aF ak aA=>∃(k:Nat) (wG:List Bool) (l3:List Int) (LK:Value) (LL:Value),aF=4-k/\Env 74 [(0,.pointer (some ⟨bp,0,none⟩)),(3,LK),(4,aZ),(22,.int .i64 (d.ae.length:Int)),(23,.int .i64 (c:Int)),(6,LL),(7,.int .i64 (i:Int)),(41,.int .i64 (k:Int))] ak/\SH aA M1 X [Rs.row Uh LL l3,Rs.row (ck 53) aZ vs,Rs.row cS LK wG]/\k<=4/\bfsS d x (gh,l) k=(wG,l3)/\l3.length+free wG<=d.ae.length/\(∀y,y∈l3->0<=y/\y<(d.ae.length:Int))/\wG.length=d.ae.length/\i<l3.length/\ga l3 i=(x:Int)) rfl ?_ ?_
      ·intro ak ai
       refine⟨_,⟨0,_,_,_,_,rfl,ai.sub ⟨rfl,rfl,rfl,rfl,rfl,rfl,rfl,rfl,trivial⟩,S7.pick [0,1,2] [_,_,_] (by decide) ⟨rfl,rfl,rfl,trivial⟩,?dL,?ek,?lJ,?K7,?K6,?K5,?apw⟩⟩
       case dL=>omega
       case ek=>rfl
       case lJ=>exact Dy
       case K7=>exact hin
       case K6=>exact hs2
       case K5=>omega
       case apw=>exact hx
      ·rintro m3 a3 w6 ⟨k,wG,l3,LK,LL,rfl,cW,S8,hk,hbs,afE,Cu,hs3,hi3,hx3⟩
       clear S7
       refine aW cW (c:=Zdh) rfl ?_
       clear cW a3
       refine U1 Zdi Zdj rfl rfl rfl (U0 rfl (ag 0 rfl (Un rfl rfl rfl) (U3 rfl (U2 (U1 Zdk Zdl rfl rfl rfl ?_)))))
       refine Ua Zdm Zdn rfl rfl rfl rfl (fun CA=>?_) (fun CA=>?_)
       ·refine Ub rfl (ah [0,3,4,22,23,6,7,41] rfl (U2 (U1 Zdo Zdp rfl rfl rfl (U7 Zdq 5 rfl rfl rfl (U1 Zdr Zds rfl rfl rfl (U0 rfl (af 0 2 rfl rfl (U3 rfl ?_))))))))
        refine ah [0,3,4,22,23,6,7,41,8] rfl (U2 (U1 Zdt Zdu rfl rfl rfl (U0 rfl (af 0 3 rfl rfl (ag 3 rfl (Ue (C:=Uh) (i:=0) i rfl rfl rfl aS S8 rfl (by first|rfl|omega) (by first|omega|(simp only[ls];omega))) ?_)))))
        refine ag 4 rfl (U5 rfl rfl aw rfl (S8.cK (i:=0) (e:=i) (j:=0) rfl (by first|omega|(simp only[ls];omega)) rfl rfl)) ?_
        refine cZ 48 (.int .i64 (x:Int)) rfl (int_eq hx3) ?_
        have hnb:=Fs hab (k:=k) hxn (by omega)
        refine af 5 1 rfl rfl (ag 6 rfl (run_build (l:=[_,_]) rfl rfl aes rfl rfl) (ar 7 8 rfl rfl rfl (gJ rfl rfl rfl rfl rfl rfl rfl aqj S8 (amA d x k (aH.mono S8.Uq) (hsc.mono S8.Uq) (hsi.mono S8.Uq) (aM.mono S8.Uq) (by first|assumption|omega) hab (by omega) (by omega) S8.aR) ?_)))
        rintro _ w7 S9 rfl;clear S8
        refine ag 8 rfl (D6 rfl rfl iZ rfl aw rfl rfl) (af 9 1 rfl rfl (U3 rfl (ah [0,3,4,22,23,6,7,41,9] rfl (U2 (U1 Zdv Zdw rfl rfl rfl (eZ 9 (.int .i64 ((fT d x k:Nat):Int)) rfl (int_eq rfl) (U0 rfl (af 0 2 rfl rfl ?_))))))))
        refine ag 2 rfl (Ue (C:=cS) (i:=2) (fT d x k) rfl rfl rfl jK S9 rfl (by first|rfl|omega) (by first|omega|(simp only[ls];omega))) ?_
        refine ag 3 rfl (U5 rfl rfl gD rfl (S9.cK (i:=2) (e:=fT d x k) (j:=0) rfl (by first|omega|(simp only[ls];omega)) rfl rfl)) ?_
        refine ag 4 rfl (mX rfl rfl) (U3 rfl (ah [0,3,4,22,23,6,7,41,9,57] rfl (U2 ?_)))
        refine dH Zdx Zdy rfl rfl rfl rfl (fun uN=>?_) (fun uN=>?_)
        ·simp only[Bool.and_eq_true,Bool.or_eq_true,Bool.and_eq_false_iff,Bool.or_eq_false_iff,decide_eq_true_eq,decide_eq_false_iff_not,Bool.not_eq_true',Bool.not_eq_false']at uN
         have mU:ga wG (fT d x k)=false:=by simpa using uN
         have rz:=px (seen:=wG) (x:=fT d x k) (by omega) mU
         refine U1 Zdz Ze0 rfl rfl rfl (U0 rfl (af 0 2 rfl rfl (ag 2 rfl (Ue (C:=cS) (i:=2) (fT d x k) rfl rfl rfl jK S9 rfl (by first|rfl|omega) (by first|omega|(simp only[ls];omega))) ?_)))
         refine ar 3 4 rfl rfl rfl (ij (C:=cS) (i:=2) (e:=fT d x k) (j:=0) (us:=[_]) (H':=[_,_,_]) true rfl rfl S9 rfl (by first|omega|(simp only[ls];omega)) rfl rfl rfl xH rfl rfl rfl rfl ?_)
         intro w8 bM;clear S9
         refine U3 rfl (ah [0,3,4,22,23,6,7,41,9] rfl (U2 (U0 rfl (af 0 2 rfl rfl (ar 2 3 rfl rfl rfl (Uf (C:=Uh) (l:=[_]) rfl rfl rfl rfl aS rfl rfl rfl rfl bM ?_))))))
         intro bq w9 bJ;clear bM
         refine ar 3 4 rfl rfl rfl (Ux (C:=Uh) (i:=1) (q:=0) ((fT d x k:Nat):Int) rfl rfl rfl rfl rfl rfl rfl rfl aS bJ rfl rfl rfl (by show(_+1)*8<=_;first|omega|(simp only[ls];omega)) ?_)
         intro aq0 oZ cB;clear bJ
         have bY:=cB.pick [1,2,3] [_,_,_] (by decide) ⟨rfl,rfl,rfl,trivial⟩;clear cB
         refine af 4 1 rfl rfl (U3 rfl (Ul (ah [0,3,4,22,23,6,7,41] rfl (U2 (U0 rfl (ag 0 rfl (Ud rfl rfl rfl (by first|omega|(simp only[ls];omega))) ?_))))))
         refine af 1 1 rfl rfl (U3 rfl (Ut ?_))
         intro ak ai
         refine⟨_,?je,⟨k+1,_,_,_,_,rfl,ai.sub ⟨rfl,rfl,rfl,rfl,rfl,rfl,rfl,rfl,trivial⟩,bY.pick [0,1,2] [_,_,_] (by decide) ⟨rfl,rfl,rfl,trivial⟩,?ei,?fK,?pV,?apv,?apu,?apt,?aps⟩⟩
         case ei=>omega
         case fK=>(show oP _ _=_;rw[hbs,oP];first|rw[if_pos (by assumption)]|rw[if_neg (by rw[mU];exact Bool.false_ne_true)])
         case pV=>first|exact afE|(rw[List.length_append];show _+1+_<=_;omega)
         case apv=>first|exact Cu|(intro y hy;rcases List.mem_append.1 hy with hy|hy;exact Cu y hy;rw[List.mem_singleton]at hy;subst hy;omega)
         case apu=>first|exact hs3|(rw[List.length_set];exact hs3)
         case apt=>first|exact hi3|(rw[List.length_append];omega)
         case aps=>first|exact hx3|(rw[pE _ _ _ (by omega)];exact hx3)
         case je=>omega
        ·simp only[Bool.and_eq_true,Bool.or_eq_true,Bool.and_eq_false_iff,Bool.or_eq_false_iff,decide_eq_true_eq,decide_eq_false_iff_not,Bool.not_eq_true',Bool.not_eq_false']at uN
         refine Ub rfl (Ul (ah [0,3,4,22,23,6,7,41] rfl (U2 (U0 rfl (ag 0 rfl (Ud rfl rfl rfl (by first|omega|(simp only[ls];omega))) ?_)))))
         refine af 1 1 rfl rfl (U3 rfl (Ut ?_))
         intro ak ai
         refine⟨_,?lS,⟨k+1,_,_,_,_,rfl,ai.sub ⟨rfl,rfl,rfl,rfl,rfl,rfl,rfl,rfl,trivial⟩,S9.pick [0,1,2] [_,_,_] (by decide) ⟨rfl,rfl,rfl,trivial⟩,?fJ,?gu,?kq,?su,?wN,?apr,?apq⟩⟩
         case fJ=>omega
         case gu=>(show oP _ _=_;rw[hbs,oP];first|rw[if_pos (by assumption)]|rw[if_neg (by rw[mU];exact Bool.false_ne_true)])
         case kq=>first|exact afE|(rw[List.length_append];show _+1+_<=_;omega)
         case su=>first|exact Cu|(intro y hy;rcases List.mem_append.1 hy with hy|hy;exact Cu y hy;rw[List.mem_singleton]at hy;subst hy;omega)
         case wN=>first|exact hs3|(rw[List.length_set];exact hs3)
         case apr=>first|exact hi3|(rw[List.length_append];omega)
         case apq=>first|exact hx3|(rw[pE _ _ _ (by omega)];exact hx3)
         case lS=>omega
       ·refine Uk rfl rfl (Ul (ah [0,3,4,22,23,6,7] rfl (U2 (U0 rfl (af 0 1 rfl rfl (ag 1 rfl (Ud rfl rfl rfl (by first|omega|(simp only[ls];omega))) ?_))))))
        refine af 2 1 rfl rfl (U3 rfl (Ut ?_))
        intro ak ai
        refine⟨_,?nB,⟨i+1,_,_,_,_,rfl,ai.sub ⟨rfl,rfl,rfl,rfl,rfl,rfl,rfl,trivial⟩,S8.pick [0,1,2] [_,_,_] (by decide) ⟨rfl,rfl,rfl,trivial⟩,?gq,?gj,?nr,?apo,?apn⟩⟩
        case gq=>(rw[Vr,show d.ae.length-i=(d.ae.length-(i+1))+1 by omega];exact amx (by show i<l.length;omega) hx (hbs▸(by rw[show k=4 by omega])))
        case gj=>omega
        case nr=>omega
        case apo=>exact Cu
        case apn=>exact hs3
        case nB=>omega
     ·have Dr:=AP l
      refine Uk rfl rfl (ah [0,3,4,22,23,6] rfl (U2 (U1 Ze1 Ze2 rfl rfl rfl (U0 rfl (af 0 1 rfl rfl (ar 1 2 rfl rfl rfl (r8 rfl rfl rfl rfl rfl rfl rfl aeS S7 (i:=0) rfl (adr (by omega) (S7.ng (i:=0) rfl)) ?_)))))))
      rintro ae7 mO _ _-bX ⟨rfl,rfl,rfl⟩;clear S7
      change SH _ _ _ [_,_,_]at bX
      refine U3 rfl (ah [0,3,4,22,23,6] rfl (U2 (U0 rfl (af 0 2 rfl rfl ?_))))
      obtain⟨M2,bt,bT,⟨A1,c1,e1,hr1⟩⟩:=bX.gW (i:=0) (H':=[_,_,_]) rfl rfl (by show _*8<=_;first|omega|(simp only[ls];omega))
      clear bX;subst e1
      replace aH:=aH.mono (Hp.U6 bt bT.mx)
      replace hsc:=hsc.mono (Hp.U6 bt bT.mx)
      replace hsi:=hsi.mono (Hp.U6 bt bT.mx)
      replace aM:=aM.mono (Hp.U6 bt bT.mx)
      replace fE:=fE.mono bt
      refine ar 2 3 rfl rfl rfl (Uf (C:=(ck 53)) (l:=[_]) rfl rfl rfl rfl FU rfl rfl rfl rfl bT ?_)
      intro dD ra cO;clear bT
      refine ar 3 4 rfl rfl rfl (Ux (C:=(ck 53)) (i:=2) (q:=0) (⟨A1,(cC l).length,c1⟩:eO) rfl rfl rfl rfl rfl rfl rfl rfl FU cO rfl rfl rfl (by show(_+1)*24<=_;first|omega|(simp only[ls];omega)) ?_)
      intro sH q8 dK;clear cO
      have fZ:=dK.pick [1,2,3] [_,_,_] (by decide) ⟨rfl,rfl,rfl,trivial⟩;clear dK
      have hd1:=fE.snoc (c:=c1) hr1
      refine af 4 1 rfl rfl (U3 rfl (Ul (ah [0,3,4,22,23] rfl (U2 (U0 rfl (ag 0 rfl (Ud rfl rfl rfl (by first|omega|(simp only[ls];omega))) ?_))))))
      refine af 1 1 rfl rfl (U3 rfl (Ut ?_))
      intro ak ai
      refine⟨_,?nA,⟨c+1,_,_,(bA++[cC l]),_,_,_,(hle1.trans bt),rfl,ai.sub ⟨rfl,rfl,rfl,rfl,rfl,trivial⟩,fZ.pick [1,2] [_,_] (by decide) ⟨rfl,rfl,trivial⟩,?iy,?iw,?np⟩⟩
      case iy=>omega
      case iw=>first|exact IP qi uO|exact I9 qi (by simpa using uO) (Vr.trans (IW (by show l.length<=i;omega)))
      case np=>first|exact hd1|(rw[e9];exact hd1)
      case nA=>omega
  ·refine Uk rfl rfl (ah [4] rfl (U2 (U1 Ze3 Ze4 rfl rfl rfl (U0 rfl (af 0 2 rfl rfl (U3 rfl (ah [2] rfl (U2 ?_))))))))
   obtain⟨M3,kU,iu,⟨A2,c2,e2,hr2⟩⟩:=S3.gW (i:=0) (H':=[_,_]) rfl rfl (by show _*24<=_;first|omega|(simp only[ls];omega))
   clear S3;subst e2
   replace aH:=aH.mono (Hp.U6 kU iu.mx)
   replace hsc:=hsc.mono (Hp.U6 kU iu.mx)
   replace hsi:=hsi.mono (Hp.U6 kU iu.mx)
   replace aM:=aM.mono (Hp.U6 kU iu.mx)
   replace fE:=fE.mono kU
   refine Us hC [_] rfl rfl ⟨rfl,trivial⟩ ?_
   refine⟨_,rfl,_,hle1.trans kU,(iu.pick [] [] (by decide) trivial),?_⟩
   obtain rfl:c=d.ae.length:=by omega
   have e2:bK d=bA:=by unfold bK;rw[qi]
   rw[e2]
   exact⟨_,_,_,rfl,hr2,fE⟩
end Go.Proofs.YthppkofceancjaaGreat
