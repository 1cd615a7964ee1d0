/- Part 10 of the proof of the law KhovanovTells: the walks through its functions and the plain laws that they need. -/
import Derived.Test.YthppkofceancjaaGreatKhX9
set_option linter.unusedSimpArgs false
set_option linter.unusedVariables false
noncomputable section
namespace Go.Proofs.YthppkofceancjaaGreat
open Go.ChangeShapes Go.WideShapes Go.ChangeAt Go.RowKit
noncomputable def Yn:=Tryz.f63.body.getD .skip
def Zre:=cL Yn
def Ym:=cR Yn
def Zrg:=cL Ym
def Yl:=cR Ym
def Yk:=cL Yl
def Yj:=cR Yl
def Zrk:=cL Yk
def Zrl:=cR Yk
def Zrm:=cL Zrl
def Yi:=cL Zrm
def Yh:=cL Yi
def Yg:=cR Yi
def Zrq:=cL Yh
def Ye:=cR Yh
def Zrs:=cL Ye
def Zrt:=cR Ye
def Zru:=cL Yg
def Zrv:=cR Yg
def Yd:=cL Zru
def Zrx:=cL Yd
def Yc:=cR Yd
def Yb:=cL Yc
def Ya:=cR Yc
def Zs1:=cL Yb
def Zs2:=cR Yb
def Zs3:=cL Zs2
def X9:=cL Zs3
def X8:=cL X9
def X7:=cR X9
def Zs7:=cL X8
def X6:=cR X8
def Zs9:=cL X6
def Zsa:=cR X6
def Zsb:=cL X7
def Zsc:=cR X7
def X5:=cL Zsb
def Zse:=cL X5
def X4:=cR X5
def X3:=cL X4
def Zsh:=cR X4
def Zsi:=cL X3
def Zsj:=cR X3
def XZ:=cL Ya
def XY:=cR Ya
def Zsm:=cL XZ
def XX:=cR XZ
def Zso:=cL XX
def Zsp:=cR XX
def Zsq:=cL XY
def XW:=cR XY
def Zss:=cL XW
def Zst:=cR XW
def Zsu:=cL Zst
def XV:=cL Zsu
def XU:=cL XV
def XT:=cR XV
def Zsy:=cL XU
def XS:=cR XU
def Zt0:=cL XS
def Zt1:=cR XS
def Zt2:=cL XT
def Zt3:=cR XT
def XR:=cL Zt2
def Zt5:=cL XR
def XQ:=cR XR
def XP:=cL XQ
def Zt8:=cR XQ
def Zt9:=cL XP
def Zta:=cR XP
def Ztb:=cL Zta
def XO:=cL Ztb
def XM:=cL XO
def XL:=cR XO
def Ztf:=cL XM
def XK:=cR XM
def Zth:=cL XK
def Zti:=cR XK
def Ztj:=cL XL
def Ztk:=cR XL
def Ztl:=cL Ztj
def Ztm:=cL Yj
def Ztn:=cR Yj
set_option maxHeartbeats 2000000 in
set_option maxRecDepth 10000 in
theorem aj3{w:World}{M:Hp}{X:Fr}{cH:Value}(vs:List eO)(xss:List (List Bool)){N:Nat}(hN:∀x,x<xss.length->(ga xss x).length=N)(hN2:N<=2097152)(hm:xss.length<=2097152)(S:SH w M X [Rs.bP [Rs.row (ck 130) cH vs,Rs.tab cS vs xss]]):C1 Tryz.prog 63 [cH] w M X (fun u M' r'=>u=.int .i64 ((rkD xss.length xss:Nat):Int)/\M'=M/\∃ys,r'=Rs.bP [Rs.row (ck 130) cH vs,Rs.tab cS vs ys]):=by
 unfold C1
 replace S:=S.yQ
 have hvl:vs.length=xss.length:=S.amQ (i:=1) rfl
 refine Up (b:=Yn) Tryz.func63 rfl Tryz.ntmps63 rfl (fun C hC=>(bu [(0,_)] ⟨rfl,trivial⟩ (U1 Zre Ym rfl rfl rfl (U0 rfl (af 0 1 rfl rfl (U3 rfl (ah [0] rfl (U2 (U1 Zrg Yl rfl rfl rfl ?_)))))))))
 refine U0 rfl (af 0 1 rfl rfl (U3 rfl (U2 (U1 Yk Yj rfl rfl rfl (U1 Zrk Zrl rfl rfl rfl (U0 rfl (af 0 1 rfl rfl (U3 rfl ?_))))))))
 refine U2 (U7 Zrm 0 rfl rfl rfl ?_)
 refine Ui (fun aF ak aA=>∃(i:Nat) (tb:List (List Bool)) (nn:Nat),aF=xss.length-i/\Env 82 [(0,cH),(3,.int .i64 (nn:Int)),(4,.int .i64 (i:Int))] ak/\SH aA M X [Rs.row (ck 130) cH vs,Rs.tab cS vs tb]/\i<=xss.length/\tb.length=xss.length/\(∀x,x<xss.length->(ga tb x).length=N)/\nn+rkD (xss.length-i) (tb.drop i)=rkD xss.length xss/\nn<=i) rfl ?_ ?_
 ·intro ak ai
  refine⟨_,⟨0,xss,0,rfl,ai.sub ⟨rfl,rfl,rfl,trivial⟩,S.pick [0,1] [_,_] (by decide) ⟨rfl,rfl,trivial⟩,?bn,?bE,?ez,?sB,?wP⟩⟩
  case bn=>omega
  case bE=>rfl
  case ez=>exact hN
  case sB=>(rw[Nat.zero_add];rfl)
  case wP=>omega
 ·rintro m1 a1 w1 ⟨i,tb,nn,rfl,aQ,S1,hi,htl,htr,vh,hnn⟩
  clear S
  refine aW aQ (c:=Yi) rfl ?_
  clear aQ a1
  have afj:=htr i
  refine U1 Yh Yg rfl rfl rfl (U1 Zrq Ye rfl rfl rfl (U0 rfl (af 0 2 rfl rfl (ag 2 rfl (kL (C:=(ck 130)) (i:=0) rfl rfl rfl rfl rfl rfl pT S1 rfl) (ag 3 rfl (Un rfl rfl rfl) (U3 rfl (ah [0,3,4,12] rfl (U2 ?_))))))))
  refine Ua Zrs Zrt rfl rfl rfl rfl (fun nG=>?_) (fun nG=>?_)
  ·refine Ub rfl (ah [0,3,4] rfl (U2 (U1 Zru Zrv rfl rfl rfl (U7 Yd 1 rfl rfl rfl (U1 Zrx Yc rfl rfl rfl (U0 rfl (af 0 1 rfl rfl (U3 rfl ?_))))))))
   refine U2 (U1 Yb Ya rfl rfl rfl (U1 Zs1 Zs2 rfl rfl rfl (U0 rfl (af 0 1 rfl rfl (U3 rfl (U2 ?_))))))
   refine uh (fun ak aA=>∃(ld:Int),Env 82 [(0,cH),(3,.int .i64 (nn:Int)),(4,.int .i64 (i:Int)),(5,.int .i64 ld)] ak/\SH aA M X [Rs.row (ck 130) cH vs,Rs.tab cS vs tb]/\ld=pU (ga tb i)) ?_ ?_
   ·refine U7 Zs3 2 rfl rfl rfl ?_
    refine Ui (fun aF ak aA=>∃(c:Nat),aF=N-c/\Env 82 [(0,cH),(3,.int .i64 (nn:Int)),(4,.int .i64 (i:Int)),(5,.int .i64 (-1)),(6,.int .i64 (c:Int))] ak/\SH aA M X [Rs.row (ck 130) cH vs,Rs.tab cS vs tb]/\c<=N/\(∀j,j<c->ga (ga tb i) j=false)) rfl ?_ ?_
    ·intro ak ai
     refine⟨_,⟨0,rfl,ai.sub ⟨rfl,rfl,rfl,rfl,rfl,trivial⟩,S1.pick [0,1] [_,_] (by decide) ⟨rfl,rfl,trivial⟩,?bk,?bD⟩⟩
     case bk=>omega
     case bD=>(intro j hj;omega)
    ·rintro m2 a2 w3 ⟨c,rfl,cW,S3,hc,hcz⟩
     clear S1
     refine aW cW (c:=X9) rfl ?_
     clear cW a2
     refine U1 X8 X7 rfl rfl rfl (U1 Zs7 X6 rfl rfl rfl (U0 rfl (af 0 3 rfl rfl (ag 3 rfl (Ue (C:=(ck 130)) (i:=0) i rfl rfl rfl pT S3 rfl (by first|rfl|omega) (by first|omega|(simp only[ls];omega))) ?_))))
     refine ag 4 rfl (U5 rfl rfl uv rfl (S3.cK (i:=0) (e:=i) (j:=0) rfl (by first|omega|(simp only[ls];omega)) rfl rfl)) ?_
     refine ag 5 rfl (abF (C:=cS) (vs:=vs) (xss:=tb) (k:=i) (i:=1) rfl rfl rfl rfl rfl rfl rfl jK S3 rfl (by first|omega|(simp only[ls];omega)|(rw[bB _ _ _ _ (by first|omega|(simp only[List.length_set];omega)),if_pos rfl];simp only[List.length_set];omega))) ?_
     refine ag 6 rfl (Un rfl rfl rfl) (U3 rfl (ah [0,3,4,5,6,21] rfl (U2 ?_)))
     refine Ua Zs9 Zsa rfl rfl rfl rfl (fun CC=>?_) (fun CC=>?_)
     ·refine Ub rfl (ah [0,3,4,5,6] rfl (U2 (U1 Zsb Zsc rfl rfl rfl (U7 X5 3 rfl rfl rfl (U1 Zse X4 rfl rfl rfl (U0 rfl (af 0 2 rfl rfl (ag 2 rfl (Ue (C:=(ck 130)) (i:=0) i rfl rfl rfl pT S3 rfl (by first|rfl|omega) (by first|omega|(simp only[ls];omega))) ?_))))))))
      refine ag 3 rfl (U5 rfl rfl uv rfl (S3.cK (i:=0) (e:=i) (j:=0) rfl (by first|omega|(simp only[ls];omega)) rfl rfl)) ?_
      refine af 4 1 rfl rfl (ag 5 rfl (D7 (C:=cS) (vs:=vs) (xss:=tb) (i:=1) i c rfl rfl rfl rfl jK S3 rfl (by first|omega|(simp only[ls];omega)|(rw[bB _ _ _ _ (by first|omega|(simp only[List.length_set];omega)),if_pos rfl];simp only[List.length_set];omega)) (by first|rfl|omega) (by first|omega|(simp only[ls];omega)|(rw[bB _ _ _ _ (by first|omega|(simp only[List.length_set];omega)),if_pos rfl];simp only[List.length_set];omega))) ?_)
      refine ag 6 rfl (U5 rfl rfl gD rfl (S3.Gc (i:=1) (k:=i) (e:=c) (j:=0) rfl (by first|omega|(simp only[ls];omega)|(rw[bB _ _ _ _ (by first|omega|(simp only[List.length_set];omega)),if_pos rfl];simp only[List.length_set];omega)) (by first|omega|(simp only[ls];omega)|(rw[bB _ _ _ _ (by first|omega|(simp only[List.length_set];omega)),if_pos rfl];simp only[List.length_set];omega)) rfl rfl)) ?_
      refine U3 rfl (ah [0,3,4,5,6,30] rfl (U2 ?_))
      refine dH X3 Zsh rfl rfl rfl rfl (fun Mq=>?_) (fun Mq=>?_)
      ·refine U1 Zsi Zsj rfl rfl rfl (U0 rfl (af 0 2 rfl rfl (U3 rfl (ah [0,3,4,5] rfl (U2 (Uk rfl rfl (Ut ?_)))))))
       intro ak ai
       refine⟨(c:Int),ai.sub ⟨rfl,rfl,rfl,rfl,trivial⟩,S3.pick [0,1] [_,_] (by decide) ⟨rfl,rfl,trivial⟩,?cu⟩
       case cu=>(exact ajf hcz (by omega) Mq)
      ·refine Ub rfl (Ul (ah [0,3,4,5,6] rfl (U2 (U0 rfl (af 0 1 rfl rfl (ag 1 rfl (Ud rfl rfl rfl (by first|omega|(simp only[ls];omega))) ?_))))))
       refine af 2 1 rfl rfl (U3 rfl (Ut ?_))
       intro ak ai
       refine⟨_,?jf,⟨c+1,rfl,ai.sub ⟨rfl,rfl,rfl,rfl,rfl,trivial⟩,S3.pick [0,1] [_,_] (by decide) ⟨rfl,rfl,trivial⟩,?dL,?ek⟩⟩
       case dL=>omega
       case ek=>(intro j hj;by_cases e:j=c;(subst e;exact Mq);exact hcz j (by omega))
       case jf=>omega
     ·refine Uk rfl rfl (Ut ?_)
      intro ak ai
      refine⟨(-1),ai.sub ⟨rfl,rfl,rfl,rfl,trivial⟩,S3.pick [0,1] [_,_] (by decide) ⟨rfl,rfl,trivial⟩,?ei⟩
      case ei=>(exact akm (fun j hj=>hcz j (by omega)))
   ·rintro a3 w2 ⟨ld,bS,S2,Vi⟩
    clear S1
    refine uy bS ?_
    clear bS a3
    refine U2 (U1 XZ XY rfl rfl rfl (U1 Zsm XX rfl rfl rfl (U0 rfl (af 0 1 rfl rfl (ag 1 rfl (Un rfl rfl rfl) (U3 rfl (ah [0,3,4,5,33] rfl (U2 ?_))))))))
    refine Ua Zso Zsp rfl rfl rfl rfl (fun xo=>?_) (fun xo=>?_)
    ·have hneg:pU (ga tb i)<0:=by omega
     refine Uk rfl rfl (ah [0,3,4] rfl (U2 (U0 rfl (af 0 1 rfl rfl (ag 1 rfl (Ud rfl rfl rfl (by first|omega|(simp only[ls];omega))) ?_)))))
     refine af 2 1 rfl rfl (U3 rfl (Ut ?_))
     intro ak ai
     refine⟨_,?lS,⟨i+1,tb,nn,rfl,ai.sub ⟨rfl,rfl,rfl,trivial⟩,S2.pick [0,1] [_,_] (by decide) ⟨rfl,rfl,trivial⟩,?fJ,?gu,?kq,?su,?wN⟩⟩
     case fJ=>omega
     case gu=>exact htl
     case kq=>exact htr
     case su=>(rw[<-vh,ald htl (by omega) (aje hneg)])
     case wN=>omega
     case lS=>omega
    ·obtain⟨l,HA,hl2,hl3⟩:=ajd (r:=ga tb i) (by omega)
     refine eZ 5 (.int .i64 (l:Int)) rfl (int_eq (by omega)) ?_
     have azM:=afj (by omega)
     refine Ub rfl (ah [0,3,4,5] rfl (U2 (U1 Zsq XW rfl rfl rfl (U0 rfl (af 0 1 rfl rfl (ag 1 rfl (Ud rfl rfl rfl (by first|omega|(simp only[ls];omega))) ?_))))))
     refine af 2 1 rfl rfl (U3 rfl (ah [0,3,4,5] rfl (U2 (U1 Zss Zst rfl rfl rfl (U0 rfl (af 0 1 rfl rfl (ag 1 rfl (Ud rfl rfl rfl (by first|omega|(simp only[ls];omega))) ?_)))))))
     refine af 2 1 rfl rfl (U3 rfl (ah [0,3,4,5,7] rfl (U2 (U7 Zsu 4 rfl rfl rfl ?_))))
     refine Ui (fun aF ak aA=>∃(k:Nat) (tk:List (List Bool)),aF=xss.length-k/\Env 82 [(0,cH),(3,.int .i64 ((nn:Int)+1)),(4,.int .i64 (i:Int)),(5,.int .i64 (l:Int)),(7,.int .i64 (k:Int))] ak/\SH aA M X [Rs.row (ck 130) cH vs,Rs.tab cS vs tk]/\(i+1<=k/\k<=xss.length)/\tk.length=xss.length/\(∀j,j<xss.length->ga tk j=if i<j/\j<k then vC tb i l j else ga tb j)) rfl ?_ ?_
     ·intro ak ai
      refine⟨_,⟨i+1,tb,rfl,ai.sub ⟨rfl,rfl,rfl,rfl,rfl,trivial⟩,S2.pick [0,1] [_,_] (by decide) ⟨rfl,rfl,trivial⟩,?gq,?gj,?nr⟩⟩
      case gq=>omega
      case gj=>exact htl
      case nr=>(intro j hj;rw[if_neg (by omega)])
     ·rintro m3 a4 w4 ⟨k,tk,rfl,kE,S4,hk,hkl,hkg⟩
      clear S2
      refine aW kE (c:=XV) rfl ?_
      clear kE a4
      have hkk:=hkg k
      have hki:=hkg i (by omega)
      rw[if_neg (by omega)]at hki
      have afi:=htr k
      refine U1 XU XT rfl rfl rfl (U1 Zsy XS rfl rfl rfl (U0 rfl (af 0 2 rfl rfl (ag 2 rfl (kL (C:=(ck 130)) (i:=0) rfl rfl rfl rfl rfl rfl pT S4 rfl) (ag 3 rfl (Un rfl rfl rfl) (U3 rfl (ah [0,3,4,5,7,41] rfl (U2 ?_))))))))
      refine Ua Zt0 Zt1 rfl rfl rfl rfl (fun Mm=>?_) (fun Mm=>?_)
      ·refine Ub rfl (ah [0,3,4,5,7] rfl (U2 (U1 Zt2 Zt3 rfl rfl rfl (U7 XR 5 rfl rfl rfl (U1 Zt5 XQ rfl rfl rfl ?_)))))
       have zi:=hkk (by omega)
       rw[if_neg (by omega)]at zi
       have apj:=afi (by omega)
       have aBb:(ga tk k).length=N:=by rw[zi];exact apj
       refine U0 rfl (af 0 2 rfl rfl (ag 2 rfl (Ue (C:=(ck 130)) (i:=0) k rfl rfl rfl pT S4 rfl (by first|rfl|omega) (by first|omega|(simp only[ls];omega))) ?_))
       refine ag 3 rfl (U5 rfl rfl uv rfl (S4.cK (i:=0) (e:=k) (j:=0) rfl (by first|omega|(simp only[ls];omega)) rfl rfl)) ?_
       refine af 4 1 rfl rfl (ag 5 rfl (D7 (C:=cS) (vs:=vs) (xss:=tk) (i:=1) k l rfl rfl rfl rfl jK S4 rfl (by first|omega|(simp only[ls];omega)|(rw[bB _ _ _ _ (by first|omega|(simp only[List.length_set];omega)),if_pos rfl];simp only[List.length_set];omega)) (by first|rfl|omega) (by first|omega|(simp only[ls];omega)|(rw[bB _ _ _ _ (by first|omega|(simp only[List.length_set];omega)),if_pos rfl];simp only[List.length_set];omega))) ?_)
       refine ag 6 rfl (U5 rfl rfl gD rfl (S4.Gc (i:=1) (k:=k) (e:=l) (j:=0) rfl (by first|omega|(simp only[ls];omega)|(rw[bB _ _ _ _ (by first|omega|(simp only[List.length_set];omega)),if_pos rfl];simp only[List.length_set];omega)) (by first|omega|(simp only[ls];omega)|(rw[bB _ _ _ _ (by first|omega|(simp only[List.length_set];omega)),if_pos rfl];simp only[List.length_set];omega)) rfl rfl)) ?_
       refine U3 rfl (ah [0,3,4,5,7,50] rfl (U2 ?_))
       refine dH XP Zt8 rfl rfl rfl rfl (fun Cy=>?_) (fun Cy=>?_)
       ·have Lh:ga (ga tb k) l=true:=by rw[<-zi];exact Cy
        refine U1 Zt9 Zta rfl rfl rfl (U0 rfl (af 0 1 rfl rfl (U3 rfl (ah [0,3,4,5,7,8] rfl (U2 (U7 Ztb 6 rfl rfl rfl ?_))))))
        refine Ui (fun aF ak aA=>∃(e9:Nat) (te:List (List Bool)),aF=N-e9/\Env 82 [(0,cH),(3,.int .i64 ((nn:Int)+1)),(4,.int .i64 (i:Int)),(5,.int .i64 (l:Int)),(7,.int .i64 (k:Int)),(8,.int .i64 (e9:Int))] ak/\SH aA M X [Rs.row (ck 130) cH vs,Rs.tab cS vs te]/\e9<=N/\te.length=xss.length/\(∀j,j<xss.length->j≠k->ga te j=ga tk j)/\(ga te k).length=N/\(∀x,x<N->ga (ga te k) x=if x<e9 then(ga (ga tb k) x !=ga (ga tb i) x)else ga (ga tb k) x)) rfl ?_ ?_
        ·intro ak ai
         refine⟨_,⟨0,tk,rfl,ai.sub ⟨rfl,rfl,rfl,rfl,rfl,rfl,trivial⟩,S4.pick [0,1] [_,_] (by decide) ⟨rfl,rfl,trivial⟩,?iy,?iw,?np,?K4,?apm⟩⟩
         case iy=>omega
         case iw=>exact hkl
         case np=>(intro j _ _;rfl)
         case K4=>(rw[zi];exact afi (by omega))
         case apm=>(intro x hx;rw[if_neg (by omega),zi])
        ·rintro m4 a5 w5 ⟨e9,te,rfl,ql,S5,Vo,hel,zO,her,Vn⟩
         clear S4
         refine aW ql (c:=XO) rfl ?_
         clear ql a5
         have hei:ga te i=ga tb i:=by rw[zO i (by omega) (by omega)];exact hki
         have aBd:(ga te i).length=N:=by rw[hei];exact afj (by omega)
         refine U1 XM XL rfl rfl rfl (U1 Ztf XK rfl rfl rfl (U0 rfl (af 0 3 rfl rfl (ag 3 rfl (Ue (C:=(ck 130)) (i:=0) k rfl rfl rfl pT S5 rfl (by first|rfl|omega) (by first|omega|(simp only[ls];omega))) ?_))))
         refine ag 4 rfl (U5 rfl rfl uv rfl (S5.cK (i:=0) (e:=k) (j:=0) rfl (by first|omega|(simp only[ls];omega)) rfl rfl)) ?_
         refine ag 5 rfl (abF (C:=cS) (vs:=vs) (xss:=te) (k:=k) (i:=1) rfl rfl rfl rfl rfl rfl rfl jK S5 rfl (by first|omega|(simp only[ls];omega)|(rw[bB _ _ _ _ (by first|omega|(simp only[List.length_set];omega)),if_pos rfl];simp only[List.length_set];omega))) ?_
         refine ag 6 rfl (Un rfl rfl rfl) (U3 rfl (ah [0,3,4,5,7,8,57] rfl (U2 ?_)))
         refine Ua Zth Zti rfl rfl rfl rfl (fun uN=>?_) (fun uN=>?_)
         ·refine Ub rfl (ah [0,3,4,5,7,8] rfl (U2 (U1 Ztj Ztk rfl rfl rfl (U7 Ztl 7 rfl rfl rfl (cM rfl (by kernel_rfl) S5 22 rfl ?_)))))
          clear S5
          refine aq 0 21 rfl (by kernel_rfl) (fun _=>run_move rfl rfl) ?_
          refine aq 1 20 rfl (by kernel_rfl) (fun _=>run_move rfl rfl) ?_
          refine au 2 19 rfl (by kernel_rfl) (fun _ _ _ aj Sz=>.inl (Ue (C:=(ck 130)) (i:=0) k rfl rfl rfl pT Sz.suf rfl (by first|rfl|omega) (by first|omega|(simp only[ls];omega)))) ?_
          refine au 3 18 rfl (by kernel_rfl) (fun _ _ _ aj Sz=>.inl (U5 rfl rfl uv rfl (Sz.suf.cK (i:=0) (e:=k) (j:=0) rfl (by first|omega|(simp only[ls];omega)) rfl rfl))) ?_
          refine aq 4 17 rfl (by kernel_rfl) (fun _=>run_move rfl rfl) ?_
          refine aq 5 16 rfl (by kernel_rfl) (fun _=>run_move rfl rfl) ?_
          refine aq 6 15 rfl (by kernel_rfl) (fun _=>run_move rfl rfl) ?_
          refine au 7 14 rfl (by kernel_rfl) (fun _ _ _ aj Sz=>.inl (Ue (C:=(ck 130)) (i:=0) k rfl rfl rfl pT Sz.suf rfl (by first|rfl|omega) (by first|omega|(simp only[ls];omega)))) ?_
          refine au 8 13 rfl (by kernel_rfl) (fun _ _ _ aj Sz=>.inl (U5 rfl rfl uv rfl (Sz.suf.cK (i:=0) (e:=k) (j:=0) rfl (by first|omega|(simp only[ls];omega)) rfl rfl))) ?_
          refine aq 9 12 rfl (by kernel_rfl) (fun _=>run_move rfl rfl) ?_
          refine au 10 11 rfl (by kernel_rfl) (fun _ _ _ aj Sz=>.inl (D7 (C:=cS) (vs:=vs) (xss:=te) (i:=1) k e9 rfl rfl rfl rfl jK Sz.suf rfl (by first|omega|(simp only[ls];omega)|(rw[bB _ _ _ _ (by first|omega|(simp only[List.length_set];omega)),if_pos rfl];simp only[List.length_set];omega)) (by first|rfl|omega) (by first|omega|(simp only[ls];omega)|(rw[bB _ _ _ _ (by first|omega|(simp only[List.length_set];omega)),if_pos rfl];simp only[List.length_set];omega)))) ?_
          refine au 11 10 rfl (by kernel_rfl) (fun _ _ _ aj Sz=>.inl (U5 rfl rfl gD rfl (Sz.suf.Gc (i:=1) (k:=k) (e:=e9) (j:=0) rfl (by first|omega|(simp only[ls];omega)|(rw[bB _ _ _ _ (by first|omega|(simp only[List.length_set];omega)),if_pos rfl];simp only[List.length_set];omega)) (by first|omega|(simp only[ls];omega)|(rw[bB _ _ _ _ (by first|omega|(simp only[List.length_set];omega)),if_pos rfl];simp only[List.length_set];omega)) rfl rfl))) ?_
          refine aq 12 9 rfl (by kernel_rfl) (fun _=>run_move rfl rfl) ?_
          refine aq 13 8 rfl (by kernel_rfl) (fun _=>run_move rfl rfl) ?_
          refine au 14 7 rfl (by kernel_rfl) (fun _ _ _ aj Sz=>.inl (Ue (C:=(ck 130)) (i:=0) i rfl rfl rfl pT Sz.suf rfl (by first|rfl|omega) (by first|omega|(simp only[ls];omega)))) ?_
          refine au 15 6 rfl (by kernel_rfl) (fun _ _ _ aj Sz=>.inl (U5 rfl rfl uv rfl (Sz.suf.cK (i:=0) (e:=i) (j:=0) rfl (by first|omega|(simp only[ls];omega)) rfl rfl))) ?_
          refine aq 16 5 rfl (by kernel_rfl) (fun _=>run_move rfl rfl) ?_
          refine au 17 4 rfl (by kernel_rfl) (fun _ _ _ aj Sz=>.inl (D7 (C:=cS) (vs:=vs) (xss:=te) (i:=1) i e9 rfl rfl rfl rfl jK Sz.suf rfl (by first|omega|(simp only[ls];omega)|(rw[bB _ _ _ _ (by first|omega|(simp only[List.length_set];omega)),if_pos rfl];simp only[List.length_set];omega)) (by first|rfl|omega) (by first|omega|(simp only[ls];omega)|(rw[bB _ _ _ _ (by first|omega|(simp only[List.length_set];omega)),if_pos rfl];simp only[List.length_set];omega)))) ?_
          refine au 18 3 rfl (by kernel_rfl) (fun _ _ _ aj Sz=>.inl (U5 rfl rfl gD rfl (Sz.suf.Gc (i:=1) (k:=i) (e:=e9) (j:=0) rfl (by first|omega|(simp only[ls];omega)|(rw[bB _ _ _ _ (by first|omega|(simp only[List.length_set];omega)),if_pos rfl];simp only[List.length_set];omega)) (by first|omega|(simp only[ls];omega)|(rw[bB _ _ _ _ (by first|omega|(simp only[List.length_set];omega)),if_pos rfl];simp only[List.length_set];omega)) rfl rfl))) ?_
          refine aq 19 2 rfl (by kernel_rfl) (fun _=>acq rfl rfl rfl gD) ?_
          refine au 20 1 rfl (by kernel_rfl) (fun _ _ _ aj Sz=>.inl (D7 (C:=cS) (vs:=vs) (xss:=te) (i:=1) k e9 rfl rfl rfl rfl jK Sz.suf rfl (by first|omega|(simp only[ls];omega)|(rw[bB _ _ _ _ (by first|omega|(simp only[List.length_set];omega)),if_pos rfl];simp only[List.length_set];omega)) (by first|rfl|omega) (by first|omega|(simp only[ls];omega)|(rw[bB _ _ _ _ (by first|omega|(simp only[List.length_set];omega)),if_pos rfl];simp only[List.length_set];omega)))) ?_
          refine dv (i:=21) 0 rfl (by kernel_rfl) rfl rfl (fun UI jF=>?_)
          refine(aiX (C:=cS) (vs:=vs) (xss:=te) (i:=1) (k:=k) (e:=e9) (j:=0) (us:=[_]) (H':=[_,_]) (!((ga (ga te k) e9)==(ga (ga te i) e9))) rfl rfl jF rfl (by first|omega|(simp only[ls];omega)|(rw[bB _ _ _ _ (by first|omega|(simp only[List.length_set];omega)),if_pos rfl];simp only[List.length_set];omega)) (by first|omega|(simp only[ls];omega)|(rw[bB _ _ _ _ (by first|omega|(simp only[List.length_set];omega)),if_pos rfl];simp only[List.length_set];omega)) rfl rfl rfl xH rfl rfl rfl rfl ?_)
          intro UH fB;clear jF
          refine bU.turn (by kernel_rfl) fB ?_;clear fB
          change WA _ _ _ _ _ _ _ _ _ _ _ _ [_,_]
          refine cF (by kernel_rfl) (fun w30 ki=>?_)
          refine Ul (ah [0,3,4,5,7,8] rfl (U2 (U0 rfl (af 0 1 rfl rfl (ag 1 rfl (Ud rfl rfl rfl (by first|omega|(simp only[ls];omega))) ?_)))))
          refine af 2 1 rfl rfl (U3 rfl (Ut ?_))
          intro ak ai
          refine⟨_,?sK,⟨e9+1,te.set k ((ga te k).set e9 (!((ga (ga te k) e9)==(ga (ga te i) e9)))),rfl,ai.sub ⟨rfl,rfl,rfl,rfl,rfl,rfl,trivial⟩,ki.pick [0,1] [_,_] (by decide) ⟨rfl,rfl,trivial⟩,?nk,?nj,?wM,?K3,?apl⟩⟩
          case nk=>omega
          case nj=>(rw[List.length_set];exact hel)
          case wM=>(intro j hj hk9;rw[bB _ _ _ _ (by omega),if_neg (by omega)];exact zO j hj hk9)
          case K3=>(rw[bB _ _ _ _ (by omega),if_pos rfl,List.length_set];exact her)
          case apl=>(intro x hx;rw[bB _ _ _ _ (by omega),if_pos rfl,bB _ _ _ _ (by omega)];by_cases e:e9=x;(subst e;rw[if_pos rfl,if_pos (by omega),hei,Vn _ hx,if_neg (by omega)];first|rfl|(cases ga (ga tb k) e9<;>cases ga (ga tb i) e9<;>rfl));(rw[if_neg e,Vn x hx];by_cases h2:x<e9;(rw[if_pos h2,if_pos (by omega)]);(rw[if_neg h2,if_neg (by omega)])))
          case sK=>omega
         ·refine Uk rfl rfl (Ul (ah [0,3,4,5,7] rfl (U2 (U0 rfl (af 0 1 rfl rfl (ag 1 rfl (Ud rfl rfl rfl (by first|omega|(simp only[ls];omega))) ?_))))))
          refine af 2 1 rfl rfl (U3 rfl (Ut ?_))
          intro ak ai
          refine⟨_,?wT,⟨k+1,te,rfl,ai.sub ⟨rfl,rfl,rfl,rfl,rfl,trivial⟩,S5.pick [0,1] [_,_] (by decide) ⟨rfl,rfl,trivial⟩,?pN,?pM,?rZ⟩⟩
          case pN=>omega
          case pM=>exact hel
          case rZ=>(intro j hj;by_cases e:j=k;(subst e;rw[if_pos (by omega)];refine aoj (N:=N) Lh (htr i (by omega)) (htr j (by omega)) her (fun x hx=>?_);rw[Vn x hx,show e9=N by omega]);(rw[zO j hj e,hkg j hj];by_cases h2:i<j/\j<k;(rw[if_pos h2,if_pos (by omega)]);(rw[if_neg h2,if_neg (by omega)])))
          case wT=>omega
       ·have Lh:ga (ga tb k) l=false:=by rw[<-zi];exact Cy
        refine Ub rfl (Ul (ah [0,3,4,5,7] rfl (U2 (U0 rfl (af 0 1 rfl rfl (ag 1 rfl (Ud rfl rfl rfl (by first|omega|(simp only[ls];omega))) ?_))))))
        refine af 2 1 rfl rfl (U3 rfl (Ut ?_))
        intro ak ai
        refine⟨_,?wS,⟨k+1,tk,rfl,ai.sub ⟨rfl,rfl,rfl,rfl,rfl,trivial⟩,S4.pick [0,1] [_,_] (by decide) ⟨rfl,rfl,trivial⟩,?pL,?pK,?rY⟩⟩
        case pL=>omega
        case pK=>exact hkl
        case rY=>(intro j hj;rw[hkg j hj];by_cases e:j=k;(subst e;rw[if_neg (by omega),if_pos (by omega)];unfold vC;rw[if_neg (by rw[Lh];decide)]);(by_cases h2:i<j/\j<k;(rw[if_pos h2,if_pos (by omega)]);(rw[if_neg h2,if_neg (by omega)])))
        case wS=>omega
      ·refine Uk rfl rfl (Ul (ah [0,3,4] rfl (U2 (U0 rfl (af 0 1 rfl rfl (ag 1 rfl (Ud rfl rfl rfl (by first|omega|(simp only[ls];omega))) ?_))))))
       refine af 2 1 rfl rfl (U3 rfl (Ut ?_))
       intro ak ai
       refine⟨_,?wQ,⟨i+1,tk,nn+1,rfl,ai.sub ⟨rfl,rfl,rfl,trivial⟩,S4.pick [0,1] [_,_] (by decide) ⟨rfl,rfl,trivial⟩,?wy,?wu,?Kv,?Ku,?anT⟩⟩
       case wy=>omega
       case wu=>exact hkl
       case Kv=>(intro x hx;rw[hkg x hx];split;(exact aok (htr i (by omega)) (htr x hx));(exact htr x hx))
       case Ku=>(rw[<-vh,alc htl hkl (by omega) HA (fun j hj=>by rw[hkg j hj,show k=xss.length by omega])];omega)
       case anT=>omega
       case wQ=>omega
  ·refine Uk rfl rfl (ah [3] rfl (U2 (U1 Ztm Ztn rfl rfl rfl (U0 rfl (af 0 2 rfl rfl (U3 rfl (ah [2] rfl (U2 ?_))))))))
   refine Us hC [_] rfl rfl ⟨rfl,trivial⟩ ?_
   refine⟨_,rfl,_,_,Hp.le_refl _,(S1.pick [0,1] [_,_] (by decide) ⟨rfl,rfl,trivial⟩).bP,?_⟩
   have e9:i=xss.length:=by omega
   refine⟨congrArg (Value.int .i64) ?_,rfl,_,rfl⟩
   rw[e9,Nat.sub_self,<-htl,List.drop_length]at vh
   have:rkD 0 ([]:List (List Bool))=0:=rfl
   rw[htl]at vh
   omega
end Go.Proofs.YthppkofceancjaaGreat
namespace Go.Proofs.YthppkofceancjaaGreat
open Go.ChangeShapes Go.WideShapes Go.ChangeAt Go.RowKit
def tmF(t:Tm):List Value:=[.int .i64 t.e,.int .i64 t.c]
def eT:Cd Tm:=⟨tmF,2,16,108,⟨0,0⟩,fun _=>rfl,by
 intro x u hu
 simp[tmF]at hu
 rcases hu with rfl|rfl<;>rfl⟩
def okT(a:List Tm)(i:Nat):Prop:=(-1000<=(ga a i).e/\(ga a i).e<=1000)/\(-1000000<=(ga a i).c/\(ga a i).c<=1000000)/\(ga a i).c≠0/\(0<i->(ga a ((i:Int) -1).toNat).e<(ga a i).e)
instance (a:List Tm)(i:Nat):Decidable (okT a i):=by unfold okT;infer_instance
def LsE(a:List Tm)(u:Value)(N:Hp):Prop:=∃A c,u=.slice A a.length c/\aB eT N A c a
def PT(B:Nat)(p:aC)(u:Value)(N:Hp):Prop:=∃A c l,u=.slice A l.length c/\aB eT N A c l/\Can l/\Bd l B/\mk (pr l)=p
theorem put_eq{l:List Tm}{e c:Int}{k:Nat}(hk:k<=l.length)(hlt:∀j,j<k->(ga l j).e<e)(hc:c≠0)(hend:k=l.length\/(k<l.length/\¬(ga l k).e<e)):
  put l e c=l.take k++(if k<l.length/\(ga l k).e=e then(if wr ((ga l k).c+c)=0 then[]else[⟨e,wr ((ga l k).c+c)⟩])++l.drop (k+1)else⟨e,c⟩::l.drop k):=by
 induction l generalizing k with
 |nil=>
  obtain rfl:k=0:=by simp at hk;exact hk
  simp[put,hc]
 |cons t l ih=>
  unfold put
  rw[if_neg hc]
  cases k with
  |zero=>
   have Lg:¬t.e<e:=by
    rcases hend with h|h
    ·simp at h
    ·exact h.2
   rw[if_neg Lg]
   by_cases he:t.e=e
   ·have h2:0<(t::l).length/\(ga (t::l) 0).e=e:=⟨by simp,he⟩
    rw[if_pos he,if_pos h2]
    show(if wr (t.c+c)=0 then l else⟨e,wr (t.c+c)⟩::l)=[]++((if wr (t.c+c)=0 then[]else[⟨e,wr (t.c+c)⟩])++l)
    split<;>rfl
   ·have h2:¬(0<(t::l).length/\(ga (t::l) 0).e=e):=fun h=>he h.2
    rw[if_neg he,if_neg h2];rfl
  |succ k=>
   have h0:t.e<e:=hlt 0 (by omega)
   rw[if_pos h0]
   simp only[List.length_cons]at hk hend
   have e1:ga (t::l) (k+1)=ga l k:=rfl
   rw[ih (k:=k) (by omega) (fun j hj=>hlt (j+1) (by omega)) (by rw[e1]at hend;omega),e1]
   simp only[List.length_cons,List.take_succ_cons,List.drop_succ_cons,List.cons_append,Nat.add_lt_add_iff_right]
theorem jW:fN Tryz.prog 45 eT:=⟨.agg [.int .i64 0,.int .i64 0].toArray,uI,by kernel_rfl,rfl,by decide,by decide⟩
noncomputable def XJ:=Tryz.f21.body.getD .skip
def Ztp:=cL XJ
def XI:=cR XJ
def XG:=cL XI
def XF:=cR XI
def Ztt:=cL XG
def XE:=cR XG
def Ztv:=cL XE
def Ztw:=cR XE
def XD:=cL XF
def XC:=cR XF
def Ztz:=cL XD
def Zu0:=cR XD
def Zu1:=cL Zu0
def XB:=cL Zu1
def XA:=cL XB
def Xz:=cR XB
def Zu5:=cL XA
def Xy:=cR XA
def Zu7:=cL Xy
def Zu8:=cR Xy
def Zu9:=cL Xz
def Zua:=cR Xz
def Xx:=cL Zu9
def Zuc:=cL Xx
def Xw:=cR Xx
def Zue:=cL Xw
def Zuf:=cR Xw
def Zug:=cL XC
def Zuh:=cR XC
set_option maxRecDepth 10000 in
theorem ais{w:World}{M:Hp}{X:Fr}(p:List Tm){pA:Option Addr}{pc:Nat}(q:List Tm){qA:Option Addr}{qc:Nat}(hp:aB eT (M.un X.h) pA pc p)(hq:aB eT (M.un X.h) qA qc q)(he:p=q)(S:SH w M X []):Cq Tryz.prog 21 [.slice pA p.length pc,.slice qA q.length qc] w M X (fun u=>u=.bool true):=by
 unfold Cq
 have afc:p.length*16<=140737488355328:=hp.room
 have arb:q.length*16<=140737488355328:=hq.room
 have hle:p.length=q.length:=by rw[he]
 refine Up (b:=XJ) Tryz.func21 rfl Tryz.ntmps21 rfl (fun C hC=>(bu [(0,_),(1,_)] ⟨rfl,rfl,trivial⟩ (U1 Ztp XI rfl rfl rfl (U0 rfl (af 0 1 rfl rfl (U3 rfl (ah [0,1] rfl (U2 (U1 XG XF rfl rfl rfl ?_)))))))))
 refine U1 Ztt XE rfl rfl rfl (U0 rfl (af 0 1 rfl rfl (ag 1 rfl (Uv rfl rfl rfl rfl rfl rfl uI) (af 2 1 rfl rfl (ag 3 rfl (Uv rfl rfl rfl rfl rfl rfl uI) (ag 4 rfl (gG rfl rfl rfl) (U3 rfl (ah [0,1,10] rfl ?_))))))))
 refine U2 ?_
 refine Ua Ztv Ztw rfl rfl rfl rfl (fun qW=>?_) (fun qW=>?_)
 ·exfalso;omega
 ·refine Ub rfl (ah [0,1] rfl (U2 (U1 XD XC rfl rfl rfl (U1 Ztz Zu0 rfl rfl rfl (U0 rfl (af 0 1 rfl rfl (U3 rfl (U2 ?_))))))))
  refine U7 Zu1 0 rfl rfl rfl ?_
  refine Ui (fun aF ak aA=>∃(k:Nat),aF=p.length-k/\Env 26 [(0,.slice pA p.length pc),(1,.slice qA q.length qc),(5,.int .i64 (k:Int))] ak/\SH aA M X []/\k<=p.length) rfl ?_ ?_
  ·intro ak ai
   refine⟨_,⟨0,rfl,ai.sub ⟨rfl,rfl,rfl,trivial⟩,S.pick [] [] (by decide) trivial,?bn⟩⟩
   case bn=>omega
  ·rintro m1 a1 w1 ⟨k,rfl,aQ,S1,hk⟩
   clear S
   refine aW aQ (c:=XB) rfl ?_
   clear aQ a1
   refine U1 XA Xz rfl rfl rfl (U1 Zu5 Xy rfl rfl rfl (U0 rfl (af 0 2 rfl rfl (ag 2 rfl (Uv rfl rfl rfl rfl rfl rfl uI) (ag 3 rfl (Un rfl rfl rfl) (U3 rfl (ah [0,1,5,14] rfl (U2 ?_))))))))
   refine Ua Zu7 Zu8 rfl rfl rfl rfl (fun iT=>?_) (fun iT=>?_)
   ·refine Ub rfl (ah [0,1,5] rfl (U2 (U1 Zu9 Zua rfl rfl rfl (U7 Xx 1 rfl rfl rfl (U1 Zuc Xw rfl rfl rfl (cM rfl (by kernel_rfl) S1 9 rfl ?_))))))
    clear S1
    refine aq 0 8 rfl (by kernel_rfl) (fun _=>run_move rfl rfl) ?_
    refine aq 1 7 rfl (by kernel_rfl) (fun _=>run_move rfl rfl) ?_
    refine au 2 6 rfl (by kernel_rfl) (fun _ _ _ aj Sz=>.inl (U9 (C:=eT) k rfl rfl rfl jW (by first|rfl|omega) (hp.mono (Hp.U6 aj Sz.mx)) (by first|omega|(simp only[ls];omega)))) ?_
    refine au 3 5 rfl (by kernel_rfl) (fun _ _ _ aj Sz=>.inl (Uc (us:=[_,_]) rfl rfl ux rfl aer ((hp.mono (Hp.U6 aj Sz.mx)).fV Sz.um (e:=k) (by first|omega|(simp only[ls];omega)) (j:=0) ⟨rfl,rfl,trivial⟩))) ?_
    refine aq 4 4 rfl (by kernel_rfl) (fun _=>run_move rfl rfl) ?_
    refine aq 5 3 rfl (by kernel_rfl) (fun _=>run_move rfl rfl) ?_
    refine au 6 2 rfl (by kernel_rfl) (fun _ _ _ aj Sz=>.inl (U9 (C:=eT) k rfl rfl rfl jW (by first|rfl|omega) (hq.mono (Hp.U6 aj Sz.mx)) (by first|omega|(simp only[ls];omega)))) ?_
    refine au 7 1 rfl (by kernel_rfl) (fun _ _ _ aj Sz=>.inl (Uc (us:=[_,_]) rfl rfl ux rfl aer ((hq.mono (Hp.U6 aj Sz.mx)).fV Sz.um (e:=k) (by first|omega|(simp only[ls];omega)) (j:=0) ⟨rfl,rfl,trivial⟩))) ?_
    refine aq 8 0 rfl (by kernel_rfl) (fun _=>abD (Q:=((ga p k).e)=((ga q k).e)/\((ga p k).c)=((ga q k).c)) rfl rfl rfl ao0 ⟨_,_,_,_,rfl,rfl,⟨_,_,_,rfl,rfl,rfl⟩,rfl⟩) ?_
    refine cF (by kernel_rfl) (fun mO bJ=>?_)
    refine ah [0,1,5,25] rfl (U2 ?_)
    refine Ua Zue Zuf rfl rfl rfl rfl (fun ky=>?_) (fun ky=>?_)
    ·exfalso;exact ky (by rw[he];exact⟨rfl,rfl⟩)
    ·refine Ub rfl (Ul (ah [0,1,5] rfl (U2 (U0 rfl (af 0 1 rfl rfl (ag 1 rfl (Ud rfl rfl rfl (by first|omega|(simp only[ls];omega))) ?_))))))
     refine af 2 1 rfl rfl (U3 rfl (Ut ?_))
     intro ak ai
     refine⟨_,?bG,⟨k+1,rfl,ai.sub ⟨rfl,rfl,rfl,trivial⟩,bJ.pick [] [] (by decide) trivial,?bk⟩⟩
     case bk=>omega
     case bG=>omega
   ·refine Uk rfl rfl (Uw [] trivial (U2 (U1 Zug Zuh rfl rfl rfl (U0 rfl (af 0 1 rfl rfl (U3 rfl (U2 (Us hC [_] rfl rfl ⟨rfl,trivial⟩ ?_))))))))
    exact⟨_,rfl,(S1.pick [] [] (by decide) trivial),rfl⟩
end Go.Proofs.YthppkofceancjaaGreat
namespace Go.Proofs.YthppkofceancjaaGreat
open Go.ChangeShapes Go.WideShapes Go.ChangeAt Go.RowKit
theorem abH(l:List Tm)(e c:Int):(put l e c).length<=l.length+1:=by
 induction l with
 |nil=>
  rw[put]
  split
  ·exact Nat.zero_le _
  ·exact Nat.le_refl _
 |cons t l ih=>
  rw[put]
  simp only[List.length_cons]
  split
  ·simp only[List.length_cons];omega
  ·split
   ·simp only[List.length_cons];omega
   ·split
    ·split
     ·omega
     ·simp only[List.length_cons];omega
    ·simp only[List.length_cons];omega
noncomputable def Xv:=Tryz.f55.body.getD .skip
def Zuj:=cL Xv
def Xu:=cR Xv
def Xt:=cL Xu
def Xr:=cR Xu
def Zun:=cL Xt
def Xq:=cR Xt
def Xp:=cL Xq
def Zuq:=cR Xq
def Zur:=cL Xp
def Zus:=cR Xp
def Zut:=cL Xr
def Xo:=cR Xr
def Zuv:=cL Xo
def Xn:=cR Xo
def Zux:=cL Zuv
def Xm:=cL Zux
def Xl:=cL Xm
def Zv0:=cR Xm
def Zv1:=cL Xl
def Xk:=cR Xl
def Zv3:=cL Xk
def Zv4:=cR Xk
def Zv5:=cL Zv0
def Zv6:=cL Xn
def Xj:=cR Xn
def Zv8:=cL Xj
def Xi:=cR Xj
def Xh:=cL Xi
def Xg:=cR Xi
def Zvc:=cL Xh
def Xf:=cR Xh
def Xe:=cL Xf
def Zvf:=cR Xf
def Xd:=cL Xe
def Zvh:=cR Xe
def Zvi:=cL Xd
def Xc:=cR Xd
def Zvk:=cL Xc
def Zvl:=cR Xc
def Zvm:=cL Xg
def Zvn:=cR Xg
set_option maxRecDepth 10000 in
theorem ae1{w:World}{M:Hp}{X:Fr}(l:List Tm){lA:Option Addr}{lc:Nat}(e:Int)(c:Int)(hl:aB eT M lA lc l)(hro:l.length+1<=4398046511104)(S:SH w M X []):Ct Tryz.prog 55 [.slice lA l.length lc,.int .i64 e,.int .i64 c] w M X (LsE (put l e c)):=by
 unfold Ct
 have ard:l.length*16<=140737488355328:=hl.room
 refine Up (b:=Xv) Tryz.func55 rfl Tryz.ntmps55 rfl (fun C hC=>(bu [(0,_),(1,_),(2,_)] ⟨rfl,rfl,rfl,trivial⟩ (U1 Zuj Xu rfl rfl rfl (U0 rfl (af 0 1 rfl rfl (U3 rfl (ah [0,1,2] rfl (U2 (U1 Xt Xr rfl rfl rfl ?_)))))))))
 refine U1 Zun Xq rfl rfl rfl (U0 rfl (af 0 1 rfl rfl (ag 1 rfl (Uz rfl rfl rfl) (U3 rfl (ah [0,1,2,10] rfl (U2 ?_))))))
 refine Ua Xp Zuq rfl rfl rfl rfl (fun qW=>?_) (fun qW=>?_)
 ·refine U1 Zur Zus rfl rfl rfl (U0 rfl (af 0 2 rfl rfl (U3 rfl (ah [6] rfl (U2 (Us hC [_] rfl rfl ⟨rfl,trivial⟩ ?_))))))
  refine⟨_,rfl,_,Hp.le_refl _,(S.pick [] [] (by decide) trivial),?_⟩
  have e9:put l e c=l:=by rw[qW];exact aj4 l e
  rw[e9]
  exact⟨_,_,rfl,hl⟩
 ·refine Ub rfl (ah [0,1,2] rfl (U2 (U1 Zut Xo rfl rfl rfl (U0 rfl (af 0 1 rfl rfl (U3 rfl (U2 (U1 Zuv Xn rfl rfl rfl ?_))))))))
  refine uh (fun ak aA=>∃(k:Nat) (M1:Hp),M.le M1/\Env 78 [(0,.slice lA l.length lc),(1,.int .i64 e),(2,.int .i64 c),(7,.int .i64 (k:Int))] ak/\SH aA M1 X []/\k<=l.length/\(∀j,j<k->(ga l j).e<e)/\(k=l.length\/(k<l.length/\¬(ga l k).e<e))) ?_ ?_
  ·refine U7 Zux 0 rfl rfl rfl ?_
   refine Ui (fun aF ak aA=>∃(k:Nat) (M2:Hp),M.le M2/\aF=l.length-k/\Env 78 [(0,.slice lA l.length lc),(1,.int .i64 e),(2,.int .i64 c),(7,.int .i64 (k:Int))] ak/\SH aA M2 X []/\k<=l.length/\(∀j,j<k->(ga l j).e<e)) rfl ?_ ?_
   ·intro ak ai
    refine⟨_,⟨0,_,Hp.le_refl _,rfl,ai.sub ⟨rfl,rfl,rfl,rfl,trivial⟩,S.pick [] [] (by decide) trivial,?bn,?bE⟩⟩
    case bn=>omega
    case bE=>(intro j hj;omega)
   ·rintro m1 a1 w2 ⟨k,M2,hle2,rfl,bS,S2,hk,hlt⟩
    clear S
    refine aW bS (c:=Xm) rfl ?_
    clear bS a1
    replace hl:=hl.mono hle2
    refine U1 Xl Zv0 rfl rfl rfl (U1 Zv1 Xk rfl rfl rfl (U0 rfl (af 0 2 rfl rfl (ag 2 rfl (Uv rfl rfl rfl rfl rfl rfl uI) (ag 3 rfl (Un rfl rfl rfl) (af 4 1 rfl rfl ?_))))))
    refine Uy (t:=16) rfl (fun arV=>?_) (fun arV=>?_)
    ·refine af 5 2 rfl rfl (aP 7 8 rfl rfl rfl rfl rfl rfl rfl rfl (U8 rfl rfl (U9 (C:=eT) k rfl rfl rfl jW (by first|rfl|omega) hl (by first|omega|(simp only[ls];omega))) ?_))
     refine aP 8 9 rfl rfl rfl rfl rfl rfl rfl rfl (U8 rfl rfl (U4 rfl rfl ux rfl (aL) (aJ)) (aP 9 10 rfl rfl rfl rfl rfl rfl rfl rfl (U8 rfl rfl (U5 rfl rfl aw rfl (hl.cell S2.m (i:=k) (by first|omega|(simp only[ls];omega)) 0 rfl rfl)) ?_)))
     refine af 10 1 rfl rfl (aP 11 12 rfl rfl rfl rfl rfl rfl rfl rfl (U8 rfl rfl (Un rfl rfl rfl) (af 12 1 rfl rfl (U3 rfl (ah [0,1,2,7,24] rfl (U2 ?_))))))
     refine Ua Zv3 Zv4 rfl rfl rfl rfl (fun nD=>?_) (fun nD=>?_)
     ·refine Ub rfl (ah [0,1,2,7] rfl (U2 (U7 Zv5 1 rfl rfl rfl (U0 rfl (af 0 1 rfl rfl (ag 1 rfl (Ud rfl rfl rfl (by first|omega|(simp only[ls];omega))) ?_))))))
      refine af 2 1 rfl rfl (U3 rfl (Ul (Ut ?_)))
      intro ak ai
      refine⟨_,?bG,⟨k+1,_,(hle2),rfl,ai.sub ⟨rfl,rfl,rfl,rfl,trivial⟩,S2.pick [] [] (by decide) trivial,?bk,?bD⟩⟩
      case bk=>omega
      case bD=>(intro j hj;by_cases h:j=k;(subst h;assumption);exact hlt j (by omega))
      case bG=>omega
     ·refine Uk rfl rfl (Ut ?_)
      intro ak ai
      refine⟨k,_,(hle2),ai.sub ⟨rfl,rfl,rfl,rfl,trivial⟩,S2.pick [] [] (by decide) trivial,?cu,?cN,?jb⟩
      case cu=>omega
      case cN=>exact hlt
      case jb=>omega
    ·refine af 5 6 rfl rfl (af 11 2 rfl rfl (U3 rfl (ah [0,1,2,7,24] rfl (U2 (jq Zv4 rfl rfl rfl (Uk rfl rfl (Ut ?_)))))))
     intro ak ai
     refine⟨k,_,(hle2),ai.sub ⟨rfl,rfl,rfl,rfl,trivial⟩,S2.pick [] [] (by decide) trivial,?dL,?ek,?lJ⟩
     case dL=>omega
     case ek=>exact hlt
     case lJ=>omega
  ·rintro a2 w1 ⟨k,M1,hle1,aQ,S1,hk,hlt,hnd⟩
   clear S
   refine uy aQ ?_
   clear aQ a2
   replace hl:=hl.mono hle1
   refine U2 (U1 Zv6 Xj rfl rfl rfl (U0 rfl (af 0 1 rfl rfl (U3 rfl (U2 (U1 Zv8 Xi rfl rfl rfl (U0 rfl (af 0 3 rfl rfl ?_))))))))
   refine ar 3 4 rfl rfl rfl (aaE (C:=eT) k rfl rfl rfl rfl rfl jW (by first|rfl|omega) (by first|omega|(simp only[ls];omega)) hl ?_)
   intro A1 c1 hr1
   have S3:=S1.gL eT;clear S1
   refine ar 4 5 rfl rfl rfl (Aa (C:=eT) (i:=0) rfl rfl rfl rfl rfl rfl rfl rfl jW S3 rfl hr1 S3.m (by show(0+_)*16<=_;rw[List.length_take];omega) ?_)
   intro jZ w3 S4;clear S3
   change SH _ _ _ [Rs.row eT jZ (l.take k)]at S4
   refine af 5 1 rfl rfl (U3 rfl (ah [0,1,2,7,8] rfl (U2 (U1 Xh Xg rfl rfl rfl ?_))))
   refine uh (fun ak aA=>∃(k2:Nat) (acc:List Tm) (aZ:Value) (M3:Hp),M1.le M3/\Env 78 [(0,.slice lA l.length lc),(7,.int .i64 (k2:Int)),(8,aZ)] ak/\SH aA M3 X [Rs.row eT aZ acc]/\put l e c=acc++l.drop k2/\k2<=l.length/\acc.length<=l.length+1) ?_ ?_
   ·refine U1 Zvc Xf rfl rfl rfl (U0 rfl (af 0 2 rfl rfl (ag 2 rfl (Uv rfl rfl rfl rfl rfl rfl uI) (ag 3 rfl (Un rfl rfl rfl) (af 4 1 rfl rfl ?_)))))
    refine Uy (t:=36) rfl (fun arQ=>?_) (fun arQ=>?_)
    ·refine af 5 2 rfl rfl (aP 7 8 rfl rfl rfl rfl rfl rfl rfl rfl (U8 rfl rfl (U9 (C:=eT) k rfl rfl rfl jW (by first|rfl|omega) hl (by first|omega|(simp only[ls];omega))) ?_))
     refine aP 8 9 rfl rfl rfl rfl rfl rfl rfl rfl (U8 rfl rfl (U4 rfl rfl ux rfl (aL) (aJ)) (aP 9 10 rfl rfl rfl rfl rfl rfl rfl rfl (U8 rfl rfl (U5 rfl rfl aw rfl (hl.cell S4.m (i:=k) (by first|omega|(simp only[ls];omega)) 0 rfl rfl)) ?_)))
     refine af 10 1 rfl rfl (aP 11 12 rfl rfl rfl rfl rfl rfl rfl rfl (U8 rfl rfl (Uz rfl rfl rfl) (af 12 1 rfl rfl (U3 rfl (ah [0,1,2,7,8,44] rfl (U2 ?_))))))
     refine Ua Xe Zvf rfl rfl rfl rfl (fun Cz=>?_) (fun Cz=>?_)
     ·refine U1 Xd Zvh rfl rfl rfl (U1 Zvi Xc rfl rfl rfl (U0 rfl (af 0 2 rfl rfl (ag 2 rfl (U9 (C:=eT) k rfl rfl rfl jW (by first|rfl|omega) hl (by first|omega|(simp only[ls];omega))) ?_))))
      refine ag 3 rfl (U4 rfl rfl ux rfl (aL) (aJ)) (ag 4 rfl (U5 rfl rfl aw rfl (hl.cell S4.m (i:=k) (by first|omega|(simp only[ls];omega)) 1 rfl rfl)) ?_)
      refine af 5 1 rfl rfl (ag 6 rfl (vX rfl rfl rfl) (ag 7 rfl (gG rfl rfl rfl) (U3 rfl (ah [0,1,2,7,8,52] rfl (U2 ?_)))))
      refine Ua Zvk Zvl rfl rfl rfl rfl (fun asi=>?_) (fun asi=>?_)
      ·refine U0 rfl (af 0 4 rfl rfl (ag 4 rfl (U9 (C:=eT) k rfl rfl rfl jW (by first|rfl|omega) hl (by first|omega|(simp only[ls];omega))) ?_))
       refine ag 5 rfl (U4 rfl rfl ux rfl (aL) (aJ)) (ag 6 rfl (U5 rfl rfl aw rfl (hl.cell S4.m (i:=k) (by first|omega|(simp only[ls];omega)) 1 rfl rfl)) ?_)
       refine af 7 1 rfl rfl (ag 8 rfl (vX rfl rfl rfl) (ag 9 rfl (run_build (l:=[_,_]) rfl rfl FR rfl rfl) (ar 10 11 rfl rfl rfl (Uf (C:=eT) (l:=[_,_]) rfl rfl rfl rfl jW rfl rfl rfl rfl S4 ?_))))
       intro aI w5 S6;clear S4
       refine ar 11 12 rfl rfl rfl (Ux (C:=eT) (i:=1) (q:=0) (⟨e,wr (((ga l k).c)+c)⟩:Tm) rfl rfl rfl rfl rfl rfl rfl rfl jW S6 rfl rfl rfl (by show(_+1)*16<=_;first|omega|(simp only[List.length_append,List.length_take,List.length_cons,List.length_nil,List.length_map];omega)) ?_)
       intro UN w6 S7;clear S6
       have S8:=S7.pick [1] [_] (by decide) ⟨rfl,trivial⟩;clear S7
       refine af 12 1 rfl rfl (U3 rfl (ah [0,7,8] rfl (U2 (U0 rfl (af 0 1 rfl rfl (ag 1 rfl (Ud rfl rfl rfl (by first|omega|(simp only[ls];omega))) ?_))))))
       refine af 2 1 rfl rfl (U3 rfl (Ut ?_))
       intro ak ai
       refine⟨k+1,(l.take k)++[(⟨e,wr (((ga l k).c)+c)⟩:Tm)],_,_,(Hp.le_refl _),ai.sub ⟨rfl,rfl,rfl,trivial⟩,S8.pick [0] [_] (by decide) ⟨rfl,trivial⟩,?ei,?fK,?pV⟩
       case ei=>(rw[put_eq (k:=k) hk hlt qW hnd];first|(rw[if_pos (show k<l.length/\(ga l k).e=e by omega)];first|(rw[if_pos (show wr ((ga l k).c+c)=0 by omega)];simp)|(rw[if_neg (show¬wr ((ga l k).c+c)=0 by omega)];simp))|(rw[if_neg (show¬(k<l.length/\(ga l k).e=e) by omega)];simp))
       case fK=>omega
       case pV=>(simp only[List.length_append,List.length_take,List.length_cons,List.length_nil];omega)
      ·refine Ub rfl (ah [0,7,8] rfl (U2 (U0 rfl (af 0 1 rfl rfl (ag 1 rfl (Ud rfl rfl rfl (by first|omega|(simp only[ls];omega))) ?_)))))
       refine af 2 1 rfl rfl (U3 rfl (Ut ?_))
       intro ak ai
       refine⟨k+1,l.take k,_,_,(Hp.le_refl _),ai.sub ⟨rfl,rfl,rfl,trivial⟩,S4.pick [0] [_] (by decide) ⟨rfl,trivial⟩,?fJ,?gu,?kq⟩
       case fJ=>(rw[put_eq (k:=k) hk hlt qW hnd];first|(rw[if_pos (show k<l.length/\(ga l k).e=e by omega)];first|(rw[if_pos (show wr ((ga l k).c+c)=0 by omega)];simp)|(rw[if_neg (show¬wr ((ga l k).c+c)=0 by omega)];simp))|(rw[if_neg (show¬(k<l.length/\(ga l k).e=e) by omega)];simp))
       case gu=>omega
       case kq=>(simp only[List.length_append,List.length_take,List.length_cons,List.length_nil];omega)
     ·refine U0 rfl (af 0 3 rfl rfl (ag 3 rfl (run_build (l:=[_,_]) rfl rfl FR rfl rfl) (ar 4 5 rfl rfl rfl (Uf (C:=eT) (l:=[_,_]) rfl rfl rfl rfl jW rfl rfl rfl rfl S4 ?_))))
      intro bq w7 S9;clear S4
      refine ar 5 6 rfl rfl rfl (Ux (C:=eT) (i:=1) (q:=0) (⟨e,c⟩:Tm) rfl rfl rfl rfl rfl rfl rfl rfl jW S9 rfl rfl rfl (by show(_+1)*16<=_;first|omega|(simp only[List.length_append,List.length_take,List.length_cons,List.length_nil,List.length_map];omega)) ?_)
      intro zy w8 bM;clear S9
      have bJ:=bM.pick [1] [_] (by decide) ⟨rfl,trivial⟩;clear bM
      refine af 6 1 rfl rfl (U3 rfl (Ut ?_))
      intro ak ai
      refine⟨k,(l.take k)++[(⟨e,c⟩:Tm)],_,_,(Hp.le_refl _),ai.sub ⟨rfl,rfl,rfl,trivial⟩,bJ.pick [0] [_] (by decide) ⟨rfl,trivial⟩,?gq,?gj,?nr⟩
      case gq=>(rw[put_eq (k:=k) hk hlt qW hnd];first|(rw[if_pos (show k<l.length/\(ga l k).e=e by omega)];first|(rw[if_pos (show wr ((ga l k).c+c)=0 by omega)];simp)|(rw[if_neg (show¬wr ((ga l k).c+c)=0 by omega)];simp))|(rw[if_neg (show¬(k<l.length/\(ga l k).e=e) by omega)];simp))
      case gj=>omega
      case nr=>(simp only[List.length_append,List.length_take,List.length_cons,List.length_nil];omega)
    ·refine af 5 6 rfl rfl (af 11 2 rfl rfl (U3 rfl (ah [0,1,2,7,8,44] rfl (U2 (jq Zvf rfl rfl rfl (U0 rfl (af 0 3 rfl rfl (ag 3 rfl (run_build (l:=[_,_]) rfl rfl FR rfl rfl) ?_))))))))
     refine ar 4 5 rfl rfl rfl (Uf (C:=eT) (l:=[_,_]) rfl rfl rfl rfl jW rfl rfl rfl rfl S4 ?_)
     intro dD w9 cB;clear S4
     refine ar 5 6 rfl rfl rfl (Ux (C:=eT) (i:=1) (q:=0) (⟨e,c⟩:Tm) rfl rfl rfl rfl rfl rfl rfl rfl jW cB rfl rfl rfl (by show(_+1)*16<=_;first|omega|(simp only[List.length_append,List.length_take,List.length_cons,List.length_nil,List.length_map];omega)) ?_)
     intro vr5 oZ bY;clear cB
     have bX:=bY.pick [1] [_] (by decide) ⟨rfl,trivial⟩;clear bY
     refine af 6 1 rfl rfl (U3 rfl (Ut ?_))
     intro ak ai
     refine⟨k,(l.take k)++[(⟨e,c⟩:Tm)],_,_,(Hp.le_refl _),ai.sub ⟨rfl,rfl,rfl,trivial⟩,bX.pick [0] [_] (by decide) ⟨rfl,trivial⟩,?iy,?iw,?np⟩
     case iy=>(rw[put_eq (k:=k) hk hlt qW hnd];first|(rw[if_pos (show k<l.length/\(ga l k).e=e by omega)];first|(rw[if_pos (show wr ((ga l k).c+c)=0 by omega)];simp)|(rw[if_neg (show¬wr ((ga l k).c+c)=0 by omega)];simp))|(rw[if_neg (show¬(k<l.length/\(ga l k).e=e) by omega)];simp))
     case iw=>omega
     case np=>(simp only[List.length_append,List.length_take,List.length_cons,List.length_nil];omega)
   ·rintro a3 w4 ⟨k2,acc,aZ,M3,cG,cW,S5,hpe,hk2,hal⟩
    clear S4
    refine uy cW ?_
    clear cW a3
    replace hl:=hl.mono cG
    replace hr1:=hr1.mono cG
    refine U2 (U1 Zvm Zvn rfl rfl rfl (U0 rfl (af 0 3 rfl rfl (ar 3 4 rfl rfl rfl (aaF (C:=eT) k2 rfl rfl rfl rfl rfl jW (by first|rfl|omega) (by first|omega|(simp only[ls];omega)) hl ?_)))))
    intro A2 c2 hr2
    refine ar 4 5 rfl rfl rfl (Aa (C:=eT) (i:=0) rfl rfl rfl rfl rfl rfl rfl rfl jW S5 rfl hr2 S5.m (by(show(_+_)*16<=_;have e3:=abH l e c;rw[hpe,List.length_append]at e3;omega)) ?_)
    intro sH mO bT;clear S5
    change SH _ _ _ [Rs.row eT sH (acc++(l.drop k2))]at bT
    refine af 5 1 rfl rfl (U3 rfl (ah [6] rfl (U2 ?_)))
    obtain⟨M4,bt,cO,⟨A3,c3,e1,hr3⟩⟩:=bT.gW (i:=0) (H':=[_]) rfl rfl (by(show _*16<=_;have e3:=abH l e c;rw[hpe]at e3;omega))
    clear bT;subst e1
    replace hl:=hl.mono bt
    replace hr1:=hr1.mono bt
    replace hr2:=hr2.mono bt
    refine Us hC [_] rfl rfl ⟨rfl,trivial⟩ ?_
    refine⟨_,rfl,_,(hle1.trans cG).trans bt,(cO.pick [] [] (by decide) trivial),?_⟩
    rw[hpe]
    exact⟨_,_,rfl,hr3⟩
end Go.Proofs.YthppkofceancjaaGreat
namespace Go.Proofs.YthppkofceancjaaGreat
open Go.ChangeShapes Go.WideShapes Go.ChangeAt Go.RowKit
def aqA(g:Nat)(u:Value)(M:Hp):Prop:=∃b,u=.func (.func 144) #[] [.pointer (some ⟨b,0,none⟩)].toArray/\bQ M b 99 [.map (some g)]
theorem SH.aey{w:World}{M:Hp}{X:Fr}{H H':List Rs}{i g:Nat}{T:TypeId}{l:List Value}(S:SH w M X H)(hi:nth H i=some (Rs.box g T l))(hH:H.set i Rs.emp=H'):∃M',M.le M'/\SH w M' X H'/\bQ M' g T l:=by
 obtain⟨h1,h2,h3⟩:=S.uZ hi hH
 refine⟨_,h1,h2,?_⟩
 show(M.put w _) g=_
 rw[h3 g (by simp[Rs.box])]
 exact S.get hi
def Cg(s:List Int×List Int)(v:Value)(s':List Int×List Int):Prop:=∃dn l1 x l2,s=(dn,l1++x::l2)/\v=.int .i64 x/\s'=(dn++[x],l1++l2)
noncomputable def Xb:=Tryz.f94.body.getD .skip
def Zvp:=cL Xb
def Xa:=cR Xb
def Zvr:=cL Xa
def Zvs:=cR Xa
set_option maxRecDepth 10000 in
theorem aoD{w:World}{M:Hp}{X:Fr}(es:List (Int×Int)){xU:Nat}(p4:eF (Value.int .i64) (Value.int .i64) xU es M)(S:SH w M X []):Ct Tryz.prog 94 [.map (some xU)] w M X (aqA xU):=by
 unfold Ct
 refine Up (b:=Xb) Tryz.func94 rfl Tryz.ntmps94 rfl (fun C hC=>?_)
 refine bu [(0,_)] ⟨rfl,trivial⟩ ?_
 refine U1 Zvp Xa rfl rfl rfl ?_
 refine U0 rfl ?_
 refine Uj (k:=0) (k':=1) rfl rfl rfl (cU (l:=[_]) rfl rfl rfl rfl rfl S ?_)
 intro aI w1 S1;clear S
 refine Uj (k:=1) (k':=2) rfl rfl rfl (U8 rfl rfl (run_assign rfl rfl) ?_)
 refine U3 rfl ?_
 refine Uw [(1,_)] ⟨rfl,trivial⟩ ?_
 refine U2 ?_
 refine U1 Zvr Zvs rfl rfl rfl ?_
 refine U0 rfl ?_
 refine Uj (k:=0) (k':=1) rfl rfl rfl (U8 rfl rfl (Eb (vs:=[_]) rfl rfl rfl rfl) ?_)
 refine Uj (k:=1) (k':=2) rfl rfl rfl (U8 rfl rfl (run_assign rfl rfl) ?_)
 refine U3 rfl ?_
 refine Uw [(2,_)] ⟨rfl,trivial⟩ ?_
 refine U2 ?_
 obtain⟨M1,hle1,S2,lW⟩:=S1.aey (i:=0) (H':=[_]) rfl rfl
 clear S1
 replace p4:=p4.mono hle1
 refine Us hC [_] rfl rfl ⟨rfl,trivial⟩ ?_
 refine⟨_,rfl,_,hle1,(S2.pick [] [] (by decide) trivial),?_⟩
 exact⟨_,rfl,lW⟩
namespace InF
noncomputable def W9:=Tryz.f144.body.getD .skip
def Zvu:=cL W9
def Zvv:=cR W9
def Zvw:=cL Zvv
def W8:=cL Zvw
def Zvy:=cL W8
def W7:=cR W8
def HL:=cL W7
def W6:=cR W7
def Zw2:=cL HL
def Zw3:=cR HL
def W5:=cL W6
def Zw5:=cL W5
def W4:=cR W5
def Zw7:=cL W4
def Zw8:=cR W4
def Zw9:=cR Zw8
set_option maxRecDepth 10000 in
theorem aiU{M:Hp}{X:Fr}{es:List (Int×Int)}{gm b:Nat}(hm:eF (Value.int .i64) (Value.int .i64) gm es M)(dP:bQ M b 99 [.map (some gm)]):LD Tryz.prog 144 [.pointer (some ⟨b,0,none⟩)] ([],es.map Prod.fst) Cg (fun s=>s.2=[]) M X:=by
 intro l J w M1 B hle0 hY S hJ0
 replace hm:=hm.mono hle0
 replace dP:=dP.mono hle0
 refine Up (b:=W9) Tryz.func144 rfl Tryz.ntmps144 rfl (fun C qp hC=>?_)
 have DG:C.F=Fence.wide:=by unfold Ctx.F;rw[qp]
 refine bu [(0,_),(1,_)] ⟨rfl,rfl,trivial⟩ ?_
 refine U1 Zvu Zvv rfl rfl rfl ?_
 refine U0 rfl ?_
 refine Uj (k:=0) (k':=1) rfl rfl rfl (U8 rfl rfl (U5 rfl rfl y8 rfl (dP.cell S.m rfl)) ?_)
 obtain⟨sP,jN,cd⟩:=hm.uQ
 refine Uj (k:=1) (k':=2) rfl rfl rfl (Am rfl rfl rfl rfl y8 S cd S.m ?_)
 intro r1 w1 S1;clear S
 refine U3 rfl ?_
 refine Uw [(0,_),(5,_)] ⟨rfl,rfl,trivial⟩ ?_
 refine U2 ?_
 refine U7 Zvw 0 rfl rfl rfl ?_
 refine Ui (fun aF ak aA=>∃(sn:Array Nat) (dn:List (Int×Int)) (lf:List (Int×Int)) (B1:Rs) (M2:Hp),M1.le M2/\aF=lf.length/\Env 14 [(0,.func (.yield l) #[] #[]),(5,.pointer (some ⟨r1,0,none⟩))] ak/\SH aA M2 X [Rs.iV gm jN r1 sn,B1]/\pI (Value.int .i64) (Value.int .i64) sP sn lf/\(dn++lf).Perm es/\J (dn.map Prod.fst,lf.map Prod.fst) M2 B1) rfl ?_ ?_
 ·intro ak ai
  refine⟨_,⟨#[],[],es,_,_,Hp.le_refl _,rfl,ai.sub ⟨rfl,rfl,trivial⟩,S1.pick [0,1] [_,_] (by decide) ⟨rfl,rfl,trivial⟩,?bn,?bE,?ez⟩⟩
  case bn=>exact cd.Dp
  case bE=>exact List.Perm.refl _
  case ez=>exact hJ0
 ·rintro m1 a1 w2 ⟨sn,dn,lf,B1,M2,hle1,rfl,aQ,S2,hlf,eN,vt⟩
  clear S1
  refine aW aQ (c:=W8) rfl ?_
  clear aQ a1
  replace dP:=dP.mono hle1
  replace hm:=hm.mono hle1
  replace cd:=cd.mono hle1
  refine U1 Zvy W7 rfl rfl rfl ?_
  refine U0 rfl ?_
  refine Uj (k:=0) (k':=1) rfl rfl rfl (AK (i:=0) rfl rfl rfl rfl S2 rfl cd S2.m hlf (fun jX=>?_) (fun k1 v1 lR lQ jk w3 jX FX sD S3=>?_))
  ·refine Uj (k:=1) (k':=2) rfl rfl rfl (U8 rfl rfl (Ug rfl rfl rfl) ?_)
   refine U3 rfl ?_
   refine Uw [(0,_),(5,_),(7,_)] ⟨rfl,rfl,rfl,trivial⟩ ?_
   refine U2 ?_
   refine U1 HL W6 rfl rfl rfl ?_
   refine jq Zw3 rfl rfl rfl ?_
   refine Uk rfl rfl ?_
   refine Bk hC [] rfl trivial ?_
   obtain rfl:lf=[]:=jX
   exact⟨⟨_,rfl⟩,_,_,_,rfl,hle1,S2.pick [1] [_] (by decide) ⟨rfl,trivial⟩,vt⟩
  ·clear S2
   change SH _ _ _ [Rs.iV gm jN r1 jk,_]at S3
   refine Uj (k:=1) (k':=2) rfl rfl rfl (U8 rfl rfl (Ug rfl rfl rfl) ?_)
   refine U3 rfl ?_
   refine Uw [(0,_),(5,_),(7,_)] ⟨rfl,rfl,rfl,trivial⟩ ?_
   refine U2 ?_
   refine U1 HL W6 rfl rfl rfl ?_
   refine rM Zw2 rfl rfl rfl ?_
   refine Ub rfl ?_
   refine Uw [(0,_),(5,_)] ⟨rfl,rfl,trivial⟩ ?_
   refine U2 ?_
   refine U7 W5 1 rfl rfl rfl ?_
   refine U1 Zw5 W4 rfl rfl rfl ?_
   refine U0 rfl ?_
   refine Uj (k:=0) (k':=1) rfl rfl rfl (U8 rfl rfl (Ai (i:=0) rfl rfl S3 rfl cd S3.m sD) ?_)
   refine Uj (k:=1) (k':=2) rfl rfl rfl (U8 rfl rfl (Ug rfl rfl rfl) ?_)
   refine Uj (k:=2) (k':=3) rfl rfl rfl (U8 rfl rfl (run_assign rfl rfl) ?_)
   refine U3 rfl ?_
   refine Uw [(0,_),(5,_),(3,_)] ⟨rfl,rfl,rfl,trivial⟩ ?_
   refine U2 ?_
   refine U1 Zw7 Zw8 rfl rfl rfl ?_
   refine U0 rfl ?_
   refine Uj (k:=0) (k':=1) rfl rfl rfl (U8 rfl rfl (run_move rfl rfl) ?_)
   refine Uj (k:=1) (k':=2) rfl rfl rfl (U8 rfl rfl (run_move rfl rfl) ?_)
   have hst:Cg (dn.map Prod.fst,lf.map Prod.fst) (.int .i64 k1) ((dn++[(k1,v1)]).map Prod.fst,(lR++lQ).map Prod.fst):=⟨dn.map Prod.fst,lR.map Prod.fst,k1,lQ.map Prod.fst,by rw[jX];simp,rfl,by simp⟩
   have S4:=S3.perm (List.Perm.swap _ _ _)
   refine IZ (k:=2) (k':=3) rfl rfl rfl rfl rfl rfl rfl rfl rfl rfl (by rw[DG];exact hY _ _ _ _ _ [_] _ hst (hle1) S4 vt) ?_
   rintro _ w4 ⟨rfl,M3,B6,hle2,S5,hJ1⟩;clear S3
   replace dP:=dP.mono hle2
   replace hm:=hm.mono hle2
   replace cd:=cd.mono hle2
   refine Uj (k:=3) (k':=4) rfl rfl rfl (U8 rfl rfl (mX rfl rfl) ?_)
   refine U3 rfl ?_
   refine Uw [(0,_),(5,_),(13,_)] ⟨rfl,rfl,rfl,trivial⟩ ?_
   refine U2 ?_
   refine jq Zw9 rfl rfl rfl ?_
   refine Ub rfl ?_
   refine Ul ?_
   refine Ut ?_
   intro ak ai
   refine⟨_,?bG,⟨jk,dn++[(k1,v1)],lR++lQ,_,_,(hle1.trans hle2),rfl,ai.sub ⟨rfl,rfl,trivial⟩,S5.pick [1,0] [_,_] (by decide) ⟨rfl,rfl,trivial⟩,?bk,?bD,?fL⟩⟩
   case bk=>assumption
   case bD=>(refine List.Perm.trans ?_ eN;simp only[*,List.append_assoc,List.cons_append,List.nil_append];exact(List.perm_append_left_iff _).2 (List.perm_middle.symm))
   case fL=>assumption
   case bG=>(simp only[*,List.length_append,List.length_cons];omega)
end InF
noncomputable def ug:Code:=cL (cR (cL (cR (Tryz.f182.body.getD .skip))))
def Ga(ks:List Int)(g2:Nat)(s:List Int×List Int)(M:Hp)(H:List Rs):Prop:=∃v,H=[Rs.row Uh v s.1,Rs.box g2 53 [v]]/\(s.1++s.2).Perm ks
def FH(ks:List Int)(g2:Nat)(s:List Int×List Int)(a:Act)(M:Hp)(H:List Rs):Prop:=∃v dn x,Env 13 [(2,.pointer (some ⟨g2,0,none⟩)),(5,.int .i64 x)] a/\H=[Rs.row Uh v dn,Rs.box g2 53 [v]]/\s.1=dn++[x]/\(s.1++s.2).Perm ks
namespace InF
set_option maxRecDepth 10000 in
theorem aal{w:World}{M:Hp}{X:Fr}{ks:List Int}{zS:Nat}{C:Ctx}{R0:Rs}{H:List Rs}{L:List (Nat×Value)}{k k1:List Int×List Int}{u:Value}(hL:Sub L [(2,.pointer (some ⟨zS,0,none⟩)),(7,u)])(hst:Cg k u k1)(S:SH w M X (R0::H))(hI:Ga ks zS k M H):
  WS Tryz.prog 13 C (UR ug) [.lp (fun a w2=>∃M2 H2,M.le M2/\SH w2 M2 X (R0::H2)/\FH ks zS k1 a M2 H2)] L w:=by
 obtain⟨dn,l1,x,l2,rfl,rfl,rfl⟩:=hst
 obtain⟨aZ,rfl,eN⟩:=hI
 change SH w M X [R0,Rs.row Uh aZ dn,_]at S
 refine bu _ hL ?_
 refine U0 rfl ?_
 refine Uj (k:=0) (k':=1) rfl rfl rfl (U8 rfl rfl (run_assign rfl rfl) ?_)
 refine U3 rfl ?_
 refine Ut ?_
 intro ak ai
 refine⟨M,_,Hp.le_refl _,S.pick [0,1,2] [_,_,_] (by decide) ⟨rfl,rfl,rfl,trivial⟩,aZ,dn,x,ai.sub ⟨rfl,rfl,trivial⟩,rfl,rfl,?_⟩
 refine List.Perm.trans ?_ eN
 show((dn++[x])++(l1++l2)).Perm (dn++(l1++x::l2))
 rw[List.append_assoc]
 exact(List.perm_append_left_iff _).2 (show(x::(l1++l2)).Perm (l1++x::l2)from List.perm_middle.symm)
def Zwa:=Dl ug
def Zwb:=cL Zwa
set_option maxRecDepth 10000 in
theorem abr{w:World}{M:Hp}{X:Fr}{ks:List Int}{zS:Nat}(hks:ks.length<=2199023255553){C:Ctx}{R0:Rs}{H:List Rs}{a:Act}{k:List Int×List Int}(S:SH w M X (R0::H))(nT:FH ks zS k a M H):
  (Dl ug).wpIn C.F 0 Tryz.prog (post Tryz.prog C [.lp (fun _ w2=>∃M2 H2,M.le M2/\SH w2 M2 X (R0::H2)/\Ga ks zS k M2 H2)]) a w:=by
 obtain⟨aZ,dn,x,ha,rfl,hd,eN⟩:=nT
 obtain⟨k1,lf⟩:=k
 dsimp only at hd eN
 subst hd
 have hlen:=eN.length_eq
 simp only[List.length_append,List.length_cons,List.length_nil]at hlen
 change SH w M X [R0,Rs.row Uh aZ dn,_]at S
 refine aW ha (c:=Dl ug) rfl ?_
 refine U7 Zwb 1 rfl rfl rfl ?_
 refine U0 rfl ?_
 refine Uj (k:=0) (k':=1) rfl rfl rfl (U8 rfl rfl (U5 rfl rfl cI rfl (S.aG (i:=2) rfl rfl)) ?_)
 refine Uj (k:=1) (k':=2) rfl rfl rfl (U8 rfl rfl (run_move rfl rfl) ?_)
 refine Uj (k:=2) (k':=3) rfl rfl rfl (Uf (C:=Uh) (l:=[_]) rfl rfl rfl rfl aS rfl rfl rfl rfl S ?_)
 intro aI w1 S1;clear S
 refine Uj (k:=3) (k':=4) rfl rfl rfl (Ux (C:=Uh) (i:=2) (q:=0) x rfl rfl rfl rfl rfl rfl rfl rfl aS S1 rfl rfl rfl (by show(_+1)*8<=_;first|omega|(simp only[ls];omega)) ?_)
 intro sH w2 S2;clear S1
 have S3:=S2.pick [1,2,3] [_,_,_] (by decide) ⟨rfl,rfl,rfl,trivial⟩;clear S2
 refine Uj (k:=4) (k':=5) rfl rfl rfl (Uo (i:=2) (us:=[_]) (l':=[_]) (H':=[_,_,_]) rfl rfl S3 rfl rfl rfl (S3.yM (i:=1) rfl) LO rfl (py (S3.one (i:=1) rfl) rfl) rfl rfl ?_)
 intro w3 S4;clear S3
 refine U3 rfl ?_
 refine Ul ?_
 refine Ut ?_
 intro ak ai
 exact⟨_,_,Hp.le_refl _,S4.pick [0,1,2] [_,_,_] (by decide) ⟨rfl,rfl,rfl,trivial⟩,_,rfl,eN⟩
noncomputable def WZ:=Tryz.f182.body.getD .skip
def Zwd:=cL WZ
def WY:=cR WZ
def WX:=cL WY
def Zwg:=cR WY
def Zwh:=cL WX
def Zwi:=cR WX
def Zwj:=cL Zwi
set_option maxRecDepth 10000 in
theorem aiB{w:World}{M:Hp}{X:Fr}{es:List (Int×Int)}{gm b:Nat}(hm:eF (Value.int .i64) (Value.int .i64) gm es M)(dP:bQ M b 99 [.map (some gm)])(hks:(es.map Prod.fst).length<=2199023255553)(S:SH w M X []):Co Tryz.prog 182 [.slice none 0 0,.func (.func 144) #[] [.pointer (some ⟨b,0,none⟩)].toArray] w M X fun u N=>∃ks,ks.Perm (es.map Prod.fst)/\N=[Rs.row Uh u ks]:=by
 unfold Co
 refine Iz (b:=WZ) Tryz.func182 rfl Tryz.ntmps182 rfl (fun C qp hC=>?_)
 refine bu [(0,_),(1,_)] ⟨rfl,rfl,trivial⟩ ?_
 refine U1 Zwd WY rfl rfl rfl ?_
 refine U0 rfl ?_
 refine Uj (k:=0) (k':=1) rfl rfl rfl (cU (l:=[_]) rfl rfl rfl rfl rfl S ?_)
 intro aI w1 S1;clear S
 refine Uj (k:=1) (k':=2) rfl rfl rfl (U8 rfl rfl (run_assign rfl rfl) ?_)
 refine U3 rfl ?_
 refine Uw [(1,_),(2,_)] ⟨rfl,rfl,trivial⟩ ?_
 refine U2 ?_
 refine U1 WX Zwg rfl rfl rfl ?_
 refine U1 Zwh Zwi rfl rfl rfl ?_
 refine U0 rfl ?_
 refine Uj (k:=0) (k':=1) rfl rfl rfl (U8 rfl rfl (run_move rfl rfl) ?_)
 refine U3 rfl ?_
 refine Uw [(2,_),(6,_)] ⟨rfl,rfl,trivial⟩ ?_
 refine U2 ?_
 refine U7 Zwj 0 rfl rfl rfl ?_
 have S9:=(S1.gL Uh)
 refine aad (p:=7) (f:=144) (lb:=[_]) (asg:=UR ug) (bd:=Dl ug) qp rfl rfl rfl aqm S9 (Ga (es.map Prod.fst) aI) (FH (es.map Prod.fst) aI) ?_ (aiU hm dP) ?_ ?_ ?_
 ·exact⟨.slice none 0 0,rfl,List.Perm.refl _⟩
 ·intro k k1 v M' H' w' C' R0 hk hle S' hI
  exact aal ⟨rfl,rfl,trivial⟩ hk S' hI
 ·intro k M' H' w' C' R0 a hle S' nT
  exact abr hks S' nT
 ·intro k a M' H' w' D l rc hfin ha hle S' hI
  obtain⟨dn,lf⟩:=k
  obtain rfl:lf=[]:=hfin
  obtain⟨aZ,rfl,eN⟩:=hI
  change SH w' M' X [Rs.lr l D rc,Rs.row Uh aZ dn,_]at S'
  refine Jr (c:=Zwg) (i:=4) (d1:=12) (d2:=4) (v:=aZ) hC rfl rfl rfl rfl rfl rfl rfl ha rfl cI rfl rfl rfl rfl S' (S'.aG (i:=2) rfl rfl) (fun w2 S2=>?_)
  refine⟨_,rfl,[Rs.row Uh aZ dn],(S2.down hle).pick [0] [_] (by decide) ⟨rfl,trivial⟩,dn,?_,rfl⟩
  simpa using eN
end InF
end Go.Proofs.YthppkofceancjaaGreat
namespace Go.Proofs.YthppkofceancjaaGreat
open Go.ChangeShapes Go.WideShapes Go.ChangeAt Go.RowKit
theorem JD:∀{a b:List Int},a.Pairwise (fun s t=>s<t)->b.Pairwise (fun s t=>s<t)->(∀t,t∈a<->t∈b)->a=b
 |[],[],_,_,_=>rfl
 |[],t::b,_,_,h=>by have:=(h t).2 (by simp);simp at this
 |t::a,[],_,_,h=>by have:=(h t).1 (by simp);simp at this
 |s::a,t::b,ha,hb,h=>by
  obtain⟨a1,a2⟩:=List.pairwise_cons.1 ha
  obtain⟨b1,b2⟩:=List.pairwise_cons.1 hb
  have hst:s=t:=by
   rcases List.mem_cons.1 ((h s).1 (by simp))with e|h1
   ·exact e
   ·rcases List.mem_cons.1 ((h t).2 (by simp))with e|h2
    ·exact e.symm
    ·have:=a1 t h2;have:=b1 s h1;omega
  subst hst
  refine congrArg _ (JD a2 b2 fun u=>⟨fun hu=>?_,fun hu=>?_⟩)
  ·rcases List.mem_cons.1 ((h u).1 (by simp[hu]))with e|h1
   ·subst e;have:=a1 u hu;omega
   ·exact h1
  ·rcases List.mem_cons.1 ((h u).2 (by simp[hu]))with e|h1
   ·subst e;have:=b1 u hu;omega
   ·exact h1
theorem adq{a b:List Int}(h:a.Perm b)(hn:b.Nodup):cC a=cC b:=JD (AQ (h.nodup_iff.2 hn)) (AQ hn) fun t=>by rw[n9,n9,h.mem_iff]
theorem jO.at_{es dn l1 l2:List (Int×Int)}{B:Nat}(h:jO es B){k v:Int}{lf:List (Int×Int)}(hp:(dn++lf).Perm es)(hl:lf=l1++(k,v)::l2):(-(B:Int)<=k/\k<=B)/\wr v=v:=h.2 (k,v) (hp.mem_iff.1 (by rw[hl];simp))
noncomputable def WW:=Tryz.f142.body.getD .skip
def Zwl:=cL WW
def WV:=cR WW
def Zwn:=cL WV
def Zwo:=cR WV
set_option maxRecDepth 10000 in
theorem ajx{w:World}{M:Hp}{X:Fr}{es:List (Int×Int)}{gm b:Nat}(hm:eF (Value.int .i64) (Value.int .i64) gm es M)(dP:bQ M b 99 [.map (some gm)])(hks:(es.map Prod.fst).length<=2199023255553)(S:SH w M X []):Co Tryz.prog 142 [.func (.func 144) #[] [.pointer (some ⟨b,0,none⟩)].toArray] w M X (fun u N=>∃ks,ks.Perm (es.map Prod.fst)/\N=[Rs.row Uh u ks]):=by
 unfold Co
 refine Up (b:=WW) Tryz.func142 rfl Tryz.ntmps142 rfl (fun C hC=>(bu [(0,_)] ⟨rfl,trivial⟩ (U1 Zwl WV rfl rfl rfl (U0 rfl (af 0 1 rfl rfl (U3 rfl (ah [0] rfl (U2 (U1 Zwn Zwo rfl rfl rfl ?_)))))))))
 refine U0 rfl (af 0 1 rfl rfl (ar 1 2 rfl rfl rfl (BJ rfl rfl rfl rfl rfl rfl rfl aeP S (InF.aiB hm dP hks S.aR) ?_)))
 intro UM w1 Nw1 S1 xx;clear S
 obtain⟨afh,yV,rfl⟩:=xx
 change SH _ _ _ [_]at S1
 refine af 2 1 rfl rfl (U3 rfl (ah [2] rfl (U2 (Us hC [_] rfl rfl ⟨rfl,trivial⟩ ?_))))
 exact⟨_,rfl,_,S1.pick [0] [_] (by decide) ⟨rfl,trivial⟩,_,yV,rfl⟩
noncomputable def WU:=Tryz.f93.body.getD .skip
def Zwq:=cL WU
def WT:=cR WU
def Zws:=cL WT
def WR:=cR WT
def Zwu:=cL WR
def WQ:=cR WR
def Zww:=cL WQ
def Zwx:=cR WQ
set_option maxRecDepth 10000 in
theorem akJ{w:World}{M:Hp}{X:Fr}{es:List (Int×Int)}{gm b:Nat}(hm:eF (Value.int .i64) (Value.int .i64) gm es M)(dP:bQ M b 99 [.map (some gm)])(hks:(es.map Prod.fst).length<=2199023255553)(hn:(es.map Prod.fst).Nodup)(S:SH w M X []):Co Tryz.prog 93 [.func (.func 144) #[] [.pointer (some ⟨b,0,none⟩)].toArray] w M X (fun u N=>N=[Rs.row Uh u (cC (es.map Prod.fst))]):=by
 unfold Co
 refine Up (b:=WU) Tryz.func93 rfl Tryz.ntmps93 rfl (fun C hC=>(bu [(0,_)] ⟨rfl,trivial⟩ (U1 Zwq WT rfl rfl rfl (U0 rfl (af 0 1 rfl rfl (U3 rfl (ah [0] rfl (U2 (U1 Zws WR rfl rfl rfl ?_)))))))))
 refine U0 rfl (af 0 1 rfl rfl (ar 1 2 rfl rfl rfl (BJ rfl rfl rfl rfl rfl rfl rfl aeT S (ajx hm dP hks S.aR) ?_)))
 intro UM w1 Nw1 S1 xx;clear S
 obtain⟨afh,yV,rfl⟩:=xx
 change SH _ _ _ [_]at S1
 refine af 2 1 rfl rfl (U3 rfl (ah [3] rfl (U2 (U1 Zwu WQ rfl rfl rfl (U0 rfl (af 0 1 rfl rfl (ar 1 2 rfl rfl rfl (r8 rfl rfl rfl rfl rfl rfl rfl aeS S1 (i:=0) rfl (adr (by have:=yV.length_eq;omega) (S1.ng (i:=0) rfl)) ?_))))))))
 rintro mP w2 _ _-S2 ⟨rfl,rfl,rfl⟩;clear S1
 change SH _ _ _ [_]at S2
 refine U3 rfl (ah [3] rfl (U2 (U1 Zww Zwx rfl rfl rfl (U0 rfl (af 0 2 rfl rfl (U3 rfl (ah [2] rfl (U2 ?_))))))))
 refine Us hC [_] rfl rfl ⟨rfl,trivial⟩ ?_
 exact⟨_,rfl,_,S2.pick [0] [_] (by decide) ⟨rfl,trivial⟩,by rw[adq yV hn];rfl⟩
noncomputable def WN:=Tryz.f48.body.getD .skip
def Zwz:=cL WN
def WM:=cR WN
def Zx1:=cL WM
def WK:=cR WM
def WJ:=cL WK
def WI:=cR WK
def Zx5:=cL WJ
def Zx6:=cR WJ
def Zx7:=cL Zx6
def WH:=cL Zx7
def Zx9:=cL WH
def WG:=cR WH
def WE:=cL WG
def WD:=cR WG
def Zxd:=cL WE
def Zxe:=cR WE
def Zxf:=cL WD
def Zxg:=cR WD
def WC:=cL Zxf
def Zxi:=cL WC
def WB:=cR WC
def Zxk:=cL WB
def Wz:=cR WB
def Zxm:=cL Wz
def Zxn:=cR Wz
def Zxo:=cL WI
def Zxp:=cR WI
set_option maxRecDepth 10000 in
theorem aoF{w:World}{M:Hp}{X:Fr}(es:List (Int×Int)){xU:Nat}(p4:eF (Value.int .i64) (Value.int .i64) xU es M)(B:Nat)(hes:jO es B)(hB:B<=1099511627776)(S:SH w M X []):Ct Tryz.prog 48 [.map (some xU)] w M X (LsE (yX es)):=by
 unfold Ct
 have hks:(es.map Prod.fst).length<=2199023255553:=by have:=abY hes;rw[List.length_map];omega
 refine Up (b:=WN) Tryz.func48 rfl Tryz.ntmps48 rfl (fun C hC=>(bu [(0,_)] ⟨rfl,trivial⟩ (U1 Zwz WM rfl rfl rfl (U0 rfl (af 0 1 rfl rfl (U3 rfl (ah [0] rfl (U2 (U1 Zx1 WK rfl rfl rfl ?_)))))))))
 refine U0 rfl (af 0 1 rfl rfl (U3 rfl (U2 (U1 WJ WI rfl rfl rfl (U1 Zx5 Zx6 rfl rfl rfl (U0 rfl (af 0 1 rfl rfl (ar 1 2 rfl rfl rfl (dt rfl rfl rfl rfl rfl rfl rfl asA S (aoD es p4 S.aR) ?_)))))))))
 intro UM w1 M1 hle1 S1 xx;clear S
 replace p4:=p4.mono hle1
 obtain⟨bk1,rfl,lW⟩:=xx
 refine ar 2 3 rfl rfl rfl (BJ rfl rfl rfl rfl rfl rfl rfl asB S1 (akJ p4 lW hks hes.1 S1.aR) ?_)
 intro mP w2 Nw2 S2 jg;clear S1
 obtain rfl:=jg
 change SH _ _ _ [_]at S2
 refine ag 3 rfl (kL (C:=Uh) (i:=0) rfl rfl rfl rfl rfl rfl aS S2 rfl) (af 4 1 rfl rfl (U3 rfl (ah [0,3,8,9,10] rfl (U2 (U7 Zx7 0 rfl rfl rfl ?_)))))
 have S3:=S2.gL eT;clear S2
 refine Ui (fun aF ak aA=>∃(i:Nat) (acc:List Tm) (aZ:Value),aF=(cC (es.map Prod.fst)).length-i/\Env 28 [(0,.map (some xU)),(3,aZ),(8,mP),(9,.int .i64 ((cC (es.map Prod.fst)).length:Int)),(10,.int .i64 (i:Int))] ak/\SH aA M1 X [Rs.row eT aZ acc,Rs.row Uh mP (cC (es.map Prod.fst))]/\i<=(cC (es.map Prod.fst)).length/\acc=fm es ((cC (es.map Prod.fst)).take i)) rfl ?_ ?_
 ·intro ak ai
  refine⟨_,⟨0,_,_,rfl,ai.sub ⟨rfl,rfl,rfl,rfl,rfl,trivial⟩,S3.pick [0,1] [_,_] (by decide) ⟨rfl,rfl,trivial⟩,?bn,?bE⟩⟩
  case bn=>omega
  case bE=>rfl
 ·rintro m1 a1 w3 ⟨i,acc,aZ,rfl,aQ,S4,hi,kF⟩
  clear S3
  refine aW aQ (c:=WH) rfl ?_
  clear aQ a1
  have hal:acc.length<=i:=by rw[kF];exact Nat.le_trans (adR _ _) (by rw[List.length_take];omega)
  have hsl:=AP (es.map Prod.fst)
  refine U1 Zx9 WG rfl rfl rfl (U0 rfl (ag 0 rfl (Un rfl rfl rfl) (U3 rfl (U2 (U1 WE WD rfl rfl rfl ?_)))))
  refine Ua Zxd Zxe rfl rfl rfl rfl (fun asp=>?_) (fun asp=>?_)
  ·refine Ub rfl (ah [0,3,8,9,10] rfl (U2 (U1 Zxf Zxg rfl rfl rfl (U7 WC 1 rfl rfl rfl (U1 Zxi WB rfl rfl rfl (U0 rfl (ag 0 rfl (Ue (C:=Uh) (i:=1) i rfl rfl rfl aS S4 rfl (by first|rfl|omega) (by first|omega|(simp only[ls];omega))) ?_)))))))
   refine ag 1 rfl (U5 rfl rfl aw rfl (S4.cK (i:=1) (e:=i) (j:=0) rfl (by first|omega|(simp only[ls];omega)) rfl rfl)) ?_
   refine af 2 1 rfl rfl (U3 rfl (ah [0,3,8,9,10,5] rfl (U2 (U1 Zxk Wz rfl rfl rfl (U0 rfl (af 0 2 rfl rfl (ag 2 rfl (Ir (kc:=(Value.int .i64)) (vc:=(Value.int .i64)) (es:=es) (k:=(ga (cC (es.map Prod.fst)) i)) (zv:=0) rfl rfl rfl y8 mS nN p4 S4.m) (ag 3 rfl (gG rfl rfl rfl) ?_))))))))
   refine U3 rfl (ah [0,3,8,9,10,5,17] rfl (U2 ?_))
   refine Ua Zxm Zxn rfl rfl rfl rfl (fun xu=>?_) (fun xu=>?_)
   ·refine U0 rfl (af 0 4 rfl rfl (ag 4 rfl (Ir (kc:=(Value.int .i64)) (vc:=(Value.int .i64)) (es:=es) (k:=(ga (cC (es.map Prod.fst)) i)) (zv:=0) rfl rfl rfl y8 mS nN p4 S4.m) (ag 5 rfl (run_build (l:=[_,_]) rfl rfl FR rfl rfl) (ar 6 7 rfl rfl rfl (Uf (C:=eT) (l:=[_,_]) rfl rfl rfl rfl jW rfl rfl rfl rfl S4 ?_)))))
    intro aI w4 S5;clear S4
    refine ar 7 8 rfl rfl rfl (Ux (C:=eT) (i:=1) (q:=0) (⟨ga (cC (es.map Prod.fst)) i,(mg (ga (cC (es.map Prod.fst)) i) es).getD 0⟩:Tm) rfl rfl rfl rfl rfl rfl rfl rfl jW S5 rfl rfl rfl (by show(_+1)*16<=_;omega) ?_)
    intro sH w5 S6;clear S5
    have S7:=S6.pick [1,2] [_,_] (by decide) ⟨rfl,rfl,trivial⟩;clear S6
    refine af 8 1 rfl rfl (U3 rfl (Ul (ah [0,3,8,9,10] rfl (U2 (U0 rfl (ag 0 rfl (Ud rfl rfl rfl (by first|omega|(simp only[ls];omega))) ?_))))))
    refine af 1 1 rfl rfl (U3 rfl (Ut ?_))
    intro ak ai
    refine⟨_,?bG,⟨i+1,_,_,rfl,ai.sub ⟨rfl,rfl,rfl,rfl,rfl,trivial⟩,S7.pick [0,1] [_,_] (by decide) ⟨rfl,rfl,trivial⟩,?bk,?bD⟩⟩
    case bk=>omega
    case bD=>(rw[kJ _ i (by omega),acP,<-kF];first|(rw[if_neg (by assumption)])|(rw[if_pos (by omega),List.append_nil]))
    case bG=>omega
   ·refine Ub rfl (Ul (ah [0,3,8,9,10] rfl (U2 (U0 rfl (ag 0 rfl (Ud rfl rfl rfl (by first|omega|(simp only[ls];omega))) ?_)))))
    refine af 1 1 rfl rfl (U3 rfl (Ut ?_))
    intro ak ai
    refine⟨_,?fM,⟨i+1,_,_,rfl,ai.sub ⟨rfl,rfl,rfl,rfl,rfl,trivial⟩,S4.pick [0,1] [_,_] (by decide) ⟨rfl,rfl,trivial⟩,?cu,?cN⟩⟩
    case cu=>omega
    case cN=>(rw[kJ _ i (by omega),acP,<-kF];first|(rw[if_neg (by assumption)])|(rw[if_pos (by omega),List.append_nil]))
    case fM=>omega
  ·refine Uk rfl rfl (ah [3] rfl (U2 (U1 Zxo Zxp rfl rfl rfl ?_)))
   have hsl:=AP (es.map Prod.fst)
   refine U0 rfl (af 0 2 rfl rfl (U3 rfl (ah [2] rfl (U2 ?_))))
   have hal:acc.length<=2199023255553:=by rw[kF];exact Nat.le_trans (adR _ _) (by rw[List.length_take];omega)
   obtain⟨M2,cG,S8,⟨A1,c1,e1,hr1⟩⟩:=S4.gW (i:=0) (H':=[_,_]) rfl rfl (by show _*16<=_;first|omega|(simp only[ls];omega))
   clear S4;subst e1
   replace p4:=p4.mono cG
   replace lW:=lW.mono cG
   refine Us hC [_] rfl rfl ⟨rfl,trivial⟩ ?_
   refine⟨_,rfl,_,hle1.trans cG,(S8.pick [] [] (by decide) trivial),?_⟩
   obtain rfl:i=(cC (es.map Prod.fst)).length:=by omega
   rw[List.take_length]at kF
   have e9:yX es=acc:=kF.symm
   rw[e9]
   exact⟨_,_,rfl,hr1⟩
theorem amE{w:World}{M:Hp}{X:Fr}{g B:Nat}{p:aC}(h:Wk M g B p)(hB:B<=1099511627776)(S:SH w M X []):Ct Tryz.prog 48 [.map (some g)] w M X (PT B p):=by
 obtain⟨es,h1,h2,rfl⟩:=h
 unfold Ct
 refine(aoF es h1 B h2 hB S).mono ?_
 rintro e w' ⟨v,rfl,M',hle,S',A,c,rfl,hr⟩
 exact⟨_,rfl,M',hle,S',A,c,_,rfl,hr,aa6 h2 hB,abT h2,abN h2⟩
end Go.Proofs.YthppkofceancjaaGreat
namespace Go.Proofs.YthppkofceancjaaGreat
open Go.ChangeShapes Go.WideShapes Go.ChangeAt Go.RowKit
structure Pw where
 x:Int
 z:Int
instance :Inhabited Pw:=⟨⟨0,0⟩⟩
instance :DecidableEq Pw:=fun a b=>decidable_of_iff (a.x=b.x/\a.z=b.z) ⟨fun h=>by cases a;cases b;simp at h;simp[h],fun h=>by rw[h];exact⟨rfl,rfl⟩⟩
def enc(k:Pw):Int:=1000*k.x+k.z
def PB(B:Nat)(k:Pw):Prop:=-(B:Int)<=k.x/\k.x<=B/\-(B:Int)<=k.z/\k.z<=B
theorem PB.mono{B C:Nat}{k:Pw}(h:PB B k)(hC:B<=C):PB C k:=by unfold PB at*;omega
theorem wh{B:Nat}(hB:B<=400){a b:Pw}(ha:PB B a)(hb:PB B b)(e:enc a=enc b):a=b:=by
 obtain⟨ax,az⟩:=a
 obtain⟨bx,bz⟩:=b
 unfold enc PB at*
 simp only at*
 have h1:ax=bx:=by omega
 have h2:az=bz:=by omega
 rw[h1,h2]
theorem adX{B:Nat}(hB:B<=400){a b:Pw}(ha:PB B a)(hb:PB B b):enc a<enc b<->(a.x<b.x\/a.x=b.x/\a.z<b.z):=by
 unfold enc PB at*
 omega
theorem adY{B:Nat}{a:Pw}(ha:PB B a):-((1001*B:Nat):Int)<=enc a/\enc a<=((1001*B:Nat):Int):=by unfold enc PB at*;omega
def eE(es:List (Pw×Int)):List (Int×Int):=es.map fun p=>(enc p.1,p.2)
def gI(es:List (Pw×Int))(B:Nat):Prop:=(es.map Prod.fst).Nodup/\∀q∈es,PB B q.1/\wr q.2=q.2
theorem gI.bN(B:Nat):gI [] B:=⟨by simp,by simp⟩
theorem gI.mono{es:List (Pw×Int)}{B C:Nat}(h:gI es B)(k:B<=C):gI es C:=⟨h.1,fun q hq=>⟨(h.2 q hq).1.mono k,(h.2 q hq).2⟩⟩
theorem J7{B:Nat}(hB:B<=400){k:Pw}(hk:PB B k):∀{es:List (Pw×Int)},(∀q∈es,PB B q.1)->mg (enc k) (eE es)=mg k es
 |[],_=>rfl
 |p::r,h=>by
  show(if enc k=enc p.1 then some p.2 else mg (enc k) (eE r))=if k=p.1 then some p.2 else mg k r
  have ih:=J7 hB hk (es:=r) fun q hq=>h q (List.mem_cons_of_mem _ hq)
  by_cases e:k=p.1
  ·rw[if_pos e,if_pos (by rw[e])]
  ·rw[if_neg e,if_neg (fun h2=>e (wh hB hk (h p (List.mem_cons_self ..)) h2)),ih]
theorem adJ{B:Nat}(hB:B<=400){k:Pw}(hk:PB B k)(v:Int):∀{es:List (Pw×Int)},(∀q∈es,PB B q.1)->eE (mp k v es)=mp (enc k) v (eE es)
 |[],_=>rfl
 |p::r,h=>by
  have ih:=adJ hB hk v (es:=r) fun q hq=>h q (List.mem_cons_of_mem _ hq)
  show eE (if k=p.1 then(k,v)::r else p::mp k v r)=if enc k=enc p.1 then(enc k,v)::eE r else(enc p.1,p.2)::mp (enc k) v (eE r)
  by_cases e:k=p.1
  ·rw[if_pos e,if_pos (by rw[e])];rfl
  ·rw[if_neg e,if_neg (fun h2=>e (wh hB hk (h p (List.mem_cons_self ..)) h2)),<-ih];rfl
theorem alF{k:Pw}{v:Int}{es:List (Pw×Int)}{q:Pw×Int}(h:q∈mp k v es):q=(k,v)\/q∈es:=by
 induction es with
 |nil=>simp[mp]at h;exact .inl h
 |cons p r ih=>
  rw[mp]at h
  split at h
  ·rcases List.mem_cons.1 h with h|h
   ·exact .inl h
   ·exact .inr (List.mem_cons_of_mem _ h)
  ·rcases List.mem_cons.1 h with h|h
   ·exact .inr (by rw[h];exact List.mem_cons_self ..)
   ·rcases ih h with h|h
    ·exact .inl h
    ·exact .inr (List.mem_cons_of_mem _ h)
theorem ake(k:Pw)(v:Int)(es:List (Pw×Int)):(mp k v es).map Prod.fst=if k∈es.map Prod.fst then es.map Prod.fst else es.map Prod.fst++[k]:=by
 induction es with
 |nil=>simp[mp]
 |cons p r ih=>
  rw[mp]
  by_cases e:k=p.1
  ·rw[if_pos e,if_pos (by simp[e])];simp[e]
  ·rw[if_neg e,List.map_cons,ih]
   by_cases h:k∈r.map Prod.fst
   ·rw[if_pos h,if_pos (by rw[List.map_cons];exact List.mem_cons_of_mem _ h)];rfl
   ·rw[if_neg h,if_neg (by rw[List.map_cons,List.mem_cons];exact fun h2=>h2.elim e h)];rfl
theorem gI.Hw{es:List (Pw×Int)}{B:Nat}(h:gI es B){k:Pw}{v:Int}(hk:PB B k)(hv:wr v=v):gI (mp k v es) B:=by
 refine⟨?_,fun q hq=>?_⟩
 ·rw[ake]
  split
  ·exact h.1
  ·rename_i hn
   rw[List.nodup_append]
   exact⟨h.1,by simp,fun a ha b hb=>by rw[List.mem_singleton]at hb;subst hb;exact fun e=>hn (e▸ha)⟩
 ·rcases alF hq with rfl|hq
  ·exact⟨hk,hv⟩
  ·exact h.2 q hq
def cE(es:List (Pw×Int)):aC:=mk (eE es)
theorem aou{es:List (Pw×Int)}{B:Nat}(hB:B<=400)(h:gI es B){k:Pw}(hk:PB B k)(c:Int):cE (mp k (wr ((mg k es).getD 0+c)) es)=cE es+Go.Proofs.YthppkofceancjaaGreat.mono (enc k) c:=by
 unfold cE
 have hz:=fun q hq=>(h.2 q hq).1
 rw[adJ hB hk _ hz,<-J7 hB hk hz]
 exact aaW _ _ _
theorem gI.uQ{es:List (Pw×Int)}{B:Nat}(hB:B<=400)(h:gI es B):jO (eE es) (1001*B):=by
 refine⟨?_,fun q hq=>?_⟩
 ·unfold eE
  rw[List.map_map]
  have:(Prod.fst∘fun p:Pw×Int=>(enc p.1,p.2))=enc∘Prod.fst:=rfl
  rw[this,<-List.map_map]
  have key:∀l:List Pw,l.Nodup->(∀x∈l,PB B x)->(l.map enc).Nodup:=by
   intro l
   induction l with
   |nil=>intro _ _;exact List.nodup_nil
   |cons x l ih=>
    intro hn hb
    rw[List.nodup_cons]at hn
    rw[List.map_cons,List.nodup_cons]
    refine⟨fun hm=>?_,ih hn.2 fun y hy=>hb y (List.mem_cons_of_mem _ hy)⟩
    obtain⟨y,hy,e⟩:=List.mem_map.1 hm
    have:=wh hB (hb y (List.mem_cons_of_mem _ hy)) (hb x (List.mem_cons_self ..)) e
    exact hn.1 (this▸hy)
  refine key _ h.1 fun x hx=>?_
  obtain⟨q,hq,rfl⟩:=List.mem_map.1 hx
  exact(h.2 q hq).1
 ·obtain⟨p,hp,rfl⟩:=List.mem_map.1 hq
  exact⟨adY (h.2 p hp).1,(h.2 p hp).2⟩
structure T2 where
 x:Int
 z:Int
 c:Int
instance :Inhabited T2:=⟨⟨0,0,0⟩⟩
def e2(t:T2):Tm:=⟨1000*t.x+t.z,t.c⟩
def put2:List T2->Int->Int->Int->List T2
 |[],x,z,c=>if c=0 then[]else[⟨x,z,c⟩]
 |t::l,x,z,c=>if c=0 then t::l else if t.x<x\/t.x=x/\t.z<z then t::put2 l x z c else if t.x=x/\t.z=z then(if wr (t.c+c)≠0 then⟨x,z,wr (t.c+c)⟩::l else l)else⟨x,z,c⟩::t::l
def B2(B:Nat)(l:List T2):Prop:=∀t∈l,PB B ⟨t.x,t.z⟩
theorem B2.mono{B C:Nat}{l:List T2}(h:B2 B l)(k:B<=C):B2 C l:=fun t ht=>(h t ht).mono k
theorem aj5{l:List T2}{x z c:Int}{u:T2}(hu:u∈put2 l x z c):(u.x=x/\u.z=z)\/u∈l:=by
 induction l with
 |nil=>
  rw[put2]at hu
  split at hu
  ·cases hu
  ·rw[List.mem_singleton]at hu;rw[hu];exact .inl ⟨rfl,rfl⟩
 |cons t l ih=>
  rw[put2]at hu
  split at hu
  ·exact .inr hu
  ·split at hu
   ·rcases List.mem_cons.1 hu with h|h
    ·exact .inr (by rw[h];exact List.mem_cons_self ..)
    ·exact(ih h).imp id (List.mem_cons_of_mem _)
   ·split at hu
    ·split at hu
     ·rcases List.mem_cons.1 hu with h|h
      ·rw[h];exact .inl ⟨rfl,rfl⟩
      ·exact .inr (List.mem_cons_of_mem _ h)
     ·exact .inr (List.mem_cons_of_mem _ hu)
    ·rcases List.mem_cons.1 hu with h|h
     ·rw[h];exact .inl ⟨rfl,rfl⟩
     ·exact .inr h
theorem Jw{B:Nat}{l:List T2}(h:B2 B l){x z c:Int}(hk:PB B ⟨x,z⟩):B2 B (put2 l x z c):=fun t ht=>by
 rcases aj5 ht with⟨e1,e2⟩|h2
 ·rw[e1,e2];exact hk
 ·exact h t h2
theorem I8{B:Nat}(hB:B<=400){x z c:Int}(hk:PB B ⟨x,z⟩):∀{l:List T2},B2 B l->(put2 l x z c).map e2=put (l.map e2) (1000*x+z) c
 |[],_=>by
  rw[put2,List.map_nil,put]
  split<;>rfl
 |t::l,h=>by
  have ht:=h t (List.mem_cons_self ..)
  have ih:=I8 hB hk (c:=c) (l:=l) fun u hu=>h u (List.mem_cons_of_mem _ hu)
  have e1:(e2 t).e=1000*t.x+t.z:=rfl
  have e3:(e2 t).c=t.c:=rfl
  have l1:(1000*t.x+t.z<1000*x+z)<->(t.x<x\/t.x=x/\t.z<z):=adX hB ht hk
  have l2:(1000*t.x+t.z=1000*x+z)<->(t.x=x/\t.z=z):=by
   constructor
   ·intro e
    have:=wh hB ht hk e
    injection this with a b
    exact⟨a,b⟩
   ·rintro⟨a,b⟩;rw[a,b]
  rw[put2,List.map_cons,put]
  by_cases hc:c=0
  ·rw[if_pos hc,if_pos hc];rfl
  ·rw[if_neg hc,if_neg hc]
   by_cases h1:t.x<x\/t.x=x/\t.z<z
   ·have h1':(e2 t).e<1000*x+z:=by rw[e1];exact l1.2 h1
    rw[if_pos h1,if_pos h1',List.map_cons,ih]
   ·have h1':¬(e2 t).e<1000*x+z:=by rw[e1];exact fun h=>h1 (l1.1 h)
    rw[if_neg h1,if_neg h1']
    by_cases h2:t.x=x/\t.z=z
    ·have h2':(e2 t).e=1000*x+z:=by rw[e1];exact l2.2 h2
     rw[if_pos h2,if_pos h2',e3]
     by_cases h3:wr (t.c+c)=0
     ·rw[if_neg (fun h=>h h3),if_pos h3]
     ·rw[if_pos h3,if_neg h3];rfl
    ·have h2':¬(e2 t).e=1000*x+z:=by rw[e1];exact fun h=>h2 (l2.1 h)
     rw[if_neg h2,if_neg h2'];rfl
def cT(l:List T2):aC:=mk (pr (l.map e2))
def kX(l:List T2):Prop:=Can (l.map e2)
theorem KL{B:Nat}(hB:B<=400){l:List T2}(h:B2 B l){x z c:Int}(hk:PB B ⟨x,z⟩):cT (put2 l x z c)=cT l+Go.Proofs.YthppkofceancjaaGreat.mono (1000*x+z) c:=by
 unfold cT;rw[I8 hB hk h,J6]
theorem ajC{x:Int}(h:-1000000<=x/\x<=1000000):wr x=x:=by unfold wr;rw[IntKind.wrap_i64];omega
theorem kX.put{B:Nat}(hB:B<=400){l:List T2}(hc:kX l)(h:B2 B l){x z c:Int}(hk:PB B ⟨x,z⟩)(hw:wr c=c):kX (put2 l x z c):=by
 unfold kX;rw[I8 hB hk h]
 exact Jv hc (ajC (by unfold PB at hk;simp only at hk;omega)) hw
theorem ad0{B:Nat}(hB:B<=400):∀{a b:List T2},B2 B a->B2 B b->a.map e2=b.map e2->a=b
 |[],[],_,_,_=>rfl
 |[],_::_,_,_,h=>by cases h
 |_::_,[],_,_,h=>by cases h
 |s::a,t::b,ha,hb,h=>by
  rw[List.map_cons,List.map_cons]at h
  injection h with h1 h2
  have ih:=ad0 hB (a:=a) (b:=b) (fun u hu=>ha u (List.mem_cons_of_mem _ hu)) (fun u hu=>hb u (List.mem_cons_of_mem _ hu)) h2
  have hs:=ha s (List.mem_cons_self ..)
  have ht:=hb t (List.mem_cons_self ..)
  have e1:1000*s.x+s.z=1000*t.x+t.z:=congrArg Tm.e h1
  have e3:s.c=t.c:=congrArg Tm.c h1
  have:=wh hB hs ht e1
  injection this with g1 g2
  obtain⟨sx,sz,sc⟩:=s
  obtain⟨tx,tz,tc⟩:=t
  simp only at g1 g2 e3
  rw[g1,g2,e3,ih]
where ao3 (out : List T2) : List T2 → List T2
  | [] => out
  | t :: l => ao3 (put2 (put2 out (t.x + 1) (t.z - 1) t.c) (t.x - 1) (t.z - 1) (wr (-t.c))) l
end Go.Proofs.YthppkofceancjaaGreat
namespace Go.Proofs.YthppkofceancjaaGreat
open Go.ChangeShapes Go.WideShapes Go.ChangeAt Go.RowKit
section
variable {κ ε : Type} [DecidableEq κ]
theorem Lx(k:κ)(v:ε):∀(es:List (κ×ε)) (i:Nat),fk k (mp k v es) i=some (((fk k es i).map (·.1)).getD (i+es.length),v)
 |[],i=>by simp[mp,fk]
 |p::r,i=>by
  unfold mp
  by_cases h:k=p.1
  ·rw[if_pos h];simp[fk,h]
  ·rw[if_neg h]
   simp only[fk,if_neg h,Lx k v r (i+1),List.length_cons]
   rw[show i+1+r.length=i+(r.length+1) by omega]
theorem aqa{k:κ}:∀{es:List (κ×ε)}{j:Nat}{v:ε},fk k es 0=some (j,v)->es[j]? =some (k,v):=by
 have key:∀(es:List (κ×ε)) (i j:Nat) (v:ε),fk k es i=some (j,v)->∃m,j=i+m/\es[m]? =some (k,v):=by
  intro es
  induction es with
  |nil=>intro i j v h;cases h
  |cons p r ih=>
   intro i j v h
   unfold fk at h
   split at h
   ·rename_i he
    injection h with h
    injection h with h1 h2
    exact⟨0,by omega,by subst he;subst h2;rfl⟩
   ·obtain⟨m,h1,h2⟩:=ih _ _ _ h
    exact⟨m+1,by omega,by simpa using h2⟩
 intro es j v h
 obtain⟨m,h1,h2⟩:=key es 0 j v h
 obtain rfl:j=m:=by omega
 exact h2
theorem sj(k:κ)(v v':ε):∀es:List (κ×ε),mp k v (mp k v' es)=mp k v es
 |[]=>by simp[mp]
 |p::r=>by
  by_cases h:k=p.1
  ·simp[mp,h]
  ·simp[mp,h,sj k v v' r]
theorem Ex(k:κ)(v v':ε)(es:List (κ×ε)):(mg k (mp k v es)).getD v'=v:=by rw[BP,if_pos rfl];rfl
theorem ab4{st:Nat}:∀{l:List MapEntry}{j:Nat},(l.map (·.born)).Nodup->(l[j]?).map (·.born)=some st->l.findIdx? (fun e=>((e.born:Nat):Int)==(st:Int))=some j
 |[],_,_,h=>by simp at h
 |e::l,0,_,h=>by
  have h1:e.born=st:=by simpa using h
  rw[List.findIdx?_cons,if_pos (by simp[h1])]
 |e::l,j+1,hn,h=>by
  obtain⟨h1,h2⟩:=List.nodup_cons.1 (by simpa using hn:(e.born::l.map (·.born)).Nodup)
  have h3:(l[j]?).map (·.born)=some st:=by simpa using h
  have hne:e.born≠st:=fun e1=>h1 (by
   cases hl:l[j]? with
   |none=>rw[hl]at h3;cases h3
   |some y=>
    rw[hl]at h3
    injection h3 with h3
    exact List.mem_map.2 ⟨y,List.mem_of_getElem? hl,(show y.born=e.born from by rw[e1];exact h3)⟩)
  rw[List.findIdx?_cons,if_neg (by simpa using fun e1=>hne (by omega)),ab4 h2 h3]
  rfl
theorem ajO{α:Type}{l:List α}{j:Nat}{a:α}(h:l[j]? =some a):l.set j a=l:=by
 apply List.ext_getElem?
 intro q
 rw[List.getElem?_set]
 split
 ·rename_i e
  subst e
  rw[h,if_pos (List.getElem?_eq_some_iff.1 h).1]
 ·rfl
def MpS(kc:κ->Value)(vc:ε->Value)(g:Nat)(es:List (κ×ε))(k:κ)(st:Nat)(h:Hp):Prop:=
 ∃arr clock,h g=some (.map arr clock)/\arr.toList.map (fun e=>(e.key,e.val))=es.map (fun p=>(kc p.1,vc p.2))/\x4 arr clock/\∃j v,fk k es 0=some (j,v)/\(arr[j]?).map (·.born)=some st
def Rs.qh(kc:κ->Value)(vc:ε->Value)(g:Nat)(es:List (κ×ε))(k:κ)(st:Nat):Rs:=
 ⟨[g],MpS kc vc g es k st,fun h h' hb hk=>by
  obtain⟨arr,clock,h1,h2⟩:=hk
  exact⟨arr,clock,by rw[hb g (by simp)];exact h1,h2⟩⟩
end
section
variable {P : Program} {o : Oper} {L : List (Nat × Value)} {w w' : World} {x y z : Operand} {t T K E : TypeId} {v u : Value} {n d g i : Nat} {Kt : List (Nat × Value) → World → Prop} {M M' : Hp} {X : Fr} {H H' : List Rs}
variable {κ ε : Type} [DecidableEq κ] {kc : κ → Value} {vc : ε → Value} {es : List (κ × ε)}
theorem SH.unS{k:κ}{st:Nat}(S:SH w M X H)(hi:nth H i=some (Rs.qh kc vc g es k st)):SH w M X (H.set i (Rs.mp kc vc g es)):=by
 obtain⟨arr,clock,h1,h2,h3,_⟩:=(S.get hi:MpS kc vc g es k st (hp w))
 exact S.step hi rfl ⟨rfl,rfl,rfl,Nat.le_refl _⟩ (fun b _ _=>rfl) ⟨arr,clock,h1,h2,h3⟩ (fun b hb=>⟨.inl hb,(S.bl _ (List.mem_of_getElem? (by rw[<-dc];exact hi)) b (show b∈(Rs.qh kc vc g es k st).bl from hb)).1⟩)
theorem aaf{k k':κ}{zv:ε}{st:Nat}(hop:o.op=.lookup T x y false)(hx:oev L x=some (.map (some g)))(hy:oev L y=some (kc k))(hu:P.underlying T=some (.map K E))(hK:kW P K kc)(hz:(P.info? E).map (·.zero)=some (some (vc zv)))(S:SH w M X H)(hi:nth H i=some (Rs.qh kc vc g es k' st)):Run P o L w (vc ((mg k es).getD zv)) w:=
 qD hop hx hy hu hK hz (S.unS hi) (by rw[dc]at hi ⊢;exact List.getElem?_set_self (List.getElem?_eq_some_iff.1 hi).1)
theorem Et{k:κ}{zv:ε}(hop:o.op=.mapEntry T x y)(hd:o.dst=some d)(hn:Nat.blt d n=true)(S:SH w M X H)(hi:nth H i=some (Rs.mp kc vc g es))(hx:oev L x=some (.map (some g)))(hy:oev L y=some (kc k))(hu:P.underlying T=some (.map K E))(hK:kW P K kc)(hz:(P.info? E).map (·.zero)=some (some (vc zv)))
  (h:∀(st:Nat) w',SH w' M X (H.set i (Rs.qh kc vc g (Go.Proofs.YthppkofceancjaaGreat.mp k ((mg k es).getD zv) es) k st))->Kt ((d,.tuple #[vc ((mg k es).getD zv),.int .i64 (st:Int)])::L) w'):WO P n o L w Kt:=by
 obtain⟨arr,clock,hg,ha,jv⟩:=(S.get hi:eF kc vc g es (hp w))
 have hf:=hK.find k _ arr.toList w (ED ha)
 rw[BB]at hf
 have hg':w.heap[g]? =some (.map arr clock):=hg
 have hgo:=MapKept.run_getObj_map (P:=P) hg'
 have hc:=fun b=>hK.check k w b
 have hlen:arr.toList.length=es.length:=by have:=congrArg List.length ha;simpa using this
 have key:∃jh clock' st,(Instr.mapEntry T (.map (some g)) (kc k)).run P w=.ok (.tuple #[vc ((mg k es).getD zv),.int .i64 ((st:Nat):Int)]) {w with heap:=w.heap.setIfInBounds g (.map jh clock')}/\jh.toList.map (fun e=>(e.key,e.val))=(Go.Proofs.YthppkofceancjaaGreat.mp k ((mg k es).getD zv) es).map (fun p=>(kc p.1,vc p.2))/\x4 jh clock'/\∃j v,fk k (Go.Proofs.YthppkofceancjaaGreat.mp k ((mg k es).getD zv) es) 0=some (j,v)/\(jh[j]?).map (·.born)=some st:=by
  cases gT:fk k es 0 with
  |none=>
   rw[gT]at hf
   have hm:=(AZ gT).1
   rw[hm,Option.getD_none]
   refine⟨arr.push {key:=kc k,val:=vc zv,born:=clock},clock+1,clock,?_,?_,?_,?_⟩
   ·simp only[Instr.mapEntry,Sem.run_bind,run_underlying hu,hgo,hc,hf,Result.andThen_ok,Option.map_none,Aw hz,MapKept.run_setObj_map _ hg',Sem.run_pure]
    rfl
   ·rw[(AZ gT).2 zv,Array.toList_push,List.map_append,List.map_append,ha];rfl
   ·refine⟨?_,fun x hx=>?_⟩
    ·rw[Array.toList_push,List.map_append]
     refine List.nodup_append.2 ⟨jv.1,by simp,fun a ha' b hb'=>?_⟩
     obtain⟨x,hx,rfl⟩:=List.mem_map.1 ha'
     simp at hb'
     have:=jv.2 x hx
     omega
    ·rw[Array.toList_push]at hx
     rcases List.mem_append.1 hx with h1|h1
     ·have:=jv.2 x h1;omega
     ·simp at h1;subst h1;exact Nat.lt_succ_self _
   ·refine⟨_,_,Lx k zv es 0,?_⟩
    rw[gT]
    show((arr.push _)[0+es.length]?).map _=_
    rw[Nat.zero_add,<-hlen,Array.length_toList,Array.getElem?_push_size]
    rfl
  |some q=>
   obtain⟨j,v⟩:=q
   rw[gT]at hf
   obtain⟨hm,m,hj,p,hp1,hp2,mK⟩:=AY gT
   obtain rfl:j=m:=by omega
   have hjl:j<es.length:=(List.getElem?_eq_some_iff.1 hp1).1
   have hja:j<arr.size:=by rw[<-Array.length_toList,hlen];exact hjl
   have xQ:(arr[j]?).map (fun e=>(e.key,e.val))=some (kc p.1,vc p.2):=by
    have h1:=congrArg (fun l=>l[j]?) ha
    simp only[List.getElem?_map,hp1,Option.map_some]at h1
    rw[Array.getElem?_toList]at h1
    exact h1
   rw[Array.getElem?_eq_getElem hja,Option.map_some,Option.some.injEq,Prod.mk.injEq]at xQ
   rw[hp2]at xQ
   have Vg:=aqa gT
   have hv:p.2=v:=by rw[hp1]at Vg;simp at Vg;rw[Vg]
   have apM:(arr.modify j fun e'=>{e' with key:=kc k})=arr:=by
    apply Array.ext'
    apply List.ext_getElem?
    intro q
    rw[Array.getElem?_toList,Array.getElem?_modify,Array.getElem?_toList]
    by_cases hq:j=q
    ·subst hq
     rw[if_pos rfl,Array.getElem?_eq_getElem hja,Option.map_some,<-xQ.1]
    ·rw[if_neg hq]
   rw[hm,Option.getD_some]
   refine⟨arr,clock,arr[j].born,?_,?_,jv,j,v,?_,by rw[Array.getElem?_eq_getElem hja];rfl⟩
   ·have hst:(Instr.keyThatStays (kc k) (kc k)).run P w=.ok (kc k) w:=by
     unfold Instr.keyThatStays
     rw[if_pos (hK.bits k)];rfl
    have hkey:(arr[j]?).map (·.key)=some (kc k):=by rw[Array.getElem?_eq_getElem hja,Option.map_some,xQ.1]
    simp only[Instr.mapEntry,Sem.run_bind,run_underlying hu,hgo,hc,hf,Result.andThen_ok,Option.map_some,hkey,Option.getD_some,hst,MapKept.run_setObj_map _ hg',apM,Sem.run_pure]
    rw[Array.getElem?_eq_getElem hja]
    rfl
   ·rw[mK v,ha]
    have h4:es.set j (k,v)=es:=by
     rw[<-hp2,<-hv]
     exact ajO hp1
    rw[h4]
   ·have h5:=Lx k v es 0
    rw[gT]at h5
    exact h5
 obtain⟨jh,clock',st,hrun,Bu,BS,aru⟩:=key
 have hlt:=fU hg
 refine U8 (v:=.tuple #[vc ((mg k es).getD zv),.int .i64 ((st:Nat):Int)]) (w':={w with heap:=w.heap.setIfInBounds g (.map jh clock')}) hd hn ?_ (h st _ ?_)
 ·intro n c he
  unfold execOp
  simp only[hop,he.eval hx,he.eval hy,hrun,Sem.run_bind,Result.andThen_ok,Sem.run_pure]
 ·refine S.step hi rfl (EF w g _) (fun b _ hb=>?_) ⟨jh,clock',?_,Bu,BS,aru⟩ (fun b hb=>⟨.inl hb,?_⟩)
  ·have hne:b≠g:=by simpa[Rs.mp]using hb
   show(w.heap.setIfInBounds g _)[b]? =w.heap[b]?
   rw[Array.getElem?_setIfInBounds_ne (Ne.symm hne)]
  ·show(w.heap.setIfInBounds g _)[g]? =_
   simp[hlt]
  ·simp[Rs.qh]at hb
   subst hb
   show _<(w.heap.setIfInBounds _ _).size
   simpa using hlt
theorem Ic{k:κ}{e:ε}{st:Nat}(hop:o.op=.entryStore T x y z)(hd:o.dst=none)(S:SH w M X H)(hi:nth H i=some (Rs.qh kc vc g es k st))(hx:oev L x=some (.map (some g)))(hy:oev L y=some (.int .i64 (st:Int)))(hz:oev L z=some (vc e))
  (hH:H.set i (Rs.mp kc vc g (Go.Proofs.YthppkofceancjaaGreat.mp k e es))=H')(h:∀w',SH w' M X H'->Kt L w'):WO P n o L w Kt:=by
 obtain⟨arr,clock,hg,ha,jv,j,v,gT,hb⟩:=(S.get hi:MpS kc vc g es k st (hp w))
 have hg':w.heap[g]? =some (.map arr clock):=hg
 have hgo:=MapKept.run_getObj_map (P:=P) hg'
 have hlen:arr.toList.length=es.length:=by have:=congrArg List.length ha;simpa using this
 obtain⟨hm,m,hj,p,hp1,hp2,mK⟩:=AY gT
 obtain rfl:j=m:=by omega
 have hjl:j<es.length:=(List.getElem?_eq_some_iff.1 hp1).1
 have hja:j<arr.size:=by rw[<-Array.length_toList,hlen];exact hjl
 have hkey:arr[j].key=kc k:=by
  have h1:=congrArg (fun l=>l[j]?) ha
  simp only[List.getElem?_map,hp1,Option.map_some]at h1
  rw[Array.getElem?_toList,Array.getElem?_eq_getElem hja]at h1
  simp only[Option.map_some,Option.some.injEq,Prod.mk.injEq]at h1
  rw[h1.1,hp2]
 rw[Array.getElem?_eq_getElem hja,Option.map_some,Option.some.injEq]at hb
 have arM:arr.findIdx? (fun e=>((e.born:Nat):Int)==(st:Int))=some j:=by
  obtain⟨la⟩:=arr
  rw[show(Array.mk la).findIdx? (fun e=>((e.born:Nat):Int)==(st:Int))=la.findIdx? (fun e=>((e.born:Nat):Int)==(st:Int))from by simp]
  exact ab4 jv.1 (by rw[Array.getElem?_toList,Array.getElem?_eq_getElem hja,Option.map_some,hb])
 have hrun:(Instr.entryStore T (.map (some g)) (.int .i64 (st:Int)) (vc e)).run P w=.ok () {w with heap:=w.heap.setIfInBounds g (.map (arr.modify j fun e'=>{e' with val:=vc e}) clock)}:=by
  simp[Instr.entryStore,hgo,asInt,asIntOf,arM,MapKept.run_setObj_map _ hg',Result.andThen]
 have hlt:=fU hg
 refine AJ hd (w':={w with heap:=w.heap.setIfInBounds g (.map (arr.modify j fun e'=>{e' with val:=vc e}) clock)}) ?_ (h _ ?_)
 ·intro n c he
  unfold execOp
  simp only[hop,he.eval hx,he.eval hy,he.eval hz,hrun,Sem.run_bind,Result.andThen_ok,Sem.run_pure]
 ·refine S.step hi hH (EF w g _) (fun b _ hb=>?_) ⟨arr.modify j fun e'=>{e' with val:=vc e},clock,?_,?_,?_⟩ (fun b hb=>⟨.inl hb,?_⟩)
  ·have hne:b≠g:=by simpa[Rs.qh]using hb
   show(w.heap.setIfInBounds g _)[b]? =w.heap[b]?
   rw[Array.getElem?_setIfInBounds_ne (Ne.symm hne)]
  ·show(w.heap.setIfInBounds g _)[g]? =_
   simp[hlt]
  ·rw[mK e]
   apply List.ext_getElem?
   intro q
   have h1:=congrArg (fun l=>l[q]?) ha
   simp only[List.getElem?_map]at h1 ⊢
   rw[Array.getElem?_toList,Array.getElem?_modify,List.getElem?_set]
   rw[Array.getElem?_toList]at h1
   by_cases hq:j=q
   ·subst hq
    rw[if_pos rfl,if_pos rfl,if_pos hjl,Array.getElem?_eq_getElem hja]
    simp only[Option.map_some,hkey]
   ·rw[if_neg hq,if_neg hq]
    exact h1
  ·have hbn:(arr.modify j fun e'=>{e' with val:=vc e}).toList.map (·.born)=arr.toList.map (·.born):=by
    apply List.ext_getElem?
    intro q
    simp only[List.getElem?_map]
    rw[Array.getElem?_toList,Array.getElem?_modify,Array.getElem?_toList]
    by_cases hq:j=q
    ·subst hq;rw[if_pos rfl,Array.getElem?_eq_getElem hja];rfl
    ·rw[if_neg hq]
   refine⟨by rw[hbn];exact jv.1,fun x hx=>?_⟩
   have h2:x.born∈arr.toList.map (·.born):=by rw[<-hbn];exact List.mem_map.2 ⟨x,hx,rfl⟩
   obtain⟨y,hy,e2⟩:=List.mem_map.1 h2
   rw[<-e2];exact jv.2 y hy
  ·simp[Rs.mp]at hb
   subst hb
   show _<(w.heap.setIfInBounds _ _).size
   simpa using hlt
end
section
variable {P : Program} {ops : Array Oper} {Q : Exit → Act → World → Prop} {md : Region.Mode} {X : Fr}
def AV(ops:Array Oper)(k:Nat):Bool:=match ops[k]? with
 |some o=>(match o.op with
  |.move _=>true
  |.assign _=>true
  |.pick _ _ _=>true
  |.binOp _ _ _ _ _=>true
  |.unOp _ _ _=>true
  |.field _ _ _=>true
  |.extract _ _=>true
  |.fieldAddr _ _ _=>true
  |.nilCheck _=>true
  |.alloc _=>true
  |.box _ _=>true
  |.store _ _ _=>true
  |.buildSlice _ _ _=>true
  |.makeSlice _ _ _=>true
  |.lookup _ _ _ _=>true
  |_=>false)
 |none=>false
def uo(md:Region.Mode)(ops:Array Oper)(l:Array Bool)(j:Nat):Bool:=(List.range ops.size).all fun k=>!l.getD k false||AV ops k||(zZ md ops ops.size j).contains k
theorem aiQ{l:Array Bool}(hd:Down md ops l){i j:Nat}(hj:j∈Region.ready md ops l)(hc:uo md ops (l.setIfInBounds i true) j=true)(hs:AV ops i=false)(hlt:i<ops.size)(hil:¬l.getD i false=true)(hsz:i<l.size):False:=by
 have:=List.all_eq_true.1 hc i (by simpa using hlt)
 have e:(l.setIfInBounds i true).getD i false=true:=by simp[Array.getD_eq_getD_getElem?,hsz]
 simp only[e,Bool.not_true,hs,Bool.false_or]at this
 exact hil (ab1 hd ops.size j (Iu hj) i (List.contains_iff_mem.1 this))
def jL(P:Program)(md:Region.Mode)(ops:Array Oper)(Q:Exit->Act->World->Prop)(X:Fr):Nat->Array Bool->Act->Hp->List Rs->Hp->List Rs->Prop
 |0,l,a,_,_,M,H=>∀w,SH w M X H->Region.ready md ops l=[]/\Q .normal a w
 |f+1,l,a,Mb,Hb,M,H=>∀w,SH w M X H->Down md ops l->(Region.ready md ops l=[]->Q .normal a w)/\
  ∀j∈Region.ready md ops l,wpOp P ops Q j (fun a2 w2=>∃M2 H2,SH w2 M2 X H2/\
   ((Grown Mb Hb M2 H2/\jL P md ops Q X f (l.setIfInBounds j true) a2 Mb Hb M2 H2)\/(uo md ops l j=true/\jL P md ops Q X f (l.setIfInBounds j true) a2 M2 H2 M2 H2))) a w
theorem jL.any:∀(f:Nat) (l:Array Bool) (a:Act) (Mb:Hp) (Hb:List Rs) (M:Hp) (H:List Rs) (w:World),SH w M X H->Down md ops l->jL P md ops Q X f l a Mb Hb M H->wpAny P md ops Q f l a w:=by
 intro f
 induction f with
 |zero=>intro l a Mb Hb M H w S _ h;exact h w S
 |succ f ih=>
  intro l a Mb Hb M H w S hd h
  obtain⟨h0,h1⟩:=h w S hd
  refine⟨h0,fun j hj=>wpOp_mono (fun a2 w2 hc=>?_) (h1 j hj)⟩
  obtain⟨M2,H2,S2,⟨_,hc⟩|⟨_,hc⟩⟩:=hc
  ·exact ih _ _ _ _ _ _ _ S2 (yg hd hj) hc
  ·exact ih _ _ _ _ _ _ _ S2 (yg hd hj) hc
def Bf(P:Program)(ops:Array Oper)(X:Fr)(i:Nat)(o:Oper)(v:Value)(a:Act)(M:Hp)(H:List Rs):Prop:=
 kG P ops X o v a M H/\(AV ops i=true->∀M H,kG P ops X o v a M H)
theorem jL.yJ {i : Nat} {oi : Oper} {v : Value} (hi : ops[i]? = some oi) (hsel : ∀ (j : Nat) (o : Oper) cs b, ops[j]? = some o → o.op ≠ .select cs b) (hQ : ∀ c a w, Q (.panic c) (a.put oi.dst v) w → Q (.panic c) a w) :
    ∀ (f : Nat) (l : Array Bool) (a : Act) (Mb : Hp) (Hb : List Rs) (M : Hp) (H : List Rs),
      (∀ j oj, ops[j]? = some oj → j ≠ i → l.getD j true = false → (∀ e ∈ oj.after, Region.binds md e = true → e.on ≠ i) → oi.apart ops oj = true) →
      i ∈ Region.ready md ops l → Grown Mb Hb M H → Bf P ops X i oi v a Mb Hb → jL P md ops Q X f (l.setIfInBounds i true) (a.put oi.dst v) Mb Hb M H → jL P md ops Q X (f + 1) l a Mb Hb M H := by
  intro f
  induction f with
  | zero =>
    intro l a Mb Hb M H _ hr hg hy hH w S hd
    refine ⟨fun h => (by rw [h] at hr; cases hr), fun j hj => ?_⟩
    by_cases hji : j = i
    · subst hji
      exact hy.1.wpOp S hg hi fun w2 S2 => ⟨M, H, S2, .inl ⟨hg, hH⟩⟩
    · have := ready_mono hj hji
      rw [(hH w S).1] at this
      cases this
  | succ f ih =>
    intro l a Mb Hb M H hfree hr hg hy hH w S hd
    refine ⟨fun h => (by rw [h] at hr; cases hr), fun j hj => ?_⟩
    by_cases hji : j = i
    · subst hji
      exact hy.1.wpOp S hg hi fun w2 S2 => ⟨M, H, S2, .inl ⟨hg, hH⟩⟩
    · have h1 := (hH w S (yg hd hr)).2 j (ready_mono hj hji)
      obtain ⟨Cn, oj, xP, hall⟩ := mem_ready.1 hj
      have xm := (mem_ready.1 hr).1
      have LZ : i < ops.size := (Array.getElem?_eq_some_iff.1 hi).1
      have Cs : i < l.size := by
        rcases Nat.lt_or_ge i l.size with h' | h'
        · exact h'
        · simp [Array.getD_eq_getD_getElem?, Array.getElem?_eq_none h'] at xm
      have hnl : ¬ l.getD i false = true := by
        intro h
        simp [Cs] at h xm; rw [xm] at h; cases h
      have mL : ∀ e ∈ oj.after, Region.binds md e = true → e.on ≠ i := fun e he hb heq => hnl (by have h2 := hall e he hb; rw [heq] at h2; exact h2)
      have hap := hfree j oj xP hji Cn mL
      obtain ⟨p1, p2, p3⟩ := Oper.apart_spec hap
      have Bv : ∀ k ok, ops[k]? = some ok → k ≠ i → (l.setIfInBounds j true).getD k true = false → (∀ e ∈ ok.after, Region.binds md e = true → e.on ≠ i) → oi.apart ops ok = true := fun k ok hk hki hun hno => by
        refine hfree k ok hk hki ?_ hno
        by_cases hjk : j = k
        · subst hjk; exact Cn
        · rw [getD_set_ne true hjk] at hun; exact hun
      have BR : ∀ (b : Act) (M : Hp) (H : List Rs), kG P ops X oi v b M H → ∀ u, kG P ops X oi v (b.put oj.dst u) M H := fun b M H hb u => hb.of_same (execOp_put oi (fun cs b => hsel i oi cs b hi) b oj.dst u p3) (wanted_put oi b oj.dst u p3)
      have keep : ∀ (b : Act), Bf P ops X i oi v b Mb Hb → ∀ u, Bf P ops X i oi v (b.put oj.dst u) Mb Hb := fun b hb u => ⟨BR b Mb Hb hb.1 u, fun hp M' H' => BR b M' H' (hb.2 hp M' H') u⟩
      have cont : ∀ (b : Act) (w2 : World), Bf P ops X i oi v b Mb Hb → (∃ M2 H2, SH w2 M2 X H2 ∧ ((Grown Mb Hb M2 H2 ∧ jL P md ops Q X f ((l.setIfInBounds i true).setIfInBounds j true) (b.put oi.dst v) Mb Hb M2 H2) ∨ (uo md ops (l.setIfInBounds i true) j = true ∧ jL P md ops Q X f ((l.setIfInBounds i true).setIfInBounds j true) (b.put oi.dst v) M2 H2 M2 H2))) →
          (∃ M2 H2, SH w2 M2 X H2 ∧ ((Grown Mb Hb M2 H2 ∧ jL P md ops Q X (f + 1) (l.setIfInBounds j true) b Mb Hb M2 H2) ∨ (uo md ops l j = true ∧ jL P md ops Q X (f + 1) (l.setIfInBounds j true) b M2 H2 M2 H2))) := by
        intro b w2 hb hc
        obtain ⟨M2, H2, S2, ⟨hg2, hc⟩ | ⟨hx, hc⟩⟩ := hc
        · rw [Array.setIfInBounds_comm _ _ (Ne.symm hji)] at hc
          exact ⟨M2, H2, S2, .inl ⟨hg2, ih (l.setIfInBounds j true) b Mb Hb M2 H2 Bv (ready_mono hr (Ne.symm hji)) hg2 hb hc⟩⟩
        · cases hp : AV ops i with
          | false => exact (aiQ hd hj hx hp LZ hnl Cs).elim
          | true =>
            rw [Array.setIfInBounds_comm _ _ (Ne.symm hji)] at hc
            refine ⟨M2, H2, S2, .inr ⟨?_, ih (l.setIfInBounds j true) b M2 H2 M2 H2 Bv (ready_mono hr (Ne.symm hji)) (Grown.refl _ _) ⟨hb.2 hp M2 H2, hb.2⟩ hc⟩⟩
            refine List.all_eq_true.2 fun k hk => ?_
            have := List.all_eq_true.1 hx k hk
            by_cases hki : i = k
            · subst hki; simp [hp]
            · rw [getD_set_ne false hki] at this
              exact this
      unfold Go.wpOp at h1 ⊢
      simp only [xP] at h1 ⊢
      rw [wanted_put oj a oi.dst v p1] at h1
      have nQ := execOp_put oj (fun cs b => hsel j oj cs b xP) a oi.dst v p1
      split
      · rename_i hw
        simp only [hw, if_true] at h1
        rcases h1 with h1 | ⟨hasks, Lc⟩
        · refine .inl (abu nQ (fun u w2 hk => ?_) (fun d w2 hk => ?_) (fun c w2 hq => hQ c _ _ hq) h1)
          · refine cont _ w2 (keep a hy u) ?_
            rw [← Act.put_comm a v u p2]
            exact hk
          · have hd0 : Bf P ops X i oi v ({ a with defers := d :: a.defers } : Act) Mb Hb := ⟨hy.1.of_same rfl rfl, fun hp M' H' => (hy.2 hp M' H').of_same rfl rfl⟩
            refine cont _ w2 (keep { a with defers := d :: a.defers } hd0 _) ?_
            rw [← Act.put_comm _ v undef p2, ← Act.put_defers]
            exact hk
        · exact .inr ⟨aaC nQ hasks, Lc⟩
      · rename_i hw
        simp only [hw] at h1
        refine cont _ w (keep a hy _) ?_
        rw [← Act.put_comm a v undef p2]
        exact h1
end
section
variable {P : Program} {n : Nat} {C : Ctx} {c : Code} {s : List K} {L : List (Nat × Value)} {w : World} {Mb M : Hp} {X : Fr} {Hb H : List Rs} {l : Array Bool} {f : Nat}
def WAY(P:Program)(n:Nat)(C:Ctx)(c:Code)(s:List K)(X:Fr)(f:Nat)(l:Array Bool)(L:List (Nat×Value))(Mb:Hp)(Hb:List Rs)(M:Hp)(H:List Rs):Prop:=Grown Mb Hb M H->∀a,Env n L a->jL P .any (rg c) (post P C s) X f l a Mb Hb M H
theorem abt(hk:kind c=8)(hm:P.follows .mixedOrders=true)(S:SH w M X H)(f:Nat)(hf:(rg c).size=f)(h:WAY P n C c s X f (Array.replicate f false) L M H M H):WS P n C c s L w:=by
 intro a ha
 rw[IU hk]
 refine wp_region_any hm ?_
 rw[hf]
 exact jL.any _ _ _ _ _ _ _ _ (S.kp ⟨rfl,rfl,rfl,Nat.le_refl _⟩ fun _ _=>rfl) (II _) (h (Grown.refl _ _) a ha)
theorem EU(hr:Region.ready .any (rg c) l=[])(h:∀w,SH w M X H->NM P n C s L w):WAY P n C c s X f l L Mb Hb M H:=by
 intro _ a ha
 cases f with
 |zero=>exact fun w S=>⟨hr,h w S a ha⟩
 |succ f=>exact fun w S _=>⟨fun _=>h w S a ha,by rw[hr];simp⟩
theorem Ar{i d:Nat}{o:Oper}{v:Value}(f:Nat)(ho:op c i=some o)(hs:(Region.noSelect (rg c)&&!AV (rg c) i)=true)(hf:Region.free .any (rg c) l i=true)(hr:(Region.ready .any (rg c) l).contains i=true)
  (hg:Wanted c L o.guard true)(hd:o.dst=some d)(hn:(Nat.blt d n&&iQ c o n)=true)
  (hy:∀M2 N w,Mb.le M2->SH w M2 X (N++Hb)->(Run P o L w v w\/∃ig vs,(∀n a,Env n L a->(execOp a.eval o).run P w=.ok (.enter ig vs) w)/\Calls P ig vs w fun e w3=>e=.returned v/\SH w3 M2 X (N++Hb)))
  (h:WAY P n C c s X f (l.setIfInBounds i true) ((d,v)::L) Mb Hb M H):WAY P n C c s X (f+1) l L Mb Hb M H:=by
 intro hg0 a ha
 simp only[Bool.and_eq_true]at hn
 simp only[Bool.and_eq_true,Bool.not_eq_true']at hs
 refine jL.yJ (v:=v) (oq ho) (Region.noSelect_spec hs.1) (fun ch b w hq=>tS (D9 _ _ _) hq) f l a Mb Hb M H (Region.free_spec (oq ho) hf) (by simpa using hr) hg0 ⟨?_,fun hp=>by rw[hs.2]at hp;cases hp⟩ ?_
 ·refine .inl ⟨tQ ha hg (tR hn.2),fun M2 N w k S=>?_⟩
  rcases hy M2 N w k S with hrun|⟨ig,vs,h1,h2⟩
  ·rw[hrun n a ha]
   exact⟨rfl,S⟩
  ·rw[h1 n a ha]
   exact h2
 ·rw[hd]
  exact h hg0 _ (ha.put (by simpa using hn.1) v)
theorem kN{i d:Nat}{o:Oper}{v:Value}(f:Nat)(ho:op c i=some o)(hs:Region.noSelect (rg c)=true)(hf:Region.free .any (rg c) l i=true)(hr:(Region.ready .any (rg c) l).contains i=true)
  (hg:Wanted c L o.guard true)(hd:o.dst=some d)(hn:(Nat.blt d n&&iQ c o n)=true)(hy:∀w,Run P o L w v w)
  (h:WAY P n C c s X f (l.setIfInBounds i true) ((d,v)::L) Mb Hb M H):WAY P n C c s X (f+1) l L Mb Hb M H:=by
 intro hg0 a ha
 simp only[Bool.and_eq_true]at hn
 have key:∀M H,kG P (rg c) X o v a M H:=fun M H=>.inl ⟨tQ ha hg (tR hn.2),fun M2 N w k S=>by
  rw[hy w n a ha]
  exact⟨rfl,S⟩⟩
 refine jL.yJ (v:=v) (oq ho) (Region.noSelect_spec hs) (fun ch b w hq=>tS (D9 _ _ _) hq) f l a Mb Hb M H (Region.free_spec (oq ho) hf) (by simpa using hr) hg0 ⟨key Mb Hb,fun _=>key⟩ ?_
 rw[hd]
 exact h hg0 _ (ha.put (by simpa using hn.1) v)
def iX(P:Program)(n:Nat)(C:Ctx)(c:Code)(s:List K)(X:Fr)(f:Nat)(l:Array Bool)(j:Nat)(Mb:Hp)(Hb:List Rs)(L':List (Nat×Value))(w':World):Prop:=
 ∃M2 H2,SH w' M2 X H2/\((Grown Mb Hb M2 H2/\WAY P n C c s X f (l.setIfInBounds j true) L' Mb Hb M2 H2)\/(uo .any (rg c) l j=true/\WAY P n C c s X f (l.setIfInBounds j true) L' M2 H2 M2 H2))
theorem iX.grow{j:Nat}{L':List (Nat×Value)}{w':World}{M2:Hp}(N:List Rs)(k:Mb.le M2)(S:SH w' M2 X (N++Hb))(h:WAY P n C c s X f (l.setIfInBounds j true) L' Mb Hb M2 (N++Hb)):iX P n C c s X f l j Mb Hb L' w':=⟨M2,N++Hb,S,.inl ⟨⟨k,N,rfl⟩,h⟩⟩
theorem iX.turn{j:Nat}{L':List (Nat×Value)}{w':World}{M2:Hp}{H2:List Rs}(hc:uo .any (rg c) l j=true)(S:SH w' M2 X H2)(h:WAY P n C c s X f (l.setIfInBounds j true) L' M2 H2 M2 H2):iX P n C c s X f l j Mb Hb L' w':=⟨M2,H2,S,.inr ⟨hc,h⟩⟩
theorem iX.out {j : Nat} {L' : List (Nat × Value)} {w' : World} {a' : Act} (he : Env n L' a') (h : iX P n C c s X f l j Mb Hb L' w') : ∃ M2 H2, SH w' M2 X H2 ∧
      ((Grown Mb Hb M2 H2 ∧ jL P .any (rg c) (post P C s) X f (l.setIfInBounds j true) a' Mb Hb M2 H2) ∨ (uo .any (rg c) l j = true ∧ jL P .any (rg c) (post P C s) X f (l.setIfInBounds j true) a' M2 H2 M2 H2)) := by
  obtain ⟨M2, H2, S, ⟨hg, h⟩ | ⟨hc, h⟩⟩ := h
  · exact ⟨M2, H2, S, .inl ⟨hg, h hg a' he⟩⟩
  · exact ⟨M2, H2, S, .inr ⟨hc, h (Grown.refl _ _) a' he⟩⟩
theorem IY {i : Nat} {o : Oper} {a : Act} (ho : op c i = some o) (ha : Env n L a) (hg : Wanted c L o.guard true) (hs : iQ c o n = true) (h : WO P n o L w (iX P n C c s X f l i Mb Hb)) : Go.wpOp P (rg c) (post P C s) i (fun a2 w2 => ∃ M2 H2, SH w2 M2 X H2 ∧
      ((Grown Mb Hb M2 H2 ∧ jL P .any (rg c) (post P C s) X f (l.setIfInBounds i true) a2 Mb Hb M2 H2) ∨ (uo .any (rg c) l i = true ∧ jL P .any (rg c) (post P C s) X f (l.setIfInBounds i true) a2 M2 H2 M2 H2))) a w := by
  unfold Go.wpOp
  simp only [oq ho]
  rw [if_pos (tQ ha hg (tR hs))]
  exact .inl (h a ha _ _ fun L' a' w' he hl => hl.out he)
theorem vI{i:Nat}{o:Oper}(f:Nat)(ho:op c i=some o)(hr:Region.ready .any (rg c) l=[i])(hg:Wanted c L o.guard true)(hs:iQ c o n=true)
  (h:∀w,SH w M X H->WO P n o L w (iX P n C c s X f l i Mb Hb)):WAY P n C c s X (f+1) l L Mb Hb M H:=by
 intro _ a ha w S hd
 refine⟨fun h0=>(by rw[hr]at h0;cases h0),fun k hk=>?_⟩
 rw[hr,List.mem_singleton]at hk
 subst hk
 exact IY ho ha hg hs (h w S)
theorem ach{i j:Nat}{o o':Oper}(f:Nat)(ho:op c i=some o)(ho':op c j=some o')(hr:Region.ready .any (rg c) l=[i,j])(hg:Wanted c L o.guard true)(hs:iQ c o n=true)(hg':Wanted c L o'.guard true)(hs':iQ c o' n=true)
  (h:∀w,SH w M X H->WO P n o L w (iX P n C c s X f l i Mb Hb))(h':∀w,SH w M X H->WO P n o' L w (iX P n C c s X f l j Mb Hb)):WAY P n C c s X (f+1) l L Mb Hb M H:=by
 intro _ a ha w S hd
 refine⟨fun h0=>(by rw[hr]at h0;cases h0),fun k hk=>?_⟩
 rw[hr]at hk
 rcases List.mem_cons.1 hk with rfl|hk
 ·exact IY ho ha hg hs (h w S)
 ·rw[List.mem_singleton]at hk
  subst hk
  exact IY ho' ha hg' hs' (h' w S)
end
section
variable {P : Program} {n : Nat} {C : Ctx} {c : Code} {s : List K} {L : List (Nat × Value)} {w : World} {M : Hp} {X : Fr} {H : List Rs}
end
end Go.Proofs.YthppkofceancjaaGreat
namespace Go.Proofs.YthppkofceancjaaGreat
open Go.ChangeShapes Go.WideShapes Go.ChangeAt Go.RowKit
def t2F(x:T2):List Value:=[.int .i64 x.x,.int .i64 x.z,.int .i64 x.c]
def bH:Cd T2:=⟨t2F,3,24,97,⟨0,0,0⟩,fun _=>rfl,by
 intro x u hu
 simp[t2F]at hu
 rcases hu with rfl|rfl|rfl<;>rfl⟩
theorem gI.at_{es dn lf l1 l2:List (Pw×Int)}{k:Pw}{v:Int}{B:Nat}(h:gI es B)(hp:(dn++lf).Perm es)(hl:lf=l1++(k,v)::l2):PB B k/\wr v=v:=h.2 (k,v) (hp.mem_iff.1 (by rw[hl];simp))
end Go.Proofs.YthppkofceancjaaGreat
namespace Go.Proofs.YthppkofceancjaaGreat
open Go.ChangeShapes Go.WideShapes Go.ChangeAt Go.RowKit
def BG(es:List (Int×Bool))(sn:List Nat):Prop:=∀n:Nat,(mg (n:Int) es).getD false=decide (n∈sn)
theorem BG.bN:BG [] []:=fun n=>by simp[mg]
theorem BG.put{es:List (Int×Bool)}{sn:List Nat}(h:BG es sn)(k:Nat):BG (mp (k:Int) true es) (k::sn):=fun n=>by
 rw[BP]
 by_cases e:n=k
 ·rw[if_pos (by rw[e]),e];simp
 ·rw[if_neg (by omega),h n];simp[e]
end Go.Proofs.YthppkofceancjaaGreat
