/- Part 11 of the proof of the law KhovanovTells: the walks through its functions and the plain laws that they need. -/
import Derived.Test.YthppkofceancjaaGreatKhX10
set_option linter.unusedSimpArgs false
set_option linter.unusedVariables false
noncomputable section
namespace Go.Proofs.YthppkofceancjaaGreat
open Go.ChangeShapes Go.WideShapes Go.ChangeAt Go.RowKit
theorem ai7(l:List T2)(x z:Int):put2 l x z 0=l:=by cases l<;>simp[put2]
theorem AU{l:List T2}{x z c:Int}{k:Nat}(hk:k<=l.length)(hlt:∀j,j<k->((ga l j).x<x\/(ga l j).x=x/\(ga l j).z<z))(hc:c≠0)(hend:k=l.length\/(k<l.length/\¬((ga l k).x<x\/(ga l k).x=x/\(ga l k).z<z))):
  put2 l x z c=l.take k++(if k<l.length/\(ga l k).x=x/\(ga l k).z=z then(if wr ((ga l k).c+c)=0 then[]else[⟨x,z,wr ((ga l k).c+c)⟩])++l.drop (k+1)else⟨x,z,c⟩::l.drop k):=by
 induction l generalizing k with
 |nil=>
  obtain rfl:k=0:=by simp at hk;exact hk
  simp[put2,hc]
 |cons t l ih=>
  unfold put2
  rw[if_neg hc]
  cases k with
  |zero=>
   have Lg:¬(t.x<x\/t.x=x/\t.z<z):=by
    rcases hend with h|h
    ·simp at h
    ·exact h.2
   rw[if_neg Lg]
   by_cases he:t.x=x/\t.z=z
   ·have h2:0<(t::l).length/\(ga (t::l) 0).x=x/\(ga (t::l) 0).z=z:=⟨by simp,he⟩
    rw[if_pos he,if_pos h2]
    show(if wr (t.c+c)≠0 then⟨x,z,wr (t.c+c)⟩::l else l)=[]++((if wr (t.c+c)=0 then[]else[⟨x,z,wr (t.c+c)⟩])++l)
    by_cases h3:wr (t.c+c)=0
    ·rw[if_neg (fun h=>h h3),if_pos h3];rfl
    ·rw[if_pos h3,if_neg h3];rfl
   ·have h2:¬(0<(t::l).length/\(ga (t::l) 0).x=x/\(ga (t::l) 0).z=z):=fun h=>he h.2
    rw[if_neg he,if_neg h2];rfl
  |succ k=>
   have h0:t.x<x\/t.x=x/\t.z<z:=hlt 0 (by omega)
   rw[if_pos h0]
   have hl:(t::l).length=l.length+1:=rfl
   have ge:∀j,ga (t::l) (j+1)=ga l j:=fun j=>rfl
   rw[ih (k:=k) (by omega) (fun j hj=>hlt (j+1) (by omega)) (by
    rcases hend with h|h
    ·exact .inl (by omega)
    ·exact .inr ⟨by omega,h.2⟩)]
   rw[ge k,hl]
   have:(k<l.length/\(ga l k).x=x/\(ga l k).z=z)<->(k+1<l.length+1/\(ga l k).x=x/\(ga l k).z=z):=⟨fun h=>⟨by omega,h.2⟩,fun h=>⟨by omega,h.2⟩⟩
   by_cases h9:k<l.length/\(ga l k).x=x/\(ga l k).z=z
   ·rw[if_pos h9,if_pos (this.1 h9)];rfl
   ·rw[if_neg h9,if_neg (fun h=>h9 (this.2 h))];rfl
theorem vF(l:List T2)(x z c:Int):(put2 l x z c).length<=l.length+1:=by
 induction l with
 |nil=>
  rw[put2]
  split
  ·exact Nat.zero_le _
  ·exact Nat.le_refl _
 |cons t l ih=>
  rw[put2]
  simp only[List.length_cons]
  split
  ·simp only[List.length_cons];omega
  ·split
   ·simp only[List.length_cons];omega
   ·split
    ·split
     ·simp only[List.length_cons];omega
     ·omega
    ·simp only[List.length_cons];omega
def LsT(a:List T2)(u:Value)(N:Hp):Prop:=∃A c,u=.slice A a.length c/\aB bH N A c a
theorem eP:fN Tryz.prog 42 bH:=⟨.agg [.int .i64 0,.int .i64 0,.int .i64 0].toArray,pY,by kernel_rfl,rfl,by decide,by decide⟩
noncomputable def Wy:=Tryz.f52.body.getD .skip
def Zxr:=cL Wy
def Wx:=cR Wy
def Ww:=cL Wx
def Wv:=cR Wx
def Zxv:=cL Ww
def Wu:=cR Ww
def Wt:=cL Wu
def Zxy:=cR Wu
def Zxz:=cL Wt
def Zy0:=cR Wt
def Zy1:=cL Wv
def Ws:=cR Wv
def Zy3:=cL Ws
def Wq:=cR Ws
def Zy5:=cL Zy3
def Wp:=cL Zy5
def Wo:=cL Wp
def Zy8:=cR Wp
def Zy9:=cL Wo
def Wn:=cR Wo
def Zyb:=cL Wn
def Wm:=cR Wn
def Zyd:=cL Zy8
def Zye:=cL Wq
def Wl:=cR Wq
def Zyg:=cL Wl
def Wj:=cR Wl
def Wi:=cL Wj
def Wh:=cR Wj
def Zyk:=cL Wi
def Wf:=cR Wi
def Wd:=cL Wf
def Wc:=cR Wf
def Wb:=cL Wd
def Zyp:=cR Wd
def Zyq:=cL Wb
def Wa:=cR Wb
def Zys:=cL Wa
def Zyt:=cR Wa
def Zyu:=cL Wh
def Zyv:=cR Wh
set_option maxHeartbeats 1000000 in
set_option maxRecDepth 10000 in
theorem KO{w:World}{M:Hp}{X:Fr}(l:List T2){lA:Option Addr}{lc:Nat}(x:Int)(z:Int)(c:Int)(hl:aB bH M lA lc l)(hro:l.length+1<=4398046511104)(S:SH w M X []):Ct Tryz.prog 52 [.slice lA l.length lc,.int .i64 x,.int .i64 z,.int .i64 c] w M X (LsT (put2 l x z c)):=by
 unfold Ct
 have ard:l.length*24<=140737488355328:=hl.room
 refine Up (b:=Wy) Tryz.func52 rfl Tryz.ntmps52 rfl (fun C hC=>(bu [(0,_),(1,_),(2,_),(3,_)] ⟨rfl,rfl,rfl,rfl,trivial⟩ (U1 Zxr Wx rfl rfl rfl (U0 rfl (af 0 1 rfl rfl (U3 rfl (ah [0,1,2,3] rfl (U2 (U1 Ww Wv rfl rfl rfl ?_)))))))))
 refine U1 Zxv Wu rfl rfl rfl (U0 rfl (af 0 1 rfl rfl (ag 1 rfl (Uz rfl rfl rfl) (U3 rfl (ah [0,1,2,3,12] rfl (U2 ?_))))))
 refine Ua Wt Zxy rfl rfl rfl rfl (fun nG=>?_) (fun nG=>?_)
 ·refine U1 Zxz Zy0 rfl rfl rfl (U0 rfl (af 0 2 rfl rfl (U3 rfl (ah [8] rfl (U2 (Us hC [_] rfl rfl ⟨rfl,trivial⟩ ?_))))))
  refine⟨_,rfl,_,Hp.le_refl _,(S.pick [] [] (by decide) trivial),?_⟩
  have e9:put2 l x z c=l:=by rw[nG];exact ai7 l x z
  rw[e9]
  exact⟨_,_,rfl,hl⟩
 ·refine Ub rfl (ah [0,1,2,3] rfl (U2 (U1 Zy1 Ws rfl rfl rfl (U0 rfl (af 0 1 rfl rfl (U3 rfl (U2 (U1 Zy3 Wq rfl rfl rfl ?_))))))))
  refine uh (fun ak aA=>∃(k:Nat) (M1:Hp),M.le M1/\Env 109 [(0,.slice lA l.length lc),(1,.int .i64 x),(2,.int .i64 z),(3,.int .i64 c),(9,.int .i64 (k:Int))] ak/\SH aA M1 X []/\k<=l.length/\(∀j,j<k->((ga l j).x<x\/(ga l j).x=x/\(ga l j).z<z))/\(k=l.length\/(k<l.length/\¬((ga l k).x<x\/(ga l k).x=x/\(ga l k).z<z)))) ?_ ?_
  ·refine U7 Zy5 0 rfl rfl rfl ?_
   refine Ui (fun aF ak aA=>∃(k:Nat) (M2:Hp),M.le M2/\aF=l.length-k/\Env 109 [(0,.slice lA l.length lc),(1,.int .i64 x),(2,.int .i64 z),(3,.int .i64 c),(9,.int .i64 (k:Int))] ak/\SH aA M2 X []/\k<=l.length/\(∀j,j<k->((ga l j).x<x\/(ga l j).x=x/\(ga l j).z<z))) rfl ?_ ?_
   ·intro ak ai
    refine⟨_,⟨0,_,Hp.le_refl _,rfl,ai.sub ⟨rfl,rfl,rfl,rfl,rfl,trivial⟩,S.pick [] [] (by decide) trivial,?bn,?bE⟩⟩
    case bn=>omega
    case bE=>(intro j hj;omega)
   ·rintro m1 a1 w2 ⟨k,M2,hle2,rfl,bS,S2,hk,hlt⟩
    clear S
    refine aW bS (c:=Wp) rfl ?_
    clear bS a1
    replace hl:=hl.mono hle2
    refine U1 Wo Zy8 rfl rfl rfl (U1 Zy9 Wn rfl rfl rfl (U0 rfl (af 0 2 rfl rfl (ag 2 rfl (Uv rfl rfl rfl rfl rfl rfl pY) (ag 3 rfl (Un rfl rfl rfl) (af 4 1 rfl rfl ?_))))))
    refine Uy (t:=18) rfl (fun arU=>?_) (fun arU=>?_)
    ·refine af 5 2 rfl rfl (aP 7 8 rfl rfl rfl rfl rfl rfl rfl rfl (U8 rfl rfl (U9 (C:=bH) k rfl rfl rfl eP (by first|rfl|omega) hl (by first|omega|(simp only[ls];omega))) ?_))
     refine aP 8 9 rfl rfl rfl rfl rfl rfl rfl rfl (U8 rfl rfl (U4 rfl rfl gH rfl (aL) (aJ)) (aP 9 10 rfl rfl rfl rfl rfl rfl rfl rfl (U8 rfl rfl (U5 rfl rfl aw rfl (hl.cell S2.m (i:=k) (by first|omega|(simp only[ls];omega)) 0 rfl rfl)) ?_)))
     refine af 10 1 rfl rfl (aP 11 12 rfl rfl rfl rfl rfl rfl rfl rfl (U8 rfl rfl (Un rfl rfl rfl) (af 12 1 rfl rfl ?_)))
     refine Uy (t:=26) rfl (fun arT=>?_) (fun arT=>?_)
     ·refine af 13 6 rfl rfl (af 19 6 rfl rfl (af 25 6 rfl rfl (U3 rfl (ah [0,1,2,3,9,44] rfl (U2 (rM Zyb rfl rfl rfl (Ub rfl (ah [0,1,2,3,9] rfl ?_))))))))
      refine U2 (U7 Zyd 1 rfl rfl rfl (U0 rfl (af 0 1 rfl rfl (ag 1 rfl (Ud rfl rfl rfl (by first|omega|(simp only[ls];omega))) ?_))))
      refine af 2 1 rfl rfl (U3 rfl (Ul (Ut ?_)))
      intro ak ai
      refine⟨_,?bG,⟨k+1,_,(hle2),rfl,ai.sub ⟨rfl,rfl,rfl,rfl,rfl,trivial⟩,S2.pick [] [] (by decide) trivial,?bk,?bD⟩⟩
      case bk=>omega
      case bD=>(intro j hj;by_cases h:j=k;(subst h;omega);exact hlt j (by omega))
      case bG=>omega
     ·refine af 13 2 rfl rfl (aP 15 16 rfl rfl rfl rfl rfl rfl rfl rfl (U8 rfl rfl (U9 (C:=bH) k rfl rfl rfl eP (by first|rfl|omega) hl (by first|omega|(simp only[ls];omega))) ?_))
      refine aP 16 17 rfl rfl rfl rfl rfl rfl rfl rfl (U8 rfl rfl (U4 rfl rfl gH rfl (aL) (aJ)) (aP 17 18 rfl rfl rfl rfl rfl rfl rfl rfl (U8 rfl rfl (U5 rfl rfl aw rfl (hl.cell S2.m (i:=k) (by first|omega|(simp only[ls];omega)) 0 rfl rfl)) ?_)))
      refine af 18 1 rfl rfl (aP 19 20 rfl rfl rfl rfl rfl rfl rfl rfl (U8 rfl rfl (Uz rfl rfl rfl) (af 20 1 rfl rfl ?_)))
      refine Uy (t:=34) rfl (fun arR=>?_) (fun arR=>?_)
      ·refine af 21 2 rfl rfl (aP 23 24 rfl rfl rfl rfl rfl rfl rfl rfl (U8 rfl rfl (U9 (C:=bH) k rfl rfl rfl eP (by first|rfl|omega) hl (by first|omega|(simp only[ls];omega))) ?_))
       refine aP 24 25 rfl rfl rfl rfl rfl rfl rfl rfl (U8 rfl rfl (U4 rfl rfl gH rfl (aL) (aJ)) (aP 25 26 rfl rfl rfl rfl rfl rfl rfl rfl (U8 rfl rfl (U5 rfl rfl aw rfl (hl.cell S2.m (i:=k) (by first|omega|(simp only[ls];omega)) 1 rfl rfl)) ?_)))
       refine af 26 1 rfl rfl (aP 27 28 rfl rfl rfl rfl rfl rfl rfl rfl (U8 rfl rfl (Un rfl rfl rfl) (af 28 3 rfl rfl (U3 rfl (ah [0,1,2,3,9,44] rfl (U2 ?_))))))
       refine Ua Zyb Wm rfl rfl rfl rfl (fun Cz=>?_) (fun Cz=>?_)
       ·refine Ub rfl (ah [0,1,2,3,9] rfl (U2 (U7 Zyd 1 rfl rfl rfl (U0 rfl (af 0 1 rfl rfl (ag 1 rfl (Ud rfl rfl rfl (by first|omega|(simp only[ls];omega))) ?_))))))
        refine af 2 1 rfl rfl (U3 rfl (Ul (Ut ?_)))
        intro ak ai
        refine⟨_,?fM,⟨k+1,_,(hle2),rfl,ai.sub ⟨rfl,rfl,rfl,rfl,rfl,trivial⟩,S2.pick [] [] (by decide) trivial,?cu,?cN⟩⟩
        case cu=>omega
        case cN=>(intro j hj;by_cases h:j=k;(subst h;omega);exact hlt j (by omega))
        case fM=>omega
       ·refine Uk rfl rfl (Ut ?_)
        intro ak ai
        refine⟨k,_,(hle2),ai.sub ⟨rfl,rfl,rfl,rfl,rfl,trivial⟩,S2.pick [] [] (by decide) trivial,?dL,?ek,?lJ⟩
        case dL=>omega
        case ek=>exact hlt
        case lJ=>omega
      ·refine af 21 6 rfl rfl (af 27 4 rfl rfl (U3 rfl (ah [0,1,2,3,9,44] rfl (U2 (jq Wm rfl rfl rfl (Uk rfl rfl (Ut ?_)))))))
       intro ak ai
       refine⟨k,_,(hle2),ai.sub ⟨rfl,rfl,rfl,rfl,rfl,trivial⟩,S2.pick [] [] (by decide) trivial,?ei,?fK,?pV⟩
       case ei=>omega
       case fK=>exact hlt
       case pV=>omega
    ·refine af 5 6 rfl rfl (af 11 6 rfl rfl (af 17 6 rfl rfl (af 23 6 rfl rfl (af 29 2 rfl rfl (U3 rfl (ah [0,1,2,3,9,44] rfl (U2 (jq Wm rfl rfl rfl ?_))))))))
     refine Uk rfl rfl (Ut ?_)
     intro ak ai
     refine⟨k,_,(hle2),ai.sub ⟨rfl,rfl,rfl,rfl,rfl,trivial⟩,S2.pick [] [] (by decide) trivial,?fJ,?gu,?kq⟩
     case fJ=>omega
     case gu=>exact hlt
     case kq=>omega
  ·rintro a2 w1 ⟨k,M1,hle1,aQ,S1,hk,hlt,hnd⟩
   clear S
   refine uy aQ ?_
   clear aQ a2
   replace hl:=hl.mono hle1
   refine U2 (U1 Zye Wl rfl rfl rfl (U0 rfl (af 0 1 rfl rfl (U3 rfl (U2 (U1 Zyg Wj rfl rfl rfl (U0 rfl (af 0 3 rfl rfl ?_))))))))
   refine ar 3 4 rfl rfl rfl (aaE (C:=bH) k rfl rfl rfl rfl rfl eP (by first|rfl|omega) (by first|omega|(simp only[ls];omega)) hl ?_)
   intro A1 c1 hr1
   have S3:=S1.gL bH;clear S1
   refine ar 4 5 rfl rfl rfl (Aa (C:=bH) (i:=0) rfl rfl rfl rfl rfl rfl rfl rfl eP S3 rfl hr1 S3.m (by show(0+_)*24<=_;rw[List.length_take];omega) ?_)
   intro jZ w3 S4;clear S3
   change SH _ _ _ [Rs.row bH jZ (l.take k)]at S4
   refine af 5 1 rfl rfl (U3 rfl (ah [0,1,2,3,9,10] rfl (U2 (U1 Wi Wh rfl rfl rfl ?_))))
   refine uh (fun ak aA=>∃(k2:Nat) (acc:List T2) (aZ:Value) (M3:Hp),M1.le M3/\Env 109 [(0,.slice lA l.length lc),(9,.int .i64 (k2:Int)),(10,aZ)] ak/\SH aA M3 X [Rs.row bH aZ acc]/\put2 l x z c=acc++l.drop k2/\k2<=l.length/\acc.length<=l.length+1) ?_ ?_
   ·refine U1 Zyk Wf rfl rfl rfl (U0 rfl (af 0 2 rfl rfl (ag 2 rfl (Uv rfl rfl rfl rfl rfl rfl pY) (ag 3 rfl (Un rfl rfl rfl) (af 4 1 rfl rfl ?_)))))
    refine Uy (t:=56) rfl (fun arP=>?_) (fun arP=>?_)
    ·refine af 5 2 rfl rfl (aP 7 8 rfl rfl rfl rfl rfl rfl rfl rfl (U8 rfl rfl (U9 (C:=bH) k rfl rfl rfl eP (by first|rfl|omega) hl (by first|omega|(simp only[ls];omega))) ?_))
     refine aP 8 9 rfl rfl rfl rfl rfl rfl rfl rfl (U8 rfl rfl (U4 rfl rfl gH rfl (aL) (aJ)) (aP 9 10 rfl rfl rfl rfl rfl rfl rfl rfl (U8 rfl rfl (U5 rfl rfl aw rfl (hl.cell S4.m (i:=k) (by first|omega|(simp only[ls];omega)) 0 rfl rfl)) ?_)))
     refine af 10 1 rfl rfl (aP 11 12 rfl rfl rfl rfl rfl rfl rfl rfl (U8 rfl rfl (Uz rfl rfl rfl) (af 12 2 rfl rfl ?_)))
     refine Uy (t:=65) rfl (fun arO=>?_) (fun arO=>?_)
     ·refine af 14 2 rfl rfl (aP 16 17 rfl rfl rfl rfl rfl rfl rfl rfl (U8 rfl rfl (U9 (C:=bH) k rfl rfl rfl eP (by first|rfl|omega) hl (by first|omega|(simp only[ls];omega))) ?_))
      refine aP 17 18 rfl rfl rfl rfl rfl rfl rfl rfl (U8 rfl rfl (U4 rfl rfl gH rfl (aL) (aJ)) (aP 18 19 rfl rfl rfl rfl rfl rfl rfl rfl (U8 rfl rfl (U5 rfl rfl aw rfl (hl.cell S4.m (i:=k) (by first|omega|(simp only[ls];omega)) 1 rfl rfl)) ?_)))
      refine af 19 1 rfl rfl (aP 20 21 rfl rfl rfl rfl rfl rfl rfl rfl (U8 rfl rfl (Uz rfl rfl rfl) (af 21 1 rfl rfl (U3 rfl (ah [0,1,2,3,9,10,73] rfl (U2 ?_))))))
      refine Ua Wd Wc rfl rfl rfl rfl (fun Cx=>?_) (fun Cx=>?_)
      ·refine U1 Wb Zyp rfl rfl rfl (U1 Zyq Wa rfl rfl rfl (U0 rfl (af 0 2 rfl rfl (ag 2 rfl (U9 (C:=bH) k rfl rfl rfl eP (by first|rfl|omega) hl (by first|omega|(simp only[ls];omega))) ?_))))
       refine ag 3 rfl (U4 rfl rfl gH rfl (aL) (aJ)) (ag 4 rfl (U5 rfl rfl aw rfl (hl.cell S4.m (i:=k) (by first|omega|(simp only[ls];omega)) 2 rfl rfl)) ?_)
       refine af 5 1 rfl rfl (ag 6 rfl (vX rfl rfl rfl) (ag 7 rfl (gG rfl rfl rfl) (U3 rfl (ah [0,1,2,3,9,10,81] rfl (U2 ?_)))))
       refine Ua Zys Zyt rfl rfl rfl rfl (fun ar8=>?_) (fun ar8=>?_)
       ·refine U0 rfl (af 0 5 rfl rfl (ag 5 rfl (U9 (C:=bH) k rfl rfl rfl eP (by first|rfl|omega) hl (by first|omega|(simp only[ls];omega))) ?_))
        refine ag 6 rfl (U4 rfl rfl gH rfl (aL) (aJ)) (ag 7 rfl (U5 rfl rfl aw rfl (hl.cell S4.m (i:=k) (by first|omega|(simp only[ls];omega)) 2 rfl rfl)) ?_)
        refine af 8 1 rfl rfl (ag 9 rfl (vX rfl rfl rfl) (ag 10 rfl (run_build (l:=[_,_,_]) rfl rfl zb rfl rfl) (ar 11 12 rfl rfl rfl (Uf (C:=bH) (l:=[_,_,_]) rfl rfl rfl rfl eP rfl rfl rfl rfl S4 ?_))))
        intro aI w5 S6;clear S4
        refine ar 12 13 rfl rfl rfl (Ux (C:=bH) (i:=1) (q:=0) (⟨x,z,wr (((ga l k).c)+c)⟩:T2) rfl rfl rfl rfl rfl rfl rfl rfl eP S6 rfl rfl rfl (by show(_+1)*24<=_;first|omega|(simp only[List.length_append,List.length_take,List.length_cons,List.length_nil,List.length_map];omega)) ?_)
        intro UN w6 S7;clear S6
        have S8:=S7.pick [1] [_] (by decide) ⟨rfl,trivial⟩;clear S7
        refine af 13 1 rfl rfl (U3 rfl (ah [0,9,10] rfl (U2 (U0 rfl (af 0 1 rfl rfl (ag 1 rfl (Ud rfl rfl rfl (by first|omega|(simp only[ls];omega))) ?_))))))
        refine af 2 1 rfl rfl (U3 rfl (Ut ?_))
        intro ak ai
        refine⟨k+1,(l.take k)++[(⟨x,z,wr (((ga l k).c)+c)⟩:T2)],_,_,(Hp.le_refl _),ai.sub ⟨rfl,rfl,rfl,trivial⟩,S8.pick [0] [_] (by decide) ⟨rfl,trivial⟩,?gq,?gj,?nr⟩
        case gq=>(rw[AU (k:=k) hk hlt nG hnd];first|(rw[if_pos (show k<l.length/\(ga l k).x=x/\(ga l k).z=z by omega)];first|(rw[if_pos (show wr ((ga l k).c+c)=0 by omega)];simp)|(rw[if_neg (show¬wr ((ga l k).c+c)=0 by omega)];simp))|(rw[if_neg (show¬(k<l.length/\(ga l k).x=x/\(ga l k).z=z) by omega)];simp))
        case gj=>omega
        case nr=>(simp only[List.length_append,List.length_take,List.length_cons,List.length_nil];omega)
       ·refine Ub rfl (ah [0,9,10] rfl (U2 (U0 rfl (af 0 1 rfl rfl (ag 1 rfl (Ud rfl rfl rfl (by first|omega|(simp only[ls];omega))) ?_)))))
        refine af 2 1 rfl rfl (U3 rfl (Ut ?_))
        intro ak ai
        refine⟨k+1,l.take k,_,_,(Hp.le_refl _),ai.sub ⟨rfl,rfl,rfl,trivial⟩,S4.pick [0] [_] (by decide) ⟨rfl,trivial⟩,?iy,?iw,?np⟩
        case iy=>(rw[AU (k:=k) hk hlt nG hnd];first|(rw[if_pos (show k<l.length/\(ga l k).x=x/\(ga l k).z=z by omega)];first|(rw[if_pos (show wr ((ga l k).c+c)=0 by omega)];simp)|(rw[if_neg (show¬wr ((ga l k).c+c)=0 by omega)];simp))|(rw[if_neg (show¬(k<l.length/\(ga l k).x=x/\(ga l k).z=z) by omega)];simp))
        case iw=>omega
        case np=>(simp only[List.length_append,List.length_take,List.length_cons,List.length_nil];omega)
      ·refine U0 rfl (af 0 4 rfl rfl (ag 4 rfl (run_build (l:=[_,_,_]) rfl rfl zb rfl rfl) (ar 5 6 rfl rfl rfl (Uf (C:=bH) (l:=[_,_,_]) rfl rfl rfl rfl eP rfl rfl rfl rfl S4 ?_))))
       intro bq w7 S9;clear S4
       refine ar 6 7 rfl rfl rfl (Ux (C:=bH) (i:=1) (q:=0) (⟨x,z,c⟩:T2) rfl rfl rfl rfl rfl rfl rfl rfl eP S9 rfl rfl rfl (by show(_+1)*24<=_;first|omega|(simp only[List.length_append,List.length_take,List.length_cons,List.length_nil,List.length_map];omega)) ?_)
       intro zy w8 bM;clear S9
       have bJ:=bM.pick [1] [_] (by decide) ⟨rfl,trivial⟩;clear bM
       refine af 7 1 rfl rfl (U3 rfl (Ut ?_))
       intro ak ai
       refine⟨k,(l.take k)++[(⟨x,z,c⟩:T2)],_,_,(Hp.le_refl _),ai.sub ⟨rfl,rfl,rfl,trivial⟩,bJ.pick [0] [_] (by decide) ⟨rfl,trivial⟩,?nk,?nj,?wM⟩
       case nk=>(rw[AU (k:=k) hk hlt nG hnd];first|(rw[if_pos (show k<l.length/\(ga l k).x=x/\(ga l k).z=z by omega)];first|(rw[if_pos (show wr ((ga l k).c+c)=0 by omega)];simp)|(rw[if_neg (show¬wr ((ga l k).c+c)=0 by omega)];simp))|(rw[if_neg (show¬(k<l.length/\(ga l k).x=x/\(ga l k).z=z) by omega)];simp))
       case nj=>omega
       case wM=>(simp only[List.length_append,List.length_take,List.length_cons,List.length_nil];omega)
     ·refine af 14 6 rfl rfl (af 20 2 rfl rfl (U3 rfl (ah [0,1,2,3,9,10,73] rfl (U2 (jq Wc rfl rfl rfl (U0 rfl (af 0 4 rfl rfl (ag 4 rfl (run_build (l:=[_,_,_]) rfl rfl zb rfl rfl) ?_))))))))
      refine ar 5 6 rfl rfl rfl (Uf (C:=bH) (l:=[_,_,_]) rfl rfl rfl rfl eP rfl rfl rfl rfl S4 ?_)
      intro dD w9 cB;clear S4
      refine ar 6 7 rfl rfl rfl (Ux (C:=bH) (i:=1) (q:=0) (⟨x,z,c⟩:T2) rfl rfl rfl rfl rfl rfl rfl rfl eP cB rfl rfl rfl (by show(_+1)*24<=_;first|omega|(simp only[List.length_append,List.length_take,List.length_cons,List.length_nil,List.length_map];omega)) ?_)
      intro vr5 oZ bY;clear cB
      have bX:=bY.pick [1] [_] (by decide) ⟨rfl,trivial⟩;clear bY
      refine af 7 1 rfl rfl (U3 rfl (Ut ?_))
      intro ak ai
      refine⟨k,(l.take k)++[(⟨x,z,c⟩:T2)],_,_,(Hp.le_refl _),ai.sub ⟨rfl,rfl,rfl,trivial⟩,bX.pick [0] [_] (by decide) ⟨rfl,trivial⟩,?pN,?pM,?rZ⟩
      case pN=>(rw[AU (k:=k) hk hlt nG hnd];first|(rw[if_pos (show k<l.length/\(ga l k).x=x/\(ga l k).z=z by omega)];first|(rw[if_pos (show wr ((ga l k).c+c)=0 by omega)];simp)|(rw[if_neg (show¬wr ((ga l k).c+c)=0 by omega)];simp))|(rw[if_neg (show¬(k<l.length/\(ga l k).x=x/\(ga l k).z=z) by omega)];simp))
      case pM=>omega
      case rZ=>(simp only[List.length_append,List.length_take,List.length_cons,List.length_nil];omega)
    ·refine af 5 6 rfl rfl (af 11 6 rfl rfl (af 17 5 rfl rfl (U3 rfl (ah [0,1,2,3,9,10,73] rfl (U2 (jq Wc rfl rfl rfl (U0 rfl (af 0 4 rfl rfl ?_))))))))
     refine ag 4 rfl (run_build (l:=[_,_,_]) rfl rfl zb rfl rfl) (ar 5 6 rfl rfl rfl (Uf (C:=bH) (l:=[_,_,_]) rfl rfl rfl rfl eP rfl rfl rfl rfl S4 ?_))
     intro jR mO bT;clear S4
     refine ar 6 7 rfl rfl rfl (Ux (C:=bH) (i:=1) (q:=0) (⟨x,z,c⟩:T2) rfl rfl rfl rfl rfl rfl rfl rfl eP bT rfl rfl rfl (by show(_+1)*24<=_;first|omega|(simp only[List.length_append,List.length_take,List.length_cons,List.length_nil,List.length_map];omega)) ?_)
     intro Dj ra cO;clear bT
     have dK:=cO.pick [1] [_] (by decide) ⟨rfl,trivial⟩;clear cO
     refine af 7 1 rfl rfl (U3 rfl (Ut ?_))
     intro ak ai
     refine⟨k,(l.take k)++[(⟨x,z,c⟩:T2)],_,_,(Hp.le_refl _),ai.sub ⟨rfl,rfl,rfl,trivial⟩,dK.pick [0] [_] (by decide) ⟨rfl,trivial⟩,?pL,?pK,?rY⟩
     case pL=>(rw[AU (k:=k) hk hlt nG hnd];first|(rw[if_pos (show k<l.length/\(ga l k).x=x/\(ga l k).z=z by omega)];first|(rw[if_pos (show wr ((ga l k).c+c)=0 by omega)];simp)|(rw[if_neg (show¬wr ((ga l k).c+c)=0 by omega)];simp))|(rw[if_neg (show¬(k<l.length/\(ga l k).x=x/\(ga l k).z=z) by omega)];simp))
     case pK=>omega
     case rY=>(simp only[List.length_append,List.length_take,List.length_cons,List.length_nil];omega)
   ·rintro a3 w4 ⟨k2,acc,aZ,M3,cG,cW,S5,hpe,hk2,hal⟩
    clear S4
    refine uy cW ?_
    clear cW a3
    replace hl:=hl.mono cG
    replace hr1:=hr1.mono cG
    refine U2 (U1 Zyu Zyv rfl rfl rfl (U0 rfl (af 0 3 rfl rfl (ar 3 4 rfl rfl rfl (aaF (C:=bH) k2 rfl rfl rfl rfl rfl eP (by first|rfl|omega) (by first|omega|(simp only[ls];omega)) hl ?_)))))
    intro A2 c2 hr2
    refine ar 4 5 rfl rfl rfl (Aa (C:=bH) (i:=0) rfl rfl rfl rfl rfl rfl rfl rfl eP S5 rfl hr2 S5.m (by(show(_+_)*24<=_;have e3:=vF l x z c;rw[hpe,List.length_append]at e3;omega)) ?_)
    intro sH q8 fZ;clear S5
    change SH _ _ _ [Rs.row bH sH (acc++(l.drop k2))]at fZ
    refine af 5 1 rfl rfl (U3 rfl (ah [8] rfl (U2 ?_)))
    obtain⟨M4,bt,iu,⟨A3,c3,e1,hr3⟩⟩:=fZ.gW (i:=0) (H':=[_]) rfl rfl (by(show _*24<=_;have e3:=vF l x z c;rw[hpe]at e3;omega))
    clear fZ;subst e1
    replace hl:=hl.mono bt
    replace hr1:=hr1.mono bt
    replace hr2:=hr2.mono bt
    refine Us hC [_] rfl rfl ⟨rfl,trivial⟩ ?_
    refine⟨_,rfl,_,(hle1.trans cG).trans bt,(iu.pick [] [] (by decide) trivial),?_⟩
    rw[hpe]
    exact⟨_,_,rfl,hr3⟩
end Go.Proofs.YthppkofceancjaaGreat
namespace Go.Proofs.YthppkofceancjaaGreat
open Go.RowKit
deriving instance DecidableEq for Pq
section
variable (d : Dg) (L : Nat)
def KS:Nat:=2^d.ae.length
def allA:Nat:=offK d L (KS d)
def qT(n i:Nat):Nat:=(ga (allM d L (KS d)) i).1*n+(ga (allM d L (KS d)) i).2
def snF:Nat->List Pq
 |0=>[]
 |i+1=>if ga (bL d L (KS d)) i∈snF i then snF i else snF i++[ga (bL d L (KS d)) i]
noncomputable def nK(g:Pq):Nat:=(lj d L (KS d) (g.p,g.q)).length
noncomputable def jt(g:Pq):Nat:=Dk d L (KS d) (g.p,g.q)
noncomputable def sI(s:List Pq):List T2:=s.foldl (fun acc g=>put2 acc g.p g.q (nK d L g)) []
noncomputable def mf(s:List Pq):List T2:=s.map fun g=>⟨g.p,g.q,jt d L g⟩
def oM(o:List T2)(l:List T2):List T2:=l.foldl (fun acc t=>put2 (put2 acc t.x t.z (-t.c)) (t.x+1) t.z (-t.c)) o
noncomputable def ct:List T2:=oM (sI d L (snF d L (allA d L))) (mf d L (snF d L (allA d L)))
def s8(g:Pq)(k:Nat):List (Nat×Nat):=((allM d L (KS d)).take k).filter fun p=>decide (fF (ml d L p.1 p.2)=g)
noncomputable def kv(g:Pq)(k:Nat):List (List Bool):=(s8 d L g k).map fun p=>mI (allA d L) (l8 d L p.1 p.2)
theorem ak3(i:Nat):(snF d L i).length<=i:=by
 induction i with
 |zero=>exact Nat.le_refl _
 |succ i ih=>
  rw[snF]
  split
  ·omega
  ·rw[List.length_append];simp only[List.length_singleton];omega
theorem alp(s:List Pq)(g:Pq):sI d L (s++[g])=put2 (sI d L s) g.p g.q (nK d L g):=by unfold sI;rw[List.foldl_append];rfl
theorem anv(s:List Pq)(g:Pq):mf d L (s++[g])=mf d L s++[⟨g.p,g.q,jt d L g⟩]:=by unfold mf;rw[List.map_append];rfl
theorem Jc{α:Type}(f:List T2->α->List T2)(c:Nat)(hf:∀acc a,(f acc a).length<=acc.length+c):∀(s:List α) (acc:List T2),(s.foldl f acc).length<=acc.length+c*s.length
 |[],acc=>Nat.le_refl _
 |a::s,acc=>by
  have h1:=Jc f c hf s (f acc a)
  have h2:=hf acc a
  rw[List.foldl_cons,List.length_cons,Nat.mul_add]
  omega
theorem aka(s:List Pq):(sI d L s).length<=s.length:=by
 have:=Jc (fun acc (g:Pq)=>put2 acc g.p g.q (nK d L g)) 1 (fun acc g=>vF _ _ _ _) s []
 unfold sI
 rw[List.length_nil]at this
 omega
theorem al3(o l:List T2)(t:T2):oM o (l++[t])=put2 (put2 (oM o l) t.x t.z (-t.c)) (t.x+1) t.z (-t.c):=by unfold oM;rw[List.foldl_append];rfl
theorem aky(o l:List T2):(oM o l).length<=o.length+2*l.length:=Jc (fun acc (t:T2)=>put2 (put2 acc t.x t.z (-t.c)) (t.x+1) t.z (-t.c)) 2 (fun acc t=>by
 have h1:=vF acc t.x t.z (-t.c)
 have h2:=vF (put2 acc t.x t.z (-t.c)) (t.x+1) t.z (-t.c)
 omega) l o
variable {d L}
theorem ank{i:Nat}(hi:i<allA d L):ga (dX d L (KS d)) i=dJ (ga (allM d L (KS d)) i):=by
 unfold dX
 rw[kH _ _ _ (by rw[lC];exact hi)]
theorem Fx{i:Nat}(hi:i<allA d L):ga (bL d L (KS d)) i=fF (ml d L (ga (allM d L (KS d)) i).1 (ga (allM d L (KS d)) i).2):=by
 unfold bL
 rw[kH _ _ _ (by rw[lC];exact hi)]
theorem Bc{i:Nat}(hi:i<allA d L):(ga (allM d L (KS d)) i).1<KS d/\(ga (allM d L (KS d)) i).2<2^aT d L (ga (allM d L (KS d)) i).1:=(tK d L).1 (nX (by rw[lC];exact hi))
theorem KY{i:Nat}(hi:i<allA d L):(ga (dX d L (KS d)) i).p=(((ga (allM d L (KS d)) i).1:Nat):Int)/\(ga (dX d L (KS d)) i).q=(((ga (allM d L (KS d)) i).2:Nat):Int):=by
 rw[ank hi];exact⟨rfl,rfl⟩
theorem ab8{i j:Nat}(hi:i<allA d L)(hj:j<allA d L)(e:ga (allM d L (KS d)) i=ga (allM d L (KS d)) j):i=j:=by
 have hn:=IJ d L (KS d)
 have hl:=lC d L (KS d)
 have hi2:i<(allM d L (KS d)).length:=by rw[hl];exact hi
 have hj2:j<(allM d L (KS d)).length:=by rw[hl];exact hj
 rw[bV hi2,bV hj2]at e
 have hp:=List.pairwise_iff_getElem.1 hn
 rcases Nat.lt_trichotomy i j with h|h|h
 ·exact absurd e (hp i j hi2 hj2 h)
 ·exact h
 ·exact absurd e.symm (hp j i hj2 hi2 h)
theorem alV{n a b s m:Nat}(ha:a<n)(hm:m<n)(e:s*n+m=b*n+a):s=b/\m=a:=by
 have h1:(m+n*s)/n=(a+n*b)/n:=by rw[Nat.mul_comm n s,Nat.mul_comm n b,Nat.add_comm m,Nat.add_comm a,e]
 rw[Nat.add_mul_div_left _ _ (by omega),Nat.add_mul_div_left _ _ (by omega),Nat.div_eq_of_lt hm,Nat.div_eq_of_lt ha]at h1
 have:s=b:=by omega
 subst this
 exact⟨rfl,by omega⟩
theorem akr{n i j:Nat}(hn:∀x,x<allA d L->(ga (allM d L (KS d)) x).2<n)(hi:i<allA d L)(hj:j<allA d L)(e:qT d L n i=qT d L n j):i=j:=by
 unfold qT at e
 obtain⟨e1,e2⟩:=alV (hn j hj) (hn i hi) e
 exact ab8 hi hj (Prod.ext e1 e2)
theorem alW{n i:Nat}(hn:∀x,x<allA d L->(ga (allM d L (KS d)) x).2<n)(hi:i<allA d L):qT d L n i<n*KS d:=by
 have h1:=(Bc hi).1
 have h2:=hn i hi
 unfold qT
 have:=Nat.mul_le_mul_right n (show(ga (allM d L (KS d)) i).1+1<=KS d from h1)
 rw[Nat.add_mul,Nat.one_mul]at this
 rw[Nat.mul_comm n]
 omega
def PlT(d:Dg)(L n:Nat)(pl:List Int):Prop:=∀i,i<allA d L->ga pl (qT d L n i)=(i:Int)
theorem PlT.at_{n:Nat}{pl:List Int}(H:PlT d L n pl){s m:Nat}(hs:s<KS d)(hm:m<2^aT d L s):ga pl (s*n+m)=((offK d L s+m:Nat):Int):=by
 have h1:=Be d L hs hm
 have h2:offK d L s+m<allA d L:=by have:=rH d L hs;unfold allA;omega
 have:=H _ h2
 unfold qT at this
 rw[h1]at this
 exact this
theorem adu(g:Pq){k:Nat}(hk:k<allA d L):s8 d L g (k+1)=if ga (bL d L (KS d)) k=g then s8 d L g k++[ga (allM d L (KS d)) k]else s8 d L g k:=by
 unfold s8
 rw[kJ _ k (by rw[lC];exact hk),List.filter_append,Fx hk]
 by_cases e:fF (ml d L (ga (allM d L (KS d)) k).1 (ga (allM d L (KS d)) k).2)=g
 ·rw[if_pos e]
  simp[e]
 ·rw[if_neg e]
  simp[e]
theorem ak4(g:Pq):s8 d L g (allA d L)=lj d L (KS d) (g.p,g.q):=by
 unfold s8 lj
 rw[List.take_of_length_le (by rw[lC];exact Nat.le_refl _)]
 congr 1
 funext p
 refine decide_eq_decide.2 ?_
 constructor
 ·rintro rfl;rfl
 ·intro e
  cases g
  unfold fF
  rw[e]
theorem ak6(g:Pq){k:Nat}(hk:k<allA d L)(e:ga (bL d L (KS d)) k=g):kv d L g (k+1)=kv d L g k++[mI (allA d L) (l8 d L (ga (allM d L (KS d)) k).1 (ga (allM d L (KS d)) k).2)]:=by
 unfold kv
 rw[adu g hk,if_pos e,List.map_append];rfl
theorem ak5(g:Pq){k:Nat}(hk:k<allA d L)(e:¬ga (bL d L (KS d)) k=g):kv d L g (k+1)=kv d L g k:=by
 unfold kv
 rw[adu g hk,if_neg e]
theorem ajQ(g:Pq){k:Nat}(hk:k<=allA d L):(kv d L g k).length<=k:=by
 unfold kv s8
 rw[List.length_map]
 refine Nat.le_trans (List.length_filter_le _ _) ?_
 rw[List.length_take]
 exact Nat.min_le_left _ _
theorem aiY(g:Pq)(k:Nat):∀x,x<(kv d L g k).length->(ga (kv d L g k) x).length=allA d L:=fun x hx=>by
 unfold kv at hx ⊢
 rw[kH _ _ _ (by rw[List.length_map]at hx;exact hx)]
 unfold mI
 rw[List.length_map,List.length_range]
theorem ajR(g:Pq):(kv d L g (allA d L)).length=nK d L g/\rkD (kv d L g (allA d L)).length (kv d L g (allA d L))=jt d L g:=by
 unfold kv nK jt Dk
 rw[ak4,List.length_map]
 exact⟨rfl,rfl⟩
theorem akW(s mn:Nat):l8 d L s mn=(fq d L s mn d.ae.length).map fun μ=>offK d L μ.p.toNat+μ.q.toNat:=by
 unfold l8 fq
 rw[List.map_flatMap]
 refine aaw fun k hk=>?_
 unfold tG
 split
 ·rfl
 ·rw[List.map_map];rfl
theorem aol{s mn:Nat}(hs:s<KS d){μ:Pq}(h:μ∈fq d L s mn d.ae.length):∃t m:Nat,μ=⟨t,m⟩/\t<KS d/\m<2^aT d L t:=by
 unfold fq at h
 obtain⟨k,hk,h⟩:=List.mem_flatMap.1 h
 have hk:=List.mem_range.1 hk
 unfold tG at h
 split at h
 ·cases h
 ·rename_i hb
  obtain⟨m,hm,rfl⟩:=List.mem_map.1 h
  have:=jS s k
  exact⟨_,_,rfl,AG hs hk (by omega),aeO d L s _ k mn m hm⟩
def sU(N:Nat)(l:List Nat)(row:List Bool):Prop:=row.length=N/\∀x,x<N->ga row x=iF l x
theorem sU.mb(N:Nat):sU N [] (List.replicate N false):=⟨List.length_replicate,fun x hx=>by
 rw[bV (by simpa using hx),List.getElem_replicate];rfl⟩
theorem I7(l:List Nat)(p x:Nat):iF (l++[p]) x=if p=x then !iF l x else iF l x:=by
 unfold iF
 rw[List.count_append,List.count_singleton]
 by_cases e:p=x
 ·rw[if_pos e]
  simp only[e,beq_self_eq_true,if_true]
  by_cases h:l.count x%2=1
  ·rw[decide_eq_true h,decide_eq_false (by omega)];rfl
  ·rw[decide_eq_false h,decide_eq_true (by omega)];rfl
 ·rw[if_neg e,if_neg (by simpa using e),Nat.add_zero]
theorem sU.go{N p:Nat}{l:List Nat}{row:List Bool}(H:sU N l row)(hp:p<N){b:Bool}(hb:b=!ga row p):sU N (l++[p]) (row.set p b):=by
 refine⟨by rw[List.length_set];exact H.1,fun x hx=>?_⟩
 rw[bB _ _ _ _ (by rw[H.1];exact hp),I7]
 by_cases e:p=x
 ·subst e
  rw[if_pos rfl,if_pos rfl,hb,H.2 p hp]
 ·rw[if_neg e,if_neg e];exact H.2 x hx
theorem sU.end_{N:Nat}{l:List Nat}{row:List Bool}(H:sU N l row):row=mI N l:=by
 have hl:(mI N l).length=N:=by unfold mI;rw[List.length_map,List.length_range]
 refine yI (by rw[H.1,hl]) fun x hx=>?_
 have hx:=H.1▸hx
 rw[H.2 x hx]
 unfold mI
 rw[kH _ _ _ (by rw[List.length_range];exact hx),bV (by rw[List.length_range];exact hx),List.getElem_range]
end
theorem JU:∀(f:Nat) (R:List (List Bool)),rkD f R<=R.length
 |0,[]=>Nat.le_refl _
 |0,r::R=>Nat.zero_le _
 |f+1,[]=>Nat.le_refl _
 |f+1,r::R=>by
  show(match jD r with|none=>rkD f R|some l=>1+rkD f (R.map fun q=>if ga q l=true then ku q r else q))<=R.length+1
  cases jD r with
  |none=>have:=JU f R;dsimp only;omega
  |some l=>have:=JU f (R.map fun q=>if ga q l=true then ku q r else q);rw[List.length_map]at this;show 1+rkD f (R.map fun q=>if ga q l=true then ku q r else q)<=R.length+1;exact Nat.le_trans (Nat.add_le_add_left this 1) (by omega)
section
variable {d : Dg} {L : Nat}
theorem Lu(g:Pq):nK d L g<=allA d L:=by
 unfold nK lj
 exact Nat.le_trans (List.length_filter_le _ _) (by rw[lC];exact Nat.le_refl _)
theorem JV(g:Pq):jt d L g<=allA d L:=by
 unfold jt Dk
 refine Nat.le_trans (JU _ _) ?_
 rw[List.length_map]
 exact Lu g
theorem amW{i:Nat}{g:Pq}(h:g∈snF d L i):∃j,j<i/\g=ga (bL d L (KS d)) j:=by
 induction i with
 |zero=>cases h
 |succ i ih=>
  rw[snF]at h
  split at h
  ·obtain⟨j,h1,h2⟩:=ih h;exact⟨j,by omega,h2⟩
  ·rcases List.mem_append.1 h with h|h
   ·obtain⟨j,h1,h2⟩:=ih h;exact⟨j,by omega,h2⟩
   ·exact⟨i,by omega,List.mem_singleton.1 h⟩
theorem am3(d:Dg):mR d<=d.ae.length:=by unfold mR;exact aop _ _
theorem aqb(hn:d.ae.length<=6)(hL:L<=2)(s m:Nat):(-200<=(ml d L s m).1/\(ml d L s m).1<=200)/\-200<=(ml d L s m).2/\(ml d L s m).2<=200:=by
 have h1:=ud s
 have h2:=ud m
 have h3:=am3 d
 have h4:=pR hn hL s
 unfold ml
 dsimp only
 omega
theorem JR(hn:d.ae.length<=6)(hL:L<=2){i:Nat}(hi:i<=allA d L){g:Pq}(h:g∈snF d L i):(-200<=g.p/\g.p<=200)/\-200<=g.q/\g.q<=200:=by
 obtain⟨j,h1,rfl⟩:=amW h
 rw[Fx (by omega)]
 exact aqb hn hL _ _
theorem anw(hn:d.ae.length<=6)(hL:L<=2){i:Nat}(hi:i<=allA d L){sn:List Pq}(tv:sn=snF d L i){im:List T2}(him:im=mf d L sn){q:Nat}(hq:q<im.length):(-200<=(ga im q).x/\(ga im q).x<=200)/\(-200<=(ga im q).z/\(ga im q).z<=200)/\0<=(ga im q).c/\(ga im q).c<=(allA d L:Nat):=by
 subst him
 have hq2:q<sn.length:=by unfold mf at hq;rw[List.length_map]at hq;exact hq
 have e:ga (mf d L sn) q=⟨(ga sn q).p,(ga sn q).q,jt d L (ga sn q)⟩:=by unfold mf;rw[kH _ _ _ hq2]
 rw[e]
 have h1:=JV (d:=d) (L:=L) (ga sn q)
 obtain⟨h2,h3⟩:=JR hn hL hi (tv▸nX hq2:ga sn q∈snF d L i)
 dsimp only
 exact⟨h2,h3,by omega,by omega⟩
end
end Go.Proofs.YthppkofceancjaaGreat
namespace Go.Proofs.YthppkofceancjaaGreat
open Go.ChangeShapes Go.WideShapes Go.ChangeAt Go.RowKit
theorem aqB{w:World}{M:Hp}{X:Fr}(d:Dg){aV:Option Addr}{aU:Nat}{x y:Int}(s mn:Nat)(hx:x=(s:Int))(hy:y=(mn:Int))(ay:aB bw (M.un X.h) aV aU d.ae){L:Nat}(hn:d.ae.length<=6)(hab:Uu d=true)(hL:d.loops=(L:Int))(hL2:L<=2)(hs:s<64)(Dx:mn<2^62)(S:SH w M X []):Ct Tryz.prog 62 [.agg [.slice aV d.ae.length aU,.int .i64 d.loops].toArray,.agg [.int .i64 x,.int .i64 y].toArray] w M X (fun u N=>∃A c,u=.slice A (fq d L s mn d.ae.length).length c/\aB dW N A c (fq d L s mn d.ae.length)):=by
 subst hx hy
 exact azt d s mn ay hn hab hL hL2 hs Dx S
theorem KX{x y:Pq}:x=y<->x.p=y.p/\x.q=y.q:=by cases x;cases y;simp
theorem ads{l:List Pq}{g:Pq}:(∃j,j<l.length/\ga l j=g)<->g∈l:=by
 constructor
 ·rintro⟨j,hj,rfl⟩;exact nX hj
 ·intro h
  obtain⟨j,hj,e⟩:=List.getElem_of_mem h
  exact⟨j,hj,by rw[bV hj];exact e⟩
noncomputable def V9:=Tryz.f26.body.getD .skip
def Zyx:=cL V9
def V8:=cR V9
def Zyz:=cL V8
def V7:=cR V8
def Zz1:=cL V7
def V6:=cR V7
def V5:=cL V6
def V4:=cR V6
def Zz5:=cL V5
def Zz6:=cR V5
def Zz7:=cL Zz6
def V3:=cL Zz7
def V2:=cL V3
def VZ:=cR V3
def Zzb:=cL V2
def VY:=cR V2
def Zzd:=cL VY
def Zze:=cR VY
def Zzf:=cL VZ
def Zzg:=cR VZ
def VX:=cL Zzf
def Zzi:=cL VX
def VW:=cR VX
def Zzk:=cL VW
def Zzl:=cR VW
def Zzm:=cL V4
def VU:=cR V4
def VT:=cL VU
def VS:=cR VU
def Zzq:=cL VT
def Zzr:=cR VT
def Zzs:=cL Zzr
def VR:=cL Zzs
def VQ:=cL VR
def VP:=cR VR
def Zzw:=cL VQ
def VO:=cR VQ
def Zzy:=cL VO
def Zzz:=cR VO
def ahM:=cL VP
def azj:=cR VP
def azi:=cL ahM
def azh:=cL VS
def UB:=cR VS
def azg:=cL UB
def UA:=cR UB
def azf:=cL UA
def T9:=cR UA
def T8:=cL T9
def T7:=cR T9
def aze:=cL T8
def ahL:=cR T8
def ahK:=cL ahL
def T6:=cL ahK
def T5:=cL T6
def T4:=cR T6
def azd:=cL T5
def T3:=cR T5
def azc:=cL T3
def azb:=cR T3
def ahJ:=cL T4
def aza:=cR T4
def TY:=cL ahJ
def ay9:=cL TY
def TX:=cR TY
def TW:=cL TX
def TV:=cR TX
def ay8:=cL TW
def ahI:=cR TW
def ahH:=cL ahI
def TU:=cL ahH
def TT:=cL TU
def TS:=cR TU
def ay7:=cL TT
def TR:=cR TT
def ay6:=cL TR
def ay5:=cR TR
def ahG:=cL TS
def ay4:=cR TS
def ay3:=cL ahG
def TQ:=cL TV
def TP:=cR TV
def ay2:=cL TQ
def TN:=cR TQ
def ay1:=cL TN
def ay0:=cR TN
def ayZ:=cL TP
def TM:=cR TP
def ayY:=cL TM
def TL:=cR TM
def ayX:=cL TL
def TK:=cR TL
def TJ:=cL TK
def TI:=cR TK
def ayW:=cL TJ
def ahF:=cR TJ
def ahE:=cL ahF
def TH:=cL ahE
def TG:=cL TH
def TF:=cR TH
def ayV:=cL TG
def TE:=cR TG
def ayU:=cL TE
def ayT:=cR TE
def ahD:=cL TF
def ayS:=cR TF
def TD:=cL ahD
def TC:=cL TD
def TB:=cR TD
def ayR:=cL TC
def TA:=cR TC
def ayQ:=cL TA
def ayP:=cR TA
def ayO:=cL TB
def Tz:=cR TB
def ayN:=cL Tz
def Ty:=cR Tz
def ayM:=cL Ty
def Tx:=cR Ty
def Tw:=cL Tx
def ayL:=cR Tx
def ayK:=cL Tw
def ahC:=cR Tw
def ahB:=cL ahC
def Tv:=cL ahB
def Tt:=cL Tv
def Tq:=cR Tv
def ayJ:=cL Tt
def Tp:=cR Tt
def ayI:=cL Tp
def ayH:=cR Tp
def ahA:=cL Tq
def ayG:=cR Tq
def Tn:=cL ahA
def ayF:=cL Tn
def ayE:=cR Tn
def ayD:=cL TI
def ayC:=cR TI
def Tk:=cL T7
def Tj:=cR T7
def ayB:=cL Tk
def ahz:=cR Tk
def ahy:=cL ahz
def Ti:=cL ahy
def Tg:=cL Ti
def Tf:=cR Ti
def ayA:=cL Tg
def Te:=cR Tg
def ayz:=cL Te
def ayy:=cR Te
def ahx:=cL Tf
def ayx:=cR Tf
def Td:=cL ahx
def ayw:=cL Td
def Tc:=cR Td
def ayv:=cL Tc
def ayu:=cR Tc
def ayt:=cL Tj
def ays:=cR Tj
set_option maxHeartbeats 4000000 in
set_option maxRecDepth 10000 in
theorem abp{w:World}{M:Hp}{X:Fr}(d:Dg){aV:Option Addr}{aU:Nat}(ay:aB bw (M.un X.h) aV aU d.ae){L:Nat}(hn:d.ae.length<=6)(hab:Uu d=true)(hL:d.loops=(L:Int))(hL2:L<=2)(S:SH w M X []):Ct Tryz.prog 26 [.agg [.slice aV d.ae.length aU,.int .i64 d.loops].toArray] w M X (LsT (ct d L)):=by
 unfold Ct
 have jH:d.ae.length*40<=140737488355328:=ay.room
 have h64:=si hn
 have h2p:=Nat.two_pow_pos d.ae.length
 have hA9:allA d L<=2^d.ae.length*16384:=Fm hn hL2 _
 refine Up (b:=V9) Tryz.func26 rfl Tryz.ntmps26 rfl (fun C hC=>(bu [(0,_)] ⟨rfl,trivial⟩ (U1 Zyx V8 rfl rfl rfl (U0 rfl (ar 0 1 rfl rfl rfl (cU (l:=[_,_]) rfl rfl rfl rfl rfl S ?_))))))
 intro aI w1 S1;clear S
 refine af 1 1 rfl rfl (U3 rfl (ah [1] rfl (U2 (U1 Zyz V7 rfl rfl rfl (U0 rfl (ag 0 rfl (Uc (us:=[_,_]) rfl rfl bg rfl dM (S1.aY (i:=0) rfl ⟨rfl,rfl,trivial⟩)) (ar 1 2 rfl rfl rfl (dt rfl rfl rfl rfl rfl rfl rfl asJ S1 (aju d (ay.mono S1.Uq) hn hab hL hL2 S1.aR) ?_))))))))
 intro mP w2 M1 hle1 S2 jg;clear S1
 replace ay:=ay.mono (Hp.U6 hle1 S2.mx)
 obtain⟨A1,c1,A2,c2,e9,hr1,hr2⟩:=jg
 replace e9:mP=.tuple [.slice A1 (dX d L (KS d)).length c1,.slice A2 (bL d L (KS d)).length c2].toArray:=e9
 subst e9
 replace hr1:aB dW M1 A1 c1 (dX d L (KS d)):=hr1
 replace hr2:aB bW M1 A2 c2 (bL d L (KS d)):=hr2
 have zL:(dX d L (KS d)).length=allA d L:=acE d L (KS d)
 have hgl:(bL d L (KS d)).length=allA d L:=acN d L (KS d)
 refine af 2 1 rfl rfl (ag 3 rfl (Ug rfl rfl rfl) (ag 4 rfl (Ug rfl rfl rfl) (af 5 2 rfl rfl (U3 rfl (ah [1,3,4] rfl (U2 (U1 Zz1 V6 rfl rfl rfl (U0 rfl ?_))))))))
 refine af 0 1 rfl rfl (U3 rfl (U2 (U1 V5 V4 rfl rfl rfl (U1 Zz5 Zz6 rfl rfl rfl (U0 rfl (af 0 1 rfl rfl (U3 rfl (U2 ?_))))))))
 refine U7 Zz7 0 rfl rfl rfl ?_
 refine Ui (fun aF ak aA=>∃(i:Nat) (nn:Int),aF=allA d L-i/\Env 227 [(1,.pointer (some ⟨aI,0,none⟩)),(3,.slice A1 (dX d L (KS d)).length c1),(4,.slice A2 (bL d L (KS d)).length c2),(5,.int .i64 nn),(6,.int .i64 (i:Int))] ak/\SH aA M1 X [Rs.box aI 24 [.slice aV d.ae.length aU,.int .i64 d.loops]]/\i<=allA d L/\(0<=nn/\nn<=16384)/\(∀j,j<i->((ga (allM d L (KS d)) j).2:Int)<nn)) rfl ?_ ?_
 ·intro ak ai
  refine⟨_,⟨0,0,rfl,ai.sub ⟨rfl,rfl,rfl,rfl,rfl,trivial⟩,S2.pick [0] [_] (by decide) ⟨rfl,trivial⟩,?bn,?bE,?ez⟩⟩
  case bn=>omega
  case bE=>omega
  case ez=>(intro j hj;omega)
 ·rintro m1 a1 w3 ⟨i,nn,rfl,aQ,S3,hi,hnn,hnm⟩
  clear S2
  refine aW aQ (c:=V3) rfl ?_
  clear aQ a1
  refine U1 V2 VZ rfl rfl rfl (U1 Zzb VY rfl rfl rfl (U0 rfl (af 0 2 rfl rfl (ag 2 rfl (Uv rfl rfl rfl rfl rfl rfl wE) (ag 3 rfl (Un rfl rfl rfl) (U3 rfl (ah [1,3,4,5,6,32] rfl (U2 ?_))))))))
  refine Ua Zzd Zze rfl rfl rfl rfl (fun nC=>?_) (fun nC=>?_)
  ·refine Ub rfl (ah [1,3,4,5,6] rfl (U2 (U1 Zzf Zzg rfl rfl rfl (U7 VX 1 rfl rfl rfl (U1 Zzi VW rfl rfl rfl ?_)))))
   obtain⟨fp,hm2⟩:=KY (show i<allA d L by omega)
   obtain⟨hi1,hi2⟩:=Bc (show i<allA d L by omega)
   have hpw:=BN hn hL2 (ga (allM d L (KS d)) i).1
   replace hi1:(ga (allM d L (KS d)) i).1<2^d.ae.length:=hi1
   refine U0 rfl (af 0 2 rfl rfl (ag 2 rfl (U9 (C:=dW) i rfl rfl rfl lH (by first|rfl|omega) hr1 (by first|omega|(simp only[ls];omega))) ?_))
   refine ag 3 rfl (U4 rfl rfl mC rfl (aL) (aJ)) (ag 4 rfl (U5 rfl rfl aw rfl (hr1.cell S3.m (i:=i) (by first|omega|(simp only[ls];omega)) 1 rfl rfl)) ?_)
   refine af 5 1 rfl rfl (ag 6 rfl (ak9 rfl rfl rfl) (U3 rfl (ah [1,3,4,5,6,41] rfl (U2 ?_))))
   refine Ua Zzk Zzl rfl rfl rfl rfl (fun Mm=>?_) (fun Mm=>?_)
   ·refine U0 rfl (af 0 2 rfl rfl (ag 2 rfl (U9 (C:=dW) i rfl rfl rfl lH (by first|rfl|omega) hr1 (by first|omega|(simp only[ls];omega))) ?_))
    refine ag 3 rfl (U4 rfl rfl mC rfl (aL) (aJ)) (ag 4 rfl (U5 rfl rfl aw rfl (hr1.cell S3.m (i:=i) (by first|omega|(simp only[ls];omega)) 1 rfl rfl)) ?_)
    refine ag 5 rfl (Ud rfl rfl rfl (by first|omega|(simp only[ls];omega))) ?_
    refine af 6 1 rfl rfl (U3 rfl (Ul (ah [1,3,4,5,6] rfl (U2 (U0 rfl (af 0 1 rfl rfl (ag 1 rfl (Ud rfl rfl rfl (by first|omega|(simp only[ls];omega))) ?_)))))))
    refine af 2 1 rfl rfl (U3 rfl (Ut ?_))
    intro ak ai
    refine⟨_,?bG,⟨i+1,((ga (dX d L (KS d)) i).q)+1,rfl,ai.sub ⟨rfl,rfl,rfl,rfl,rfl,trivial⟩,S3.pick [0] [_] (by decide) ⟨rfl,trivial⟩,?bk,?bD,?fL⟩⟩
    case bk=>omega
    case bD=>omega
    case fL=>(intro j hj;by_cases e:j=i;(subst e;omega);have:=hnm j (by omega);omega)
    case bG=>omega
   ·refine Ub rfl (Ul (ah [1,3,4,5,6] rfl (U2 (U0 rfl (af 0 1 rfl rfl (ag 1 rfl (Ud rfl rfl rfl (by first|omega|(simp only[ls];omega))) ?_))))))
    refine af 2 1 rfl rfl (U3 rfl (Ut ?_))
    intro ak ai
    refine⟨_,?fM,⟨i+1,nn,rfl,ai.sub ⟨rfl,rfl,rfl,rfl,rfl,trivial⟩,S3.pick [0] [_] (by decide) ⟨rfl,trivial⟩,?cu,?cN,?jb⟩⟩
    case cu=>omega
    case cN=>omega
    case jb=>(intro j hj;by_cases e:j=i;(subst e;omega);have:=hnm j (by omega);omega)
    case fM=>omega
  ·refine Uk rfl rfl (ah [1,3,4,5] rfl (U2 (U1 Zzm VU rfl rfl rfl ?_)))
   have hid:i=allA d L:=by omega
   rw[hid]at hnm
   obtain⟨nq,arD⟩:∃q:Nat,nn=(q:Int):=⟨nn.toNat,by omega⟩
   subst arD
   have Vh:∀x,x<allA d L->(ga (allM d L (KS d)) x).2<nq:=fun x hx=>by have:=hnm x hx;omega
   have hmx:nq*2^d.ae.length<=16384*64:=Nat.mul_le_mul (by omega) h64
   clear hid hnm
   refine U0 rfl (af 0 1 rfl rfl (ag 1 rfl (U4 rfl rfl bg rfl (dV) (dS)) (ag 2 rfl (U5 rfl rfl bF rfl (S3.aG (i:=0) rfl rfl)) (ag 3 rfl (Uv rfl rfl rfl rfl rfl rfl bF) (ag 4 rfl (Ay (v:=nq) (n:=d.ae.length) rfl rfl rfl (by first|omega|(simp only[ls];omega)) (by first|omega|(simp only[ls];omega))) ?_)))))
   refine ar 5 6 rfl rfl rfl (rJ (C:=Uh) (nq*2^d.ae.length) rfl rfl rfl rfl rfl aS (by first|rfl|omega) (by show _*8<=_;first|omega|(simp only[ls];omega)) S3 ?_)
   intro zz w4 S4;clear S3
   refine af 6 1 rfl rfl (U3 rfl (ah [1,3,4,5,7] rfl (U2 (U1 VT VS rfl rfl rfl (U1 Zzq Zzr rfl rfl rfl (U0 rfl (af 0 1 rfl rfl (U3 rfl ?_))))))))
   refine U2 (U7 Zzs 2 rfl rfl rfl ?_)
   refine Ui (fun aF ak aA=>∃(i:Nat) (pl:List Int) (qf:Value),aF=allA d L-i/\Env 227 [(1,.pointer (some ⟨aI,0,none⟩)),(3,.slice A1 (dX d L (KS d)).length c1),(4,.slice A2 (bL d L (KS d)).length c2),(5,.int .i64 (nq:Int)),(7,qf),(8,.int .i64 (i:Int))] ak/\SH aA M1 X [Rs.row Uh qf pl,Rs.box aI 24 [.slice aV d.ae.length aU,.int .i64 d.loops]]/\i<=allA d L/\pl.length=nq*2^d.ae.length/\(∀j,j<i->ga pl (qT d L nq j)=(j:Int))) rfl ?_ ?_
   ·intro ak ai
    refine⟨_,⟨0,_,_,rfl,ai.sub ⟨rfl,rfl,rfl,rfl,rfl,rfl,trivial⟩,S4.pick [0,1] [_,_] (by decide) ⟨rfl,rfl,trivial⟩,?dL,?ek,?lJ⟩⟩
    case dL=>omega
    case ek=>(rw[List.length_replicate]<;>omega)
    case lJ=>(intro j hj;omega)
   ·rintro m2 a2 w5 ⟨i,pl,qf,rfl,bS,S5,hi,hpl,hpj⟩
    clear S4
    refine aW bS (c:=VR) rfl ?_
    clear bS a2
    refine U1 VQ VP rfl rfl rfl (U1 Zzw VO rfl rfl rfl (U0 rfl (af 0 2 rfl rfl (ag 2 rfl (Uv rfl rfl rfl rfl rfl rfl wE) (ag 3 rfl (Un rfl rfl rfl) (U3 rfl (ah [1,3,4,5,7,8,57] rfl (U2 ?_))))))))
    refine Ua Zzy Zzz rfl rfl rfl rfl (fun uN=>?_) (fun uN=>?_)
    ·refine Ub rfl (ah [1,3,4,5,7,8] rfl (U2 (U1 ahM azj rfl rfl rfl (U7 azi 3 rfl rfl rfl ?_))))
     obtain⟨fp,hm2⟩:=KY (show i<allA d L by omega)
     obtain⟨hi1,hi2⟩:=Bc (show i<allA d L by omega)
     have hpw:=BN hn hL2 (ga (allM d L (KS d)) i).1
     replace hi1:(ga (allM d L (KS d)) i).1<2^d.ae.length:=hi1
     have hix:qT d L nq i<nq*2^d.ae.length:=alW Vh (show i<allA d L by omega)
     have eN:(ga (dX d L (KS d)) i).p*(nq:Int)=(((ga (allM d L (KS d)) i).1*nq:Nat):Int):=by rw[fp,Int.natCast_mul]
     have aBp:(ga (allM d L (KS d)) i).1*nq+(ga (allM d L (KS d)) i).2=qT d L nq i:=rfl
     refine cM rfl (by kernel_rfl) S5 17 rfl ?_
     clear S5
     refine aq 0 16 rfl (by kernel_rfl) (fun _=>run_move rfl rfl) ?_
     refine aq 1 15 rfl (by kernel_rfl) (fun _=>run_move rfl rfl) ?_
     refine aq 2 14 rfl (by kernel_rfl) (fun _=>run_move rfl rfl) ?_
     refine au 3 13 rfl (by kernel_rfl) (fun _ _ _ aj Sz=>.inl (U9 (C:=dW) i rfl rfl rfl lH (by first|rfl|omega) (hr1.mono aj) (by first|omega|(simp only[ls];omega)))) ?_
     refine aq 4 12 rfl (by kernel_rfl) (fun _=>U4 rfl rfl mC rfl (aL) (aJ)) ?_
     refine au 5 11 rfl (by kernel_rfl) (fun _ _ _ aj Sz=>.inl (U5 rfl rfl aw rfl ((hr1.mono aj).cell Sz.m (i:=i) (by first|omega|(simp only[ls];omega)) 0 rfl rfl))) ?_
     refine aq 6 10 rfl (by kernel_rfl) (fun _=>run_move rfl rfl) ?_
     refine aq 7 9 rfl (by kernel_rfl) (fun _=>pj rfl rfl rfl (by first|omega|(simp only[ls];omega))) ?_
     refine aq 8 8 rfl (by kernel_rfl) (fun _=>run_move rfl rfl) ?_
     refine aq 9 7 rfl (by kernel_rfl) (fun _=>run_move rfl rfl) ?_
     refine au 10 6 rfl (by kernel_rfl) (fun _ _ _ aj Sz=>.inl (U9 (C:=dW) i rfl rfl rfl lH (by first|rfl|omega) (hr1.mono aj) (by first|omega|(simp only[ls];omega)))) ?_
     refine aq 11 5 rfl (by kernel_rfl) (fun _=>U4 rfl rfl mC rfl (aL) (aJ)) ?_
     refine au 12 4 rfl (by kernel_rfl) (fun _ _ _ aj Sz=>.inl (U5 rfl rfl aw rfl ((hr1.mono aj).cell Sz.m (i:=i) (by first|omega|(simp only[ls];omega)) 1 rfl rfl))) ?_
     refine aq 13 3 rfl (by kernel_rfl) (fun _=>Ud rfl rfl rfl (by first|omega|(simp only[ls];omega))) ?_
     refine aq 14 2 rfl (by kernel_rfl) (fun _=>run_move rfl rfl) ?_
     refine au 15 1 rfl (by kernel_rfl) (fun _ _ _ aj Sz=>.inl (Ue (C:=Uh) (i:=0) ((((ga (dX d L (KS d)) i).p)*(nq:Int)).toNat+((ga (dX d L (KS d)) i).q).toNat) rfl rfl rfl aS Sz.suf rfl (by first|rfl|omega) (by first|omega|(simp only[ls];omega)))) ?_
     refine dv (i:=16) 0 rfl (by kernel_rfl) rfl rfl (fun UK rQ=>?_)
     refine(ij (C:=Uh) (i:=0) (e:=(((ga (dX d L (KS d)) i).p)*(nq:Int)).toNat+((ga (dX d L (KS d)) i).q).toNat) (j:=0) (us:=[_]) (H':=[_,_]) (i:Int) rfl rfl rQ rfl (by first|omega|(simp only[ls];omega)) rfl rfl rfl dw rfl rfl rfl rfl ?_)
     intro UJ mZ;clear rQ
     refine bU.turn (by kernel_rfl) mZ ?_;clear mZ
     change WA _ _ _ _ _ _ _ _ _ _ _ _ [_,_]
     refine cF (by kernel_rfl) (fun Dd gK=>?_)
     refine Ul (ah [1,3,4,5,7,8] rfl (U2 (U0 rfl (af 0 1 rfl rfl (ag 1 rfl (Ud rfl rfl rfl (by first|omega|(simp only[ls];omega))) ?_)))))
     refine af 2 1 rfl rfl (U3 rfl (Ut ?_))
     intro ak ai
     refine⟨_,?je,⟨i+1,pl.set ((((ga (dX d L (KS d)) i).p)*(nq:Int)).toNat+((ga (dX d L (KS d)) i).q).toNat) (i:Int),_,rfl,ai.sub ⟨rfl,rfl,rfl,rfl,rfl,rfl,trivial⟩,gK.pick [0,1] [_,_] (by decide) ⟨rfl,rfl,trivial⟩,?ei,?fK,?pV⟩⟩
     case ei=>omega
     case fK=>(rw[List.length_set];exact hpl)
     case pV=>(intro j hj;rw[bB _ _ _ _ (by omega)];by_cases e:j=i;(subst e;rw[if_pos (by omega)]);(rw[if_neg (fun e2=>e (akr Vh (by omega) (by omega) (by omega))),hpj j (by omega)]))
     case je=>omega
    ·refine Uk rfl rfl (ah [1,3,4,5,7] rfl (U2 (U1 azh UB rfl rfl rfl ?_)))
     have hPl:PlT d L nq pl:=fun x hx=>hpj x (by omega)
     refine U0 rfl (af 0 1 rfl rfl (U3 rfl (U2 (U1 azg UA rfl rfl rfl (U0 rfl (af 0 1 rfl rfl (U3 rfl (U2 ?_))))))))
     refine U1 azf T9 rfl rfl rfl (U0 rfl (af 0 1 rfl rfl (U3 rfl (U2 (U1 T8 T7 rfl rfl rfl (U1 aze ahL rfl rfl rfl (U0 rfl (af 0 1 rfl rfl ?_))))))))
     refine U3 rfl (U2 (U7 ahK 4 rfl rfl rfl ?_))
     have il:=S5.gL bW;clear S5
     have fQ:=il.gL bH;clear il
     refine Ui (fun aF ak aA=>∃(i:Nat) (sn:List Pq) (im:List T2) (ou:List T2) (oA:Option Addr) (oc:Nat) (nO:Value) (pX:Value) (yc:Hp),M1.le yc/\aF=allA d L-i/\Env 227 [(1,.pointer (some ⟨aI,0,none⟩)),(3,.slice A1 (dX d L (KS d)).length c1),(4,.slice A2 (bL d L (KS d)).length c2),(5,.int .i64 (nq:Int)),(7,qf),(9,.slice oA ou.length oc),(10,pX),(11,nO),(12,.int .i64 (i:Int))] ak/\SH aA yc X [Rs.row bH pX im,Rs.row bW nO sn,Rs.row Uh qf pl,Rs.box aI 24 [.slice aV d.ae.length aU,.int .i64 d.loops]]/\i<=allA d L/\sn=snF d L i/\im=mf d L sn/\aB bH yc oA oc ou/\ou=sI d L sn) rfl ?_ ?_
     ·intro ak ai
      refine⟨_,⟨0,[],[],[],none,0,_,_,_,Hp.le_refl _,rfl,ai.sub ⟨rfl,rfl,rfl,rfl,rfl,rfl,rfl,rfl,rfl,trivial⟩,fQ.pick [0,1,2,3] [_,_,_,_] (by decide) ⟨rfl,rfl,rfl,rfl,trivial⟩,?fJ,?gu,?kq,?su,?wN⟩⟩
      case fJ=>omega
      case gu=>rfl
      case kq=>rfl
      case su=>exact aB.bN
      case wN=>rfl
     ·rintro m3 a3 zu ⟨i,sn,im,ou,oA,oc,nO,pX,yc,hle21,rfl,cW,jF,hi,tv,him,lT,j5⟩
      clear fQ
      refine aW cW (c:=T6) rfl ?_
      clear cW a3
      replace ay:=ay.mono (Hp.U6 hle21 jF.mx)
      replace hr1:=hr1.mono hle21
      replace hr2:=hr2.mono hle21
      have aBh:sn.length<=i:=by rw[tv];exact ak3 d L i
      have aBt:ou.length<=sn.length:=by rw[j5];exact aka d L sn
      have aBE:im.length=sn.length:=by rw[him];unfold mf;rw[List.length_map]
      refine U1 T5 T4 rfl rfl rfl (U1 azd T3 rfl rfl rfl (U0 rfl (af 0 2 rfl rfl (ag 2 rfl (Uv rfl rfl rfl rfl rfl rfl wE) (ag 3 rfl (Un rfl rfl rfl) (U3 rfl (ah [1,3,4,5,7,9,10,11,12,79] rfl (U2 ?_))))))))
      refine Ua azc azb rfl rfl rfl rfl (fun Mj=>?_) (fun Mj=>?_)
      ·refine Ub rfl (ah [1,3,4,5,7,9,10,11,12] rfl (U2 (U1 ahJ aza rfl rfl rfl (U7 TY 5 rfl rfl rfl (U1 ay9 TX rfl rfl rfl (U0 rfl (af 0 1 rfl rfl (U3 rfl ?_))))))))
       refine U2 (U1 TW TV rfl rfl rfl (U1 ay8 ahI rfl rfl rfl (U0 rfl (af 0 1 rfl rfl (U3 rfl (U2 (U7 ahH 6 rfl rfl rfl ?_)))))))
       refine Ui (fun aF ak aA=>∃(k:Nat) (kn:Bool),aF=sn.length-k/\Env 227 [(1,.pointer (some ⟨aI,0,none⟩)),(3,.slice A1 (dX d L (KS d)).length c1),(4,.slice A2 (bL d L (KS d)).length c2),(5,.int .i64 (nq:Int)),(7,qf),(9,.slice oA ou.length oc),(10,pX),(11,nO),(12,.int .i64 (i:Int)),(13,.bool kn),(14,.int .i64 (k:Int))] ak/\SH aA yc X [Rs.row bH pX im,Rs.row bW nO sn,Rs.row Uh qf pl,Rs.box aI 24 [.slice aV d.ae.length aU,.int .i64 d.loops]]/\k<=sn.length/\(kn=true<->∃j,j<k/\ga sn j=(ga (bL d L (KS d)) i))) rfl ?_ ?_
       ·intro ak ai
        refine⟨_,⟨0,false,rfl,ai.sub ⟨rfl,rfl,rfl,rfl,rfl,rfl,rfl,rfl,rfl,rfl,rfl,trivial⟩,jF.pick [0,1,2,3] [_,_,_,_] (by decide) ⟨rfl,rfl,rfl,rfl,trivial⟩,?gq,?gj⟩⟩
        case gq=>omega
        case gj=>(constructor;(intro h;cases h);(rintro⟨j,h,_⟩;omega))
       ·rintro m4 a4 Dc ⟨k,kn,rfl,kE,fB,hk,hkn⟩
        clear jF
        refine aW kE (c:=TU) rfl ?_
        clear kE a4
        refine U1 TT TS rfl rfl rfl (U1 ay7 TR rfl rfl rfl (U0 rfl (af 0 2 rfl rfl (ag 2 rfl (kL (C:=bW) (i:=1) rfl rfl rfl rfl rfl rfl fI fB rfl) (ag 3 rfl (Un rfl rfl rfl) (U3 rfl (ah [1,3,4,5,7,9,10,11,12,13,14,85] rfl (U2 ?_))))))))
        refine Ua ay6 ay5 rfl rfl rfl rfl (fun ar6=>?_) (fun ar6=>?_)
        ·refine Ub rfl (ah [1,3,4,5,7,9,10,11,12,13,14] rfl (U2 (U1 ahG ay4 rfl rfl rfl (U7 ay3 7 rfl rfl rfl (cM rfl (by kernel_rfl) fB 13 rfl ?_)))))
         clear fB
         refine aq 0 12 rfl (by kernel_rfl) (fun _=>run_move rfl rfl) ?_
         refine aq 1 11 rfl (by kernel_rfl) (fun _=>run_move rfl rfl) ?_
         refine abw (t:=89) rfl (fun afD=>?_) (fun afD=>?_)
         ·refine r9 (i:=2) (d:=90) 10 rfl (by kernel_rfl) (by kernel_rfl) (by kernel_rfl) ⟨_,_,_,rfl,rfl,rfl,rfl⟩ rfl rfl ?_
          refine r9 (i:=3) (d:=91) 9 rfl (by kernel_rfl) (by kernel_rfl) (by kernel_rfl) ⟨_,_,_,rfl,rfl,rfl,rfl⟩ rfl rfl ?_
          refine r9 (i:=4) (d:=92) 8 rfl (by kernel_rfl) (by kernel_rfl) (by kernel_rfl) ⟨_,_,_,rfl,rfl,rfl,rfl⟩ rfl rfl ?_
          refine r9 (i:=5) (d:=93) 7 rfl (by kernel_rfl) (by kernel_rfl) (by kernel_rfl) ⟨_,_,_,rfl,rfl,rfl,rfl⟩ rfl rfl ?_
          refine r9 (i:=6) (d:=94) 6 rfl (by kernel_rfl) (by kernel_rfl) (by kernel_rfl) ⟨_,_,_,rfl,rfl,rfl,rfl⟩ rfl rfl ?_
          refine r9 (i:=7) (d:=95) 5 rfl (by kernel_rfl) (by kernel_rfl) (by kernel_rfl) ⟨_,_,_,rfl,rfl,rfl,rfl⟩ rfl rfl ?_
          refine r9 (i:=8) (d:=96) 4 rfl (by kernel_rfl) (by kernel_rfl) (by kernel_rfl) ⟨_,_,_,rfl,rfl,rfl,rfl⟩ rfl rfl ?_
          refine r9 (i:=9) (d:=97) 3 rfl (by kernel_rfl) (by kernel_rfl) (by kernel_rfl) ⟨_,_,_,rfl,rfl,rfl,rfl⟩ rfl rfl ?_
          refine r9 (i:=10) (d:=98) 2 rfl (by kernel_rfl) (by kernel_rfl) (by kernel_rfl) ⟨_,_,_,rfl,rfl,rfl,rfl⟩ rfl rfl ?_
          refine aq 11 1 rfl (by kernel_rfl) (fun _=>aaN rfl rfl rfl) ?_
          refine aq 12 0 rfl (by kernel_rfl) (fun _=>run_assign rfl rfl) ?_
          refine cF (by kernel_rfl) (fun w32 jE=>?_)
          refine Ul (ah [1,3,4,5,7,9,10,11,12,13,14] rfl (U2 (U0 rfl (af 0 1 rfl rfl (ag 1 rfl (Ud rfl rfl rfl (by first|omega|(simp only[ls];omega))) ?_)))))
          refine af 2 1 rfl rfl (U3 rfl (Ut ?_))
          intro ak ai
          refine⟨_,?nA,⟨k+1,true,rfl,ai.sub ⟨rfl,rfl,rfl,rfl,rfl,rfl,rfl,rfl,rfl,rfl,rfl,trivial⟩,jE.pick [0,1,2,3] [_,_,_,_] (by decide) ⟨rfl,rfl,rfl,rfl,trivial⟩,?iy,?iw⟩⟩
          case iy=>omega
          case iw=>(constructor;(intro _;obtain⟨j,h1,h2⟩:=hkn.1 (by assumption);exact⟨j,by omega,h2⟩);(intro _;first|rfl|assumption))
          case nA=>omega
         ·refine aq 2 10 rfl (by kernel_rfl) (fun _=>run_move rfl rfl) ?_
          refine aq 3 9 rfl (by kernel_rfl) (fun _=>run_move rfl rfl) ?_
          refine au 4 8 rfl (by kernel_rfl) (fun _ _ _ aj Sz=>.inl (Ue (C:=bW) (i:=1) k rfl rfl rfl fI Sz.suf rfl (by first|rfl|omega) (by first|omega|(simp only[ls];omega)))) ?_
          refine au 5 7 rfl (by kernel_rfl) (fun _ _ _ aj Sz=>.inl (Uc (us:=[_,_]) rfl rfl ja rfl BL (Sz.suf.aev (i:=1) (e:=k) (j:=0) rfl (by first|omega|(simp only[ls];omega)) ⟨rfl,rfl,trivial⟩))) ?_
          refine aq 6 6 rfl (by kernel_rfl) (fun _=>run_move rfl rfl) ?_
          refine aq 7 5 rfl (by kernel_rfl) (fun _=>run_move rfl rfl) ?_
          refine au 8 4 rfl (by kernel_rfl) (fun _ _ _ aj Sz=>.inl (U9 (C:=bW) i rfl rfl rfl fI (by first|rfl|omega) (hr2.mono aj) (by first|omega|(simp only[ls];omega)))) ?_
          refine au 9 3 rfl (by kernel_rfl) (fun _ _ _ aj Sz=>.inl (Uc (us:=[_,_]) rfl rfl ja rfl BL ((hr2.mono aj).fV Sz.m (e:=i) (by first|omega|(simp only[ls];omega)) (j:=0) ⟨rfl,rfl,trivial⟩))) ?_
          refine aq 10 2 rfl (by kernel_rfl) (fun _=>ajV rfl rfl rfl ae0) ?_
          refine aq 11 1 rfl (by kernel_rfl) (fun _=>aaO rfl rfl rfl) ?_
          refine aq 12 0 rfl (by kernel_rfl) (fun _=>run_assign rfl rfl) ?_
          refine cF (by kernel_rfl) (fun UG S46=>?_)
          refine Ul (ah [1,3,4,5,7,9,10,11,12,13,14] rfl (U2 (U0 rfl (af 0 1 rfl rfl (ag 1 rfl (Ud rfl rfl rfl (by first|omega|(simp only[ls];omega))) ?_)))))
          refine af 2 1 rfl rfl (U3 rfl (Ut ?_))
          intro ak ai
          refine⟨_,?sK,⟨k+1,decide (((ga sn k).p)=((ga (bL d L (KS d)) i).p)/\((ga sn k).q)=((ga (bL d L (KS d)) i).q)),rfl,ai.sub ⟨rfl,rfl,rfl,rfl,rfl,rfl,rfl,rfl,rfl,rfl,rfl,trivial⟩,S46.pick [0,1,2,3] [_,_,_,_] (by decide) ⟨rfl,rfl,rfl,rfl,trivial⟩,?nk,?nj⟩⟩
          case nk=>omega
          case nj=>(rw[decide_eq_true_iff,<-KX];constructor;(intro h;exact⟨k,by omega,h⟩);(rintro⟨j,h1,h2⟩;by_cases e:j=k;(subst e;exact h2);exact absurd (hkn.2 ⟨j,by omega,h2⟩) (fun h9=>by rw[afD]at h9;cases h9)))
          case sK=>omega
        ·refine Uk rfl rfl (ah [1,3,4,5,7,9,10,11,12,13] rfl (U2 (U1 TQ TP rfl rfl rfl (U1 ay2 TN rfl rfl rfl (U0 rfl (af 0 1 rfl rfl (U3 rfl (ah [1,3,4,5,7,9,10,11,12,100] rfl ?_))))))))
         refine U2 ?_
         refine dH ay1 ay0 rfl rfl rfl rfl (fun Lr=>?_) (fun Lr=>?_)
         ·have hin:(ga (bL d L (KS d)) i)∈sn:=by rw[<-ads,<-show k=sn.length by omega,<-hkn];simp[Lr]
          refine Uk rfl rfl (ah [1,3,4,5,7,9,10,11,12] rfl (U2 (U0 rfl (af 0 1 rfl rfl (ag 1 rfl (Ud rfl rfl rfl (by first|omega|(simp only[ls];omega))) ?_)))))
          refine af 2 1 rfl rfl (U3 rfl (Ut ?_))
          intro ak ai
          refine⟨_,?wT,⟨i+1,sn,im,ou,oA,oc,_,_,_,(hle21),rfl,ai.sub ⟨rfl,rfl,rfl,rfl,rfl,rfl,rfl,rfl,rfl,trivial⟩,fB.pick [0,1,2,3] [_,_,_,_] (by decide) ⟨rfl,rfl,rfl,rfl,trivial⟩,?pN,?pM,?rZ,?Bt,?Ky⟩⟩
          case pN=>omega
          case pM=>(rw[snF,<-tv,if_pos hin])
          case rZ=>exact him
          case Bt=>exact lT
          case Ky=>exact j5
          case wT=>omega
         ·have hin:(ga (bL d L (KS d)) i)∉sn:=by rw[<-ads,<-show k=sn.length by omega,<-hkn];simp[Lr]
          refine Ub rfl (ah [1,3,4,5,7,9,10,11,12] rfl (U2 (U1 ayZ TM rfl rfl rfl (U0 rfl (af 0 3 rfl rfl (ag 3 rfl (U9 (C:=bW) i rfl rfl rfl fI (by first|rfl|omega) hr2 (by first|omega|(simp only[ls];omega))) ?_))))))
          refine ag 4 rfl (Uc (us:=[_,_]) rfl rfl ja rfl BL (hr2.fV fB.m (e:=i) (by first|omega|(simp only[ls];omega)) (j:=0) ⟨rfl,rfl,trivial⟩)) ?_
          refine ar 5 6 rfl rfl rfl (Uf (C:=bW) (l:=[_,_]) rfl rfl rfl rfl fI rfl rfl rfl rfl fB ?_)
          intro bq w45 vU;clear fB
          refine ar 6 7 rfl rfl rfl (Ux (C:=bW) (i:=2) (q:=0) (⟨(ga (bL d L (KS d)) i).p,(ga (bL d L (KS d)) i).q⟩:Pq) rfl rfl rfl rfl rfl rfl rfl rfl fI vU rfl rfl rfl (by show(_+1)*16<=_;first|omega|(simp only[ls];omega)) ?_)
          intro Gb w46 qF;clear vU
          have Em:=qF.pick [1,2,3,4] [_,_,_,_] (by decide) ⟨rfl,rfl,rfl,rfl,trivial⟩;clear qF
          refine af 7 1 rfl rfl (U3 rfl (ah [1,3,4,5,7,9,10,11,12] rfl (U2 (U1 ayY TL rfl rfl rfl (U0 rfl (af 0 1 rfl rfl (U3 rfl (U2 ?_))))))))
          refine U1 ayX TK rfl rfl rfl (U0 rfl (af 0 1 rfl rfl (U3 rfl (U2 (U1 TJ TI rfl rfl rfl (U1 ayW ahF rfl rfl rfl (U0 rfl (af 0 1 rfl rfl ?_))))))))
          refine U3 rfl (U2 (U7 ahE 8 rfl rfl rfl ?_))
          have rO:=Em.alA cS;clear Em
          have vT:=rO.gL (ck 130);clear rO
          refine Ui (fun aF ak aA=>∃(k:Nat) (vs:List eO) (tb:List (List Bool)) (td:Int) (dO:Value) (Ae:Hp),yc.le Ae/\aF=allA d L-k/\Env 227 [(1,.pointer (some ⟨aI,0,none⟩)),(3,.slice A1 (dX d L (KS d)).length c1),(4,.slice A2 (bL d L (KS d)).length c2),(5,.int .i64 (nq:Int)),(7,qf),(9,.slice oA ou.length oc),(10,pX),(11,Gb),(12,.int .i64 (i:Int)),(15,dO),(16,.int .i64 td),(17,.int .i64 (k:Int))] ak/\SH aA Ae X [Rs.row (ck 130) dO vs,Rs.tab cS vs tb,Rs.row bH pX im,Rs.row bW Gb (sn++[(⟨(ga (bL d L (KS d)) i).p,(ga (bL d L (KS d)) i).q⟩:Pq)]),Rs.row Uh qf pl,Rs.box aI 24 [.slice aV d.ae.length aU,.int .i64 d.loops]]/\k<=allA d L/\tb=kv d L (ga (bL d L (KS d)) i) k/\vs.length=tb.length/\td=(tb.length:Int)) rfl ?_ ?_
          ·intro ak ai
           refine⟨_,⟨0,_,_,0,_,_,Hp.le_refl _,rfl,ai.sub ⟨rfl,rfl,rfl,rfl,rfl,rfl,rfl,rfl,rfl,rfl,rfl,rfl,trivial⟩,vT.pick [0,1,2,3,4,5] [_,_,_,_,_,_] (by decide) ⟨rfl,rfl,rfl,rfl,rfl,rfl,trivial⟩,?pL,?pK,?rY,?Kw⟩⟩
           case pL=>omega
           case pK=>(unfold kv s8;rw[List.take_zero];rfl)
           case rY=>rfl
           case Kw=>rfl
          ·rintro m5 a5 UF ⟨k,vs,tb,td,dO,Ae,jc,rfl,ql,vS,hk,vg,hvl,Dx⟩
           clear vT
           refine aW ql (c:=TH) rfl ?_
           clear ql a5
           replace ay:=ay.mono (Hp.U6 jc vS.mx)
           replace hr1:=hr1.mono jc
           replace hr2:=hr2.mono jc
           replace lT:=lT.mono jc
           have aBe:tb.length<=k:=by rw[vg];exact ajQ _ hk
           refine U1 TG TF rfl rfl rfl (U1 ayV TE rfl rfl rfl (U0 rfl (af 0 2 rfl rfl (ag 2 rfl (Uv rfl rfl rfl rfl rfl rfl wE) (ag 3 rfl (Un rfl rfl rfl) (U3 rfl (ah [1,3,4,5,7,9,10,11,12,15,16,17,111] rfl (U2 ?_))))))))
           refine Ua ayU ayT rfl rfl rfl rfl (fun ap1=>?_) (fun ap1=>?_)
           ·refine Ub rfl (ah [1,3,4,5,7,9,10,11,12,15,16,17] rfl (U2 (U1 ahD ayS rfl rfl rfl (U7 TD 9 rfl rfl rfl (U1 TC TB rfl rfl rfl (U1 ayR TA rfl rfl rfl ?_))))))
            obtain⟨fp,hm2⟩:=KY (show k<allA d L by omega)
            obtain⟨hi1,hi2⟩:=Bc (show k<allA d L by omega)
            have hpw:=BN hn hL2 (ga (allM d L (KS d)) k).1
            replace hi1:(ga (allM d L (KS d)) k).1<2^d.ae.length:=hi1
            obtain⟨sM,hsM⟩:∃x:Nat,x=(ga (allM d L (KS d)) k).1:=⟨_,rfl⟩
            obtain⟨mM,hmM⟩:∃x:Nat,x=(ga (allM d L (KS d)) k).2:=⟨_,rfl⟩
            rw[<-hsM]at fp hi1 hi2 hpw
            rw[<-hmM]at hm2 hi2
            refine cM rfl (by kernel_rfl) vS 9 rfl ?_
            clear vS
            refine aq 0 8 rfl (by kernel_rfl) (fun _=>run_move rfl rfl) ?_
            refine aq 1 7 rfl (by kernel_rfl) (fun _=>run_move rfl rfl) ?_
            refine au 2 6 rfl (by kernel_rfl) (fun _ _ _ aj Sz=>.inl (U9 (C:=bW) k rfl rfl rfl fI (by first|rfl|omega) (hr2.mono aj) (by first|omega|(simp only[ls];omega)))) ?_
            refine au 3 5 rfl (by kernel_rfl) (fun _ _ _ aj Sz=>.inl (Uc (us:=[_,_]) rfl rfl ja rfl BL ((hr2.mono aj).fV Sz.m (e:=k) (by first|omega|(simp only[ls];omega)) (j:=0) ⟨rfl,rfl,trivial⟩))) ?_
            refine aq 4 4 rfl (by kernel_rfl) (fun _=>run_move rfl rfl) ?_
            refine aq 5 3 rfl (by kernel_rfl) (fun _=>run_move rfl rfl) ?_
            refine au 6 2 rfl (by kernel_rfl) (fun _ _ _ aj Sz=>.inl (U9 (C:=bW) i rfl rfl rfl fI (by first|rfl|omega) (hr2.mono aj) (by first|omega|(simp only[ls];omega)))) ?_
            refine au 7 1 rfl (by kernel_rfl) (fun _ _ _ aj Sz=>.inl (Uc (us:=[_,_]) rfl rfl ja rfl BL ((hr2.mono aj).fV Sz.m (e:=i) (by first|omega|(simp only[ls];omega)) (j:=0) ⟨rfl,rfl,trivial⟩))) ?_
            refine aq 8 0 rfl (by kernel_rfl) (fun _=>ajU rfl rfl rfl ae0) ?_
            refine cF (by kernel_rfl) (fun w57 tX=>?_)
            refine ah [1,3,4,5,7,9,10,11,12,15,16,17,122] rfl (U2 ?_)
            refine Ua ayQ ayP rfl rfl rfl rfl (fun Lm=>?_) (fun Lm=>?_)
            ·refine Uk rfl rfl (ah [1,3,4,5,7,9,10,11,12,15,16,17] rfl (U2 (U0 rfl (af 0 1 rfl rfl (ag 1 rfl (Ud rfl rfl rfl (by first|omega|(simp only[ls];omega))) ?_)))))
             refine af 2 1 rfl rfl (U3 rfl (Ut ?_))
             intro ak ai
             refine⟨_,?wQ,⟨k+1,_,_,td,_,_,(jc),rfl,ai.sub ⟨rfl,rfl,rfl,rfl,rfl,rfl,rfl,rfl,rfl,rfl,rfl,rfl,trivial⟩,tX.pick [0,1,2,3,4,5] [_,_,_,_,_,_] (by decide) ⟨rfl,rfl,rfl,rfl,rfl,rfl,trivial⟩,?wy,?wu,?Kv,?Ku⟩⟩
             case wy=>omega
             case wu=>(rw[vg];exact(ak5 _ (by omega) (fun e=>Lm (KX.1 e))).symm)
             case Kv=>exact hvl
             case Ku=>exact Dx
             case wQ=>omega
            ·refine Ub rfl (ah [1,3,4,5,7,9,10,11,12,15,16,17] rfl (U2 (U1 ayO Tz rfl rfl rfl ?_)))
             have hsame:ga (bL d L (KS d)) k=(ga (bL d L (KS d)) i):=KX.2 (by simpa using Lm)
             refine U0 rfl (af 0 1 rfl rfl (ag 1 rfl (Ud rfl rfl rfl (by first|omega|(simp only[ls];omega))) ?_))
             refine af 2 1 rfl rfl (U3 rfl (ah [1,3,4,5,7,9,10,11,12,15,16,17] rfl (U2 (U1 ayN Ty rfl rfl rfl (U0 rfl (af 0 1 rfl rfl (ag 1 rfl (Uv rfl rfl rfl rfl rfl rfl wE) (ar 2 3 rfl rfl rfl (rJ (C:=cS) ((dX d L (KS d)).length) rfl rfl rfl rfl rfl jK (by first|rfl|omega) (by show _*1<=_;first|omega|(simp only[ls];omega)) tX ?_)))))))))
             intro vr5 w58 ik;clear tX
             refine af 3 1 rfl rfl (U3 rfl (ah [1,3,4,5,7,9,10,11,12,15,16,17,18] rfl (U2 (U1 ayM Tx rfl rfl rfl (cM rfl (by kernel_rfl) ik 7 rfl ?_)))))
             clear ik
             refine au 0 6 rfl (by kernel_rfl) (fun _ _ _ aj Sz=>.inl (Uc (us:=[_,_]) rfl rfl bg rfl dM (Sz.suf.aY (i:=6) rfl ⟨rfl,rfl,trivial⟩))) ?_
             refine aq 1 5 rfl (by kernel_rfl) (fun _=>run_move rfl rfl) ?_
             refine aq 2 4 rfl (by kernel_rfl) (fun _=>run_move rfl rfl) ?_
             refine au 3 3 rfl (by kernel_rfl) (fun _ _ _ aj Sz=>.inl (U9 (C:=dW) k rfl rfl rfl lH (by first|rfl|omega) (hr1.mono aj) (by first|omega|(simp only[ls];omega)))) ?_
             refine au 4 2 rfl (by kernel_rfl) (fun _ _ _ aj Sz=>.inl (Uc (us:=[_,_]) rfl rfl mC rfl aoU ((hr1.mono aj).fV Sz.m (e:=k) (by first|omega|(simp only[ls];omega)) (j:=0) ⟨rfl,rfl,trivial⟩))) ?_
             refine dv (i:=5) 1 rfl (by kernel_rfl) rfl rfl (fun UE kO=>?_)
             refine(dt rfl rfl rfl rfl rfl rfl rfl asI kO (aqB d (x:=((ga (dX d L (KS d)) k).p)) (y:=((ga (dX d L (KS d)) k).q)) sM mM fp hm2 (ay.mono kO.Uq) hn hab hL hL2 (by omega) (by omega) kO.aR) ?_)
             intro aAL w66 M51 BX Ac ap3;clear kO
             replace ay:=ay.mono (Hp.U6 BX Ac.mx)
             replace hr1:=hr1.mono BX
             replace hr2:=hr2.mono BX
             replace lT:=lT.mono BX
             obtain⟨A3,c3,rfl,hr3⟩:=ap3
             have hdl:=acZ d L sM mM d.ae.length
             refine bU.turn (by kernel_rfl) Ac ?_;clear Ac
             change WA _ _ _ _ _ _ _ _ _ _ _ _ [_,_,_,_,_,_,_]
             refine aq 6 0 rfl (by kernel_rfl) (fun _=>run_assign rfl rfl) ?_
             refine cF (by kernel_rfl) (fun w68 x6=>?_)
             refine ah [1,3,4,5,7,9,10,11,12,15,16,17,18,19] rfl (U2 (U1 Tw ayL rfl rfl rfl (U1 ayK ahC rfl rfl rfl (U0 rfl (af 0 1 rfl rfl (U3 rfl (U2 (U7 ahB 10 rfl rfl rfl ?_))))))))
             refine Ui (fun aF ak aA=>∃(j:Nat) (row:List Bool) (cH:Value),aF=(fq d L sM mM d.ae.length).length-j/\Env 227 [(1,.pointer (some ⟨aI,0,none⟩)),(3,.slice A1 (dX d L (KS d)).length c1),(4,.slice A2 (bL d L (KS d)).length c2),(5,.int .i64 (nq:Int)),(7,qf),(9,.slice oA ou.length oc),(10,pX),(11,Gb),(12,.int .i64 (i:Int)),(15,dO),(16,.int .i64 (td+1)),(17,.int .i64 (k:Int)),(18,cH),(19,.slice A3 (fq d L sM mM d.ae.length).length c3),(20,.int .i64 (j:Int))] ak/\SH aA M51 X [Rs.row cS cH row,Rs.row (ck 130) dO vs,Rs.tab cS vs tb,Rs.row bH pX im,Rs.row bW Gb (sn++[(⟨(ga (bL d L (KS d)) i).p,(ga (bL d L (KS d)) i).q⟩:Pq)]),Rs.row Uh qf pl,Rs.box aI 24 [.slice aV d.ae.length aU,.int .i64 d.loops]]/\j<=(fq d L sM mM d.ae.length).length/\sU (allA d L) (((fq d L sM mM d.ae.length).take j).map (fun μ:Pq=>offK d L μ.p.toNat+μ.q.toNat)) row) rfl ?_ ?_
             ·intro ak ai
              refine⟨_,⟨0,_,_,rfl,ai.sub ⟨rfl,rfl,rfl,rfl,rfl,rfl,rfl,rfl,rfl,rfl,rfl,rfl,rfl,rfl,rfl,trivial⟩,x6.pick [0,1,2,3,4,5,6] [_,_,_,_,_,_,_] (by decide) ⟨rfl,rfl,rfl,rfl,rfl,rfl,rfl,trivial⟩,?Br,?Bp⟩⟩
              case Br=>omega
              case Bp=>(rw[List.take_zero];exact(by have:=sU.mb (allA d L);rw[show(dX d L (KS d)).length=allA d L from zL];exact this))
             ·rintro m6 a6 w69 ⟨j,row,cH,rfl,vr,fW,hj,hrow⟩
              clear x6
              refine aW vr (c:=Tv) rfl ?_
              clear vr a6
              have aBj:=hrow.1
              refine U1 Tt Tq rfl rfl rfl (U1 ayJ Tp rfl rfl rfl (U0 rfl (af 0 2 rfl rfl (ag 2 rfl (Uv rfl rfl rfl rfl rfl rfl wE) (ag 3 rfl (Un rfl rfl rfl) (U3 rfl (ah [1,3,4,5,7,9,10,11,12,15,16,17,18,19,20,137] rfl (U2 ?_))))))))
              refine Ua ayI ayH rfl rfl rfl rfl (fun apW=>?_) (fun apW=>?_)
              ·refine Ub rfl (ah [1,3,4,5,7,9,10,11,12,15,16,17,18,19,20] rfl (U2 (U1 ahA ayG rfl rfl rfl (U7 Tn 11 rfl rfl rfl (U1 ayF ayE rfl rfl rfl ?_)))))
               obtain⟨t9,m9,hte,ht1,ht2⟩:=aol (d:=d) (L:=L) (s:=sM) (mn:=mM) hi1 (nX (show j<(fq d L sM mM d.ae.length).length by omega))
               have hx1:(ga (fq d L sM mM d.ae.length) j).p=(t9:Int):=by rw[hte]
               have hx2:(ga (fq d L sM mM d.ae.length) j).q=(m9:Int):=by rw[hte]
               have afp:=hPl.at_ ht1 ht2
               have hof:offK d L t9+m9<allA d L:=by have:=rH d L ht1;unfold allA;omega
               have eN:(ga (fq d L sM mM d.ae.length) j).p*(nq:Int)=((t9*nq:Nat):Int):=by rw[hx1,Int.natCast_mul]
               have hmq:m9<nq:=by have e1:=Be d L ht1 ht2;have:=Vh (offK d L t9+m9) hof;rw[e1]at this;exact this
               replace ht1:t9+1<=2^d.ae.length:=ht1
               have hbd:=Nat.mul_le_mul_right nq ht1
               rw[Nat.add_mul,Nat.one_mul,Nat.mul_comm (2^d.ae.length)]at hbd
               have arK:((ga (fq d L sM mM d.ae.length) j).p*(nq:Int)).toNat+(ga (fq d L sM mM d.ae.length) j).q.toNat=t9*nq+m9:=by omega
               rw[<-arK]at afp
               refine cM rfl (by kernel_rfl) fW 17 rfl ?_
               clear fW
               refine aq 0 16 rfl (by kernel_rfl) (fun _=>run_move rfl rfl) ?_
               refine aq 1 15 rfl (by kernel_rfl) (fun _=>run_move rfl rfl) ?_
               refine aq 2 14 rfl (by kernel_rfl) (fun _=>run_move rfl rfl) ?_
               refine au 3 13 rfl (by kernel_rfl) (fun _ _ _ aj Sz=>.inl (U9 (C:=dW) j rfl rfl rfl lH (by first|rfl|omega) (hr3.mono aj) (by first|omega|(simp only[ls];omega)))) ?_
               refine aq 4 12 rfl (by kernel_rfl) (fun _=>U4 rfl rfl mC rfl (aL) (aJ)) ?_
               refine au 5 11 rfl (by kernel_rfl) (fun _ _ _ aj Sz=>.inl (U5 rfl rfl aw rfl ((hr3.mono aj).cell Sz.m (i:=j) (by first|omega|(simp only[ls];omega)) 0 rfl rfl))) ?_
               refine aq 6 10 rfl (by kernel_rfl) (fun _=>run_move rfl rfl) ?_
               refine aq 7 9 rfl (by kernel_rfl) (fun _=>pj rfl rfl rfl (by first|omega|(simp only[ls];omega))) ?_
               refine aq 8 8 rfl (by kernel_rfl) (fun _=>run_move rfl rfl) ?_
               refine aq 9 7 rfl (by kernel_rfl) (fun _=>run_move rfl rfl) ?_
               refine au 10 6 rfl (by kernel_rfl) (fun _ _ _ aj Sz=>.inl (U9 (C:=dW) j rfl rfl rfl lH (by first|rfl|omega) (hr3.mono aj) (by first|omega|(simp only[ls];omega)))) ?_
               refine aq 11 5 rfl (by kernel_rfl) (fun _=>U4 rfl rfl mC rfl (aL) (aJ)) ?_
               refine au 12 4 rfl (by kernel_rfl) (fun _ _ _ aj Sz=>.inl (U5 rfl rfl aw rfl ((hr3.mono aj).cell Sz.m (i:=j) (by first|omega|(simp only[ls];omega)) 1 rfl rfl))) ?_
               refine aq 13 3 rfl (by kernel_rfl) (fun _=>Ud rfl rfl rfl (by first|omega|(simp only[ls];omega))) ?_
               refine au 14 2 rfl (by kernel_rfl) (fun _ _ _ aj Sz=>.inl (Ue (C:=Uh) (i:=5) ((((ga (fq d L sM mM d.ae.length) j).p)*(nq:Int)).toNat+((ga (fq d L sM mM d.ae.length) j).q).toNat) rfl rfl rfl aS Sz.suf rfl (by first|rfl|omega) (by first|omega|(simp only[ls];omega)))) ?_
               refine au 15 1 rfl (by kernel_rfl) (fun _ _ _ aj Sz=>.inl (U5 rfl rfl aw rfl (Sz.suf.cK (i:=5) (e:=(((ga (fq d L sM mM d.ae.length) j).p)*(nq:Int)).toNat+((ga (fq d L sM mM d.ae.length) j).q).toNat) (j:=0) rfl (by first|omega|(simp only[ls];omega)) rfl rfl))) ?_
               refine aq 16 0 rfl (by kernel_rfl) (fun _=>run_assign rfl rfl) ?_
               refine cF (by kernel_rfl) (fun w87 Ef=>?_)
               refine ah [1,3,4,5,7,9,10,11,12,15,16,17,18,19,20,21] rfl (U2 (eZ 21 (.int .i64 ((offK d L t9+m9:Nat):Int)) rfl (int_eq afp) (U0 rfl (af 0 4 rfl rfl (ag 4 rfl (Ue (C:=cS) (i:=0) (offK d L t9+m9) rfl rfl rfl jK Ef rfl (by first|rfl|omega) (by first|omega|(simp only[ls];omega))) ?_)))))
               refine ag 5 rfl (U5 rfl rfl gD rfl (Ef.cK (i:=0) (e:=offK d L t9+m9) (j:=0) rfl (by first|omega|(simp only[ls];omega)) rfl rfl)) ?_
               refine ag 6 rfl (mX rfl rfl) (ag 7 rfl (Ue (C:=cS) (i:=0) (offK d L t9+m9) rfl rfl rfl jK Ef rfl (by first|rfl|omega) (by first|omega|(simp only[ls];omega))) ?_)
               refine ar 8 9 rfl rfl rfl (ij (C:=cS) (i:=0) (e:=offK d L t9+m9) (j:=0) (us:=[_]) (H':=[_,_,_,_,_,_,_]) (!(ga row (offK d L t9+m9))) rfl rfl Ef rfl (by first|omega|(simp only[ls];omega)) rfl rfl rfl xH rfl rfl rfl rfl ?_)
               intro w88 S93;clear Ef
               refine U3 rfl (Ul (ah [1,3,4,5,7,9,10,11,12,15,16,17,18,19,20] rfl (U2 (U0 rfl (af 0 1 rfl rfl (ag 1 rfl (Ud rfl rfl rfl (by first|omega|(simp only[ls];omega))) ?_))))))
               refine af 2 1 rfl rfl (U3 rfl (Ut ?_))
               intro ak ai
               refine⟨_,?La,⟨j+1,row.set (offK d L t9+m9) (!(ga row (offK d L t9+m9))),_,rfl,ai.sub ⟨rfl,rfl,rfl,rfl,rfl,rfl,rfl,rfl,rfl,rfl,rfl,rfl,rfl,rfl,rfl,trivial⟩,S93.pick [0,1,2,3,4,5,6] [_,_,_,_,_,_,_] (by decide) ⟨rfl,rfl,rfl,rfl,rfl,rfl,rfl,trivial⟩,?Bo,?Bn⟩⟩
               case Bo=>omega
               case Bn=>(rw[kJ _ j (by omega),List.map_append];rw[show(List.map (fun μ:Pq=>offK d L μ.p.toNat+μ.q.toNat) [ga (fq d L sM mM d.ae.length) j])=[offK d L t9+m9] by rw[hte];rfl];exact hrow.go (by omega) rfl)
               case La=>omega
              ·refine Uk rfl rfl (ah [1,3,4,5,7,9,10,11,12,15,16,17,18] rfl (U2 ?_))
               have apk:row=mI (allA d L) (l8 d L (ga (allM d L (KS d)) k).1 (ga (allM d L (KS d)) k).2):=by rw[akW,<-hsM,<-hmM,hrow.end_,show j=(fq d L sM mM d.ae.length).length by omega,List.take_length]
               refine U0 rfl (af 0 2 rfl rfl ?_)
               obtain⟨A4,c4,rfl,_⟩:=fW.sl (i:=0) rfl
               have S94:=fW.akX (C:=cS) (zs:=row) (i:=2) (q:=0) (H':=[_,_,_,_,_,_,_]) rfl rfl (by decide) rfl;clear fW
               refine ar 2 3 rfl rfl rfl (Uf (C:=(ck 130)) (l:=[_]) rfl rfl rfl rfl pT rfl rfl rfl rfl S94 ?_)
               intro dD w89 S95;clear S94
               refine ar 3 4 rfl rfl rfl (Ux (C:=(ck 130)) (i:=2) (q:=0) (⟨A4,row.length,c4⟩:eO) rfl rfl rfl rfl rfl rfl rfl rfl pT S95 rfl rfl rfl (by show(_+1)*24<=_;first|omega|(simp only[ls];omega)) ?_)
               intro aAQ w90 Ee;clear S95
               have S97:=Ee.pick [1,2,3,4,5,6,7] [_,_,_,_,_,_,_] (by decide) ⟨rfl,rfl,rfl,rfl,rfl,rfl,rfl,trivial⟩;clear Ee
               refine af 4 1 rfl rfl (U3 rfl (Ul (ah [1,3,4,5,7,9,10,11,12,15,16,17] rfl (U2 (U0 rfl (af 0 1 rfl rfl (ag 1 rfl (Ud rfl rfl rfl (by first|omega|(simp only[ls];omega))) ?_)))))))
               refine af 2 1 rfl rfl (U3 rfl (Ut ?_))
               intro ak ai
               refine⟨_,?K9,⟨k+1,_,_,td+1,_,_,(jc.trans BX),rfl,ai.sub ⟨rfl,rfl,rfl,rfl,rfl,rfl,rfl,rfl,rfl,rfl,rfl,rfl,trivial⟩,S97.pick [1,2,3,4,5,6] [_,_,_,_,_,_] (by decide) ⟨rfl,rfl,rfl,rfl,rfl,rfl,trivial⟩,?Ks,?Kr,?Kq,?Ko⟩⟩
               case Ks=>omega
               case Kr=>(rw[ak6 _ (show k<allA d L by omega) hsame,<-vg,<-apk])
               case Kq=>(simp only[List.length_append,List.length_singleton];omega)
               case Ko=>(simp only[List.length_append,List.length_singleton];omega)
               case K9=>omega
           ·refine Uk rfl rfl (ah [1,3,4,5,7,9,10,11,12,15,16] rfl (U2 (U1 ayD ayC rfl rfl rfl ?_)))
            have hke:k=allA d L:=by omega
            rw[hke]at vg
            obtain⟨afn,afm⟩:=ajR (d:=d) (L:=L) (ga (bL d L (KS d)) i)
            rw[<-vg]at afn afm
            have aro:∀x,x<tb.length->(ga tb x).length=allA d L:=by rw[vg];exact aiY _ _
            have Ed:=vS.pick [0,1,2,3,4,5] [_,_,_,_,_,_] (by decide) ⟨rfl,rfl,rfl,rfl,rfl,rfl,trivial⟩;clear vS
            refine ajy [_,_] [_,_,_,_] rfl (by kernel_rfl) Ed 17 rfl ?_
            clear Ed
            change WA _ _ _ _ _ _ _ _ _ _ _ _ [_,_,_,_,_,_]
            refine aq 0 16 rfl (by kernel_rfl) (fun _=>run_move rfl rfl) ?_
            refine aq 1 15 rfl (by kernel_rfl) (fun _=>run_move rfl rfl) ?_
            refine aq 2 14 rfl (by kernel_rfl) (fun _=>run_move rfl rfl) ?_
            refine au 3 13 rfl (by kernel_rfl) (fun _ _ _ aj Sz=>.inl (U9 (C:=bW) i rfl rfl rfl fI (by first|rfl|omega) (hr2.mono aj) (by first|omega|(simp only[ls];omega)))) ?_
            refine au 4 12 rfl (by kernel_rfl) (fun _ _ _ aj Sz=>.inl (rN (e:=0) (k:=1) rfl rfl rfl ja dw (by first|rfl|omega) (by first|omega|(simp only[ls];omega)))) ?_
            refine au 5 11 rfl (by kernel_rfl) (fun _ _ _ aj Sz=>.inl (U5 rfl rfl aw rfl ((hr2.mono aj).cell Sz.m (i:=i) (by first|omega|(simp only[ls];omega)) 0 rfl rfl))) ?_
            refine aq 6 10 rfl (by kernel_rfl) (fun _=>run_move rfl rfl) ?_
            refine aq 7 9 rfl (by kernel_rfl) (fun _=>run_move rfl rfl) ?_
            refine au 8 8 rfl (by kernel_rfl) (fun _ _ _ aj Sz=>.inl (U9 (C:=bW) i rfl rfl rfl fI (by first|rfl|omega) (hr2.mono aj) (by first|omega|(simp only[ls];omega)))) ?_
            refine au 9 7 rfl (by kernel_rfl) (fun _ _ _ aj Sz=>.inl (rN (e:=1) (k:=1) rfl rfl rfl ja dw (by first|rfl|omega) (by first|omega|(simp only[ls];omega)))) ?_
            refine au 10 6 rfl (by kernel_rfl) (fun _ _ _ aj Sz=>.inl (U5 rfl rfl aw rfl ((hr2.mono aj).cell Sz.m (i:=i) (by first|omega|(simp only[ls];omega)) 1 rfl rfl))) ?_
            refine aq 11 5 rfl (by kernel_rfl) (fun _=>run_move rfl rfl) ?_
            refine dv (i:=12) 4 rfl (by kernel_rfl) rfl rfl (fun aAI zq=>?_)
            have C3:=zq.pick [0,1,2,3,4,5] [_,_,_,_,_,_] (by decide) ⟨rfl,rfl,rfl,rfl,rfl,rfl,trivial⟩;clear zq
            have xD:SH _ _ _ (Rs.bP [_,_]::[_,_,_,_]):=SH.nJ (A:=[_,_]) (B:=[_,_,_,_]) C3;clear C3
            have zo:SH _ _ _ [_,_,_,_,_]:=xD.less (i:=0) rfl
            have Bx:=aj3 vs tb (N:=allA d L) aro (by omega) (by omega) (xD.ng (i:=0) rfl);clear zo
            refine(r8 (i:=0) rfl rfl rfl rfl rfl rfl rfl asH xD rfl Bx ?_)
            intro azE aAH M83 azH azY dC o8;clear xD
            obtain⟨anx,Gw,rB⟩:=o8
            rw[Gw]at dC
            clear Gw
            subst anx
            obtain⟨ys1,rfl⟩:=rB
            replace dC:SH _ _ _ (Rs.bP [_,_]::[_,_,_,_]):=dC
            have xC:SH _ _ _ [_,_,_,_,_,_]:=SH.oo (A:=[_,_]) (B:=[_,_,_,_]) dC;clear dC
            refine bU.grow [_,_] (Hp.le_refl _) xC ?_;clear xC
            change WA _ _ _ _ _ _ _ _ _ _ _ _ [_,_,_,_,_,_]
            refine au 13 3 rfl (by kernel_rfl) (fun _ _ _ aj Sz=>.inl (run_build (l:=[_,_,_]) rfl rfl zb rfl rfl)) ?_
            refine dv (i:=14) 2 rfl (by kernel_rfl) rfl rfl (fun aAG C0=>?_)
            refine(Uf (C:=bH) (l:=[_,_,_]) rfl rfl rfl rfl eP rfl rfl rfl rfl C0 ?_)
            intro jR aAF CZ;clear C0
            refine bU.grow [_,_,_] (Hp.le_refl _) CZ ?_;clear CZ
            change WA _ _ _ _ _ _ _ _ _ _ _ _ [_,_,_,_,_,_,_]
            refine dv (i:=15) 1 rfl (by kernel_rfl) rfl rfl (fun aqU CY=>?_)
            refine(Ux (C:=bH) (i:=3) (q:=0) (⟨(ga (bL d L (KS d)) i).p,(ga (bL d L (KS d)) i).q,((rkD tb.length tb:Nat):Int)⟩:T2) rfl rfl rfl rfl rfl rfl rfl rfl eP CY rfl rfl rfl (by show(_+1)*24<=_;first|omega|(simp only[ls];omega)) ?_)
            intro azG aAD CX;clear CY
            have uV:=CX.pick [1,2,3,4,5,6] [_,_,_,_,_,_] (by decide) ⟨rfl,rfl,rfl,rfl,rfl,rfl,trivial⟩;clear CX
            refine bU.turn (by kernel_rfl) uV ?_;clear uV
            change WA _ _ _ _ _ _ _ _ _ _ _ _ [_,_,_,_,_,_]
            refine aq 16 0 rfl (by kernel_rfl) (fun _=>run_assign rfl rfl) ?_
            refine cF (by kernel_rfl) (fun LF CW=>?_)
            refine ah [1,3,4,5,7,9,10,11,12,16] rfl (U2 (cM rfl (by kernel_rfl) CW 14 rfl ?_))
            clear CW
            refine aq 0 13 rfl (by kernel_rfl) (fun _=>run_move rfl rfl) ?_
            refine aq 1 12 rfl (by kernel_rfl) (fun _=>run_move rfl rfl) ?_
            refine aq 2 11 rfl (by kernel_rfl) (fun _=>run_move rfl rfl) ?_
            refine au 3 10 rfl (by kernel_rfl) (fun _ _ _ aj Sz=>.inl (U9 (C:=bW) i rfl rfl rfl fI (by first|rfl|omega) (hr2.mono aj) (by first|omega|(simp only[ls];omega)))) ?_
            refine au 4 9 rfl (by kernel_rfl) (fun _ _ _ aj Sz=>.inl (rN (e:=0) (k:=1) rfl rfl rfl ja dw (by first|rfl|omega) (by first|omega|(simp only[ls];omega)))) ?_
            refine au 5 8 rfl (by kernel_rfl) (fun _ _ _ aj Sz=>.inl (U5 rfl rfl aw rfl ((hr2.mono aj).cell Sz.m (i:=i) (by first|omega|(simp only[ls];omega)) 0 rfl rfl))) ?_
            refine aq 6 7 rfl (by kernel_rfl) (fun _=>run_move rfl rfl) ?_
            refine aq 7 6 rfl (by kernel_rfl) (fun _=>run_move rfl rfl) ?_
            refine au 8 5 rfl (by kernel_rfl) (fun _ _ _ aj Sz=>.inl (U9 (C:=bW) i rfl rfl rfl fI (by first|rfl|omega) (hr2.mono aj) (by first|omega|(simp only[ls];omega)))) ?_
            refine au 9 4 rfl (by kernel_rfl) (fun _ _ _ aj Sz=>.inl (rN (e:=1) (k:=1) rfl rfl rfl ja dw (by first|rfl|omega) (by first|omega|(simp only[ls];omega)))) ?_
            refine au 10 3 rfl (by kernel_rfl) (fun _ _ _ aj Sz=>.inl (U5 rfl rfl aw rfl ((hr2.mono aj).cell Sz.m (i:=i) (by first|omega|(simp only[ls];omega)) 1 rfl rfl))) ?_
            refine aq 11 2 rfl (by kernel_rfl) (fun _=>run_move rfl rfl) ?_
            refine dv (i:=12) 1 rfl (by kernel_rfl) rfl rfl (fun aqS oW=>?_)
            refine(dt rfl rfl rfl rfl rfl rfl rfl My oW (KO ou ((ga (bL d L (KS d)) i).p) ((ga (bL d L (KS d)) i).q) td lT ((by omega)) oW.aR) ?_)
            intro azD aAr UC jJ gP an6;clear oW
            replace ay:=ay.mono (Hp.U6 jJ gP.mx)
            replace hr1:=hr1.mono jJ
            replace hr2:=hr2.mono jJ
            replace lT:=lT.mono jJ
            obtain⟨A5,c5,rfl,hr4⟩:=an6
            have azz:=vF ou ((ga (bL d L (KS d)) i).p) ((ga (bL d L (KS d)) i).q) td
            refine bU.grow [] (jJ) gP ?_;clear gP
            change WA _ _ _ _ _ _ _ _ _ _ _ _ [_,_,_,_,_,_]
            refine acg (aq 13 0 rfl (by kernel_rfl) (fun _=>run_assign rfl rfl) ?_)
            refine cF (by kernel_rfl) (fun aqR p9=>?_)
            refine Ul (ah [1,3,4,5,7,9,10,11,12] rfl (U2 (U0 rfl (af 0 1 rfl rfl (ag 1 rfl (Ud rfl rfl rfl (by first|omega|(simp only[ls];omega))) ?_)))))
            refine af 2 1 rfl rfl (U3 rfl (Ut ?_))
            intro ak ai
            refine⟨_,?K8,⟨i+1,sn++[(⟨(ga (bL d L (KS d)) i).p,(ga (bL d L (KS d)) i).q⟩:Pq)],im++[(⟨(ga (bL d L (KS d)) i).p,(ga (bL d L (KS d)) i).q,((rkD tb.length tb:Nat):Int)⟩:T2)],(put2 ou ((ga (bL d L (KS d)) i).p) ((ga (bL d L (KS d)) i).q) td),A5,c5,_,_,_,((hle21.trans jc).trans jJ),rfl,ai.sub ⟨rfl,rfl,rfl,rfl,rfl,rfl,rfl,rfl,rfl,trivial⟩,p9.pick [2,3,4,5] [_,_,_,_] (by decide) ⟨rfl,rfl,rfl,rfl,trivial⟩,?Kn,?Km,?Kl,?anP,?anO⟩⟩
            case Kn=>omega
            case Km=>(rw[snF,<-tv,if_neg hin]<;>rfl)
            case Kl=>(rw[afm];exact((anv d L sn (ga (bL d L (KS d)) i)).trans (congrArg (·++_) him.symm)).symm)
            case anP=>exact hr4
            case anO=>(rw[j5,Dx,afn];exact(alp d L sn (ga (bL d L (KS d)) i)).symm)
            case K8=>omega
      ·refine Uk rfl rfl (ah [9,10] rfl (U2 (U1 Tk Tj rfl rfl rfl (U1 ayB ahz rfl rfl rfl (U0 rfl (af 0 1 rfl rfl (U3 rfl (U2 ?_))))))))
       refine U7 ahy 12 rfl rfl rfl ?_
       refine Ui (fun aF ak aA=>∃(q:Nat) (ov:List T2) (vA:Option Addr) (vc:Nat) (C8:Hp),yc.le C8/\aF=im.length-q/\Env 227 [(9,.slice vA ov.length vc),(10,pX),(22,.int .i64 (q:Int))] ak/\SH aA C8 X [Rs.row bH pX im]/\q<=im.length/\aB bH C8 vA vc ov/\ov=oM ou (im.take q)) rfl ?_ ?_
       ·intro ak ai
        refine⟨_,⟨0,ou,oA,oc,_,Hp.le_refl _,rfl,ai.sub ⟨rfl,rfl,rfl,trivial⟩,jF.pick [0] [_] (by decide) ⟨rfl,trivial⟩,?Kk,?Kj,?anN⟩⟩
        case Kk=>omega
        case Kj=>exact lT
        case anN=>(rw[List.take_zero];rfl)
       ·rintro m7 a7 aqQ ⟨q,ov,vA,vc,C8,gX,rfl,vq,iU,hq,zf,hov⟩
        clear jF
        refine aW vq (c:=Ti) rfl ?_
        clear vq a7
        replace ay:=ay.mono (Hp.U6 gX iU.mx)
        replace hr1:=hr1.mono gX
        replace hr2:=hr2.mono gX
        replace lT:=lT.mono gX
        have aBs:ov.length<=ou.length+2*q:=by rw[hov];have:=aky ou (im.take q);rw[List.length_take]at this;omega
        refine U1 Tg Tf rfl rfl rfl (U1 ayA Te rfl rfl rfl (U0 rfl (af 0 2 rfl rfl (ag 2 rfl (kL (C:=bH) (i:=0) rfl rfl rfl rfl rfl rfl eP iU rfl) (ag 3 rfl (Un rfl rfl rfl) (U3 rfl (ah [9,10,22,200] rfl (U2 ?_))))))))
        refine Ua ayz ayy rfl rfl rfl rfl (fun apV=>?_) (fun apV=>?_)
        ·refine Ub rfl (ah [9,10,22] rfl (U2 (U1 ahx ayx rfl rfl rfl (U7 Td 13 rfl rfl rfl (U1 ayw Tc rfl rfl rfl ?_)))))
         obtain⟨hix,hiz,aBH,aBG⟩:=anw hn hL2 hi tv him (show q<im.length by omega)
         refine U0 rfl (af 0 2 rfl rfl (ag 2 rfl (Ue (C:=bH) (i:=0) q rfl rfl rfl eP iU rfl (by first|rfl|omega) (by first|omega|(simp only[ls];omega))) ?_))
         refine ag 3 rfl (Uc (us:=[_,_,_]) rfl rfl gH rfl za (iU.aev (i:=0) (e:=q) (j:=0) rfl (by first|omega|(simp only[ls];omega)) ⟨rfl,rfl,rfl,trivial⟩)) ?_
         refine ar 4 5 rfl rfl rfl (dh (l:=[_,_,_]) rfl rfl rfl ae4 rfl iU ?_)
         intro rD ae5 CU;clear iU
         refine ar 5 6 rfl rfl rfl (Uo (i:=0) (us:=[_,_,_]) (l':=[_,_,_]) (H':=[_,_]) rfl rfl CU rfl rfl rfl rfl za rfl rfl rfl rfl ?_)
         intro aqP oV;clear CU
         refine U3 rfl (ah [9,10,22,23] rfl (U2 (U1 ayv ayu rfl rfl rfl (U0 rfl (af 0 1 rfl rfl (ag 1 rfl (U4 rfl rfl gH rfl (aL) (aJ)) (ag 2 rfl (U5 rfl rfl aw rfl (oV.aG (i:=0) rfl rfl)) (ag 3 rfl (U4 rfl rfl gH rfl (aL) (aJ)) ?_))))))))
         refine ag 4 rfl (U5 rfl rfl aw rfl (oV.aG (i:=0) rfl rfl)) (ag 5 rfl (U4 rfl rfl gH rfl (aL) (aJ)) (ag 6 rfl (U5 rfl rfl aw rfl (oV.aG (i:=0) rfl rfl)) (ag 7 rfl (acn rfl rfl (by first|omega|(simp only[ls];omega))) ?_)))
         refine ar 8 9 rfl rfl rfl (dt rfl rfl rfl rfl rfl rfl rfl My oV (KO ov ((ga im q).x) ((ga im q).z) (-((ga im q).c)) zf ((by omega)) oV.aR) ?_)
         intro azC aqO azr jI fR an5;clear oV
         replace ay:=ay.mono (Hp.U6 jI fR.mx)
         replace hr1:=hr1.mono jI
         replace hr2:=hr2.mono jI
         replace lT:=lT.mono jI
         replace zf:=zf.mono jI
         obtain⟨A6,c6,rfl,jQ⟩:=an5
         have azy:=vF ov ((ga im q).x) ((ga im q).z) (-((ga im q).c))
         refine af 9 1 rfl rfl (U3 rfl (ah [9,10,22,23] rfl (U2 (U0 rfl (af 0 1 rfl rfl (ag 1 rfl (U4 rfl rfl gH rfl (aL) (aJ)) (ag 2 rfl (U5 rfl rfl aw rfl (fR.aG (i:=0) rfl rfl)) (ag 3 rfl (Ud rfl rfl rfl (by first|omega|(simp only[ls];omega))) ?_))))))))
         refine ag 4 rfl (U4 rfl rfl gH rfl (aL) (aJ)) (ag 5 rfl (U5 rfl rfl aw rfl (fR.aG (i:=0) rfl rfl)) (ag 6 rfl (U4 rfl rfl gH rfl (aL) (aJ)) (ag 7 rfl (U5 rfl rfl aw rfl (fR.aG (i:=0) rfl rfl)) (ag 8 rfl (acn rfl rfl (by first|omega|(simp only[ls];omega))) ?_))))
         refine ar 9 10 rfl rfl rfl (dt rfl rfl rfl rfl rfl rfl rfl My fR (KO (put2 ov ((ga im q).x) ((ga im q).z) (-((ga im q).c))) (((ga im q).x)+1) ((ga im q).z) (-((ga im q).c)) jQ ((by omega)) fR.aR) ?_)
         intro azB aqN azq jr uT an4;clear fR
         replace ay:=ay.mono (Hp.U6 jr uT.mx)
         replace hr1:=hr1.mono jr
         replace hr2:=hr2.mono jr
         replace lT:=lT.mono jr
         replace zf:=zf.mono jr
         replace jQ:=jQ.mono jr
         obtain⟨A7,c7,rfl,nS⟩:=an4
         have azx:=vF (put2 ov ((ga im q).x) ((ga im q).z) (-((ga im q).c))) (((ga im q).x)+1) ((ga im q).z) (-((ga im q).c))
         refine af 10 1 rfl rfl (U3 rfl (Ul (ah [9,10,22] rfl (U2 (U0 rfl (af 0 1 rfl rfl (ag 1 rfl (Ud rfl rfl rfl (by first|omega|(simp only[ls];omega))) ?_)))))))
         refine af 2 1 rfl rfl (U3 rfl (Ut ?_))
         intro ak ai
         refine⟨_,?apH,⟨q+1,(put2 (put2 ov ((ga im q).x) ((ga im q).z) (-((ga im q).c))) (((ga im q).x)+1) ((ga im q).z) (-((ga im q).c))),A7,c7,_,((gX.trans jI).trans jr),rfl,ai.sub ⟨rfl,rfl,rfl,trivial⟩,uT.pick [1] [_] (by decide) ⟨rfl,trivial⟩,?Ki,?Kh,?Kg⟩⟩
         case Ki=>omega
         case Kh=>exact nS
         case Kg=>(rw[kJ im q (by omega),al3,<-hov])
         case apH=>omega
        ·refine Uk rfl rfl (ah [9] rfl (U2 (U1 ayt ays rfl rfl rfl (U0 rfl (af 0 2 rfl rfl (U3 rfl (ah [2] rfl (U2 ?_))))))))
         refine Us hC [_] rfl rfl ⟨rfl,trivial⟩ ?_
         refine⟨_,rfl,_,(hle1.trans hle21).trans gX,(iU.pick [] [] (by decide) trivial),?_⟩
         have e9:i=allA d L:=by omega
         rw[e9]at tv
         have e8:ov=ct d L:=by rw[hov,show q=im.length by omega,List.take_length,j5,him,tv];rfl
         rw[<-e8]
         exact⟨_,_,rfl,zf⟩
end Go.Proofs.YthppkofceancjaaGreat
namespace Go.Proofs.YthppkofceancjaaGreat
open Go.RowKit
section
variable (d : Dg) (L : Nat)
noncomputable def s5(g:Pq):aC:=mono (1000*g.p+g.q) ((nK d L g:Int) -jt d L g)+mono (1000*(g.p+1)+g.q) (-(jt d L g:Int))
noncomputable def smG:List Pq->aC
 |[]=>aC.o
 |g::l=>s5 d L g+smG l
noncomputable def Gf:List Pq->aC
 |[]=>aC.o
 |g::l=>mono (1000*g.p+g.q) (nK d L g:Int)+Gf l
noncomputable def Ge:List Pq->aC
 |[]=>aC.o
 |g::l=>(mono (1000*g.p+g.q) (-(jt d L g:Int))+mono (1000*(g.p+1)+g.q) (-(jt d L g:Int)))+Ge l
theorem aC.four(a b c e:aC):(a+b)+(c+e)=(a+c)+(b+e):=by
 rw[aC.add_assoc,aC.add_assoc,<-aC.add_assoc b,aC.add_comm b c,aC.add_assoc c]
theorem amX(l:List Pq):Gf d L l+Ge d L l=smG d L l:=by
 induction l with
 |nil=>exact aC.add_zero _
 |cons g l ih=>
  show(mono _ _+Gf d L l)+((mono _ _+mono _ _)+Ge d L l)=s5 d L g+smG d L l
  rw[aC.four,ih]
  unfold s5
  rw[Int.sub_eq_add_neg,Ja,aC.add_assoc,aC.add_assoc,aC.add_assoc,aC.add_assoc]
theorem ajK(l:List Pq)(g:Pq):smG d L (l++[g])=smG d L l+s5 d L g:=by
 induction l with
 |nil=>show s5 d L g+aC.o=aC.o+s5 d L g;rw[aC.add_comm]
 |cons a l ih=>rw[List.cons_append,smG,smG,ih,aC.add_assoc]
theorem ajL{l m:List Pq}(h:l.Perm m):smG d L l=smG d L m:=by
 induction h with
 |nil=>rfl
 |cons a _ ih=>rw[smG,smG,ih]
 |swap a b l=>rw[smG,smG,smG,smG,<-aC.add_assoc,<-aC.add_assoc,aC.add_comm (s5 d L b)]
 |trans _ _ h1 h2=>exact h1.trans h2
variable {d L}
theorem aeb{x:Int}(h:-1048576<=x/\x<=1048576):wr x=x:=pP (by omega)
theorem aaT(hA:allA d L<=1048576):∀(s:List Pq) (o:List T2),B2 400 o->kX o->(∀g∈s,PB 400 ⟨g.p,g.q⟩)->B2 400 (s.foldl (fun acc (g:Pq)=>put2 acc g.p g.q (nK d L g)) o)/\kX (s.foldl (fun acc (g:Pq)=>put2 acc g.p g.q (nK d L g)) o)/\cT (s.foldl (fun acc (g:Pq)=>put2 acc g.p g.q (nK d L g)) o)=cT o+Gf d L s
 |[],o,h1,h2,_=>⟨h1,h2,(aC.add_zero _).symm⟩
 |g::s,o,h1,h2,h3=>by
  have hg:=h3 g (List.mem_cons_self ..)
  have hw:wr (nK d L g:Int)=nK d L g:=aeb (by have:=Lu (d:=d) (L:=L) g;omega)
  obtain⟨a1,a2,a3⟩:=aaT hA s (put2 o g.p g.q (nK d L g)) (Jw h1 hg) (kX.put (Nat.le_refl _) h2 h1 hg hw) fun x hx=>h3 x (List.mem_cons_of_mem _ hx)
  refine⟨a1,a2,?_⟩
  rw[List.foldl_cons,a3,KL (Nat.le_refl _) h1 hg,aC.add_assoc]
  rfl
theorem aa8(hA:allA d L<=1048576):∀(s:List Pq) (o:List T2),B2 400 o->kX o->(∀g∈s,PB 400 ⟨g.p,g.q⟩/\PB 400 ⟨g.p+1,g.q⟩)->B2 400 (oM o (mf d L s))/\kX (oM o (mf d L s))/\cT (oM o (mf d L s))=cT o+Ge d L s
 |[],o,h1,h2,_=>⟨h1,h2,(aC.add_zero _).symm⟩
 |g::s,o,h1,h2,h3=>by
  obtain⟨hg,hg2⟩:=h3 g (List.mem_cons_self ..)
  have hw:wr (-(jt d L g:Int))=-(jt d L g:Int):=aeb (by have:=JV (d:=d) (L:=L) g;omega)
  have b1:=Jw h1 (c:=-(jt d L g:Int)) hg
  have c1:=kX.put (Nat.le_refl _) h2 h1 hg hw
  obtain⟨a1,a2,a3⟩:=aa8 hA s (put2 (put2 o g.p g.q (-(jt d L g:Int))) (g.p+1) g.q (-(jt d L g:Int))) (Jw b1 hg2) (kX.put (Nat.le_refl _) c1 b1 hg2 hw) fun x hx=>h3 x (List.mem_cons_of_mem _ hx)
  have e:oM o (mf d L (g::s))=oM (put2 (put2 o g.p g.q (-(jt d L g:Int))) (g.p+1) g.q (-(jt d L g:Int))) (mf d L s):=rfl
  rw[e]
  refine⟨a1,a2,?_⟩
  rw[a3,KL (Nat.le_refl _) b1 hg2,KL (Nat.le_refl _) h1 hg,aC.add_assoc,aC.add_assoc,<-aC.add_assoc (mono _ _)]
  rfl
theorem ada(hn:d.ae.length<=6)(hL:L<=2):allA d L<=1048576:=by
 have h1:=Fm hn hL (KS d)
 have h2:=si hn
 unfold allA
 unfold KS at h1 ⊢
 omega
theorem Ea(hn:d.ae.length<=6)(hL:L<=2):B2 400 (ct d L)/\kX (ct d L)/\cT (ct d L)=smG d L (snF d L (allA d L)):=by
 have hA:=ada hn hL
 have hb:∀g∈snF d L (allA d L),PB 400 ⟨g.p,g.q⟩/\PB 400 ⟨g.p+1,g.q⟩:=fun g hg=>by
  have:=JR hn hL (Nat.le_refl _) hg
  unfold PB
  dsimp only
  omega
 obtain⟨a1,a2,a3⟩:=aaT hA (snF d L (allA d L)) [] (by intro t ht;cases ht) Can.bN fun g hg=>(hb g hg).1
 obtain⟨b1,b2,b3⟩:=aa8 hA (snF d L (allA d L)) _ a1 a2 hb
 refine⟨b1,b2,?_⟩
 show cT (oM (sI d L _) _)=_
 unfold sI
 rw[b3,a3,aC.add_assoc,amX]
 show aC.o+_=_
 rw[aC.add_comm,aC.add_zero]
end
def lq(t:T2):Int:=if t.x%2≠0 then wr (-t.c)else t.c
def oN(l:List T2):aC:=mk (pr (l.map fun t=>(⟨t.z,lq t⟩:Tm)))
theorem abb(l:List T2)(t:T2):oN (l++[t])=oN l+mono t.z (lq t):=by
 unfold oN
 induction l with
 |nil=>show mono t.z (lq t)+aC.o=aC.o+_;rw[aC.add_comm]
 |cons a l ih=>
  have e:∀m:List T2,mk (pr ((a::m).map fun t=>(⟨t.z,lq t⟩:Tm)))=mono a.z (lq a)+mk (pr (m.map fun t=>(⟨t.z,lq t⟩:Tm))):=fun m=>rfl
  rw[List.cons_append,e,e,ih,aC.add_assoc]
theorem tm2(x:Int):Int.tmod x 2=0<->x%2=0:=⟨fun h=>Int.emod_eq_zero_of_dvd (Int.dvd_of_tmod_eq_zero h),fun h=>Int.tmod_eq_zero_of_dvd (Int.dvd_of_emod_eq_zero h)⟩
theorem adW{t:T2}(h:wr t.c=t.c):wr (lq t)=lq t:=by
 unfold lq
 split
 ·exact AH _
 ·exact h
theorem aa9{l:List T2}{p:aC}{i:Nat}{c:Int}(h:p=oN (l.take i))(hi:i<l.length)(hc:c=lq (ga l i)):p+mono (ga l i).z c=oN (l.take (i+1)):=by rw[kJ l i hi,abb,h,hc]
end Go.Proofs.YthppkofceancjaaGreat
namespace Go.Proofs.YthppkofceancjaaGreat
open Go.RowKit
theorem ajJ{B:List (Nat->Bool)}{u v:Nat->Bool}(h1:Sp (v::B) u)(h2:Sp (u::B) v):eB (u::B) (v::B):=
 ⟨fun a ha=>by
  rcases List.mem_cons.1 ha with rfl|h
  ·exact h1
  ·exact rI (gF h),fun a ha=>by
  rcases List.mem_cons.1 ha with rfl|h
  ·exact h2
  ·exact rI (gF h)⟩
theorem aj0{B:List (Nat->Bool)}{r p:Nat->Bool}(hp:p∈B):eB (vx r p::B) (r::B):=by
 refine ajJ (Bh (gF (List.mem_cons_self ..)) (rI (gF hp))) ?_
 have h:=Bh (B:=vx r p::B) (gF (List.mem_cons_self ..)) (rI (gF hp))
 rw[aci]at h
 exact h
theorem ajZ{B:List (Nat->Bool)}:eB (vz::B) B:=
 ⟨fun a ha=>by
  rcases List.mem_cons.1 ha with rfl|h
  ·exact EW B
  ·exact gF h,fun a ha=>rI (gF ha)⟩
theorem ai4{B R:List (Nat->Bool)}{r:Nat->Bool}(h:eB B R):eB (r::B) (R++[r]):=by
 have up:∀{x:Nat->Bool},Sp R x->Sp (R++[r]) x:=fun hx=>Av (fun a ha=>gF (List.mem_append_left _ ha)) hx
 refine⟨fun a ha=>?_,fun a ha=>?_⟩
 ·rcases List.mem_cons.1 ha with rfl|ha
  ·exact gF (by simp)
  ·exact up (h.1 a ha)
 ·rcases List.mem_append.1 ha with ha|ha
  ·exact rI (h.2 a ha)
  ·rw[List.mem_singleton.1 ha];exact gF (List.mem_cons_self ..)
def dB(es:List (Int×Bool)):Nat->Bool:=fun i=>(mg (i:Int) es).getD false
def fS(es:List (Int×Bool)):Prop:=(es.map Prod.fst).Nodup/\∀q∈es,0<=q.1/\q.2=true
theorem anm{es:List (Int×Bool)}{k:Int}{v:Bool}(h:mg k es=some v):(k,v)∈es:=by
 induction es with
 |nil=>cases h
 |cons q es ih=>
  unfold mg at h
  split at h
  ·rename_i e
   injection h with h
   subst e
   subst h
   exact List.mem_cons_self ..
  ·exact List.mem_cons_of_mem _ (ih h)
theorem adM{es:List (Int×Bool)}(hn:(es.map Prod.fst).Nodup){q:Int×Bool}(h:q∈es):mg q.1 es=some q.2:=by
 induction es with
 |nil=>cases h
 |cons a es ih=>
  rw[List.map_cons,List.nodup_cons]at hn
  unfold mg
  rcases List.mem_cons.1 h with rfl|h
  ·rw[if_pos rfl]
  ·rw[if_neg (fun e:q.1=a.1=>hn.1 (List.mem_map.2 ⟨q,h,e⟩))]
   exact ih hn.2 h
theorem vY{es:List (Int×Bool)}(h:fS es)(i:Nat):dB es i=true<->(i:Int)∈es.map Prod.fst:=by
 unfold dB
 constructor
 ·intro e
  cases hm:mg (i:Int) es with
  |none=>rw[hm]at e;cases e
  |some v=>exact List.mem_map.2 ⟨_,anm hm,rfl⟩
 ·intro hm
  obtain⟨q,hq,e⟩:=List.mem_map.1 hm
  have:=adM h.1 hq
  rw[e]at this
  rw[this,(h.2 q hq).2];rfl
theorem akj{es:List (Int×Bool)}(h:es.length=0):dB es=vz:=by
 rw[List.eq_nil_of_length_eq_zero h];rfl
theorem alN{es:List (Int×Bool)}(h:fS es){l:Nat}(hl:(l:Int)∈es.map Prod.fst)(hm:∀k∈es.map Prod.fst,(l:Int)<=k):Ld (dB es) l:=by
 refine⟨(vY h l).2 hl,fun j hj=>?_⟩
 cases e:dB es j with
 |false=>rfl
 |true=>have:=hm _ ((vY h j).1 e);omega
end Go.Proofs.YthppkofceancjaaGreat
namespace Go.Proofs.YthppkofceancjaaGreat
open Go.ChangeShapes Go.WideShapes Go.ChangeAt Go.RowKit
section
variable {κ ε : Type} [DecidableEq κ]
def de(k:κ):List (κ×ε)->List (κ×ε)
 |[]=>[]
 |p::r=>if k=p.1 then r else p::de k r
theorem de_none{k:κ}:∀{es:List (κ×ε)}{i:Nat},fk k es i=none->de k es=es
 |[],_,_=>rfl
 |p::r,i,h=>by
  unfold fk at h
  split at h
  ·cases h
  ·rename_i hne
   unfold de
   rw[if_neg hne,de_none h]
theorem ac0{k:κ}:∀{es:List (κ×ε)}{i j:Nat}{v:ε},fk k es i=some (j,v)->∃m,j=i+m/\m<es.length/\de k es=es.eraseIdx m
 |p::r,i,j,v,h=>by
  unfold fk at h
  split at h
  ·rename_i he
   injection h with h
   injection h with h1 h2
   exact⟨0,by omega,by simp,by simp[de,he]⟩
  ·rename_i hne
   obtain⟨m,h1,h2,h3⟩:=ac0 h
   exact⟨m+1,by omega,by simpa using h2,by simp[de,hne,h3]⟩
end
section
variable {P : Program} {o : Oper} {L : List (Nat × Value)} {w w' : World} {x y z : Operand} {t T K E : TypeId} {v u : Value} {n d g i : Nat} {Kt : List (Nat × Value) → World → Prop} {M M' : Hp} {X : Fr} {H H' : List Rs}
variable {κ ε : Type} [DecidableEq κ] {kc : κ → Value} {vc : ε → Value} {es : List (κ × ε)}
theorem EE{α β:Type}(f:α->β):∀(l:List α) (m:Nat),(l.eraseIdx m).map f=(l.map f).eraseIdx m
 |[],_=>by simp
 |a::l,0=>by simp
 |a::l,m+1=>by simp[EE f l m]
theorem ame{k:κ}(ty:TypeId)(S:SH w M X H)(hi:nth H i=some (Rs.mp kc vc g es))(hu:P.underlying T=some (.map K E))(hK:kW P K kc):
  ∃jh clock',(Builtin.delete_ #[T,K] ty #[.map (some g),kc k]).run P w=.ok (.tuple #[]) {w with heap:=w.heap.setIfInBounds g (.map jh clock')}/\jh.toList.map (fun e=>(e.key,e.val))=(de k es).map (fun p=>(kc p.1,vc p.2))/\x4 jh clock':=by
 obtain⟨arr,clock,hg,ha,jv⟩:=(S.get hi:eF kc vc g es (hp w))
 have hf:=hK.find k _ arr.toList w (ED ha)
 rw[BB]at hf
 have hg':w.heap[g]? =some (.map arr clock):=hg
 have hgo:=MapKept.run_getObj_map (P:=P) hg'
 have hc:=fun b=>hK.check k w b
 cases gT:fk k es 0 with
 |none=>
  rw[gT]at hf
  refine⟨arr,clock,?_,by rw[de_none gT];exact ha,jv⟩
  simp[Builtin.delete_,run_underlying hu,hgo,hc,hf,MapKept.run_setObj_map _ hg',Result.andThen]
 |some q=>
  obtain⟨j,v⟩:=q
  rw[gT]at hf
  obtain⟨m,hj,zL,hde⟩:=ac0 gT
  obtain rfl:j=m:=by omega
  have hlen:arr.toList.length=es.length:=by have:=congrArg List.length ha;simpa using this
  have hjs:j<arr.size:=by rw[<-Array.length_toList,hlen];exact zL
  have hsub:(arr.eraseIdxIfInBounds j).toList=arr.toList.eraseIdx j:=by
   unfold Array.eraseIdxIfInBounds
   rw[dif_pos hjs]
   simp
  refine⟨arr.eraseIdxIfInBounds j,clock,?_,?_,?_,?_⟩
  ·simp[Builtin.delete_,run_underlying hu,hgo,hc,hf,MapKept.run_setObj_map _ hg',Result.andThen]
  ·rw[hsub,EE,ha,hde,EE]
  ·rw[hsub,EE]
   exact(List.eraseIdx_sublist _ _).nodup jv.1
  ·intro e he
   rw[hsub]at he
   exact jv.2 e ((List.eraseIdx_sublist _ _).subset he)
theorem akP(hd:o.dst=none)(hr:Run P o L w v w')(h:Kt L w'):WO P n o L w Kt:=by
 intro a ha next Q hk
 unfold Oper.wp
 rw[hr n a ha,Oper.upon_value,hd]
 exact hk _ _ _ ha h
theorem aaG{k:κ}{ca:Call}(hop:o.op=.call ca)(di:ca.callee=.builtin .delete)(hxs:ca.args=[x,y].toArray)(hts:ca.argTypes=[T,K].toArray)(hd:o.dst=none)(S:SH w M X H)(hi:nth H i=some (Rs.mp kc vc g es))(hx:oev L x=some (.map (some g)))(hy:oev L y=some (kc k))(hu:P.underlying T=some (.map K E))(hK:kW P K kc)
  (hH:H.set i (Rs.mp kc vc g (de k es))=H')(h:∀w',SH w' M X H'->Kt L w'):WO P n o L w Kt:=by
 obtain⟨aBX,azA,hg,_,_⟩:=(S.get hi:eF kc vc g es (hp w))
 have hlt:=fU hg
 have hxy:oevs L [x,y]=some [.map (some g),kc k]:=by simp[oevs,hx,hy]
 obtain⟨jh,clock',hrun,Bu,BS⟩:=ame (k:=k) o.type S hi hu hK
 refine akP hd (v:=.tuple #[]) (w':={w with heap:=w.heap.setIfInBounds g (.map jh clock')}) ?_ (h _ ?_)
 ·intro n c he
  unfold execOp
  simp only[hop,resolve,di,hxs,hts,List.map_toArray,he.ny hxy,Sem.run_bind,Sem.run_pure,Result.andThen_ok,invoke,builtin,hrun]
 ·refine S.step hi hH (EF w g _) (fun b _ hb=>?_) ⟨jh,clock',?_,Bu,BS⟩ (fun b hb=>⟨.inl hb,?_⟩)
  ·have hne:b≠g:=by simpa[Rs.mp]using hb
   show(w.heap.setIfInBounds g _)[b]? =w.heap[b]?
   rw[Array.getElem?_setIfInBounds_ne (Ne.symm hne)]
  ·show(w.heap.setIfInBounds g _)[g]? =_
   simp[hlt]
  ·simp[Rs.mp]at hb
   subst hb
   show _<(w.heap.setIfInBounds _ _).size
   simpa using hlt
end
end Go.Proofs.YthppkofceancjaaGreat
namespace Go.Proofs.YthppkofceancjaaGreat
open Go.RowKit
abbrev tZ:=Option (Nat×List (Int×Bool))
def esO(v:tZ):List (Int×Bool):=(v.map Prod.snd).getD []
def zA(v:tZ):Value:=.map (v.map Prod.fst)
def o7(pe:List (Int×tZ)):List (Nat->Bool):=pe.map fun q=>dB (esO q.2)
def ua(K:Nat)(es:List (Int×Bool)):Prop:=∀k∈es.map Prod.fst,k<(K:Int)
structure kV(N:Hp)(K:Nat)(pe:List (Int×tZ)):Prop where
 at_:∀q∈pe,∃g es,q.2=some (g,es)/\eF (Value.int .i64) Value.bool g es N/\fS es/\ua K es/\∃l:Nat,q.1=(l:Int)/\Ld (dB es) l
 nd:(pe.map Prod.fst).Nodup
section
variable {N N' : Hp} {K : Nat} {pe : List (Int × tZ)} {es dn es' : List (Int × Bool)}
theorem kV.mono(h:kV N K pe)(k:N.le N'):kV N' K pe:=
 ⟨fun q hq=>by
  obtain⟨g,es,h1,h2,h3⟩:=h.at_ q hq
  exact⟨g,es,h1,h2.mono k,h3⟩,h.nd⟩
theorem kV.bN:kV N K []:=⟨fun q hq=>by simp at hq,List.nodup_nil⟩
theorem kV.piv(h:kV N K pe):Ih (pe.map fun q=>(q.1.toNat,dB (esO q.2))):=by
 refine⟨fun p hp=>?_,?_⟩
 ·obtain⟨q,hq,rfl⟩:=List.mem_map.1 hp
  obtain⟨g,es,h1,_,_,_,l,h2,h3⟩:=h.at_ q hq
  dsimp only
  rw[h1,h2]
  exact h3
 ·rw[List.map_map]
  have hn:=h.nd
  rw[List.nodup_iff_pairwise_ne,List.pairwise_map]at hn ⊢
  refine hn.imp_of_mem fun{a b} ha hb hab e=>hab ?_
  obtain⟨_,_,_,_,_,_,l,h2,_⟩:=h.at_ a ha
  obtain⟨_,_,_,_,_,_,m,h3,_⟩:=h.at_ b hb
  simp only[Function.comp_apply]at e
  omega
theorem kV.ind(h:kV N K pe):om (o7 pe):=by
 have:=alm h.piv
 rw[List.map_map]at this
 exact this
theorem Fv{κ ε:Type}[DecidableEq κ]{es:List (κ×ε)}{k:κ}{v:ε}(h:mg k es=some v):(k,v)∈es:=by
 induction es with
 |nil=>cases h
 |cons q es ih=>
  unfold mg at h
  split at h
  ·rename_i e
   injection h with h
   subst e
   subst h
   exact List.mem_cons_self ..
  ·exact List.mem_cons_of_mem _ (ih h)
theorem Fu{κ ε:Type}[DecidableEq κ]{es:List (κ×ε)}{k:κ}(h:mg k es=none):k∉es.map Prod.fst/\∀v,mp k v es=es++[(k,v)]:=by
 induction es with
 |nil=>exact⟨by simp,fun _=>rfl⟩
 |cons q es ih=>
  unfold mg at h
  split at h
  ·cases h
  ·rename_i e
   obtain⟨h1,h2⟩:=ih h
   refine⟨by simp only[List.map_cons,List.mem_cons,not_or];exact⟨e,h1⟩,fun v=>?_⟩
   rw[mp,if_neg e,h2 v];rfl
theorem kV.get(h:kV N K pe){low:Nat}{v:tZ}(hm:mg (low:Int) pe=some v):∃g es,v=some (g,es)/\eF (Value.int .i64) Value.bool g es N/\fS es/\ua K es/\Ld (dB es) low/\dB es∈o7 pe:=by
 have hq:=Fv hm
 obtain⟨g,es,h1,h2,h3,h4,l,h5,h6⟩:=h.at_ _ hq
 dsimp only at h1 h5
 obtain rfl:low=l:=by omega
 exact⟨g,es,h1,h2,h3,h4,h6,List.mem_map.2 ⟨_,hq,by dsimp only;rw[h1];rfl⟩⟩
theorem kV.put(h:kV N K pe){low g:Nat}(hm:mg (low:Int) pe=none)(hg:eF (Value.int .i64) Value.bool g es N)(he:fS es)(hb:ua K es)(hl:Ld (dB es) low):kV N K (mp (low:Int) (some (g,es)) pe)/\o7 (mp (low:Int) (some (g,es)) pe)=o7 pe++[dB es]/\(mp (low:Int) (some (g,es)) pe).length=pe.length+1:=by
 obtain⟨h1,h2⟩:=Fu hm
 rw[h2]
 refine⟨⟨fun q hq=>?_,?_⟩,?_,by simp⟩
 ·rcases List.mem_append.1 hq with hq|hq
  ·exact h.at_ q hq
  ·rw[List.mem_singleton]at hq
   subst hq
   exact⟨g,es,rfl,hg,he,hb,low,rfl,hl⟩
 ·rw[List.map_append,List.nodup_append]
  refine⟨h.nd,by simp,fun a ha b hb' e=>?_⟩
  simp at hb'
  subst e
  subst hb'
  exact h1 ha
 ·unfold o7
  rw[List.map_append];rfl
theorem ER{es:List (Int×Bool)}(h:fS es){k:Int}(hk:k∈es.map Prod.fst):∃m:Nat,k=(m:Int):=by
 obtain⟨q,hq,rfl⟩:=List.mem_map.1 hk
 exact⟨q.1.toNat,by have:=(h.2 q hq).1;omega⟩
theorem E5(h:fS es)(k:Int):(mg k es).getD false=true<->k∈es.map Prod.fst:=by
 constructor
 ·intro e
  cases hm:mg k es with
  |none=>rw[hm]at e;cases e
  |some v=>exact List.mem_map.2 ⟨_,Fv hm,rfl⟩
 ·intro hm
  obtain⟨q,hq,e⟩:=List.mem_map.1 hm
  have:=adM h.1 hq
  rw[e]at this
  rw[this,(h.2 q hq).2];rfl
theorem KG{κ ε:Type}[DecidableEq κ](k:κ):∀es:List (κ×ε),(de k es).Sublist es
 |[]=>List.Sublist.refl _
 |p::r=>by
  unfold de
  split
  ·exact List.sublist_cons_self _ _
  ·exact(KG k r).cons_cons _
theorem JJ{κ ε:Type}[DecidableEq κ](k:κ):∀{es:List (κ×ε)},(es.map Prod.fst).Nodup->∀x,x∈(de k es).map Prod.fst<->x∈es.map Prod.fst/\x≠k
 |[],_,x=>by simp[de]
 |p::r,hn,x=>by
  rw[List.map_cons,List.nodup_cons]at hn
  have ih:=JJ k hn.2 x
  unfold de
  split
  ·rename_i e
   subst e
   simp only[List.map_cons,List.mem_cons]
   constructor
   ·intro h;exact⟨.inr h,fun e=>hn.1 (e▸h)⟩
   ·rintro⟨h|h,h2⟩
    ·exact absurd h h2
    ·exact h
  ·rename_i e
   simp only[List.map_cons,List.mem_cons,ih]
   constructor
   ·rintro(h|⟨h1,h2⟩)
    ·exact⟨.inl h,fun e'=>e (by rw[<-h,e'])⟩
    ·exact⟨.inr h1,h2⟩
   ·rintro⟨h|h,h2⟩
    ·exact .inl h
    ·exact .inr ⟨h,h2⟩
theorem fS.bN:fS []:=⟨List.nodup_nil,by simp⟩
theorem fS.de_(h:fS es)(k:Int):fS (de k es):=⟨((KG k es).map Prod.fst).nodup h.1,fun q hq=>h.2 q ((KG k es).subset hq)⟩
theorem fS.Hw(h:fS es){k:Int}(hk:0<=k)(hm:¬(mg k es).getD false=true):fS (mp k true es)/\∀x,x∈(mp k true es).map Prod.fst<->x∈es.map Prod.fst\/x=k:=by
 have hn:mg k es=none:=by
  cases e:mg k es with
  |none=>rfl
  |some v=>
   have:=h.2 _ (Fv e)
   rw[e]at hm
   exact absurd this.2 hm
 obtain⟨h1,h2⟩:=Fu hn
 rw[h2]
 refine⟨⟨?_,fun q hq=>?_⟩,fun x=>by simp⟩
 ·rw[List.map_append,List.nodup_append]
  refine⟨h.1,by simp,fun a ha b hb' e=>?_⟩
  simp at hb'
  subst e
  subst hb'
  exact h1 ha
 ·rcases List.mem_append.1 hq with hq|hq
  ·exact h.2 q hq
  ·rw[List.mem_singleton]at hq
   subst hq
   exact⟨hk,rfl⟩
def nL(es dn es':List (Int×Bool)):Prop:=fS es'/\∀k,k∈es'.map Prod.fst<->¬(k∈es.map Prod.fst<->k∈dn.map Prod.fst)
theorem nL.mb(h:fS es):nL es [] es:=⟨h,fun k=>by simp only[List.map_nil,List.not_mem_nil,iff_false,Decidable.not_not]⟩
theorem nL.del(h:nL es dn es'){k:Int}{v:Bool}(hk:k∉dn.map Prod.fst)(hm:(mg k es').getD false=true):nL es (dn++[(k,v)]) (de k es'):=by
 refine⟨h.1.de_ k,fun x=>?_⟩
 have h1:=(E5 h.1 k).1 hm
 rw[JJ k h.1.1,h.2 x,List.map_append,List.mem_append]
 rw[h.2 k]at h1
 simp only[List.map_cons,List.map_nil,List.mem_singleton]
 by_cases e:x=k
 ·subst e
  simp only[hk,iff_false,Decidable.not_not,false_or,ne_eq,not_true_eq_false,and_false,iff_true,false_iff]at h1 ⊢
  exact h1
 ·simp[e]
theorem nL.set(h:nL es dn es'){k:Int}{v:Bool}(h0:0<=k)(hk:k∉dn.map Prod.fst)(hm:¬(mg k es').getD false=true):nL es (dn++[(k,v)]) (mp k true es'):=by
 obtain⟨e1,e2⟩:=h.1.Hw h0 hm
 refine⟨e1,fun x=>?_⟩
 have h1:¬k∈es'.map Prod.fst:=fun h'=>hm ((E5 h.1 k).2 h')
 rw[e2,h.2 x,List.map_append,List.mem_append]
 rw[h.2 k]at h1
 simp only[List.map_cons,List.map_nil,List.mem_singleton]
 by_cases e:x=k
 ·subst e
  simp only[hk,iff_false,Decidable.not_not,false_or,or_true,iff_true,true_iff]at h1 ⊢
  exact h1
 ·simp[e]
theorem alS{p dn lf l1 l2:List (Int×Bool)}{k:Int}{v:Bool}(hn:fS p)(hp:(dn++lf).Perm p)(hl:lf=l1++(k,v)::l2):k∉dn.map Prod.fst/\0<=k:=by
 have h1:((dn++lf).map Prod.fst).Nodup:=(hp.map Prod.fst).nodup_iff.2 hn.1
 rw[List.map_append]at h1
 have h2:=(List.nodup_append.1 h1).2.2
 refine⟨fun hm=>h2 k hm k (by rw[hl];simp) rfl,(hn.2 (k,v) (hp.mem_iff.1 (by rw[hl];simp))).1⟩
theorem nL.end_{p:List (Int×Bool)}(h:nL es dn es')(he:fS es)(hp:dn.Perm p)(hP:fS p):dB es'=vx (dB es) (dB p):=by
 funext i
 have h1:=vY h.1 i
 have h2:=vY he i
 have h3:=vY hP i
 have h4:=h.2 (i:Int)
 rw[(hp.map Prod.fst).mem_iff]at h4
 unfold vx
 rw[<-h1,<-h2,<-h3]at h4
 clear h1 h2 h3
 revert h4
 cases dB es' i<;>cases dB es i<;>cases dB p i<;>simp
def qa(lo K:Nat)(es:List (Int×Bool)):Prop:=fS es/\∀k∈es.map Prod.fst,(lo:Int)<=k/\k<(K:Int)
theorem qa.bd{lo:Nat}(h:qa lo K es):ua K es:=fun k hk=>(h.2 k hk).2
theorem qa.mb{es:List (Int×Bool)}(h:fS es)(hb:ua K es):qa 0 K es:=⟨h,fun k hk=>⟨by obtain⟨m,rfl⟩:=ER h hk;omega,hb k hk⟩⟩
theorem qa.next{p:List (Int×Bool)}{lo low:Nat}(h:qa lo K es)(hP:fS p)(hb:ua K p)(hl:Ld (dB es) low)(hlp:Ld (dB p) low)(ht:nL es dn es')(hp:dn.Perm p):qa (low+1) K es'/\dB es'=vx (dB es) (dB p):=by
 have e:=ht.end_ h.1 hp hP
 refine⟨⟨ht.1,fun k hk=>?_⟩,e⟩
 have iJ:=hk
 obtain⟨m,rfl⟩:=ER ht.1 hk
 have h1:=(vY ht.1 m).2 iJ
 constructor
 ·rw[e]at h1
  rcases Nat.lt_or_ge low m with h2|h2
  ·omega
  ·have:=alR hl hlp m h2
   rw[this]at h1;cases h1
 ·have h2:=(ht.2 _).1 iJ
  by_cases h3:(m:Int)∈es.map Prod.fst
  ·exact(h.2 _ h3).2
  ·by_cases h4:(m:Int)∈dn.map Prod.fst
   ·exact hb _ ((hp.map Prod.fst).mem_iff.1 h4)
   ·exact absurd (by simp[h3,h4]) h2
def KN(R:List (Nat->Bool))(n:Nat):Prop:=∃B,B.length=n/\om B/\eB B R
def minK(xs:List Int):Nat->Int
 |0=>ga xs 0
 |i+1=>min (minK xs i) (ga xs (i+1))
theorem aaX{xs:List Int}:∀{i:Nat},i<xs.length->minK xs i∈xs/\∀j,j<=i->minK xs i<=ga xs j
 |0,h=>⟨nX h,fun j hj=>by
  obtain rfl:j=0:=by omega
  exact Int.le_refl _⟩
 |i+1,h=>by
  obtain⟨h1,h2⟩:=aaX (xs:=xs) (i:=i) (by omega)
  unfold minK
  refine⟨?_,fun j hj=>?_⟩
  ·rcases Int.le_total (minK xs i) (ga xs (i+1))with h3|h3
   ·rw[Int.min_eq_left h3];exact h1
   ·rw[Int.min_eq_right h3];exact nX h
  ·rcases Nat.lt_or_ge i j with h3|h3
   ·obtain rfl:j=i+1:=by omega
    exact Int.min_le_right _ _
   ·exact Int.le_trans (Int.min_le_left _ _) (h2 j h3)
def Gi(xs:List Int):Int:=minK xs (xs.length-1)
theorem alK{ks:List Int}(h:fS es)(hp:ks.Perm (es.map Prod.fst))(h0:0<ks.length):∃low:Nat,Gi ks=(low:Int)/\Ld (dB es) low/\(low:Int)∈es.map Prod.fst:=by
 obtain⟨h1,h2⟩:=aaX (xs:=ks) (i:=ks.length-1) (by omega)
 have h3:=hp.mem_iff.1 h1
 obtain⟨low,zg⟩:=ER h h3
 refine⟨low,zg,alN h (by rw[<-zg];exact h3) (fun k hk=>?_),by rw[<-zg];exact h3⟩
 rw[<-zg]
 obtain⟨j,hj,e⟩:=List.mem_iff_getElem.1 (hp.mem_iff.2 hk)
 have:=h2 j (by omega)
 rw[bV hj,e]at this
 exact this
end
end Go.Proofs.YthppkofceancjaaGreat
