/- Part 8 of the proof of the law KhovanovTells: the walks through its functions and the plain laws that they need. -/
import Derived.Test.YthppkofceancjaaGreatKhX7
import Derived.Lib.AppendZeros
import Derived.OrdersIn
set_option linter.unusedSimpArgs false
set_option linter.unusedVariables false
noncomputable section
namespace Go.Proofs.YthppkofceancjaaGreat
open Go.ChangeShapes Go.WideShapes Go.ChangeAt Go.RowKit
noncomputable def Zhu:=Tryz.f162.body.getD .skip
def Zhv:=cL Zhu
def Zhw:=cR Zhu
def Zhx:=cL Zhw
def Zhy:=cR Zhw
def Zhz:=cL Zhy
def Zi0:=cR Zhy
def Zi1:=cL Zhz
def Zi2:=cR Zhz
def Zi3:=cL Zi2
def Zi4:=cR Zi2
def Zi5:=cL Zi3
def Zi6:=cR Zi3
def Zi7:=cL Zi0
def Zi8:=cR Zi0
def Zi9:=cL Zi7
def Zia:=cR Zi7
def Zib:=cL Zia
def Zic:=cL Zib
def Zid:=cL Zic
def Zie:=cR Zic
def Zif:=cL Zid
def Zig:=cR Zid
def Zih:=cL Zig
def Zii:=cR Zig
def Zij:=cL Zie
def Zik:=cR Zie
def Zil:=cL Zij
def Zim:=cL Zil
def Zin:=cR Zil
def Zio:=cL Zin
def Zip:=cR Zin
def Ziq:=cL Zi8
def Zir:=cR Zi8
set_option maxHeartbeats 1000000 in
set_option maxRecDepth 10000 in
theorem alM{w:World}{M:Hp}{X:Fr}(sZ:Value)(ws:List Int)(a:Nat)(b:Nat)(hsz:ws.length<=1000)(ha:a<ws.length)(hb:b<ws.length)(S:SH w M X [Rs.row Uh sZ ws]):C1 Tryz.prog 162 [sZ,.int .i64 (a:Int),.int .i64 (b:Int)] w M X (fun u M' r'=>u=.bool (decide (¬ga ws a=ga ws b))/\M'=M/\r'=Rs.row Uh sZ (jy ws a b)):=by
 unfold C1
 refine Up (b:=Zhu) Tryz.func162 rfl Tryz.ntmps162 rfl (fun C hC=>(bu [(0,_),(1,_),(2,_)] ⟨rfl,rfl,rfl,trivial⟩ (U1 Zhv Zhw rfl rfl rfl (U0 rfl (af 0 1 rfl rfl (U3 rfl (ah [0,1,2] rfl (U2 (U1 Zhx Zhy rfl rfl rfl ?_)))))))))
 refine cM rfl (by kernel_rfl) S 10 rfl ?_
 clear S
 refine aq 0 9 rfl (by kernel_rfl) (fun _=>run_move rfl rfl) ?_
 refine aq 1 8 rfl (by kernel_rfl) (fun _=>run_move rfl rfl) ?_
 refine au 2 7 rfl (by kernel_rfl) (fun _ _ _ aj Sz=>.inl (Ue (C:=Uh) (i:=0) a rfl rfl rfl aS Sz.suf rfl (by first|rfl|omega) (by first|omega|(simp only[ls];omega)))) ?_
 refine au 3 6 rfl (by kernel_rfl) (fun _ _ _ aj Sz=>.inl (U5 rfl rfl aw rfl (Sz.suf.cK (i:=0) (e:=a) (j:=0) rfl (by first|omega|(simp only[ls];omega)) rfl rfl))) ?_
 refine aq 4 5 rfl (by kernel_rfl) (fun _=>run_move rfl rfl) ?_
 refine aq 5 4 rfl (by kernel_rfl) (fun _=>run_move rfl rfl) ?_
 refine au 6 3 rfl (by kernel_rfl) (fun _ _ _ aj Sz=>.inl (Ue (C:=Uh) (i:=0) b rfl rfl rfl aS Sz.suf rfl (by first|rfl|omega) (by first|omega|(simp only[ls];omega)))) ?_
 refine au 7 2 rfl (by kernel_rfl) (fun _ _ _ aj Sz=>.inl (U5 rfl rfl aw rfl (Sz.suf.cK (i:=0) (e:=b) (j:=0) rfl (by first|omega|(simp only[ls];omega)) rfl rfl))) ?_
 refine aq 8 1 rfl (by kernel_rfl) (fun _=>run_assign rfl rfl) ?_
 refine aq 9 0 rfl (by kernel_rfl) (fun _=>run_assign rfl rfl) ?_
 refine cF (by kernel_rfl) (fun mO bJ=>?_)
 refine ah [0,7,8] rfl (U2 (U1 Zhz Zi0 rfl rfl rfl (U1 Zi1 Zi2 rfl rfl rfl (U0 rfl (af 0 2 rfl rfl (ag 2 rfl (Uz rfl rfl rfl) (U3 rfl (ah [0,7,8,20] rfl ?_))))))))
 refine U2 ?_
 refine Ua Zi3 Zi4 rfl rfl rfl rfl (fun nE=>?_) (fun nE=>?_)
 ·refine U1 Zi5 Zi6 rfl rfl rfl (U0 rfl (af 0 1 rfl rfl (U3 rfl (ah [6] rfl (U2 (Us hC [_] rfl rfl ⟨rfl,trivial⟩ ?_))))))
  exact⟨_,rfl,_,_,Hp.le_refl _,bJ.pick [0] [_] (by decide) ⟨rfl,trivial⟩,⟨by show Value.bool _=_;rw[decide_eq_false (by omega)],rfl,by rw[show jy ws a b=ws by unfold jy;rw[if_pos (by omega)]]⟩⟩
 ·refine Ub rfl (ah [0,7,8] rfl (U2 (U1 Zi7 Zi8 rfl rfl rfl (U1 Zi9 Zia rfl rfl rfl (U0 rfl (af 0 1 rfl rfl (U3 rfl (U2 ?_))))))))
  refine U7 Zib 0 rfl rfl rfl ?_
  refine Ui (fun aF ak aA=>∃(i:Nat) (wz:List Int) (Hn:Value),aF=ws.length-i/\Env 37 [(0,Hn),(7,.int .i64 (ga ws a)),(8,.int .i64 (ga ws b)),(9,.int .i64 (i:Int))] ak/\SH aA M X [Rs.row Uh Hn wz]/\Hn=sZ/\i<=ws.length/\wz.length=ws.length/\(∀j,j<i->ga wz j=if ga ws j=ga ws b then ga ws a else ga ws j)/\(∀j,i<=j->ga wz j=ga ws j)) rfl ?_ ?_
  ·intro ak ai
   refine⟨_,⟨0,_,_,rfl,ai.sub ⟨rfl,rfl,rfl,rfl,trivial⟩,bJ.pick [0] [_] (by decide) ⟨rfl,trivial⟩,?bn,?bE,?ez,?sB,?wP⟩⟩
   case bn=>rfl
   case bE=>omega
   case ez=>rfl
   case sB=>(intro j hj;omega)
   case wP=>(intro j hj;rfl)
  ·rintro m1 a1 ra ⟨i,wz,Hn,rfl,aQ,cB,Vd,hi,hzl,hz1,hz2⟩
   clear bJ
   refine aW aQ (c:=Zic) rfl ?_
   clear aQ a1
   refine U1 Zid Zie rfl rfl rfl (U1 Zif Zig rfl rfl rfl (U0 rfl (af 0 2 rfl rfl (ag 2 rfl (kL (C:=Uh) (i:=0) rfl rfl rfl rfl rfl rfl aS cB rfl) (ag 3 rfl (Un rfl rfl rfl) (U3 rfl (ah [0,7,8,9,24] rfl (U2 ?_))))))))
   refine Ua Zih Zii rfl rfl rfl rfl (fun nD=>?_) (fun nD=>?_)
   ·refine Ub rfl (ah [0,7,8,9] rfl (U2 (U1 Zij Zik rfl rfl rfl (U7 Zil 1 rfl rfl rfl (U1 Zim Zin rfl rfl rfl (U0 rfl (af 0 2 rfl rfl (ag 2 rfl (Ue (C:=Uh) (i:=0) i rfl rfl rfl aS cB rfl (by first|rfl|omega) (by first|omega|(simp only[ls];omega))) ?_))))))))
    refine ag 3 rfl (U5 rfl rfl aw rfl (cB.cK (i:=0) (e:=i) (j:=0) rfl (by first|omega|(simp only[ls];omega)) rfl rfl)) ?_
    refine af 4 1 rfl rfl (ag 5 rfl (Uz rfl rfl rfl) (U3 rfl (ah [0,7,8,9,32] rfl (U2 ?_))))
    refine Ua Zio Zip rfl rfl rfl rfl (fun nC=>?_) (fun nC=>?_)
    ·refine U0 rfl (af 0 3 rfl rfl (ag 3 rfl (Ue (C:=Uh) (i:=0) i rfl rfl rfl aS cB rfl (by first|rfl|omega) (by first|omega|(simp only[ls];omega))) ?_))
     refine ar 4 5 rfl rfl rfl (ij (C:=Uh) (i:=0) (e:=i) (j:=0) (us:=[_]) (H':=[_]) (ga ws a) rfl rfl cB rfl (by first|omega|(simp only[ls];omega)) rfl rfl rfl dw rfl rfl rfl rfl ?_)
     intro q8 bY;clear cB
     refine U3 rfl (Ul (ah [0,7,8,9] rfl (U2 (U0 rfl (af 0 1 rfl rfl (ag 1 rfl (Ud rfl rfl rfl (by first|omega|(simp only[ls];omega))) ?_))))))
     refine af 2 1 rfl rfl (U3 rfl (Ut ?_))
     intro ak ai
     refine⟨_,?bG,⟨i+1,wz.set i (ga ws a),_,rfl,ai.sub ⟨rfl,rfl,rfl,rfl,trivial⟩,bY.pick [0] [_] (by decide) ⟨rfl,trivial⟩,?bk,?bD,?fL,?BV,?BU⟩⟩
     case bk=>exact Vd
     case bD=>omega
     case fL=>(first|(rw[List.length_set];exact hzl)|exact hzl)
     case BV=>(intro j hj;by_cases e:j=i;(subst e;first|(rw[bB _ _ _ _ (by omega),if_pos rfl,<-hz2 j (Nat.le_refl _),if_pos (by omega)])|(rw[hz2 j (Nat.le_refl _),if_neg (by rw[<-hz2 j (Nat.le_refl _)];omega)]));first|(rw[bB _ _ _ _ (by omega),if_neg (by omega)];exact hz1 j (by omega))|exact hz1 j (by omega))
     case BU=>(intro j hj;first|(rw[bB _ _ _ _ (by omega),if_neg (by omega)];exact hz2 j (by omega))|exact hz2 j (by omega))
     case bG=>omega
    ·refine Ub rfl (Ul (ah [0,7,8,9] rfl (U2 (U0 rfl (af 0 1 rfl rfl (ag 1 rfl (Ud rfl rfl rfl (by first|omega|(simp only[ls];omega))) ?_))))))
     refine af 2 1 rfl rfl (U3 rfl (Ut ?_))
     intro ak ai
     refine⟨_,?fM,⟨i+1,wz,_,rfl,ai.sub ⟨rfl,rfl,rfl,rfl,trivial⟩,cB.pick [0] [_] (by decide) ⟨rfl,trivial⟩,?cu,?cN,?jb,?sy,?wO⟩⟩
     case cu=>exact Vd
     case cN=>omega
     case jb=>(first|(rw[List.length_set];exact hzl)|exact hzl)
     case sy=>(intro j hj;by_cases e:j=i;(subst e;first|(rw[bB _ _ _ _ (by omega),if_pos rfl,<-hz2 j (Nat.le_refl _),if_pos (by omega)])|(rw[hz2 j (Nat.le_refl _),if_neg (by rw[<-hz2 j (Nat.le_refl _)];omega)]));first|(rw[bB _ _ _ _ (by omega),if_neg (by omega)];exact hz1 j (by omega))|exact hz1 j (by omega))
     case wO=>(intro j hj;first|(rw[bB _ _ _ _ (by omega),if_neg (by omega)];exact hz2 j (by omega))|exact hz2 j (by omega))
     case fM=>omega
   ·refine Uk rfl rfl (Uw [] trivial (U2 (U1 Ziq Zir rfl rfl rfl (U0 rfl (af 0 1 rfl rfl (U3 rfl (U2 (Us hC [_] rfl rfl ⟨rfl,trivial⟩ ?_))))))))
    exact⟨_,rfl,_,_,Hp.le_refl _,cB.pick [0] [_] (by decide) ⟨rfl,trivial⟩,⟨by show Value.bool _=_;rw[decide_eq_true (by omega)],rfl,by rw[Vd,ano (by omega) hzl (fun j hj=>hz1 j (by omega))]⟩⟩
theorem EP{w:World}{M:Hp}{X:Fr}(sZ:Value)(ws:List Int)(a b:Int)(hsz:ws.length<=1000)(ha:0<=a/\a.toNat<ws.length)(hb:0<=b/\b.toNat<ws.length)(S:SH w M X [Rs.row Uh sZ ws]):C1 Tryz.prog 162 [sZ,.int .i64 a,.int .i64 b] w M X (fun u M' r'=>u=.bool (decide (¬ga ws a.toNat=ga ws b.toNat))/\M'=M/\r'=Rs.row Uh sZ (jy ws a.toNat b.toNat)):=by
 obtain⟨m,rfl⟩:∃m:Nat,a=(m:Int):=⟨a.toNat,by omega⟩
 obtain⟨k,rfl⟩:∃k:Nat,b=(k:Int):=⟨b.toNat,by omega⟩
 exact alM sZ ws m k hsz ha.2 hb.2 S
theorem aop(Q:Nat->Bool)(a:Nat):cn Q a<=a:=by
 induction a with
 |zero=>exact Nat.le_refl _
 |succ a ih=>rw[cn];split<;>omega
theorem aqe{d:Dg}{s:Nat}:cn (lu d s) 1=0:=by rw[cn,cn];rfl
noncomputable def Zis:=Tryz.f103.body.getD .skip
def Zit:=cL Zis
def Ziu:=cR Zis
def Ziv:=cL Ziu
def Ziw:=cR Ziu
def Zix:=cL Ziw
def Ziy:=cR Ziw
def Ziz:=cL Ziy
def Zj0:=cR Ziy
def Zj1:=cL Ziz
def Zj2:=cR Ziz
def Zj3:=cL Zj2
def Zj4:=cL Zj3
def Zj5:=cL Zj4
def Zj6:=cR Zj4
def Zj7:=cL Zj5
def Zj8:=cR Zj5
def Zj9:=cL Zj8
def Zja:=cR Zj8
def Zjb:=cL Zj6
def Zjc:=cR Zj6
def Zjd:=cL Zjb
def Zje:=cL Zj0
def Zjf:=cR Zj0
def Zjg:=cL Zje
def Zjh:=cR Zje
def Zji:=cL Zjh
def Zjj:=cL Zji
def Zjk:=cL Zjj
def Zjl:=cR Zjj
def Zjm:=cL Zjk
def Zjn:=cR Zjk
def Zjo:=cL Zjn
def Zjp:=cR Zjn
def Zjq:=cL Zjl
def Zjr:=cR Zjl
def Zjs:=cL Zjq
def Zjt:=cL Zjs
def Zju:=cR Zjs
def Zjv:=cL Zju
def Zjw:=cR Zju
def Zjx:=cL Zjw
def Zjy:=cR Zjw
def Zjz:=cL Zjx
def Zk0:=cR Zjx
def Zk1:=cL Zjy
def Zk2:=cR Zjy
def Zk3:=cL Zjf
def Zk4:=cR Zjf
def Zk5:=cL Zk4
def Zk6:=cR Zk4
def Zk7:=cL Zk6
def Zk8:=cR Zk6
def Zk9:=cL Zk7
def Zka:=cR Zk7
def Zkb:=cL Zka
def Zkc:=cL Zkb
def Zkd:=cL Zkc
def Zke:=cR Zkc
def Zkf:=cL Zkd
def Zkg:=cR Zkd
def Zkh:=cL Zkg
def Zki:=cR Zkg
def Zkj:=cL Zke
def Zkk:=cR Zke
def Zkl:=cL Zkj
def Zkm:=cL Zkl
def Zkn:=cR Zkl
def Zko:=cL Zkn
def Zkp:=cR Zkn
def Zkq:=cL Zko
def Zkr:=cR Zko
def Zks:=cL Zkr
def Zkt:=cL Zks
def Zku:=cL Zkt
def Zkv:=cR Zkt
def Zkw:=cL Zku
def Zkx:=cR Zku
def Zky:=cL Zkx
def Zkz:=cR Zkx
def Zl0:=cL Zkv
def Zl1:=cR Zkv
def Zl2:=cL Zl0
def Zl3:=cL Zl2
def Zl4:=cR Zl2
def Zl5:=cL Zl4
def Zl6:=cR Zl4
def Zl7:=cL Zkp
def Zl8:=cR Zkp
def Zl9:=cL Zl8
def Zla:=cR Zl8
def Zlb:=cL Zl9
def Zlc:=cR Zl9
def Zld:=cL Zk8
def Zle:=cR Zk8
set_option maxHeartbeats 2000000 in
set_option maxRecDepth 10000 in
theorem IC{w:World}{M:Hp}{X:Fr}(d:Dg){aV:Option Addr}{aU:Nat}(s:Nat)(ay:aB bw (M.un X.h) aV aU d.ae){L:Nat}(hn:d.ae.length<=12)(hab:Uu d=true)(hL:d.loops=(L:Int))(hL2:L<=16)(S:SH w M X []):Ct Tryz.prog 103 [.agg [.slice aV d.ae.length aU,.int .i64 d.loops].toArray,.int .i64 (s:Int)] w M X (fun u N=>∃A c,u=.tuple [.slice A (aO d L s).length c,.int .i64 ((kM d s+L:Nat):Int)].toArray/\aB Uh N A c (aO d L s)):=by
 unfold Ct
 have jH:d.ae.length*40<=140737488355328:=ay.room
 refine Up (b:=Zis) Tryz.func103 rfl Tryz.ntmps103 rfl (fun C hC=>(bu [(0,_),(1,_)] ⟨rfl,rfl,trivial⟩ (U1 Zit Ziu rfl rfl rfl (U0 rfl (ar 0 1 rfl rfl rfl (cU (l:=[_,_]) rfl rfl rfl rfl rfl S ?_))))))
 intro aI w1 S1;clear S
 refine af 1 2 rfl rfl (U3 rfl (ah [1,2] rfl (U2 (U1 Ziv Ziw rfl rfl rfl (U0 rfl (ag 0 rfl (U4 rfl rfl bg rfl (dV) (dS)) (ag 1 rfl (U5 rfl rfl bF rfl (S1.aG (i:=0) rfl rfl)) (ag 2 rfl (Uv rfl rfl rfl rfl rfl rfl bF) ?_))))))))
 refine ag 3 rfl (pj rfl rfl rfl (by first|omega|(simp only[ls];omega))) ?_
 refine af 4 1 rfl rfl (U3 rfl (ah [1,2,6] rfl (U2 (U1 Zix Ziy rfl rfl rfl (U0 rfl (af 0 1 rfl rfl (ag 1 rfl (Ud rfl rfl rfl (by first|omega|(simp only[ls];omega))) ?_)))))))
 refine ag 2 rfl (U4 rfl rfl bg rfl (aL) (aJ)) (ag 3 rfl (U5 rfl rfl aw rfl (S1.aG (i:=0) rfl rfl)) (ag 4 rfl (Ud rfl rfl rfl (by first|omega|(simp only[ls];omega))) ?_))
 refine ar 5 6 rfl rfl rfl (rJ (C:=Uh) (((2*(d.ae.length:Int))+1).toNat+d.loops.toNat) rfl rfl rfl rfl rfl aS (by first|rfl|omega) (by show _*8<=_;first|omega|(simp only[ls];omega)) S1 ?_)
 intro zz w2 S2;clear S1
 refine af 6 1 rfl rfl (U3 rfl (ah [1,2,7] rfl (U2 (U1 Ziz Zj0 rfl rfl rfl (U1 Zj1 Zj2 rfl rfl rfl (U0 rfl (af 0 1 rfl rfl (U3 rfl ?_))))))))
 refine U2 (U7 Zj3 0 rfl rfl rfl ?_)
 refine Ui (fun aF ak aA=>∃(i:Nat) (ws:List Int) (cH:Value),aF=(2*d.ae.length+1+L) -i/\Env 122 [(1,.int .i64 (s:Int)),(2,.pointer (some ⟨aI,0,none⟩)),(7,cH),(8,.int .i64 (i:Int))] ak/\SH aA M X [Rs.row Uh cH ws,Rs.box aI 24 [.slice aV d.ae.length aU,.int .i64 d.loops]]/\i<=(2*d.ae.length+1+L)/\ws=iniW (2*d.ae.length+1+L) i) rfl ?_ ?_
 ·intro ak ai
  refine⟨_,⟨0,_,_,rfl,ai.sub ⟨rfl,rfl,rfl,rfl,trivial⟩,S2.pick [0,1] [_,_] (by decide) ⟨rfl,rfl,trivial⟩,?bn,?bE⟩⟩
  case bn=>omega
  case bE=>(show List.replicate _ _=List.replicate _ _;congr 1;omega)
 ·rintro m1 a1 w3 ⟨i,ws,cH,rfl,aQ,S3,hi,hw⟩
  clear S2
  refine aW aQ (c:=Zj4) rfl ?_
  clear aQ a1
  have xN:ws.length=(2*d.ae.length+1+L):=by rw[hw,vE]
  refine U1 Zj5 Zj6 rfl rfl rfl (U1 Zj7 Zj8 rfl rfl rfl (U0 rfl (af 0 2 rfl rfl (ag 2 rfl (kL (C:=Uh) (i:=0) rfl rfl rfl rfl rfl rfl aS S3 rfl) (ag 3 rfl (Un rfl rfl rfl) (U3 rfl (ah [1,2,7,8,28] rfl (U2 ?_))))))))
  refine Ua Zj9 Zja rfl rfl rfl rfl (fun CB=>?_) (fun CB=>?_)
  ·refine Ub rfl (ah [1,2,7,8] rfl (U2 (U1 Zjb Zjc rfl rfl rfl (U7 Zjd 1 rfl rfl rfl (U0 rfl (af 0 3 rfl rfl (ag 3 rfl (Ue (C:=Uh) (i:=0) i rfl rfl rfl aS S3 rfl (by first|rfl|omega) (by first|omega|(simp only[ls];omega))) ?_)))))))
   refine ar 4 5 rfl rfl rfl (ij (C:=Uh) (i:=0) (e:=i) (j:=0) (us:=[_]) (H':=[_,_]) (i:Int) rfl rfl S3 rfl (by first|omega|(simp only[ls];omega)) rfl rfl rfl dw rfl rfl rfl rfl ?_)
   intro w4 S4;clear S3
   refine U3 rfl (Ul (ah [1,2,7,8] rfl (U2 (U0 rfl (af 0 1 rfl rfl (ag 1 rfl (Ud rfl rfl rfl (by first|omega|(simp only[ls];omega))) ?_))))))
   refine af 2 1 rfl rfl (U3 rfl (Ut ?_))
   intro ak ai
   refine⟨_,?bG,⟨i+1,_,_,rfl,ai.sub ⟨rfl,rfl,rfl,rfl,trivial⟩,S4.pick [0,1] [_,_] (by decide) ⟨rfl,rfl,trivial⟩,?bk,?bD⟩⟩
   case bk=>omega
   case bD=>(rw[hw];rfl)
   case bG=>omega
  ·refine Uk rfl rfl (ah [1,2,7] rfl (U2 (U1 Zje Zjf rfl rfl rfl (U1 Zjg Zjh rfl rfl rfl (U0 rfl (af 0 1 rfl rfl (U3 rfl (U2 ?_))))))))
   refine U7 Zji 2 rfl rfl rfl ?_
   refine Ui (fun aF ak aA=>∃(k:Nat) (ws:List Int) (jP:Value),aF=d.ae.length-k/\Env 122 [(1,.int .i64 (s:Int)),(2,.pointer (some ⟨aI,0,none⟩)),(7,jP),(9,.int .i64 (k:Int))] ak/\SH aA M X [Rs.row Uh jP ws,Rs.box aI 24 [.slice aV d.ae.length aU,.int .i64 d.loops]]/\k<=d.ae.length/\qO (2*d.ae.length+1) (2*d.ae.length+1+L) (clsG (iI d av s) (iH d av s) (2*d.ae.length+1) (2*k)) ws) rfl ?_ ?_
   ·intro ak ai
    refine⟨_,⟨0,_,_,rfl,ai.sub ⟨rfl,rfl,rfl,rfl,trivial⟩,S3.pick [0,1] [_,_] (by decide) ⟨rfl,rfl,trivial⟩,?cu,?cN⟩⟩
    case cu=>omega
    case cN=>(have e9:i=(2*d.ae.length+1+L):=(by omega);rw[hw,e9];exact ajP)
   ·rintro m2 a2 w5 ⟨k,ws,jP,rfl,bS,S5,hk,DF⟩
    clear S3
    refine aW bS (c:=Zjj) rfl ?_
    clear bS a2
    have xN:=DF.1
    refine U1 Zjk Zjl rfl rfl rfl (U1 Zjm Zjn rfl rfl rfl (U0 rfl (af 0 1 rfl rfl (ag 1 rfl (U4 rfl rfl bg rfl (dV) (dS)) (ag 2 rfl (U5 rfl rfl bF rfl (S5.aG (i:=1) rfl rfl)) (ag 3 rfl (Uv rfl rfl rfl rfl rfl rfl bF) (ag 4 rfl (Un rfl rfl rfl) (U3 rfl ?_))))))))
    refine ah [1,2,7,9,39] rfl (U2 ?_)
    refine Ua Zjo Zjp rfl rfl rfl rfl (fun asn=>?_) (fun asn=>?_)
    ·refine Ub rfl (ah [1,2,7,9] rfl (U2 (U1 Zjq Zjr rfl rfl rfl (U7 Zjs 3 rfl rfl rfl (U1 Zjt Zju rfl rfl rfl ?_)))))
     have LU:1<=(ga d.ae k).a/\(ga d.ae k).a<=2*(d.ae.length:Int):=iN hab (show k<d.ae.length by omega) (k:=0) (by omega)
     have afl:1<=(ga d.ae k).b/\(ga d.ae k).b<=2*(d.ae.length:Int):=iN hab (show k<d.ae.length by omega) (k:=1) (by omega)
     have LS:1<=(ga d.ae k).c/\(ga d.ae k).c<=2*(d.ae.length:Int):=iN hab (show k<d.ae.length by omega) (k:=2) (by omega)
     have afk:1<=(ga d.ae k).d/\(ga d.ae k).d<=2*(d.ae.length:Int):=iN hab (show k<d.ae.length by omega) (k:=3) (by omega)
     have aBA:=yo ws (ga d.ae k).a.toNat (ga d.ae k).b.toNat
     have aBz:=yo ws (ga d.ae k).b.toNat (ga d.ae k).c.toNat
     have aBy:=yo (jy ws (ga d.ae k).a.toNat (ga d.ae k).b.toNat) (ga d.ae k).c.toNat (ga d.ae k).d.toNat
     have aBx:=yo (jy ws (ga d.ae k).b.toNat (ga d.ae k).c.toNat) (ga d.ae k).d.toNat (ga d.ae k).a.toNat
     refine U0 rfl (ag 0 rfl (U4 rfl rfl bg rfl (dV) (dS)) (ag 1 rfl (U5 rfl rfl bF rfl (S5.aG (i:=1) rfl rfl)) (af 2 1 rfl rfl (ag 3 rfl (U9 (C:=bw) k rfl rfl rfl mH (by first|rfl|omega) ay (by first|omega|(simp only[ls];omega))) ?_))))
     refine ag 4 rfl (Uc (us:=[_,_,_,_,_]) rfl rfl bR rfl kT (ay.fV S5.um (e:=k) (by first|omega|(simp only[ls];omega)) (j:=0) ⟨rfl,rfl,rfl,rfl,rfl,trivial⟩)) ?_
     refine ar 5 6 rfl rfl rfl (dh (l:=[_,_,_,_,_]) rfl rfl rfl y5 rfl S5 ?_)
     intro bq w6 S6;clear S5
     refine ar 6 7 rfl rfl rfl (Uo (i:=0) (us:=[_,_,_,_,_]) (l':=[_,_,_,_,_]) (H':=[_,_,_]) rfl rfl S6 rfl rfl rfl rfl kT rfl rfl rfl rfl ?_)
     intro w7 S7;clear S6
     refine U3 rfl (ah [1,2,7,9,10] rfl (U2 (U1 Zjv Zjw rfl rfl rfl (U0 rfl (af 0 2 rfl rfl (ag 2 rfl (tN (s:=s) (n:=k) rfl rfl rfl (by first|omega|(simp only[ls];omega))) ?_))))))
     refine ag 3 rfl (vK (s:=(s/2^k)) rfl rfl rfl) (ag 4 rfl (Uz rfl rfl rfl) (U3 rfl (ah [1,2,7,9,10,51] rfl (U2 ?_))))
     refine Ua Zjx Zjy rfl rfl rfl rfl (fun Mk=>?_) (fun Mk=>?_)
     ·refine U1 Zjz Zk0 rfl rfl rfl (U0 rfl (af 0 1 rfl rfl (ag 1 rfl (U4 rfl rfl bR rfl (aL) (aJ)) (ag 2 rfl (U5 rfl rfl aw rfl (S7.aG (i:=0) rfl rfl)) (ag 3 rfl (U4 rfl rfl bR rfl (aL) (aJ)) (ag 4 rfl (U5 rfl rfl aw rfl (S7.aG (i:=0) rfl rfl)) (ar 5 6 rfl rfl rfl (r8 rfl rfl rfl rfl rfl rfl rfl F5 S7 (i:=1) rfl (EP jP ws ((ga d.ae k).a) ((ga d.ae k).b) (by omega) (by omega) (by omega) (S7.ng (i:=1) rfl)) ?_))))))))
      rintro vw8 w8 _ _-S8 ⟨rfl,rfl,rfl⟩;clear S7
      change SH _ _ _ [_,_,_]at S8
      refine U3 rfl (ah [1,2,7,9,10] rfl (U2 (U0 rfl (af 0 1 rfl rfl (ag 1 rfl (U4 rfl rfl bR rfl (aL) (aJ)) (ag 2 rfl (U5 rfl rfl aw rfl (S8.aG (i:=0) rfl rfl)) (ag 3 rfl (U4 rfl rfl bR rfl (aL) (aJ)) (ag 4 rfl (U5 rfl rfl aw rfl (S8.aG (i:=0) rfl rfl)) ?_))))))))
      refine ar 5 6 rfl rfl rfl (r8 rfl rfl rfl rfl rfl rfl rfl F5 S8 (i:=1) rfl (EP jP (jy ws ((ga d.ae k).a).toNat ((ga d.ae k).b).toNat) ((ga d.ae k).c) ((ga d.ae k).d) (by omega) (by omega) (by omega) (S8.ng (i:=1) rfl)) ?_)
      rintro vw9 w9 _ _-S9 ⟨rfl,rfl,rfl⟩;clear S8
      change SH _ _ _ [_,_,_]at S9
      refine U3 rfl (Ul (ah [1,2,7,9] rfl (U2 (U0 rfl (af 0 1 rfl rfl (ag 1 rfl (Ud rfl rfl rfl (by first|omega|(simp only[ls];omega))) ?_))))))
      refine af 2 1 rfl rfl (U3 rfl (Ut ?_))
      intro ak ai
      refine⟨_,?jf,⟨k+1,jy (jy ws ((ga d.ae k).a).toNat ((ga d.ae k).b).toNat) ((ga d.ae k).c).toNat ((ga d.ae k).d).toNat,_,rfl,ai.sub ⟨rfl,rfl,rfl,rfl,trivial⟩,S9.pick [1,2] [_,_] (by decide) ⟨rfl,rfl,trivial⟩,?dL,?ek⟩⟩
      case dL=>omega
      case ek=>(refine aan hab (by omega) (by omega) ?_ DF;unfold aD;first|(rw[if_pos (by omega)];exact⟨rfl,rfl,rfl,rfl⟩)|(rw[if_neg (by omega)];exact⟨rfl,rfl,rfl,rfl⟩))
      case jf=>omega
     ·refine U1 Zk1 Zk2 rfl rfl rfl (U0 rfl (af 0 1 rfl rfl (ag 1 rfl (U4 rfl rfl bR rfl (aL) (aJ)) (ag 2 rfl (U5 rfl rfl aw rfl (S7.aG (i:=0) rfl rfl)) (ag 3 rfl (U4 rfl rfl bR rfl (aL) (aJ)) (ag 4 rfl (U5 rfl rfl aw rfl (S7.aG (i:=0) rfl rfl)) (ar 5 6 rfl rfl rfl (r8 rfl rfl rfl rfl rfl rfl rfl F5 S7 (i:=1) rfl (EP jP ws ((ga d.ae k).b) ((ga d.ae k).c) (by omega) (by omega) (by omega) (S7.ng (i:=1) rfl)) ?_))))))))
      rintro aqZ oZ _ _-bM ⟨rfl,rfl,rfl⟩;clear S7
      change SH _ _ _ [_,_,_]at bM
      refine U3 rfl (ah [1,2,7,9,10] rfl (U2 (U0 rfl (af 0 1 rfl rfl (ag 1 rfl (U4 rfl rfl bR rfl (aL) (aJ)) (ag 2 rfl (U5 rfl rfl aw rfl (bM.aG (i:=0) rfl rfl)) (ag 3 rfl (U4 rfl rfl bR rfl (aL) (aJ)) (ag 4 rfl (U5 rfl rfl aw rfl (bM.aG (i:=0) rfl rfl)) ?_))))))))
      refine ar 5 6 rfl rfl rfl (r8 rfl rfl rfl rfl rfl rfl rfl F5 bM (i:=1) rfl (EP jP (jy ws ((ga d.ae k).b).toNat ((ga d.ae k).c).toNat) ((ga d.ae k).d) ((ga d.ae k).a) (by omega) (by omega) (by omega) (bM.ng (i:=1) rfl)) ?_)
      rintro ae7 mO _ _-bJ ⟨rfl,rfl,rfl⟩;clear bM
      change SH _ _ _ [_,_,_]at bJ
      refine U3 rfl (Ul (ah [1,2,7,9] rfl (U2 (U0 rfl (af 0 1 rfl rfl (ag 1 rfl (Ud rfl rfl rfl (by first|omega|(simp only[ls];omega))) ?_))))))
      refine af 2 1 rfl rfl (U3 rfl (Ut ?_))
      intro ak ai
      refine⟨_,?je,⟨k+1,jy (jy ws ((ga d.ae k).b).toNat ((ga d.ae k).c).toNat) ((ga d.ae k).d).toNat ((ga d.ae k).a).toNat,_,rfl,ai.sub ⟨rfl,rfl,rfl,rfl,trivial⟩,bJ.pick [1,2] [_,_] (by decide) ⟨rfl,rfl,trivial⟩,?ei,?fK⟩⟩
      case ei=>omega
      case fK=>(refine aan hab (by omega) (by omega) ?_ DF;unfold aD;first|(rw[if_pos (by omega)];exact⟨rfl,rfl,rfl,rfl⟩)|(rw[if_neg (by omega)];exact⟨rfl,rfl,rfl,rfl⟩))
      case je=>omega
    ·refine Uk rfl rfl (ah [7] rfl (U2 (U1 Zk3 Zk4 rfl rfl rfl ?_)))
     have CH:qO (2*d.ae.length+1) (2*d.ae.length+1+L) (kC d av s) ws:=by have e9:k=d.ae.length:=(by omega);rw[e9]at DF;exact DF
     have xN:=CH.1
     refine U0 rfl (af 0 1 rfl rfl (ag 1 rfl (kL (C:=Uh) (i:=0) rfl rfl rfl rfl rfl rfl aS S5 rfl) (ar 2 3 rfl rfl rfl (rJ (C:=Uh) ws.length rfl rfl rfl rfl rfl aS (by first|rfl|omega) (by show _*8<=_;first|omega|(simp only[ls];omega)) S5 ?_))))
     intro jZ ra cB;clear S5
     refine af 3 1 rfl rfl (U3 rfl (ah [7,11] rfl (U2 (U1 Zk5 Zk6 rfl rfl rfl (U0 rfl (af 0 1 rfl rfl (U3 rfl (U2 ?_))))))))
     refine U1 Zk7 Zk8 rfl rfl rfl (U1 Zk9 Zka rfl rfl rfl (U0 rfl (af 0 1 rfl rfl (U3 rfl (U2 (U7 Zkb 4 rfl rfl rfl ?_))))))
     refine Ui (fun aF ak aA=>∃(a:Nat) (xs:List Int) (cq:Int) (aZ:Value),aF=(2*d.ae.length+1+L) -a/\Env 122 [(7,jP),(11,aZ),(12,.int .i64 cq),(13,.int .i64 (a:Int))] ak/\SH aA M X [Rs.row Uh aZ xs,Rs.row Uh jP ws]/\(1<=a/\a<=(2*d.ae.length+1+L))/\xs.length=(2*d.ae.length+1+L)/\rS d s a xs/\cq=((cn (lu d s) a:Nat):Int)/\cq<=a) rfl ?_ ?_
     ·intro ak ai
      refine⟨_,⟨1,_,_,_,rfl,ai.sub ⟨rfl,rfl,rfl,rfl,trivial⟩,cB.pick [0,1] [_,_] (by decide) ⟨rfl,rfl,trivial⟩,?fJ,?gu,?kq,?su,?wN⟩⟩
      case fJ=>omega
      case gu=>(rw[List.length_replicate];omega)
      case kq=>exact rS.mb d s _
      case su=>(show(0:Int)=_;rw[aqe];rfl)
      case wN=>omega
     ·rintro m3 a3 q8 ⟨a,xs,cq,aZ,rfl,cW,bY,ha,hxl,hxs,Vq,di⟩
      clear cB
      refine aW cW (c:=Zkc) rfl ?_
      clear cW a3
      refine U1 Zkd Zke rfl rfl rfl (U1 Zkf Zkg rfl rfl rfl (U0 rfl (af 0 2 rfl rfl (ag 2 rfl (kL (C:=Uh) (i:=1) rfl rfl rfl rfl rfl rfl aS bY rfl) (ag 3 rfl (Un rfl rfl rfl) (U3 rfl (ah [7,11,12,13,82] rfl (U2 ?_))))))))
      refine Ua Zkh Zki rfl rfl rfl rfl (fun ar7=>?_) (fun ar7=>?_)
      ·refine Ub rfl (ah [7,11,12,13] rfl (U2 (U1 Zkj Zkk rfl rfl rfl (U7 Zkl 5 rfl rfl rfl (U1 Zkm Zkn rfl rfl rfl (U0 rfl (af 0 2 rfl rfl (ag 2 rfl (Ue (C:=Uh) (i:=0) a rfl rfl rfl aS bY rfl (by first|rfl|omega) (by first|omega|(simp only[ls];omega))) ?_))))))))
       refine ar 3 4 rfl rfl rfl (ij (C:=Uh) (i:=0) (e:=a) (j:=0) (us:=[_]) (H':=[_,_]) (-1) rfl rfl bY rfl (by first|omega|(simp only[ls];omega)) rfl rfl rfl dw rfl rfl rfl rfl ?_)
       intro zx bX;clear bY
       refine U3 rfl (ah [7,11,12,13] rfl (U2 (U1 Zko Zkp rfl rfl rfl (U1 Zkq Zkr rfl rfl rfl (U0 rfl (af 0 1 rfl rfl (U3 rfl (U2 ?_))))))))
       refine U7 Zks 6 rfl rfl rfl ?_
       refine Ui (fun aF ak aA=>∃(b:Nat) (ys:List Int) (aZ:Value),aF=a-b/\Env 122 [(7,jP),(11,aZ),(12,.int .i64 cq),(13,.int .i64 (a:Int)),(14,.int .i64 (b:Int))] ak/\SH aA M X [Rs.row Uh aZ ys,Rs.row Uh jP ws]/\(1<=b/\b<=a)/\ys.length=(2*d.ae.length+1+L)/\jV d s a b ys) rfl ?_ ?_
       ·intro ak ai
        refine⟨_,⟨1,_,_,rfl,ai.sub ⟨rfl,rfl,rfl,rfl,rfl,trivial⟩,bX.pick [0,1] [_,_] (by decide) ⟨rfl,rfl,trivial⟩,?gq,?gj,?nr⟩⟩
        case gq=>omega
        case gj=>(rw[List.length_set];exact hxl)
        case nr=>exact jV.mb hab ha.1 (by omega) hxs
       ·rintro m4 a4 De ⟨b,ys,aZ,rfl,kE,bT,hb,u7,hys⟩
        clear bX
        refine aW kE (c:=Zkt) rfl ?_
        clear kE a4
        refine U1 Zku Zkv rfl rfl rfl (U1 Zkw Zkx rfl rfl rfl (U0 rfl (af 0 2 rfl rfl (ag 2 rfl (Un rfl rfl rfl) (U3 rfl (ah [7,11,12,13,14,90] rfl (U2 ?_)))))))
        refine Ua Zky Zkz rfl rfl rfl rfl (fun Mh=>?_) (fun Mh=>?_)
        ·refine Ub rfl (ah [7,11,12,13,14] rfl (U2 (U1 Zl0 Zl1 rfl rfl rfl (U7 Zl2 7 rfl rfl rfl (U1 Zl3 Zl4 rfl rfl rfl (cM rfl (by kernel_rfl) bT 9 rfl ?_))))))
         clear bT
         refine aq 0 8 rfl (by kernel_rfl) (fun _=>run_move rfl rfl) ?_
         refine aq 1 7 rfl (by kernel_rfl) (fun _=>run_move rfl rfl) ?_
         refine au 2 6 rfl (by kernel_rfl) (fun _ _ _ aj Sz=>.inl (Ue (C:=Uh) (i:=1) b rfl rfl rfl aS Sz.suf rfl (by first|rfl|omega) (by first|omega|(simp only[ls];omega)))) ?_
         refine au 3 5 rfl (by kernel_rfl) (fun _ _ _ aj Sz=>.inl (U5 rfl rfl aw rfl (Sz.suf.cK (i:=1) (e:=b) (j:=0) rfl (by first|omega|(simp only[ls];omega)) rfl rfl))) ?_
         refine aq 4 4 rfl (by kernel_rfl) (fun _=>run_move rfl rfl) ?_
         refine aq 5 3 rfl (by kernel_rfl) (fun _=>run_move rfl rfl) ?_
         refine au 6 2 rfl (by kernel_rfl) (fun _ _ _ aj Sz=>.inl (Ue (C:=Uh) (i:=1) a rfl rfl rfl aS Sz.suf rfl (by first|rfl|omega) (by first|omega|(simp only[ls];omega)))) ?_
         refine au 7 1 rfl (by kernel_rfl) (fun _ _ _ aj Sz=>.inl (U5 rfl rfl aw rfl (Sz.suf.cK (i:=1) (e:=a) (j:=0) rfl (by first|omega|(simp only[ls];omega)) rfl rfl))) ?_
         refine aq 8 0 rfl (by kernel_rfl) (fun _=>Uz rfl rfl rfl) ?_
         refine cF (by kernel_rfl) (fun Dd gK=>?_)
         refine ah [7,11,12,13,14,101] rfl (U2 ?_)
         refine Ua Zl5 Zl6 rfl rfl rfl rfl (fun ap2=>?_) (fun ap2=>?_)
         ·refine U0 rfl (af 0 4 rfl rfl (ag 4 rfl (Ue (C:=Uh) (i:=0) b rfl rfl rfl aS gK rfl (by first|rfl|omega) (by first|omega|(simp only[ls];omega))) ?_))
          refine ag 5 rfl (U5 rfl rfl aw rfl (gK.cK (i:=0) (e:=b) (j:=0) rfl (by first|omega|(simp only[ls];omega)) rfl rfl)) ?_
          refine ag 6 rfl (Ue (C:=Uh) (i:=0) a rfl rfl rfl aS gK rfl (by first|rfl|omega) (by first|omega|(simp only[ls];omega))) ?_
          refine ar 7 8 rfl rfl rfl (ij (C:=Uh) (i:=0) (e:=a) (j:=0) (us:=[_]) (H':=[_,_]) (ga ys b) rfl rfl gK rfl (by first|omega|(simp only[ls];omega)) rfl rfl rfl dw rfl rfl rfl rfl ?_)
          intro zu il;clear gK
          refine U3 rfl (Ul (ah [7,11,12,13,14] rfl (U2 (U0 rfl (af 0 1 rfl rfl (ag 1 rfl (Ud rfl rfl rfl (by first|omega|(simp only[ls];omega))) ?_))))))
          refine af 2 1 rfl rfl (U3 rfl (Ut ?_))
          intro ak ai
          refine⟨_,?nA,⟨b+1,ys.set a (ga ys b),_,rfl,ai.sub ⟨rfl,rfl,rfl,rfl,rfl,trivial⟩,il.pick [0,1] [_,_] (by decide) ⟨rfl,rfl,trivial⟩,?iy,?iw,?np⟩⟩
          case iy=>omega
          case iw=>(first|(rw[List.length_set];exact u7)|exact u7)
          case np=>first|exact jV.go hab hb.1 (by omega) (by omega) (by omega) CH hys (by omega)|exact jV.no hab hb.1 (by omega) (by omega) CH hys (by omega)
          case nA=>omega
         ·refine Ub rfl (Ul (ah [7,11,12,13,14] rfl (U2 (U0 rfl (af 0 1 rfl rfl (ag 1 rfl (Ud rfl rfl rfl (by first|omega|(simp only[ls];omega))) ?_))))))
          refine af 2 1 rfl rfl (U3 rfl (Ut ?_))
          intro ak ai
          refine⟨_,?sK,⟨b+1,ys,_,rfl,ai.sub ⟨rfl,rfl,rfl,rfl,rfl,trivial⟩,gK.pick [0,1] [_,_] (by decide) ⟨rfl,rfl,trivial⟩,?nk,?nj,?wM⟩⟩
          case nk=>omega
          case nj=>(first|(rw[List.length_set];exact u7)|exact u7)
          case wM=>first|exact jV.go hab hb.1 (by omega) (by omega) (by omega) CH hys (by omega)|exact jV.no hab hb.1 (by omega) (by omega) CH hys (by omega)
          case sK=>omega
        ·refine Uk rfl rfl (ah [7,11,12,13] rfl (U2 (U1 Zl7 Zl8 rfl rfl rfl ?_)))
         have e9:b=a:=by omega
         have LR:jV d s a a ys:=by rw[e9]at hys;exact hys
         have hcs:=LR.end_ hab ha.1
         refine U0 rfl (af 0 2 rfl rfl (ag 2 rfl (Ue (C:=Uh) (i:=0) a rfl rfl rfl aS bT rfl (by first|rfl|omega) (by first|omega|(simp only[ls];omega))) ?_))
         refine ag 3 rfl (U5 rfl rfl aw rfl (bT.cK (i:=0) (e:=a) (j:=0) rfl (by first|omega|(simp only[ls];omega)) rfl rfl)) ?_
         refine ag 4 rfl (Un rfl rfl rfl) (U3 rfl (ah [7,11,12,13,113] rfl (U2 ?_)))
         refine Ua Zl9 Zla rfl rfl rfl rfl (fun ap0=>?_) (fun ap0=>?_)
         ·have hE:=hcs.1 (by omega)
          refine U1 Zlb Zlc rfl rfl rfl (U0 rfl (af 0 3 rfl rfl (ag 3 rfl (Ue (C:=Uh) (i:=0) a rfl rfl rfl aS bT rfl (by first|rfl|omega) (by first|omega|(simp only[ls];omega))) ?_)))
          refine ar 4 5 rfl rfl rfl (ij (C:=Uh) (i:=0) (e:=a) (j:=0) (us:=[_]) (H':=[_,_]) cq rfl rfl bT rfl (by first|omega|(simp only[ls];omega)) rfl rfl rfl dw rfl rfl rfl rfl ?_)
          intro Dc fQ;clear bT
          refine U3 rfl (ah [7,11,12,13] rfl (U2 (U0 rfl (af 0 1 rfl rfl (ag 1 rfl (Ud rfl rfl rfl (by first|omega|(simp only[ls];omega))) ?_)))))
          refine af 2 1 rfl rfl (U3 rfl (Ul (ah [7,11,12,13] rfl (U2 (U0 rfl (af 0 1 rfl rfl (ag 1 rfl (Ud rfl rfl rfl (by first|omega|(simp only[ls];omega))) ?_)))))))
          refine af 2 1 rfl rfl (U3 rfl (Ut ?_))
          intro ak ai
          refine⟨_,?wT,⟨a+1,ys.set a cq,cq+1,_,rfl,ai.sub ⟨rfl,rfl,rfl,rfl,trivial⟩,fQ.pick [0,1] [_,_] (by decide) ⟨rfl,rfl,trivial⟩,?pN,?pM,?rZ,?Bt,?Ky⟩⟩
          case pN=>omega
          case pM=>(first|(rw[List.length_set];exact u7)|exact u7)
          case rZ=>first|(rw[Vq];exact LR.new ha.1 (by omega) hE.2.1)|exact hE.2
          case Bt=>(first|(rw[hE.2.2];omega)|(rw[hE.1];omega))
          case Ky=>omega
          case wT=>omega
         ·have hE:=hcs.2 (by omega)
          refine Ub rfl (Ul (ah [7,11,12,13] rfl (U2 (U0 rfl (af 0 1 rfl rfl (ag 1 rfl (Ud rfl rfl rfl (by first|omega|(simp only[ls];omega))) ?_))))))
          refine af 2 1 rfl rfl (U3 rfl (Ut ?_))
          intro ak ai
          refine⟨_,?wS,⟨a+1,ys,cq,_,rfl,ai.sub ⟨rfl,rfl,rfl,rfl,trivial⟩,bT.pick [0,1] [_,_] (by decide) ⟨rfl,rfl,trivial⟩,?pL,?pK,?rY,?Kw,?anU⟩⟩
          case pL=>omega
          case pK=>(first|(rw[List.length_set];exact u7)|exact u7)
          case rY=>first|(rw[Vq];exact LR.new ha.1 (by omega) hE.2.1)|exact hE.2
          case Kw=>(first|(rw[hE.2.2];omega)|(rw[hE.1];omega))
          case anU=>omega
          case wS=>omega
      ·refine Uk rfl rfl (ah [11,12] rfl (U2 (U1 Zld Zle rfl rfl rfl (U0 rfl (af 0 4 rfl rfl (U3 rfl (ah [4,5] rfl (U2 ?_))))))))
       obtain⟨M10,aeI,jF,⟨A1,c1,e1,hr1⟩⟩:=bY.gW (i:=0) (H':=[_,_]) rfl rfl (by show _*8<=_;first|omega|(simp only[ls];omega))
       clear bY;subst e1
       replace ay:=ay.mono (Hp.U6 aeI jF.mx)
       refine Us hC [_,_] rfl rfl ⟨rfl,rfl,trivial⟩ ?_
       refine⟨_,rfl,_,aeI,(jF.pick [] [] (by decide) trivial),?_⟩
       have e8:a=(2*d.ae.length+1+L):=by omega
       have e9:=rS.end_ hxl (by rw[e8]at hxs;exact hxs)
       rw[show cq=((kM d s+L:Nat):Int) by rw[Vq,e8,acX]]
       rw[<-e9]
       exact⟨_,_,rfl,hr1⟩
theorem abL:∀(w m:Nat),dm w m<=w
 |0,_=>Nat.le_refl _
 |w+1,m=>by have:=abL w (m/2);show m%2+dm w (m/2)<=w+1;omega
theorem ud(m:Nat):dm 64 m<=64:=abL 64 m
theorem acA(m:Nat)(h:m<2^62):dm 64 m=m%2+dm 64 (m/2):=by
 have e:=D5 (w:=63) (v:=64) (M:=m/2) (by omega) (by omega)
 rw[e];rfl
theorem ai8:dm 64 0=0:=by decide
noncomputable def Zlf:=Tryz.f104.body.getD .skip
def Zlg:=cL Zlf
def Zlh:=cR Zlf
def Zli:=cL Zlh
def Zlj:=cR Zlh
def Zlk:=cL Zlj
def Zll:=cR Zlj
def Zlm:=cL Zlk
def Zln:=cL Zlm
def Zlo:=cL Zln
def Zlp:=cR Zln
def Zlq:=cL Zlo
def Zlr:=cR Zlo
def Zls:=cL Zlr
def Zlt:=cR Zlr
def Zlu:=cL Zlp
def Zlv:=cR Zlp
def Zlw:=cL Zlu
def Zlx:=cL Zll
def Zly:=cR Zll
set_option maxHeartbeats 1000000 in
set_option maxRecDepth 10000 in
theorem J2{w:World}{M:Hp}{X:Fr}(n:Nat)(hn:n<2^62)(S:SH w M X []):Cq Tryz.prog 104 [.int .i64 (n:Int)] w M X (fun u=>u=.int .i64 ((dm 64 n:Nat):Int)):=by
 unfold Cq
 refine Up (b:=Zlf) Tryz.func104 rfl Tryz.ntmps104 rfl (fun C hC=>(bu [(0,_)] ⟨rfl,trivial⟩ (U1 Zlg Zlh rfl rfl rfl (U0 rfl (af 0 1 rfl rfl (U3 rfl (ah [0] rfl (U2 (U1 Zli Zlj rfl rfl rfl ?_)))))))))
 refine U0 rfl (af 0 1 rfl rfl (U3 rfl (U2 (U1 Zlk Zll rfl rfl rfl (U7 Zlm 0 rfl rfl rfl ?_)))))
 refine Ui (fun aF ak aA=>∃(mm:Nat) (kk:Nat),aF=0+mm/\Env 13 [(0,.int .i64 (mm:Int)),(3,.int .i64 (kk:Int))] ak/\SH aA M X []/\mm<2^62/\kk+dm 64 mm=dm 64 n/\kk<=64) rfl ?_ ?_
 ·intro ak ai
  refine⟨_,⟨n,0,rfl,ai.sub ⟨rfl,rfl,trivial⟩,S.pick [] [] (by decide) trivial,?bn,?bE,?ez⟩⟩
  case bn=>exact hn
  case bE=>exact Nat.zero_add _
  case ez=>omega
 ·rintro m1 a1 w1 ⟨mm,kk,rfl,aQ,S1,hm,hk,hk2⟩
  clear S
  refine aW aQ (c:=Zln) rfl ?_
  clear aQ a1
  refine U1 Zlo Zlp rfl rfl rfl (U1 Zlq Zlr rfl rfl rfl (U0 rfl (af 0 1 rfl rfl (ag 1 rfl (rT rfl rfl rfl) (U3 rfl (ah [0,3,5] rfl (U2 ?_)))))))
  refine Ua Zls Zlt rfl rfl rfl rfl (fun zP=>?_) (fun zP=>?_)
  ·refine Ub rfl (ah [0,3] rfl (U2 (U1 Zlu Zlv rfl rfl rfl (U7 Zlw 1 rfl rfl rfl (U0 rfl (af 0 2 rfl rfl (ag 2 rfl (EX rfl rfl rfl (by first|omega|(simp only[ls];omega))) ?_)))))))
   refine ag 3 rfl (Ud rfl rfl rfl (by first|omega|(simp only[ls];omega))) ?_
   refine af 4 1 rfl rfl (U3 rfl (Ul (ah [0,3] rfl (U2 (U0 rfl (af 0 1 rfl rfl (ag 1 rfl (acm rfl rfl rfl (by first|omega|(simp only[ls];omega))) ?_)))))))
   refine af 2 1 rfl rfl (U3 rfl (Ut ?_))
   intro ak ai
   refine⟨_,?bG,⟨mm/2,kk+mm%2,rfl,ai.sub ⟨rfl,rfl,trivial⟩,S1.pick [] [] (by decide) trivial,?bk,?bD,?fL⟩⟩
   case bk=>omega
   case bD=>(have:=acA mm hm;omega)
   case fL=>(have:=ud n;have:=acA mm hm;omega)
   case bG=>omega
  ·refine Uk rfl rfl (ah [3] rfl (U2 (U1 Zlx Zly rfl rfl rfl (U0 rfl (af 0 2 rfl rfl (U3 rfl (ah [2] rfl (U2 ?_))))))))
   refine Us hC [_] rfl rfl ⟨rfl,trivial⟩ ?_
   exact⟨_,rfl,(S1.pick [] [] (by decide) trivial),(congrArg (Value.int .i64) (by have e9:mm=0:=(by omega);rw[e9,ai8]at hk;omega))⟩
end Go.Proofs.YthppkofceancjaaGreat
namespace Go.Proofs.YthppkofceancjaaGreat
open Go.ChangeShapes Go.WideShapes Go.ChangeAt Go.RowKit
structure Pq where
 p:Int
 q:Int
instance :Inhabited Pq:=⟨⟨0,0⟩⟩
def rG(x:Pq):List Value:=[.int .i64 x.p,.int .i64 x.q]
def bW:Cd Pq:=⟨rG,2,16,128,⟨0,0⟩,fun _=>rfl,by
 intro x u hu
 simp[rG]at hu
 rcases hu with rfl|rfl<;>rfl⟩
def dW:Cd Pq:=⟨rG,2,16,127,⟨0,0⟩,fun _=>rfl,by
 intro x u hu
 simp[rG]at hu
 rcases hu with rfl|rfl<;>rfl⟩
def cQ:Cd Pq:=⟨rG,2,16,176,⟨0,0⟩,fun _=>rfl,by
 intro x u hu
 simp[rG]at hu
 rcases hu with rfl|rfl<;>rfl⟩
def dN:Cd Pq:=⟨rG,2,16,116,⟨0,0⟩,fun _=>rfl,by
 intro x u hu
 simp[rG]at hu
 rcases hu with rfl|rfl<;>rfl⟩
theorem lH:fN Tryz.prog 122 dW:=⟨.agg [.int .i64 0,.int .i64 0].toArray,wE,by kernel_rfl,rfl,by decide,by decide⟩
theorem fI:fN Tryz.prog 123 bW:=⟨.agg [.int .i64 0,.int .i64 0].toArray,aeo,by kernel_rfl,rfl,by decide,by decide⟩
theorem na:fN Tryz.prog 177 cQ:=⟨.agg [.int .i64 0,.int .i64 0].toArray,FN,by kernel_rfl,rfl,by decide,by decide⟩
def dJ(p:Nat×Nat):Pq:=⟨p.1,p.2⟩
def fF(g:Int×Int):Pq:=⟨g.1,g.2⟩
section
variable (d : Dg) (L : Nat)
def dX(K:Nat):List Pq:=(allM d L K).map dJ
def bL(K:Nat):List Pq:=(allM d L K).map fun p=>fF (ml d L p.1 p.2)
def qN(s m:Nat):List (Nat×Nat):=allM d L s++(List.range m).map fun j=>(s,j)
def qR(s m:Nat):List Pq:=(qN d L s m).map dJ
def qX(s m:Nat):List Pq:=(qN d L s m).map fun p=>fF (ml d L p.1 p.2)
theorem ab7(s m:Nat):qN d L s (m+1)=qN d L s m++[(s,m)]:=by
 unfold qN
 rw[List.range_succ,List.map_append,List.append_assoc]
 rfl
theorem ac9(s:Nat):qN d L s 0=allM d L s:=by unfold qN;simp
theorem abo(s:Nat):qN d L s (2^aT d L s)=allM d L (s+1):=(EK d L s).symm
theorem abn(s m:Nat):(qN d L s m).length=offK d L s+m:=by
 unfold qN;rw[List.length_append,lC,List.length_map,List.length_range]
theorem alI(s m:Nat):qR d L s (m+1)=qR d L s m++[⟨s,m⟩]:=by
 unfold qR;rw[ab7,List.map_append];rfl
theorem alY(s m:Nat):qX d L s (m+1)=qX d L s m++[fF (ml d L s m)]:=by
 unfold qX;rw[ab7,List.map_append];rfl
theorem anj(s:Nat):qR d L s 0=dX d L s:=by unfold qR dX;rw[ac9]
theorem aoa(s:Nat):qX d L s 0=bL d L s:=by unfold qX bL;rw[ac9]
theorem akg(s:Nat):qR d L s (2^aT d L s)=dX d L (s+1):=by unfold qR dX;rw[abo]
theorem akv(s:Nat):qX d L s (2^aT d L s)=bL d L (s+1):=by unfold qX bL;rw[abo]
theorem akf(s m:Nat):(qR d L s m).length=offK d L s+m:=by unfold qR;rw[List.length_map,abn]
theorem aku(s m:Nat):(qX d L s m).length=offK d L s+m:=by unfold qX;rw[List.length_map,abn]
theorem acE(s:Nat):(dX d L s).length=offK d L s:=by unfold dX;rw[List.length_map,lC]
theorem acN(s:Nat):(bL d L s).length=offK d L s:=by unfold bL;rw[List.length_map,lC]
variable {d L}
theorem pR(hn:d.ae.length<=6)(hL:L<=2)(s:Nat):aT d L s<=14:=by
 have:=sk (d:=d) s
 unfold aT;omega
theorem BN(hn:d.ae.length<=6)(hL:L<=2)(s:Nat):2^aT d L s<=16384:=(Nat.pow_le_pow_right (by decide) (pR hn hL s):2^aT d L s<=2^14)
theorem Fm(hn:d.ae.length<=6)(hL:L<=2)(s:Nat):offK d L s<=s*16384:=by
 induction s with
 |zero=>exact Nat.le_refl _
 |succ s ih=>have:=BN hn hL s;rw[offK];omega
theorem si(hn:d.ae.length<=6):2^d.ae.length<=64:=(Nat.pow_le_pow_right (by decide) hn:2^d.ae.length<=2^6)
theorem anp{d:Dg}{L s m:Nat}{v w:Int}(hv:v=(dm 64 s:Int) -((d.ae.length:Int) -mR d))(hw:w=(aT d L s:Int) -2*dm 64 m+dm 64 s+mR d-2*((d.ae.length:Int) -mR d)):(⟨v,w⟩:Pq)=fF (ml d L s m):=by
 rw[hv,hw];rfl
end
noncomputable def Zlz:=Tryz.f61.body.getD .skip
def Zm0:=cL Zlz
def Zm1:=cR Zlz
def Zm2:=cL Zm1
def Zm3:=cR Zm1
def Zm4:=cL Zm3
def Zm5:=cR Zm3
def Zm6:=cL Zm5
def Zm7:=cR Zm5
def Zm8:=cL Zm7
def Zm9:=cR Zm7
def Zma:=cL Zm8
def Zmb:=cR Zm8
def Zmc:=cL Zmb
def Zmd:=cL Zmc
def ZZ:=cL Zmd
def ZY:=cR Zmd
def Zmg:=cL ZZ
def ZX:=cR ZZ
def Zmi:=cL ZX
def Zmj:=cR ZX
def Zmk:=cL ZY
def Zml:=cR ZY
def ZW:=cL Zmk
def Zmn:=cL ZW
def ZV:=cR ZW
def Zmp:=cL ZV
def Zmq:=cR ZV
def Zmr:=cL Zm9
def ZU:=cR Zm9
def ZT:=cL ZU
def ZR:=cR ZU
def Zmv:=cL ZT
def Zmw:=cR ZT
def Zmx:=cL Zmw
def ZQ:=cL Zmx
def ZP:=cL ZQ
def ZO:=cR ZQ
def Zn1:=cL ZP
def ZN:=cR ZP
def Zn3:=cL ZN
def Zn4:=cR ZN
def Zn5:=cL ZO
def Zn6:=cR ZO
def ZM:=cL Zn5
def Zn8:=cL ZM
def ZL:=cR ZM
def Zna:=cL ZL
def Znb:=cR ZL
def Znc:=cL Znb
def ZK:=cL Znc
def ZJ:=cL ZK
def ZI:=cR ZK
def Zng:=cL ZJ
def ZH:=cR ZJ
def Zni:=cL ZH
def Znj:=cR ZH
def Znk:=cL ZI
def Znl:=cR ZI
def ZG:=cL Znk
def Znn:=cL ZG
def Zno:=cR ZG
def Znp:=cL ZR
def Znq:=cR ZR
set_option maxHeartbeats 2000000 in
set_option maxRecDepth 10000 in
theorem aju{w:World}{M:Hp}{X:Fr}(d:Dg){aV:Option Addr}{aU:Nat}(ay:aB bw (M.un X.h) aV aU d.ae){L:Nat}(hn:d.ae.length<=6)(hab:Uu d=true)(hL:d.loops=(L:Int))(hL2:L<=2)(S:SH w M X []):Ct Tryz.prog 61 [.agg [.slice aV d.ae.length aU,.int .i64 d.loops].toArray] w M X (fun u N=>∃A c Pq c2,u=.tuple [.slice A (dX d L (2^d.ae.length)).length c,.slice Pq (bL d L (2^d.ae.length)).length c2].toArray/\aB dW N A c (dX d L (2^d.ae.length))/\aB bW N Pq c2 (bL d L (2^d.ae.length))):=by
 unfold Ct
 have jH:d.ae.length*40<=140737488355328:=ay.room
 have h64:=si hn
 have h2p:=Nat.two_pow_pos d.ae.length
 refine Up (b:=Zlz) Tryz.func61 rfl Tryz.ntmps61 rfl (fun C hC=>(bu [(0,_)] ⟨rfl,trivial⟩ (U1 Zm0 Zm1 rfl rfl rfl (U0 rfl (ar 0 1 rfl rfl rfl (cU (l:=[_,_]) rfl rfl rfl rfl rfl S ?_))))))
 intro aI w1 S1;clear S
 refine af 1 2 rfl rfl (U3 rfl (ah [1] rfl (U2 (U1 Zm2 Zm3 rfl rfl rfl (U0 rfl (af 0 1 rfl rfl (U3 rfl (U2 ?_))))))))
 refine U1 Zm4 Zm5 rfl rfl rfl (U0 rfl (af 0 1 rfl rfl (U3 rfl (U2 (U1 Zm6 Zm7 rfl rfl rfl (U0 rfl (af 0 1 rfl rfl (U3 rfl ?_))))))))
 refine U2 (U1 Zm8 Zm9 rfl rfl rfl (U1 Zma Zmb rfl rfl rfl (U0 rfl (af 0 1 rfl rfl (U3 rfl (U2 (U7 Zmc 0 rfl rfl rfl ?_)))))))
 refine Ui (fun aF ak aA=>∃(k:Nat) (pl:Int),aF=d.ae.length-k/\Env 82 [(1,.pointer (some ⟨aI,0,none⟩)),(4,.slice none 0 0),(5,.slice none 0 0),(6,.int .i64 pl),(7,.int .i64 (k:Int))] ak/\SH aA M X [Rs.box aI 24 [.slice aV d.ae.length aU,.int .i64 d.loops]]/\k<=d.ae.length/\pl=(((cn (fun c=>(ga d.ae c).plus) k):Nat):Int)/\pl<=k) rfl ?_ ?_
 ·intro ak ai
  refine⟨_,⟨0,_,rfl,ai.sub ⟨rfl,rfl,rfl,rfl,rfl,trivial⟩,S1.pick [0] [_] (by decide) ⟨rfl,trivial⟩,?bn,?bE,?ez⟩⟩
  case bn=>omega
  case bE=>rfl
  case ez=>omega
 ·rintro m1 a1 w2 ⟨k,pl,rfl,aQ,S2,hk,hpl,hpk⟩
  clear S1
  refine aW aQ (c:=Zmd) rfl ?_
  clear aQ a1
  refine U1 ZZ ZY rfl rfl rfl (U1 Zmg ZX rfl rfl rfl (U0 rfl (af 0 1 rfl rfl (ag 1 rfl (U4 rfl rfl bg rfl (dV) (dS)) (ag 2 rfl (U5 rfl rfl bF rfl (S2.aG (i:=0) rfl rfl)) (ag 3 rfl (Uv rfl rfl rfl rfl rfl rfl bF) (ag 4 rfl (Un rfl rfl rfl) (U3 rfl ?_))))))))
  refine ah [1,4,5,6,7,17] rfl (U2 ?_)
  refine Ua Zmi Zmj rfl rfl rfl rfl (fun xu=>?_) (fun xu=>?_)
  ·refine Ub rfl (ah [1,4,5,6,7] rfl (U2 (U1 Zmk Zml rfl rfl rfl (U7 ZW 1 rfl rfl rfl (U1 Zmn ZV rfl rfl rfl (U0 rfl (ag 0 rfl (U4 rfl rfl bg rfl (dV) (dS)) (ag 1 rfl (U5 rfl rfl bF rfl (S2.aG (i:=0) rfl rfl)) ?_))))))))
   refine af 2 1 rfl rfl (ag 3 rfl (U9 (C:=bw) k rfl rfl rfl mH (by first|rfl|omega) ay (by first|omega|(simp only[ls];omega))) ?_)
   refine ag 4 rfl (U4 rfl rfl bR rfl (rF) (rh)) (ag 5 rfl (U5 rfl rfl gD rfl (ay.cell S2.um (i:=k) (by first|omega|(simp only[ls];omega)) 4 rfl rfl)) ?_)
   refine U3 rfl (ah [1,4,5,6,7,25] rfl (U2 ?_))
   refine dH Zmp Zmq rfl rfl rfl rfl (fun ky=>?_) (fun ky=>?_)
   ·refine U0 rfl (af 0 1 rfl rfl (ag 1 rfl (Ud rfl rfl rfl (by first|omega|(simp only[ls];omega))) ?_))
    refine af 2 1 rfl rfl (U3 rfl (Ul (ah [1,4,5,6,7] rfl (U2 (U0 rfl (af 0 1 rfl rfl (ag 1 rfl (Ud rfl rfl rfl (by first|omega|(simp only[ls];omega))) ?_)))))))
    refine af 2 1 rfl rfl (U3 rfl (Ut ?_))
    intro ak ai
    refine⟨_,?bG,⟨k+1,pl+1,rfl,ai.sub ⟨rfl,rfl,rfl,rfl,rfl,trivial⟩,S2.pick [0] [_] (by decide) ⟨rfl,trivial⟩,?bk,?bD,?fL⟩⟩
    case bk=>omega
    case bD=>(rw[cn,hpl];first|(rw[if_pos ky];rfl)|(rw[if_neg (by rw[ky];decide)];rfl))
    case fL=>omega
    case bG=>omega
   ·refine Ub rfl (Ul (ah [1,4,5,6,7] rfl (U2 (U0 rfl (af 0 1 rfl rfl (ag 1 rfl (Ud rfl rfl rfl (by first|omega|(simp only[ls];omega))) ?_))))))
    refine af 2 1 rfl rfl (U3 rfl (Ut ?_))
    intro ak ai
    refine⟨_,?fM,⟨k+1,pl,rfl,ai.sub ⟨rfl,rfl,rfl,rfl,rfl,trivial⟩,S2.pick [0] [_] (by decide) ⟨rfl,trivial⟩,?cu,?cN,?jb⟩⟩
    case cu=>omega
    case cN=>(rw[cn,hpl];first|(rw[if_pos ky];rfl)|(rw[if_neg (by rw[ky];decide)];rfl))
    case jb=>omega
    case fM=>omega
  ·refine Uk rfl rfl (ah [1,4,5,6] rfl (U2 (U1 Zmr ZU rfl rfl rfl ?_)))
   have LW:pl=((mR d:Nat):Int):=by rw[hpl,show k=d.ae.length by omega];rfl
   refine U0 rfl (ag 0 rfl (U4 rfl rfl bg rfl (dV) (dS)) (ag 1 rfl (U5 rfl rfl bF rfl (S2.aG (i:=0) rfl rfl)) (ag 2 rfl (Uv rfl rfl rfl rfl rfl rfl bF) (af 3 1 rfl rfl (ag 4 rfl (qy rfl rfl rfl (by first|omega|(simp only[ls];omega))) ?_)))))
   refine af 5 1 rfl rfl (U3 rfl (ah [1,4,5,6,8] rfl (U2 (U1 ZT ZR rfl rfl rfl (U1 Zmv Zmw rfl rfl rfl (U0 rfl (af 0 1 rfl rfl (U3 rfl ?_))))))))
   refine U2 (U7 Zmx 2 rfl rfl rfl ?_)
   have S3:=S2.gL dW;clear S2
   have S4:=S3.gL bW;clear S3
   refine Ui (fun aF ak aA=>∃(s:Nat) (lm:List Pq) (lg:List Pq) (xF:Value) (l7:Value) (M1:Hp),M.le M1/\aF=2^d.ae.length-s/\Env 82 [(1,.pointer (some ⟨aI,0,none⟩)),(4,xF),(5,l7),(6,.int .i64 pl),(8,.int .i64 ((d.ae.length:Int) -pl)),(9,.int .i64 (s:Int))] ak/\SH aA M1 X [Rs.row bW l7 lg,Rs.row dW xF lm,Rs.box aI 24 [.slice aV d.ae.length aU,.int .i64 d.loops]]/\s<=2^d.ae.length/\lm=dX d L s/\lg=bL d L s) rfl ?_ ?_
   ·intro ak ai
    refine⟨_,⟨0,[],[],_,_,_,Hp.le_refl _,rfl,ai.sub ⟨rfl,rfl,rfl,rfl,rfl,rfl,trivial⟩,S4.pick [0,1,2] [_,_,_] (by decide) ⟨rfl,rfl,rfl,trivial⟩,?dL,?ek,?lJ⟩⟩
    case dL=>omega
    case ek=>rfl
    case lJ=>rfl
   ·rintro m2 a2 w3 ⟨s,lm,lg,xF,l7,M1,hle2,rfl,bS,S5,hs,hlm,Hz⟩
    clear S4
    refine aW bS (c:=ZQ) rfl ?_
    clear bS a2
    replace ay:=ay.mono (Hp.U6 hle2 S5.mx)
    have hof:=Fm hn hL2 s
    have hpw:=BN hn hL2 s
    have aBg:aT d L s=kM d s+L:=rfl
    have h2s:=Nat.two_pow_pos (kM d s+L)
    have aBn:2^aT d L s=2^(kM d s+L):=rfl
    have hzz:=pR hn hL2 s
    refine U1 ZP ZO rfl rfl rfl (U1 Zn1 ZN rfl rfl rfl (U0 rfl (af 0 1 rfl rfl (ag 1 rfl (U4 rfl rfl bg rfl (dV) (dS)) (ag 2 rfl (U5 rfl rfl bF rfl (S5.aG (i:=2) rfl rfl)) (ag 3 rfl (Uv rfl rfl rfl rfl rfl rfl bF) (ag 4 rfl (vM (n:=d.ae.length) rfl rfl rfl (by first|omega|(simp only[ls];omega))) ?_)))))))
    refine ag 5 rfl (Un rfl rfl rfl) (U3 rfl (ah [1,4,5,6,8,9,38] rfl (U2 ?_)))
    refine Ua Zn3 Zn4 rfl rfl rfl rfl (fun Mn=>?_) (fun Mn=>?_)
    ·refine Ub rfl (ah [1,4,5,6,8,9] rfl (U2 (U1 Zn5 Zn6 rfl rfl rfl (U7 ZM 3 rfl rfl rfl (U1 Zn8 ZL rfl rfl rfl (U0 rfl (ag 0 rfl (Uc (us:=[_,_]) rfl rfl bg rfl dM (S5.aY (i:=2) rfl ⟨rfl,rfl,trivial⟩)) (af 1 1 rfl rfl ?_))))))))
     refine ar 2 3 rfl rfl rfl (dt rfl rfl rfl rfl rfl rfl rfl LA S5 (IC d s (ay.mono S5.Uq) (by omega) hab hL (by omega) S5.aR) ?_)
     intro UL w4 M2 cG S6 xw;clear S5
     replace ay:=ay.mono (Hp.U6 cG S6.mx)
     obtain⟨A1,c1,rfl,hr1⟩:=xw
     have azS:=E2 d L s
     have az0:=sk (d:=d) s
     refine af 3 1 rfl rfl (ag 4 rfl (Ug rfl rfl rfl) (ag 5 rfl (Ug rfl rfl rfl) (af 6 2 rfl rfl (U3 rfl (ah [1,4,5,6,8,9,11] rfl (U2 (U1 Zna Znb rfl rfl rfl (U0 rfl ?_))))))))
     refine af 0 1 rfl rfl (U3 rfl (U2 (U7 Znc 4 rfl rfl rfl ?_)))
     refine Ui (fun aF ak aA=>∃(m:Nat) (zI:List Pq) (zJ:List Pq) (LM:Value) (LN:Value),aF=2^aT d L s-m/\Env 82 [(1,.pointer (some ⟨aI,0,none⟩)),(4,LM),(5,LN),(6,.int .i64 pl),(8,.int .i64 ((d.ae.length:Int) -pl)),(9,.int .i64 (s:Int)),(11,.int .i64 ((kM d s+L:Nat):Int)),(12,.int .i64 (m:Int))] ak/\SH aA M2 X [Rs.row bW LN zJ,Rs.row dW LM zI,Rs.box aI 24 [.slice aV d.ae.length aU,.int .i64 d.loops]]/\m<=2^aT d L s/\zI=qR d L s m/\zJ=qX d L s m) rfl ?_ ?_
     ·intro ak ai
      refine⟨_,⟨0,lm,lg,_,_,rfl,ai.sub ⟨rfl,rfl,rfl,rfl,rfl,rfl,rfl,rfl,trivial⟩,S6.pick [0,1,2] [_,_,_] (by decide) ⟨rfl,rfl,rfl,trivial⟩,?ei,?fK,?pV⟩⟩
      case ei=>omega
      case fK=>(rw[hlm,anj])
      case pV=>(rw[Hz,aoa])
     ·rintro m3 a3 w5 ⟨m,zI,zJ,LM,LN,rfl,cW,S7,hm,LX,LY⟩
      clear S6
      refine aW cW (c:=ZK) rfl ?_
      clear cW a3
      have HA:zI.length=offK d L s+m:=by rw[LX,akf]
      have hl2:zJ.length=offK d L s+m:=by rw[LY,aku]
      refine U1 ZJ ZI rfl rfl rfl (U1 Zng ZH rfl rfl rfl (U0 rfl (af 0 2 rfl rfl (ag 2 rfl (vM (n:=(kM d s+L)) rfl rfl rfl (by first|omega|(simp only[ls];omega))) ?_))))
      refine ag 3 rfl (Un rfl rfl rfl) (U3 rfl (ah [1,4,5,6,8,9,11,12,50] rfl (U2 ?_)))
      refine Ua Zni Znj rfl rfl rfl rfl (fun Cy=>?_) (fun Cy=>?_)
      ·refine Ub rfl (ah [1,4,5,6,8,9,11,12] rfl (U2 (U1 Znk Znl rfl rfl rfl (U7 ZG 5 rfl rfl rfl (U1 Znn Zno rfl rfl rfl (U0 rfl (af 0 3 rfl rfl (ag 3 rfl (run_build (l:=[_,_]) rfl rfl FQ rfl rfl) ?_))))))))
       refine ar 4 5 rfl rfl rfl (Uf (C:=dW) (l:=[_,_]) rfl rfl rfl rfl lH rfl rfl rfl rfl S7 ?_)
       intro bq w6 S8;clear S7
       refine ar 5 6 rfl rfl rfl (Ux (C:=dW) (i:=2) (q:=0) (⟨(s:Int),(m:Int)⟩:Pq) rfl rfl rfl rfl rfl rfl rfl rfl lH S8 rfl rfl rfl (by show(_+1)*16<=_;first|omega|(simp only[ls];omega)) ?_)
       intro aq0 w7 S9;clear S8
       have bM:=S9.pick [1,2,3] [_,_,_] (by decide) ⟨rfl,rfl,rfl,trivial⟩;clear S9
       refine af 6 1 rfl rfl (U3 rfl (ah [1,4,5,6,8,9,11,12] rfl (U2 (U0 rfl (af 0 2 rfl rfl (ar 2 3 rfl rfl rfl (gJ rfl rfl rfl rfl rfl rfl rfl Lz bM (J2 s ((by omega)) bM.aR) ?_)))))))
       rintro _ w8 bJ rfl;clear bM
       have apL:=ud s
       refine af 3 1 rfl rfl (ag 4 rfl (qy rfl rfl rfl (by first|omega|(simp only[ls];omega))) ?_)
       refine af 5 2 rfl rfl (ar 7 8 rfl rfl rfl (gJ rfl rfl rfl rfl rfl rfl rfl Lz bJ (J2 m ((by omega)) bJ.aR) ?_))
       rintro _ w9 cB rfl;clear bJ
       have apK:=ud m
       refine ag 8 rfl (pj rfl rfl rfl (by first|omega|(simp only[ls];omega))) ?_
       refine ag 9 rfl (qy rfl rfl rfl (by first|omega|(simp only[ls];omega))) ?_
       refine af 10 1 rfl rfl (ar 11 12 rfl rfl rfl (gJ rfl rfl rfl rfl rfl rfl rfl Lz cB (J2 s ((by omega)) cB.aR) ?_))
       rintro _ oZ bY rfl;clear cB
       have azQ:=ud s
       refine ag 12 rfl (Ud rfl rfl rfl (by first|omega|(simp only[ls];omega))) ?_
       refine af 13 1 rfl rfl (ag 14 rfl (Ud rfl rfl rfl (by first|omega|(simp only[ls];omega))) ?_)
       refine af 15 1 rfl rfl (ag 16 rfl (pj rfl rfl rfl (by first|omega|(simp only[ls];omega))) ?_)
       refine ag 17 rfl (qy rfl rfl rfl (by first|omega|(simp only[ls];omega))) ?_
       refine ag 18 rfl (xZ (l:=[_,_]) (pl:=[(0,1),(1,1)]) rfl rfl ja BH dw rfl rfl rfl) (ar 19 20 rfl rfl rfl (Uf (C:=bW) (l:=[_,_]) rfl rfl rfl rfl fI rfl rfl rfl rfl bY ?_))
       intro dD mO bX;clear bY
       refine ar 20 21 rfl rfl rfl (Ux (C:=bW) (i:=1) (q:=0) (⟨((dm 64 s:Nat):Int) -((d.ae.length:Int) -pl),(((((kM d s+L:Nat):Int) -(2*((dm 64 m:Nat):Int)))+((dm 64 s:Nat):Int))+pl) -(2*((d.ae.length:Int) -pl))⟩:Pq) rfl rfl rfl rfl rfl rfl rfl rfl fI bX rfl rfl rfl (by show(_+1)*16<=_;first|omega|(simp only[ls];omega)) ?_)
       intro oI ra bT;clear bX
       have cO:=bT.pick [1,2,3] [_,_,_] (by decide) ⟨rfl,rfl,rfl,trivial⟩;clear bT
       refine af 21 1 rfl rfl (U3 rfl (Ul (ah [1,4,5,6,8,9,11,12] rfl (U2 (U0 rfl (af 0 1 rfl rfl (ag 1 rfl (Ud rfl rfl rfl (by first|omega|(simp only[ls];omega))) ?_)))))))
       refine af 2 1 rfl rfl (U3 rfl (Ut ?_))
       intro ak ai
       refine⟨_,?lS,⟨m+1,zI++[(⟨(s:Int),(m:Int)⟩:Pq)],zJ++[(⟨((dm 64 s:Nat):Int) -((d.ae.length:Int) -pl),(((((kM d s+L:Nat):Int) -(2*((dm 64 m:Nat):Int)))+((dm 64 s:Nat):Int))+pl) -(2*((d.ae.length:Int) -pl))⟩:Pq)],_,_,rfl,ai.sub ⟨rfl,rfl,rfl,rfl,rfl,rfl,rfl,rfl,trivial⟩,cO.pick [0,1,2] [_,_,_] (by decide) ⟨rfl,rfl,rfl,trivial⟩,?fJ,?gu,?kq⟩⟩
       case fJ=>omega
       case gu=>(rw[LX,alI])
       case kq=>(rw[LY,alY];refine congrArg _ (congrArg (fun z=>[z]) (anp (by omega) (by omega))))
       case lS=>omega
      ·refine Uk rfl rfl (Ul (ah [1,4,5,6,8,9] rfl (U2 (U0 rfl (af 0 1 rfl rfl (ag 1 rfl (Ud rfl rfl rfl (by first|omega|(simp only[ls];omega))) ?_))))))
       refine af 2 1 rfl rfl (U3 rfl (Ut ?_))
       intro ak ai
       refine⟨_,?nB,⟨s+1,zI,zJ,_,_,_,(hle2.trans cG),rfl,ai.sub ⟨rfl,rfl,rfl,rfl,rfl,rfl,trivial⟩,S7.pick [0,1,2] [_,_,_] (by decide) ⟨rfl,rfl,rfl,trivial⟩,?gq,?gj,?nr⟩⟩
       case gq=>omega
       case gj=>(rw[LX,show m=2^aT d L s by omega,akg])
       case nr=>(rw[LY,show m=2^aT d L s by omega,akv])
       case nB=>omega
    ·refine Uk rfl rfl (ah [4,5] rfl (U2 (U1 Znp Znq rfl rfl rfl ?_)))
     have aBv:=Fm hn hL2 s
     have aBC:lm.length=offK d L s:=by rw[hlm,acE]
     have aBD:lg.length=offK d L s:=by rw[Hz,acN]
     refine U0 rfl (af 0 4 rfl rfl (U3 rfl (ah [2,3] rfl (U2 ?_))))
     obtain⟨M3,kU,dK,⟨A2,c2,e1,hr2⟩⟩:=S5.gW (i:=1) (H':=[_,_,_]) rfl rfl (by show _*16<=_;first|omega|(simp only[ls];omega))
     clear S5;subst e1
     replace ay:=ay.mono (Hp.U6 kU dK.mx)
     obtain⟨M4,qU,fZ,⟨A3,c3,e2,hr3⟩⟩:=dK.gW (i:=0) (H':=[_,_,_]) rfl rfl (by show _*16<=_;first|omega|(simp only[ls];omega))
     clear dK;subst e2
     replace ay:=ay.mono (Hp.U6 qU fZ.mx)
     replace hr2:=hr2.mono qU
     refine Us hC [_,_] rfl rfl ⟨rfl,rfl,trivial⟩ ?_
     refine⟨_,rfl,_,(hle2.trans kU).trans qU,(fZ.pick [] [] (by decide) trivial),?_⟩
     have e9:s=2^d.ae.length:=by omega
     rw[e9]at hlm Hz
     rw[<-hlm,<-Hz]
     exact⟨_,_,_,_,rfl,hr2,hr3⟩
end Go.Proofs.YthppkofceancjaaGreat
namespace Go.Proofs.YthppkofceancjaaGreat
open Go.RowKit
section
variable (d : Dg) (L s t k mn : Nat)
def mJ:Nat:=kI d t (aK d k 0)
def mG:Nat:=kI d t (aK d k 2)
def nP(r:Nat):Nat:=if r<kM d t then ga (dx d t) r else 2*d.ae.length+1+(r-kM d t)
def zC(r:Nat):Nat:=if r<kM d t then aD mn (kI d s (ga (dx d t) r))else aD mn (r-kM d t+kM d s)
def pH(x:Nat)(rest:List Int):Prop:=rest.length=kM d t+L/\∀r,r<kM d t+L->r≠mJ d t k->r≠mG d t k->ga rest r=if nP d t r<x then(zC d s t mn r:Int)else -1
def rR(rest:List Int):Prop:=rest.length=kM d t+L/\∀r,r<kM d t+L->r≠mJ d t k->r≠mG d t k->ga rest r=(zC d s t mn r:Int)
def o9(x y:Bool)(r:Nat):Bool:=if r<kM d t then(if r=kI d t (aK d k 2)then y else if r=kI d t (aK d k 0)then x else mn.testBit (kI d s (ga (dx d t) r)))else mn.testBit (r-kM d t+kM d s)
theorem JI(x y:Bool):bsum (o9 d s t k mn x y) (kM d t+L)=pd d L s t k mn x y:=rfl
variable {d L s t k mn}
theorem J9(h:Uu d=true){r:Nat}(hr:r<kM d t+L):1<=nP d t r/\nP d t r<2*d.ae.length+1+L/\eG d t (nP d t r)=r:=by
 unfold nP
 by_cases e:r<kM d t
 ·rw[if_pos e]
  obtain⟨g1,g2,g3,g4⟩:=z8 h t e
  exact⟨g1,by omega,by rw[rU h (by omega),g4]⟩
 ·rw[if_neg e]
  exact⟨by omega,by omega,by rw[AE];omega⟩
theorem pH.mb(h:Uu d=true){rest:List Int}(hl:rest.length=kM d t+L)(hg:∀r,r<kM d t+L->ga rest r=-1):pH d L s t k mn 1 rest:=⟨hl,fun r hr _ _=>by
 have:=(J9 (t:=t) h hr).1
 rw[if_neg (by omega)];exact hg r hr⟩
theorem aeE(h:Uu d=true){x r:Nat}(e:nP d t r=x)(hr:r<kM d t+L):eG d t x=r:=by rw[<-e];exact(J9 h hr).2.2
theorem aog(h:Uu d=true)(F:uW d k s t){x:Nat}(h0:1<=x)(hx:x<2*d.ae.length+1+L)(hp:eG d s x≠kI d s (aK d k 0))(hq:eG d s x≠kI d s (aK d k 2)):nP d t (eG d t x)<=x/\zC d s t mn (eG d t x)=aD mn (eG d s x):=by
 by_cases e:x<2*d.ae.length+1
 ·have b0:=iL h F.k_ (i:=0) (by omega)
  have b2:=iL h F.k_ (i:=2) (by omega)
  obtain⟨s1,s2,_,_⟩:=BA h F
  rw[rU h e]at hp hq ⊢
  have n0:kR d av s (aK d k 0)≠kR d av s x:=fun e2=>hp ((nZ h s h0 (by omega) b0.1 b0.2).2 e2.symm)
  have n2:kR d av s (aK d k 2)≠kR d av s x:=fun e2=>hq ((nZ h s h0 (by omega) b2.1 b2.2).2 e2.symm)
  obtain⟨_,f2⟩:=I5 h F.k_ (u:=s) (v:=t) F.eq e fun i hi=>by
   have:i=0\/i=1\/i=2\/i=3:=by omega
   rcases this with rfl|rfl|rfl|rfl
   ·exact n0
   ·rw[<-s1];exact n0
   ·exact n2
   ·rw[<-s2];exact n2
  have hlt:=jC h t h0 (by omega)
  obtain⟨p1,p2⟩:=pJ h t h0 (by omega)
  have p3:=(iW h av t e).2.2
  rw[rU h e]
  have hg:ga (dx d t) (kI d t x)=kR d av t x:=by
   have:=JX h t p1 (by omega) p3
   rwa [(nZ h t p1 (by omega) h0 (by omega)).2 p3]at this
  unfold nP zC
  rw[if_pos hlt,if_pos hlt,hg]
  refine⟨p2,congrArg (aD mn) ?_⟩
  obtain⟨q1,q2⟩:=pJ h s h0 (by omega)
  rw[f2]
  exact(nZ h s q1 (by omega) h0 (by omega)).2 (iW h av s e).2.2
 ·obtain⟨i,rfl⟩:∃i,x=2*d.ae.length+1+i:=⟨x-(2*d.ae.length+1),by omega⟩
  rw[AE,AE]
  unfold nP zC
  rw[if_neg (by omega),if_neg (by omega)]
  exact⟨by omega,congrArg (aD mn) (by omega)⟩
theorem pH.far(h:Uu d=true)(F:uW d k s t){x j:Nat}{rest:List Int}(H:pH d L s t k mn x rest)(h0:1<=x)(hx:x<2*d.ae.length+1+L)(hp:eG d s x≠kI d s (aK d k 0))(hq:eG d s x≠kI d s (aK d k 2))(hj:j=eG d t x){v:Int}(hv:v=(aD mn (eG d s x):Nat)):pH d L s t k mn (x+1) (rest.set j v):=by
 subst hj
 obtain⟨f1,f2⟩:=aog (mn:=mn) h F h0 hx hp hq
 have hlt:=J4 (L:=L) (s:=t) h h0 hx
 refine⟨by rw[List.length_set];exact H.1,fun r hr r1 r2=>?_⟩
 rw[bB _ _ _ _ (by rw[H.1];exact hlt)]
 by_cases e:eG d t x=r
 ·rw[if_pos e,<-e,if_pos (by omega),hv,f2]
 ·rw[if_neg e,H.2 r hr r1 r2]
  have:nP d t r≠x:=fun e2=>e (aeE h e2 hr)
  by_cases h2:nP d t r<x
  ·rw[if_pos h2,if_pos (by omega)]
  ·rw[if_neg h2,if_neg (by omega)]
theorem pH.near(h:Uu d=true)(F:uW d k s t){x:Nat}{rest:List Int}(H:pH d L s t k mn x rest)(h0:1<=x)(hx:x<2*d.ae.length+1+L)(hpq:eG d s x=kI d s (aK d k 0)\/eG d s x=kI d s (aK d k 2)):pH d L s t k mn (x+1) rest:=by
 have b0:=iL h F.k_ (i:=0) (by omega)
 have b2:=iL h F.k_ (i:=2) (by omega)
 have l0:=jC h s b0.1 b0.2
 have l2:=jC h s b2.1 b2.2
 have e:x<2*d.ae.length+1:=by
  refine Classical.byContradiction fun e=>?_
  obtain⟨i,rfl⟩:∃i,x=2*d.ae.length+1+i:=⟨x-(2*d.ae.length+1),by omega⟩
  rw[AE]at hpq
  omega
 have key:eG d t x=mJ d t k\/eG d t x=mG d t k:=by
  obtain⟨_,_,t1,t2⟩:=BA h F
  rw[rU h e]at hpq ⊢
  refine Classical.byContradiction fun hno=>?_
  have n0:kR d av t (aK d k 0)≠kR d av t x:=fun e2=>hno (.inl ((nZ h t h0 (by omega) b0.1 b0.2).2 e2.symm))
  have n2:kR d av t (aK d k 2)≠kR d av t x:=fun e2=>hno (.inr ((nZ h t h0 (by omega) b2.1 b2.2).2 e2.symm))
  obtain⟨f1,_⟩:=I5 h F.k_ (u:=t) (v:=s) (fun c hc=>(F.eq c hc).symm) e fun i hi=>by
   have:i=0\/i=1\/i=2\/i=3:=by omega
   rcases this with rfl|rfl|rfl|rfl
   ·exact n0
   ·rw[t1];exact n2
   ·exact n2
   ·rw[t2];exact n0
  rcases hpq with e2|e2
  ·exact n0 ((f1 _ (by omega)).2 ((nZ h s h0 (by omega) b0.1 b0.2).1 e2).symm)
  ·exact n2 ((f1 _ (by omega)).2 ((nZ h s h0 (by omega) b2.1 b2.2).1 e2).symm)
 refine⟨H.1,fun r hr r1 r2=>?_⟩
 rw[H.2 r hr r1 r2]
 have:nP d t r≠x:=fun e2=>by
  have:=aeE h e2 hr
  rcases key with e3|e3
  ·exact r1 (this.symm.trans e3)
  ·exact r2 (this.symm.trans e3)
 by_cases h2:nP d t r<x
 ·rw[if_pos h2,if_pos (by omega)]
 ·rw[if_neg h2,if_neg (by omega)]
theorem pH.end_(h:Uu d=true){rest:List Int}(H:pH d L s t k mn (2*d.ae.length+1+L) rest):rR d L s t k mn rest:=⟨H.1,fun r hr r1 r2=>by
 rw[H.2 r hr r1 r2,if_pos (J9 h hr).2.1]⟩
theorem rR.put(h:Uu d=true)(hk:k<d.ae.length){rest:List Int}(H:rR d L s t k mn rest){i j:Nat}(hi:i=mJ d t k)(hj:j=mG d t k)(v w:Int):rR d L s t k mn ((rest.set i v).set j w):=by
 subst hi hj
 have b0:=iL h hk (i:=0) (by omega)
 have b2:=iL h hk (i:=2) (by omega)
 have l0:mJ d t k<kM d t:=jC h t b0.1 b0.2
 have l2:mG d t k<kM d t:=jC h t b2.1 b2.2
 have hl:=H.1
 refine⟨by rw[List.length_set,List.length_set];exact H.1,fun r hr r1 r2=>?_⟩
 rw[bB _ _ _ _ (by rw[List.length_set];omega),if_neg (fun e=>r2 e.symm),bB _ _ _ _ (by omega),if_neg (fun e=>r1 e.symm)]
 exact H.2 r hr r1 r2
def bI(b:Bool):Int:=if b=true then 1 else 0
theorem ad4(m u:Nat):((aD m u:Nat):Int)=bI (m.testBit u):=by
 unfold bI
 have:=rL m u
 have h2:=jS m u
 by_cases e:m.testBit u=true
 ·rw[if_pos e,this.2 e];rfl
 ·rw[if_neg e]
  have:aD m u≠1:=fun e2=>e (this.1 e2)
  omega
theorem rR.val(h:Uu d=true)(hk:k<d.ae.length){rest:List Int}(H:rR d L s t k mn rest){i j:Nat}(hi:i=mJ d t k)(hj:j=mG d t k)(x y:Bool){v w:Int}(hv:v=bI x)(hw:w=bI y):∀r,r<kM d t+L->ga ((rest.set i v).set j w) r=bI (o9 d s t k mn x y r):=by
 subst hi hj hv hw
 have b0:=iL h hk (i:=0) (by omega)
 have b2:=iL h hk (i:=2) (by omega)
 have l0:mJ d t k<kM d t:=jC h t b0.1 b0.2
 have l2:mG d t k<kM d t:=jC h t b2.1 b2.2
 have hl:=H.1
 intro r hr
 rw[bB _ _ _ _ (by rw[List.length_set];omega)]
 unfold o9
 by_cases e2:mG d t k=r
 ·rw[if_pos e2,if_pos (by omega),if_pos (show r=kI d t (aK d k 2)from e2.symm)]
 ·rw[if_neg e2,bB _ _ _ _ (by omega)]
  by_cases e0:mJ d t k=r
  ·rw[if_pos e0,if_pos (by omega),if_neg (show¬r=kI d t (aK d k 2)from fun e=>e2 e.symm),if_pos (show r=kI d t (aK d k 0)from e0.symm)]
  ·rw[if_neg e0,H.2 r hr (fun e=>e0 e.symm) (fun e=>e2 e.symm)]
   unfold zC
   by_cases hr2:r<kM d t
   ·rw[if_pos hr2,if_pos hr2,if_neg (show¬r=kI d t (aK d k 2)from fun e=>e2 e.symm),if_neg (show¬r=kI d t (aK d k 0)from fun e=>e0 e.symm),ad4]
   ·rw[if_neg hr2,if_neg hr2,ad4]
theorem JM(f:Nat->Bool)(r:Nat):(bsum f (r+1):Nat)=bsum f r+(bI (f r)).toNat*2^r:=by
 rw[bsum]
 unfold bI
 split<;>simp
theorem LB(b:Bool):0<=bI b/\(bI b).toNat<=1:=by cases b<;>decide
end
def gZ(p q x y:Nat):List Pq:=if p≠q then(if x+y<2 then[⟨(x+y:Nat),(x+y:Nat)⟩]else[])else if x=1 then[⟨1,1⟩]else[⟨0,1⟩,⟨1,0⟩]
theorem EO(p q x y:Nat):(gZ p q x y).length<=2:=by unfold gZ;split<;>split<;>simp
def fw(z:Int):Bool:=decide (z=1)
theorem J5{p q x y:Nat}(hx:x<2)(hy:y<2):∀i,i<(gZ p q x y).length->(ga (gZ p q x y) i).p=bI (fw (ga (gZ p q x y) i).p)/\(ga (gZ p q x y) i).q=bI (fw (ga (gZ p q x y) i).q):=by
 have e:∀z:Int,z=0\/z=1->z=bI (fw z):=fun z h=>by rcases h with rfl|rfl<;>decide
 unfold gZ
 intro i hi
 split at hi<;>rename_i h1
 ·split at hi<;>rename_i h2
  ·rw[if_pos h1,if_pos h2]
   have:i=0:=by simp at hi;omega
   subst this
   exact⟨e _ (by show((x+y:Nat):Int)=0\/((x+y:Nat):Int)=1;omega),e _ (by show((x+y:Nat):Int)=0\/((x+y:Nat):Int)=1;omega)⟩
  ·simp at hi
 ·split at hi<;>rename_i h2
  ·rw[if_neg h1,if_pos h2]
   have:i=0:=by simp at hi;omega
   subst this
   exact⟨by decide,by decide⟩
  ·rw[if_neg h1,if_neg h2]
   have:i=0\/i=1:=by simp at hi;omega
   rcases this with rfl|rfl<;>exact⟨by decide,by decide⟩
section
variable (d : Dg) (L s mn : Nat)
def tG(k:Nat):List Pq:=if aD s k=1 then[]else(vD d L s (s+2^k) k mn).map fun m=>⟨(s+2^k:Nat),(m:Nat)⟩
def fq(K:Nat):List Pq:=(List.range K).flatMap (tG d L s mn)
theorem wA(K:Nat):fq d L s mn (K+1)=fq d L s mn K++tG d L s mn K:=by
 unfold fq
 rw[List.range_succ,List.flatMap_append,List.flatMap_cons,List.flatMap_nil,List.append_nil]
def qw(t k:Nat)(μ:Pq):Pq:=⟨(t:Nat),(pd d L s t k mn (fw μ.p) (fw μ.q):Nat)⟩
theorem yu(k:Nat)(hb:aD s k=0):tG d L s mn k=(gZ (kI d s (aK d k 0)) (kI d s (aK d k 2)) (aD mn (kI d s (aK d k 0))) (aD mn (kI d s (aK d k 2)))).map (qw d L s mn (s+2^k) k):=by
 unfold tG vD gZ
 rw[if_neg (by omega)]
 have t0:=rL mn (kI d s (aK d k 0))
 have t2:=rL mn (kI d s (aK d k 2))
 have l0:=jS mn (kI d s (aK d k 0))
 have l2:=jS mn (kI d s (aK d k 2))
 by_cases e:kI d s (aK d k 0)≠kI d s (aK d k 2)
 ·rw[if_pos e,if_pos e]
  by_cases hb:mn.testBit (kI d s (aK d k 0))=true/\mn.testBit (kI d s (aK d k 2))=true
  ·rw[if_pos hb,if_neg (by rw[t0.2 hb.1,t2.2 hb.2];omega)];rfl
  ·rw[if_neg hb]
   have hs:aD mn (kI d s (aK d k 0))+aD mn (kI d s (aK d k 2))<2:=by
    refine Classical.byContradiction fun h9=>hb ⟨t0.1 (by omega),t2.1 (by omega)⟩
   rw[if_pos hs]
   have hv:(mn.testBit (kI d s (aK d k 0))||mn.testBit (kI d s (aK d k 2)))=fw (((aD mn (kI d s (aK d k 0))+aD mn (kI d s (aK d k 2)):Nat)):Int):=by
    unfold fw
    by_cases h0:mn.testBit (kI d s (aK d k 0))=true
    ·have:=t0.2 h0
     rw[h0,Bool.true_or,decide_eq_true (by omega)]
    ·by_cases h2:mn.testBit (kI d s (aK d k 2))=true
     ·have:=t2.2 h2
      rw[h2,Bool.or_true,decide_eq_true (by omega)]
     ·have g0:aD mn (kI d s (aK d k 0))≠1:=fun e=>h0 (t0.1 e)
      have g2:aD mn (kI d s (aK d k 2))≠1:=fun e=>h2 (t2.1 e)
      rw[Bool.eq_false_iff.2 h0,Bool.eq_false_iff.2 h2,decide_eq_false (by omega)];rfl
   rw[hv]
   rfl
 ·rw[if_neg e,if_neg e]
  by_cases h0:mn.testBit (kI d s (aK d k 0))=true
  ·rw[if_pos h0,if_pos (t0.2 h0)];rfl
  ·rw[if_neg h0,if_neg (fun e=>h0 (t0.1 e))];rfl
theorem amd(k:Nat):(tG d L s mn k).length<=2:=by
 by_cases hb:aD s k=1
 ·unfold tG;rw[if_pos hb];simp
 ·have:=jS s k
  rw[yu d L s mn k (by omega),List.length_map];exact EO _ _ _ _
theorem acZ(K:Nat):(fq d L s mn K).length<=2*K:=by
 induction K with
 |zero=>exact Nat.le_refl _
 |succ K ih=>have:=amd d L s mn K;rw[wA,List.length_append];omega
theorem Ba(k:Nat)(hb:aD s k=1):fq d L s mn (k+1)=fq d L s mn k:=by
 rw[wA]
 unfold tG
 rw[if_pos hb,List.append_nil]
end
end Go.Proofs.YthppkofceancjaaGreat
namespace Go.Proofs.YthppkofceancjaaGreat
open Go.ChangeShapes Go.WideShapes Go.ChangeAt Go.RowKit
section
variable {P : Program} {o : Oper} {L : List (Nat × Value)} {w : World} {x y : Operand} {t t' src dst : TypeId} {a b : Int} {k k2 : IntKind}
theorem Ay{v n:Nat}(ho:o.op=.binOp .shl t x y t')(hx:oev L x=some (.int .i64 (v:Int)))(hy:oev L y=some (.int .i64 (n:Int)))(h:n<=62)(hb:v*2^n<9223372036854775808):Run P o L w (.int .i64 ((v*2^n:Nat):Int)) w:=by
 have:=abC (w:=w) (P:=P) ho hx hy (by omega)
 rw[show min ((n:Int).toNat) IntKind.i64.bits=n by show min _ 64=n;omega]at this
 have e:IntKind.i64.wrap ((v:Int)*2^n)=((v*2^n:Nat):Int):=by
  have h1:(v:Int)*(2:Int)^n=((v*2^n:Nat):Int):=by rw[Int.natCast_mul,Int.natCast_pow];rfl
  rw[h1]
  generalize v*2^n=m at*
  exact pP (by omega)
 rw[e]at this
 exact this
theorem ak7(ho:o.op=.binOp .or t x y t')(hx:oev L x=some (.int k a))(hy:oev L y=some (.int k b)):Run P o L w (.int k (k.wrap ((BitVec.ofInt k.bits a ||| BitVec.ofInt k.bits b).toNat:Nat))) w:=
 Az ho hx hy fun w=>by simp[binOp,Op.intBits]
theorem Jt{s r:Nat}(ho:o.op=.binOp .or t x y t')(hx:oev L x=some (.int .i64 (s:Int)))(hy:oev L y=some (.int .i64 (r:Int)))(h:s<4611686018427387904)(h2:r<4611686018427387904):Run P o L w (.int .i64 ((s ||| r:Nat):Int)) w:=by
 have:=ak7 (w:=w) (P:=P) ho hx hy
 have e:(BitVec.ofInt IntKind.i64.bits (s:Int) ||| BitVec.ofInt IntKind.i64.bits (r:Int)).toNat=s ||| r:=by
  show(BitVec.ofInt 64 (s:Int) ||| BitVec.ofInt 64 (r:Int)).toNat=_
  rw[EC,EC,BitVec.toNat_or,BitVec.toNat_ofNat,BitVec.toNat_ofNat,Nat.mod_eq_of_lt (by omega),Nat.mod_eq_of_lt (by omega)]
 rw[e]at this
 have hl:s ||| r<2^62:=Nat.or_lt_two_pow (by omega) (by omega)
 have e2:IntKind.i64.wrap ((s ||| r:Nat):Int)=((s ||| r:Nat):Int):=pP (by omega)
 rw[e2]at this
 exact this
theorem ajV{a0 a1 b0 b1:Int}(hop:o.op=.binOp .eql t x y t')(hx:oev L x=some (.agg [.int .i64 a0,.int .i64 a1].toArray))(hy:oev L y=some (.agg [.int .i64 b0,.int .i64 b1].toArray))(hT:UD P t):Run P o L w (.bool (decide (a0=b0/\a1=b1))) w:=by
 intro n c' he'
 obtain⟨E,k,h1,h2,rfl,h3,h4⟩:=hT
 have hg:=run_eqGuard_agg (P:=P) w .eql t x y #[.int .i64 a0,.int .i64 a1] #[.int .i64 b0,.int .i64 b1] h4
 unfold execOp
 simp only[hop,he'.eval hx,he'.eval hy,hg,Sem.run_bind,Sem.run_pure,Result.andThen_ok,run_eql_struct,aah h1 h2 h3]
end
end Go.Proofs.YthppkofceancjaaGreat
namespace Go.Proofs.YthppkofceancjaaGreat
open Go.ChangeShapes Go.WideShapes Go.ChangeAt Go.RowKit
section
variable {α : Type} {C : Cd α} {N N' : Hp} {vs vs' : List eO} {xss yss : List (List α)}
def Er(C:Cd α)(N:Hp)(zB:List (List eO))(mm:List (List (List α))):Prop:=zB.length=mm.length/\∀i,i<zB.length->iY C N (ga zB i) (ga mm i)
variable {zB : List (List eO)} {mm : List (List (List α))}
theorem Er.mono(h:Er C N zB mm)(k:N.le N'):Er C N' zB mm:=⟨h.1,fun i hi=>(h.2 i hi).mono k⟩
theorem Er.bN:Er C N [] []:=⟨rfl,fun i hi=>by simp at hi⟩
end
section
variable {P : Program} {o : Oper} {L : List (Nat × Value)} {w : World} {x hx : Operand} {t tn T : TypeId} {n d : Nat} {Kt : List (Nat × Value) → World → Prop} {M : Hp} {X : Fr} {H : List Rs}
end
end Go.Proofs.YthppkofceancjaaGreat
namespace Go.Proofs.YthppkofceancjaaGreat
open Go.ChangeShapes Go.WideShapes Go.ChangeAt Go.RowKit
theorem SH.down{w:World}{M M':Hp}{X:Fr}{H:List Rs}(S:SH w M' X H)(h:M.le M'):SH w M X H:=by
 have hn:∀b,M' b=none->M b=none:=fun b e=>by
  cases hm:M b with
  |none=>rfl
  |some o=>rw[h b o hm]at e;cases e
 exact⟨h.trans S.m,S.x,fun b o e=>hn b (S.mx b o e),S.ok,fun r hr b hb=>⟨(S.bl r hr b hb).1,hn b (S.bl r hr b hb).2.1,(S.bl r hr b hb).2.2⟩,S.ap,S.like⟩
def ad5(H:List Rs):Prop:=H.Pairwise fun r s=>∀b∈r.bl,b∉s.bl
theorem vJ{H:List Rs}:ad5 H<->∀(i j:Nat) r s,i≠j->H[i]? =some r->H[j]? =some s->∀b∈r.bl,b∉s.bl:=by
 unfold ad5
 rw[List.pairwise_iff_getElem]
 constructor
 ·intro h i j r s hij hi hj b hb hbs
  obtain⟨i1,e1⟩:=List.getElem?_eq_some_iff.1 hi
  obtain⟨j1,e2⟩:=List.getElem?_eq_some_iff.1 hj
  rcases Nat.lt_or_ge i j with h1|h1
  ·exact h i j i1 j1 h1 b (by rw[e1];exact hb) (by rw[e2];exact hbs)
  ·exact h j i j1 i1 (by omega) b (by rw[e2];exact hbs) (by rw[e1];exact hb)
 ·intro h i j hi hj hij
  exact h i j _ _ (by omega) (List.getElem?_eq_getElem hi) (List.getElem?_eq_getElem hj)
section
variable {w : World} {M : Hp} {X : Fr} {A B H H' : List Rs}
theorem SH.perm(S:SH w M X H)(h:H.Perm H'):SH w M X H':=
 ⟨S.m,S.x,S.mx,fun r hr=>S.ok r (h.mem_iff.2 hr),fun r hr=>S.bl r (h.mem_iff.2 hr),vJ.1 ((h.pairwise_iff (fun{_ _} hrs b hb hbr=>hrs b hbr hb)).1 (vJ.2 S.ap)),S.like⟩
theorem SH.nJ(S:SH w M X (A++B)):SH w M X (Rs.bP A::B):=by
 have hap:=vJ.2 S.ap
 obtain⟨h1,h2,h3⟩:=List.pairwise_append.1 hap
 refine⟨S.m,S.x,S.mx,fun r hr=>?_,fun r hr b hb=>?_,vJ.1 (List.pairwise_cons.2 ⟨fun s hs b hb=>?_,h2⟩),S.like⟩
 ·rcases List.mem_cons.1 hr with rfl|hr
  ·exact⟨fun r hr=>S.ok r (by simp[hr]),vJ.1 h1⟩
  ·exact S.ok r (by simp[hr])
 ·rcases List.mem_cons.1 hr with rfl|hr
  ·obtain⟨q,hq,hb⟩:=List.mem_flatMap.1 hb
   exact S.bl q (by simp[hq]) b hb
  ·exact S.bl r (by simp[hr]) b hb
 ·obtain⟨q,hq,hb⟩:=List.mem_flatMap.1 hb
  exact h3 q hq s hs b hb
theorem SH.oo(S:SH w M X (Rs.bP A::B)):SH w M X (A++B):=by
 obtain⟨hok,hap⟩:=S.ok (Rs.bP A) (by simp)
 obtain⟨h1,h2⟩:=List.pairwise_cons.1 (vJ.2 S.ap)
 refine⟨S.m,S.x,S.mx,fun r hr=>?_,fun r hr b hb=>?_,vJ.1 (List.pairwise_append.2 ⟨vJ.2 hap,h2,fun r hr s hs b hb=>h1 s hs b (List.mem_flatMap.2 ⟨r,hr,hb⟩)⟩),S.like⟩
 ·rcases List.mem_append.1 hr with hr|hr
  ·exact hok r hr
  ·exact S.ok r (by simp[hr])
 ·rcases List.mem_append.1 hr with hr|hr
  ·exact S.bl (Rs.bP A) (by simp) b (List.mem_flatMap.2 ⟨r,hr,hb⟩)
  ·exact S.bl r (by simp[hr]) b hb
end
def UR:Code->Code
 |.rangeFunc _ _ a _=>a
 |c=>c
def Dl:Code->Code
 |.rangeFunc _ _ _ b=>b
 |c=>c
namespace InF
section
variable {P : Program} {n : Nat} {C : Ctx} {c : Code} {s : List K} {L : List (Nat × Value)} {w : World} {M : Hp} {X : Fr} {H : List Rs}
def LD{σ:Type}(P:Program)(f:FuncId)(lb:List Value)(s0:σ)(Ho:σ->Value->σ->Prop)(fin:σ->Prop)(M:Hp)(X:Fr):Prop:=
 ∀(l:Nat) (J:σ->Hp->Rs->Prop) (w:World) (M1:Hp) (B:Rs),M.le M1->
  (∀k v k' M' B' H0 w',Ho k v k'->M1.le M'->SH w' M' X (B'::H0)->J k M' B'->YieldAt Fence.wide 0 P l #[v] w' fun e w''=>∃u,e=.returned u/\u=.bool true/\∃iO Es,M'.le iO/\SH w'' iO X (Es::H0)/\J k' iO Es)->
  SH w M1 X [B]->J s0 M1 B->CallsIn Fence.wide 0 P f ((Value.func (.yield l) #[] #[])::lb).toArray w fun e w'=>(∃v,e=.returned v)/\∃k M' B',fin k/\M1.le M'/\SH w' M' X [B']/\J k M' B'
theorem aad{σ:Type}{s0:σ}{Ho:σ->Value->σ->Prop}{fin:σ->Prop}{p:Nat}{g:Operand}{asg bd:Code}{f:FuncId}{lb:List Value}(hr:C.r=none)(hc:c=.rangeFunc g #[p] asg bd)(hp':Nat.blt p n=true)(hg:oev L g=some (.func (.func f) #[] lb.toArray))(hen:∀args w,(callFunc f args).run P w=.ok (.enter f args) w)
  (S:SH w M X H)(I:σ->Hp->List Rs->Prop)(I1:σ->Act->Hp->List Rs->Prop)(h0:I s0 M H)(hit:LD P f lb s0 Ho fin M X)
  (hassign:∀(k k':σ) (v:Value) (M':Hp) (H':List Rs) (w':World) (C':Ctx) (R0:Rs),Ho k v k'->M.le M'->SH w' M' X (R0::H')->I k M' H'->WS P n C' asg [.lp (fun a w''=>∃iO qH,M'.le iO/\SH w'' iO X (R0::qH)/\I1 k' a iO qH)] ((p,v)::L) w')
  (hbody:∀(k:σ) (M':Hp) (H':List Rs) (w':World) (C':Ctx) (R0:Rs) (a:Act),M.le M'->SH w' M' X (R0::H')->I1 k a M' H'->bd.wpIn C'.F 0 P (post P C' [.lp (fun _ w''=>∃iO qH,M'.le iO/\SH w'' iO X (R0::qH)/\I k iO qH)]) a w')
  (hdone:∀(k:σ) (a:Act) (M':Hp) (H':List Rs) (w':World) (D l:Nat) (rc:Loop),fin k->Env n L a->M.le M'->SH w' M' X (Rs.lr l D rc::H')->I k M' H'->post P C s .normal {a with defers:=[{target:=.collected D,args:=#[]}]} w'):WS P n C c s L w:=by
 have hF:C.F=Fence.wide:=by unfold Ctx.F;rw[hr]
 intro a ha
 subst hc
 rw[hF]
 refine wpIn_rangeFunc ?_
 intro fn _
 rw[show Fence.wide.round=none from rfl]
 obtain⟨rec,hrec⟩:∃rec:LoopState->Loop,rec=fun st=>{state:=st,pending:=none,fn,tmps:=a.tmps,params:=#[p],assign:=asg,body:=bd,defers:=w.heap.size}:=⟨_,rfl⟩
 obtain⟨W1,hW1⟩:∃W1,(w.alloc (.deferred (some []))).alloc (.loop (rec .ready))=W1:=⟨_,rfl⟩
 have Vy:W1.heap[w.heap.size+1]? =some (.loop (rec .ready)):=by
  rw[<-hW1];have:=World.alloc_heap_new (w.alloc (.deferred (some []))) (.loop (rec .ready));rwa [World.size_alloc]at this
 have Vz:W1.heap[w.heap.size]? =some (.deferred (some [])):=by
  rw[<-hW1];exact(Below.heap_alloc _ _ _ (by simp)).trans (World.alloc_heap_new w _)
 have hkeep:∀b,b<w.heap.size->hp W1 b=hp w b:=fun b hb=>by
  rw[<-hW1]
  exact(vN (w.alloc (.deferred (some []))) _ b (by rw[qz];omega)).trans (vN w _ b hb)
 have S1:SH W1 M X (Rs.lr (w.heap.size+1) w.heap.size (rec .ready)::H):=by
  have hl:gB w W1:=by rw[<-hW1];exact(vO w _).trans (vO _ _)
  refine S.cons hl hkeep ⟨Vy,Vz⟩ (fun b hb=>?_)
  have hsz:W1.heap.size=w.heap.size+2:=by rw[<-hW1,qz,qz]
  simp only[Rs.lr,List.mem_cons,List.not_mem_nil,or_false]at hb
  omega
 have Vp:a.defers=[]:=ha.df
 refine⟨w.heap.size+1,[{target:=.collected w.heap.size,args:=#[]}],W1,{target:=.fn (.func f) lb.toArray,args:=#[.func (.yield (w.heap.size+1)) #[] #[]]},W1,f,
  #[.func (.yield (w.heap.size+1)) #[] #[]]++lb.toArray,W1,?_,?_,fun _ _=>trivial,?_,fun h=>(by cases h),?_⟩
 ·rw[<-hW1,hrec];exact run_enterLoop_outer _ _ _ _ _
 ·simp only[resolve,ha.eval hg]
  simp[go_sem]
 ·simp[invoke,go_sem,hen]
 ·rw[show(#[.func (.yield (w.heap.size+1)) #[] #[]]++lb.toArray:Array Value)=((Value.func (.yield (w.heap.size+1)) #[] #[])::lb).toArray from by simp]
  refine(hit (w.heap.size+1) (fun k M' B=>∃H',B=Rs.bP (Rs.lr (w.heap.size+1) w.heap.size (rec .ready)::H')/\I k M' H') W1 M _ (Hp.le_refl _) ?_ S1.bP ⟨H,rfl,h0⟩).mono ?_
  ·rintro k v k' M' B' H0 w' hk hle SB ⟨H',rfl,hI⟩
   have sw:∀(q:Rs) (A:List Rs),(q::A++H0).Perm (q::H0++A):=fun q A=>by simpa using(List.perm_append_comm:(A++H0).Perm (H0++A))
   have S':=SB.oo.perm (sw _ _)
   obtain⟨hl,hD⟩:=S'.ok (Rs.lr (w.heap.size+1) w.heap.size (rec .ready)) (by simp)
   have hy:=run_yield (P:=P) (args:=#[v]) hl (by rw[hrec];rfl)
   rw[hrec]at hy
   refine⟨fn,_,asg,bd,hy,roundIn_of_wpIn trivial ?_⟩
   have hC':(Ctx.mk (fun _ _ _=>False) (some (w.heap.size+1))).F=Fence.wide.inRound (w.heap.size+1):=rfl
   have e1:((#[p]:Array Tmp).zip #[v]).foldl (fun tmps (t,a)=>tmps.setIfInBounds t a) a.tmps=a.tmps.setIfInBounds p v:=by simp
   rw[<-hC']
   have hA:=hassign k k' v M' H' w' (Ctx.mk (fun _ _ _=>False) (some (w.heap.size+1))) (Rs.bP (Rs.lr (w.heap.size+1) w.heap.size (rec .ready)::H0)) hk hle S'.nJ hI _ (abd ha (by simpa using hp'))
   rw[e1]
   refine wpIn_mono hA ?_
   rintro e a2 w2 hq
   cases e with
   |normal=>
    obtain⟨M2,H2,hle2,S2b,nT⟩:=hq
    have S2:=S2b.oo
    obtain⟨hl2,_⟩:=S2.ok (Rs.lr (w.heap.size+1) w.heap.size (rec .ready)) (by simp)
    refine⟨_,run_beginRound hl2 (by rw[hrec]),?_⟩
    have S3:=yF (uY:={rec .ready with state:=.busy}) S2
    refine wpIn_mono (hbody k' M2 H2 _ (Ctx.mk (fun _ _ _=>False) (some (w.heap.size+1))) _ a2 (hle.trans hle2) (SH.nJ (A:=Rs.lr (w.heap.size+1) w.heap.size {rec .ready with state:=.busy}::H0) (B:=H2) S3) nT) ?_
    rintro e a3 w3 xO
    cases e with
    |normal=>
     obtain⟨M4,H4,bt,S4b,VA⟩:=xO
     have S4:=S4b.oo
     obtain⟨hl4,_⟩:=S4.ok (Rs.lr (w.heap.size+1) w.heap.size {rec .ready with state:=.busy}) (by simp)
     have he:=run_endRound (P:=P) none hl4
     have S5:=yF (uY:=rec .ready) S4
     refine⟨_,_,he,_,rfl,rfl,M4,Rs.bP (Rs.lr (w.heap.size+1) w.heap.size (rec .ready)::H4),hle2.trans bt,?_,H4,rfl,VA⟩
     have e2:({({rec .ready with state:=.busy}:Loop)with state:=(if(none:Option Code).isNone=true then LoopState.ready else LoopState.done),pending:=none}:Loop)=rec .ready:=by rw[hrec];rfl
     rw[e2]
     exact SH.nJ (A:=Rs.lr (w.heap.size+1) w.heap.size (rec .ready)::H4) (B:=H0) (SH.perm (H:=Rs.lr (w.heap.size+1) w.heap.size (rec .ready)::H0++H4) S5 (sw (Rs.lr (w.heap.size+1) w.heap.size (rec .ready)) H4).symm)
    |_=>exact xO.elim
   |_=>exact hq.elim
  ·rintro e w2 ⟨⟨v,rfl⟩,k,M',B',hfin,hle,SB,H',rfl,hI⟩
   have S':=SB.yQ
   obtain⟨hl,hD⟩:=S'.ok (Rs.lr (w.heap.size+1) w.heap.size (rec .ready)) (by simp)
   have he:=run_endLoop (P:=P) hl (by rw[hrec];simp)
   refine⟨none,w2.putObj (w.heap.size+1) (.loop {rec .ready with state:=.exhausted}),by rw[he,hrec],?_⟩
   have:=hdone k a M' H' _ w.heap.size (w.heap.size+1) _ hfin ha hle (yF (uY:={rec .ready with state:=.exhausted}) S') hI
   rw[Vp]
   exact this
end
end InF
end Go.Proofs.YthppkofceancjaaGreat
namespace Go.Proofs.YthppkofceancjaaGreat
open Go.ChangeShapes Go.WideShapes Go.ChangeAt Go.RowKit
section
variable {P : Program} {o : Oper} {L : List (Nat × Value)} {w : World} {n d : Nat} {Kt : List (Nat × Value) → World → Prop} {M : Hp} {X : Fr} {H : List Rs} {i : Nat} {r : Rs}
theorem SH.less(S:SH w M X H)(hi:nth H i=some r):SH w M X (H.set i Rs.emp):=S.step hi rfl (gB.refl w) (fun _ _ _=>rfl) trivial (fun b hb=>by cases hb)
theorem Fi{f:FuncId}{vs cap:List Value}{ca:Call}{fo:Operand}{xs:List Operand}(hd:o.dst=some d)(hop:o.op=.call ca)(di:ca.callee=.value fo)(hfo:oev L fo=some (.func (.func f) #[] cap.toArray))
  (hxs:ca.args=xs.toArray)(hvs:oevs L xs=some vs)(hn:Nat.blt d n=true)(hen:∀args w,(callFunc f args).run P w=.ok (.enter f args) w)(S:SH w M X H)(hi:nth H i=some r)
  {R:Value->Hp->Rs->Prop}(hcall:C1 P f (vs++cap) w M (XH w X (H.set i Rs.emp)) R)(h:∀v w' M' r',M.le M'->SH w' M' X (H.set i r')->R v M' r'->Kt ((d,v)::L) w'):WO P n o L w Kt:=by
 intro a ha next Q hk
 have hr:(execOp a.eval o).run P w=.ok (.enter f (vs++cap).toArray) w:=by
  unfold execOp
  simp only[hop,resolve,di,ha.eval hfo,hxs,List.map_toArray,ha.ny hvs,Deferred.ofValue,Sem.run_bind,Sem.run_pure,Result.andThen_ok,invoke,Array.empty_append,List.append_toArray]
  exact hen _ _
 unfold Oper.wp
 rw[hr,Oper.upon_enter,hd]
 refine hcall.mono ?_
 rintro e w' ⟨v,rfl,M',r',h1,h2,h4⟩
 exact hk _ _ _ (ha.put (by simpa using hn) v) (h v w' M' r' h1 (S.aeZ hi h2 rfl) h4)
end
end Go.Proofs.YthppkofceancjaaGreat
namespace Go.Proofs.YthppkofceancjaaGreat
open Go.ChangeShapes Go.WideShapes Go.ChangeAt Go.RowKit
section
variable {P : Program} {o : Oper} {L : List (Nat × Value)} {w w' : World} {x y : Operand} {T E : TypeId} {a : Int} {v : Value} {M : Hp} {X : Fr} {H N : List Rs} {i g : Nat} {l : List Value}
theorem aly(N H:List Rs)(i:Nat):nth (N++H) (N.length+i)=nth H i:=by
 rw[dc,dc,List.getElem?_append_right (by omega)]
 congr 1
 omega
theorem SH.aqt(S:SH w M X (N++H))(hi:nth H i=some (Rs.box g E l)):bQ (M.un (XH w X (N++H)).h) g E l:=S.asU (i:=N.length+i) (by rw[aly];exact hi)
theorem aap{κ ε:Type}[DecidableEq κ]{kc:κ->Value}{vc:ε->Value}{es:List (κ×ε)}{t K V:TypeId}{ca:Call}{xs:List Operand}{ts:List TypeId}(ho:o.op=.call ca)(di:ca.callee=.builtin .len)(hxs:ca.args=xs.toArray)(hts:ca.argTypes=ts.toArray)(hx:oevs L xs=some [.map (some g)])(ht:nth ts 0=some t)(hu:P.underlying t=some (.map K V))(S:SH w M X H)(hi:nth H i=some (Rs.mp kc vc g es)):Run P o L w (.int .i64 (es.length:Int)) w:=by
 intro n c hc
 obtain⟨arr,clock,hg,ha,jv⟩:=(S.get hi:eF kc vc g es (hp w))
 have hg':w.heap[g]? =some (.map arr clock):=hg
 have hgo:=MapKept.run_getObj_map (P:=P) hg'
 have hl:arr.size=es.length:=by have:=congrArg List.length ha;simpa using this
 rw[dc]at ht
 have ht':ts.toArray[0]? =some t:=by simpa using ht
 unfold execOp
 simp only[ho,resolve,di,hxs,hts,List.map_toArray,hc.ny hx,invoke,builtin,Builtin.len_,Sem.run_bind,Sem.run_pure,Result.andThen_ok,ht',List.getElem?_toArray,List.getElem?_cons_zero,run_underlying hu,goInt,hgo,hl]
end
end Go.Proofs.YthppkofceancjaaGreat
namespace Go.Proofs.YthppkofceancjaaGreat
open Go.ChangeShapes Go.WideShapes Go.ChangeAt Go.RowKit
namespace InF
section
variable {P : Program} {n : Nat} {C : InF.Ctx} {c : Code} {s : List K} {L : List (Nat × Value)} {w : World} {M Mb : Hp} {X : Fr} {H Hb : List Rs} {l : Array Bool} {f : Nat}
end
end InF
theorem FL{P:Program}{n:Nat}{C:Ctx}{c:Code}{s:List K}{X:Fr}{f:Nat}{l:Array Bool}{L:List (Nat×Value)}{M Mb:Hp}{H Hb:List Rs}(t:Nat){v:Value}(v':Value)(hl:lk L t=some v)(e:v=v')(h:WA P n C c s X f l ((t,v')::L) Mb Hb M H):WA P n C c s X f l L Mb Hb M H:=by
 subst e
 exact fun hg a ha=>h hg a ⟨ha.sz,ha.df,fun u x hx=>by
  rw[uf]at hx
  split at hx
  ·rename_i e;subst e;injection hx with hx;subst hx;exact ha.at_ _ _ hl
  ·exact ha.at_ _ _ hx⟩
end Go.Proofs.YthppkofceancjaaGreat
namespace Go.Proofs.YthppkofceancjaaGreat
open Go.ChangeShapes Go.WideShapes Go.ChangeAt Go.RowKit
section
variable {P : Program} {n : Nat} {C : Ctx} {c : Code} {s : List K} {L : List (Nat × Value)} {w : World} {M Mb : Hp} {X : Fr} {H Hb N : List Rs} {o : Oper} {l : Array Bool} {f : Nat} {ch : List PanicEntry}
theorem mA{k k' d:Nat}(E:Bool)(L2:List (Nat×Value))(hs:Sub L L2)(h:WL P n C c k' s ((d,.bool E)::L2) w->WL P n C c k s L w)(hJ:WL P n C c k' s ((d,.bool E)::L2) w):WL P n C c k s L w:=h hJ
theorem SH.kz{i g:Nat}{E:TypeId}{l l':List Value}(S:SH w M X (N++H))(hi:nth H i=some (Rs.box g E l))(e:l=l'):bQ (M.un (XH w X (N++H)).h) g E l':=by
 subst e
 exact S.aqt hi
end
end Go.Proofs.YthppkofceancjaaGreat
