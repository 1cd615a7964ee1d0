/- Part 15 of the proof of the law MovesTake: the walks through its functions and the plain laws that they need. -/
import Derived.Test.YthppkofceancjaaGreatMtZ14
import Derived.Lib.SmallJoins
import Derived.Deep.Slices
import Derived.Deep.Fields
import Derived.ChangeSame
set_option linter.unusedSimpArgs false
set_option linter.unusedVariables false
noncomputable section
namespace Go.Proofs.YthppkofceancjaaGreat
open Go.ChangeShapes Go.WideShapes Go.ChangeAt Go.RowKit
theorem akK{d:Dg}(hop:dv d=true){c:Nat}(hc:c<d.ae.length)(h:¬(dx d (oJ c)).2=0):iP d c=false:=by
 cases hb:iP d c with
 |false=>rfl
 |true=>exact absurd ((GN hop hc).1.2 hb) h
theorem ajB{d:Dg}(hop:dv d=true){c:Nat}(hc:c<d.ae.length)(h:(dx d (oJ c)).2=0):iP d c=true:=(GN hop hc).1.1 h
theorem akU{d:Dg}(hop:dv d=true){i j:Nat}(hij:i<j)(hj:j<d.ae.length)(h:¬(dx d (lJ i j)).2=0):ja d i j=false:=by
 cases hb:ja d i j with
 |false=>rfl
 |true=>exact absurd ((GQ hop hij hj).1.2 hb) h
theorem ajS{d:Dg}(hop:dv d=true){i j:Nat}(hij:i<j)(hj:j<d.ae.length)(h:(dx d (lJ i j)).2=0):ja d i j=true:=(GQ hop hij hj).1.1 h
noncomputable def K8:=Tryz.f40.body.getD .skip
def ara:=cL K8
def K7:=cR K8
def K6:=cL K7
def K5:=cR K7
def aq9:=cL K6
def aft:=cR K6
def afs:=cL aft
def K4:=cL afs
def aq8:=cL K4
def K3:=cR K4
def K1:=cL K3
def K0:=cR K3
def aq7:=cL K1
def aq6:=cR K1
def afr:=cL K0
def aq5:=cR K0
def KZ:=cL afr
def aq4:=cL KZ
def KY:=cR KZ
def aq3:=cL KY
def KX:=cR KY
def aq2:=cL KX
def KW:=cR KX
def aq1:=cL KW
def KV:=cR KW
def KU:=cL KV
def aq0:=cR KV
def aqZ:=cL KU
def aqY:=cR KU
def KT:=cL K5
def KS:=cR K5
def aqX:=cL KT
def afq:=cR KT
def afp:=cL afq
def KR:=cL afp
def aqW:=cL KR
def KQ:=cR KR
def KP:=cL KQ
def KO:=cR KQ
def aqV:=cL KP
def aqU:=cR KP
def afo:=cL KO
def aqT:=cR KO
def KN:=cL afo
def aqS:=cL KN
def KM:=cR KN
def aqR:=cL KM
def afn:=cR KM
def afm:=cL afn
def KL:=cL afm
def KJ:=cL KL
def KI:=cR KL
def aqQ:=cL KJ
def KH:=cR KJ
def aqP:=cL KH
def aqO:=cR KH
def afl:=cL KI
def aqN:=cR KI
def KG:=cL afl
def aqM:=cL KG
def KF:=cR KG
def aqL:=cL KF
def KE:=cR KF
def aqK:=cL KE
def KD:=cR KE
def KC:=cL KD
def aqJ:=cR KD
def aqI:=cL KC
def aqH:=cR KC
def aqG:=cL KS
def aqF:=cR KS
set_option maxHeartbeats 2000000 in
set_option maxRecDepth 10000 in
theorem ais{w:World}{M:Hp}{X:Fr}(d:Dg){aV:Option Addr}{aU:Nat}(az:aG aF M aV aU d.ae)(hop:dv d=true)(S:SH w M X []):Ct Tryz.prog 40 [.agg [.slice aV d.ae.length aU,.int .i64 d.loops].toArray] w M X (awj d):=by
 unfold Ct
 have gV:d.ae.length*40<=140737488355328:=az.room
 obtain⟨hn,hab,hlo⟩:=yZ hop
 refine Up (b:=K8) Tryz.func40 rfl Tryz.ntmps40 rfl (fun C hC=>(bq [(0,_)] ⟨rfl,trivial⟩ (U2 ara K7 rfl rfl rfl (U0 rfl (ak 0 1 rfl rfl rfl (bE (l:=[_,_]) rfl rfl rfl rfl rfl S ?_))))))
 intro aI w1 S1;clear S
 refine ak 1 2 rfl rfl rfl (Uh (l:=[_,_]) rfl rfl rfl fR rfl S1 ?_)
 intro aQ w2 S2;clear S1
 refine ak 2 3 rfl rfl rfl (Uh (l:=[_,_,_,_,_,_,_,_]) rfl rfl rfl sK rfl S2 ?_)
 intro bz w3 S3;clear S2
 refine ag 3 1 rfl rfl (U5 rfl (ah [1,2,3] rfl (U3 (U2 K6 K5 rfl rfl rfl (U2 aq9 aft rfl rfl rfl (U0 rfl (af 0 rfl (U1 rfl rfl ay rfl (bK) (bJ)) (af 1 rfl (U4 rfl rfl bt rfl (S3.ar (i:=2) rfl rfl)) ?_))))))))
 refine af 2 rfl (cU rfl rfl rfl rfl rfl rfl bt) (ag 3 1 rfl rfl (U5 rfl (ah [1,2,3,16,17] rfl (U3 (Uc afs 0 rfl rfl rfl ?_)))))
 refine Ux (fun aS au aM=>∃(i:Nat) (M1:Hp),M.le M1/\aS=d.ae.length-i/\Env 64 [(1,.pointer (some ⟨aI,0,none⟩)),(2,.pointer (some ⟨aQ,0,none⟩)),(3,.pointer (some ⟨bz,0,none⟩)),(16,.int .i64 (d.ae.length:Int)),(17,.int .i64 (i:Int))] au/\SH aM M1 X [Rs.box bz 28 [.int .i64 0,.int .i64 0,.int .i64 0,.int .i64 0,.bool false,.int .i64 0,.bool false,.bool false],Rs.box aQ 24 [.slice none 0 0,.int .i64 0],Rs.box aI 24 [.slice aV d.ae.length aU,.int .i64 d.loops]]/\i<=d.ae.length/\(∀x,x<i->iP d x=false)) rfl ?_ ?_
 ·intro au aq
  refine⟨_,⟨0,_,Hp.le_refl _,rfl,aq.sub ⟨rfl,rfl,rfl,rfl,rfl,trivial⟩,S3.pick [0,1,2] [_,_,_] (by decide) ⟨rfl,rfl,rfl,trivial⟩,?cd,?dm⟩⟩
  case cd=>omega
  case dm=>(intro x hx;omega)
 ·rintro m1 a1 w4 ⟨i,M1,aL,rfl,aY,S4,hi,hu⟩
  clear S3
  refine bX aY (c:=K4) rfl ?_
  clear aY a1
  replace az:=az.mono aL
  refine U2 aq8 K3 rfl rfl rfl (U0 rfl (af 0 rfl (bS rfl rfl rfl) (U5 rfl (U3 (U2 K1 K0 rfl rfl rfl ?_)))))
  refine Uf aq7 aq6 rfl rfl rfl rfl (fun lN=>?_) (fun lN=>?_)
  ·refine Ue rfl (ah [1,2,3,16,17] rfl (U3 (U2 afr aq5 rfl rfl rfl (Uc KZ 1 rfl rfl rfl (U2 aq4 KY rfl rfl rfl (U0 rfl (ag 0 2 rfl rfl (U5 rfl ?_))))))))
   refine ah [1,2,3,16,17,5] rfl (U3 (U2 aq3 KX rfl rfl rfl (U0 rfl (ag 0 1 rfl rfl (af 1 rfl (run_build (l:=[_,_,_,_,_,_,_,_]) rfl rfl xj rfl rfl) (ak 2 3 rfl rfl rfl (Uh (l:=[_,_,_,_,_,_,_,_]) rfl rfl rfl sK rfl S4 ?_)))))))
   intro gZ w5 S5;clear S4
   refine ak 3 4 rfl rfl rfl (U6 (i:=0) (us:=[_,_,_,_,_,_,_,_]) (l':=[_,_,_,_,_,_,_,_]) (H':=[_,_,_,_]) rfl rfl S5 rfl rfl rfl rfl fH rfl rfl rfl rfl ?_)
   intro w6 S6;clear S5
   refine U5 rfl (ah [1,2,3,16,17,6] rfl (U3 (U2 aq2 KW rfl rfl rfl (U0 rfl (af 0 rfl (U8 (us:=[_,_]) rfl rfl ay rfl aA (S6.aw (i:=3) rfl ⟨rfl,rfl,trivial⟩)) (af 1 rfl (U8 (us:=[_,_,_,_,_,_,_,_]) rfl rfl aT rfl fH (S6.aw (i:=0) rfl ⟨rfl,rfl,rfl,rfl,rfl,rfl,rfl,rfl,trivial⟩)) (ak 2 3 rfl rfl rfl (eZ rfl rfl rfl rfl rfl rfl rfl cf8 S6 (ag1 d (oJ i) (az.mono (Hp.bY _ _)) S6.aD) ?_))))))))
   intro vw7 w7 M2 hle2 S7 zX;clear S6
   replace az:=az.mono hle2
   obtain⟨A1,c1,rfl,hr1⟩:=zX
   refine ag 3 1 rfl rfl (af 4 rfl (Ui rfl rfl rfl) (af 5 rfl (Ui rfl rfl rfl) (ak 6 7 rfl rfl rfl (Uh (l:=[_,_]) rfl rfl rfl fR rfl S7 ?_))))
   intro iy w8 S8;clear S7
   refine ak 7 8 rfl rfl rfl (U6 (i:=0) (us:=[_,_]) (l':=[_,_]) (H':=[_,_,_,_,_]) rfl rfl S8 rfl rfl rfl rfl aA rfl rfl rfl rfl ?_)
   intro w9 S9;clear S8
   refine ag 8 1 rfl rfl (U5 rfl (ah [1,2,3,16,17,6,7,8] rfl (U3 (U2 aq1 KV rfl rfl rfl (U0 rfl (ag 0 1 rfl rfl (af 1 rfl (bR rfl rfl rfl) (U5 rfl ?_))))))))
   refine ah [1,2,3,16,17,6,7,29] rfl (U3 ?_)
   refine Uf KU aq0 rfl rfl rfl rfl (fun nS=>?_) (fun nS=>?_)
   ·refine U2 aqZ aqY rfl rfl rfl ?_
    have bw:=S9.pick [3,2,0,1,4] [_,_,_,_,_] (by decide) ⟨rfl,rfl,rfl,rfl,rfl,trivial⟩;clear S9
    refine jM [_,_] [_,_,_] rfl (by kernel_rfl) bw 5 rfl ?_
    clear bw
    change WA _ _ _ _ _ _ _ _ _ _ _ _ [_,_,_,_,_]
    refine aj 0 4 rfl (by kernel_rfl) (fun _ _ _ hz Sz=>.inl (U8 (us:=[_,_]) rfl rfl ay rfl aA (Sz.suf.aw (i:=0) rfl ⟨rfl,rfl,trivial⟩))) ?_
    refine aj 1 3 rfl (by kernel_rfl) (fun _ _ _ hz Sz=>.inl (U8 (us:=[_,_,_,_,_,_,_,_]) rfl rfl aT rfl fH (Sz.suf.aw (i:=1) rfl ⟨rfl,rfl,rfl,rfl,rfl,rfl,rfl,rfl,trivial⟩))) ?_
    refine Un (i:=2) 2 rfl (by kernel_rfl) rfl rfl (fun kz bI=>?_)
    refine(U6 (i:=0) (us:=[_,_]) (l':=[_,_]) (H':=[_,_,_,_,_]) rfl rfl bI rfl rfl rfl rfl aA rfl rfl rfl rfl ?_)
    intro jG bO;clear bI
    refine aP.grow [_,_] (Hp.le_refl _) bO ?_;clear bO
    change WA _ _ _ _ _ _ _ _ _ _ _ _ [_,_,_,_,_]
    refine Un (i:=3) 1 rfl (by kernel_rfl) rfl rfl (fun ni bF=>?_)
    refine(U6 (i:=1) (us:=[_,_,_,_,_,_,_,_]) (l':=[_,_,_,_,_,_,_,_]) (H':=[_,_,_,_,_]) rfl rfl bF rfl rfl rfl rfl fH rfl rfl rfl rfl ?_)
    intro kU bU;clear bF
    refine aP.grow [_,_] (Hp.le_refl _) bU ?_;clear bU
    change WA _ _ _ _ _ _ _ _ _ _ _ _ [_,_,_,_,_]
    refine ai 4 0 rfl (by kernel_rfl) (fun _=>run_assign rfl rfl) ?_
    refine Uu (by kernel_rfl) (fun oZ cN=>?_)
    refine ah [2,3,4] rfl (U3 (Uk hC [_,_,_] rfl rfl ⟨⟨_,rfl,Um (us:=[_,_]) ay rfl aA (cN.aw (i:=0) rfl ⟨rfl,rfl,trivial⟩)⟩,⟨_,rfl,Um (us:=[_,_,_,_,_,_,_,_]) aT rfl fH (cN.aw (i:=1) rfl ⟨rfl,rfl,rfl,rfl,rfl,rfl,rfl,rfl,trivial⟩)⟩,rfl,trivial⟩ ?_))
    refine⟨_,rfl,_,aL.trans hle2,(cN.pick [] [] (by decide) trivial),?_⟩
    have hT:=ac7 (d:=d) (c:=i) ⟨by omega,ajB hop (by omega) nS,hu⟩
    exact .inr ⟨_,_,_,hT,rfl,hr1⟩
   ·refine Ue rfl (bj (ah [1,2,3,16,17] rfl (U3 (U0 rfl (af 0 rfl (Ug rfl rfl rfl (by first|omega|(simp only[ls];omega))) ?_)))))
    refine ag 1 1 rfl rfl (U5 rfl (aO ?_))
    intro au aq
    refine⟨_,?dQ,⟨i+1,_,(aL.trans hle2),rfl,aq.sub ⟨rfl,rfl,rfl,rfl,rfl,trivial⟩,S9.pick [2,3,4] [_,_,_] (by decide) ⟨rfl,rfl,rfl,trivial⟩,?cx,?dC⟩⟩
    case cx=>omega
    case dC=>(intro x hx;by_cases e9:x<i;exact hu x e9;(obtain rfl:x=i:=(by omega));exact akK hop (by omega) nS)
    case dQ=>omega
  ·refine bP rfl rfl (ah [1,2,3] rfl (U3 (U2 KT KS rfl rfl rfl (U2 aqX afq rfl rfl rfl ?_))))
   obtain rfl:i=d.ae.length:=by omega
   have hU:∀x,x<d.ae.length->iP d x=false:=hu
   refine U0 rfl (af 0 rfl (U1 rfl rfl ay rfl (bK) (bJ)) (af 1 rfl (U4 rfl rfl bt rfl (S4.ar (i:=2) rfl rfl)) (af 2 rfl (cU rfl rfl rfl rfl rfl rfl bt) (ag 3 1 rfl rfl (U5 rfl (ah [1,2,3,35,36] rfl (U3 (Uc afp 2 rfl rfl rfl ?_))))))))
   refine Ux (fun aS au aM=>∃(i1:Nat) (M8:Hp),M1.le M8/\aS=d.ae.length-i1/\Env 64 [(1,.pointer (some ⟨aI,0,none⟩)),(2,.pointer (some ⟨aQ,0,none⟩)),(3,.pointer (some ⟨bz,0,none⟩)),(35,.int .i64 (d.ae.length:Int)),(36,.int .i64 (i1:Int))] au/\SH aM M8 X [Rs.box bz 28 [.int .i64 0,.int .i64 0,.int .i64 0,.int .i64 0,.bool false,.int .i64 0,.bool false,.bool false],Rs.box aQ 24 [.slice none 0 0,.int .i64 0],Rs.box aI 24 [.slice aV d.ae.length aU,.int .i64 d.loops]]/\i1<=d.ae.length/\(∀a b,a<i1->a<b->b<d.ae.length->ja d a b=false)) rfl ?_ ?_
   ·intro au aq
    refine⟨_,⟨0,_,Hp.le_refl _,rfl,aq.sub ⟨rfl,rfl,rfl,rfl,rfl,trivial⟩,S4.pick [0,1,2] [_,_,_] (by decide) ⟨rfl,rfl,rfl,trivial⟩,?eB,?gu⟩⟩
    case eB=>omega
    case gu=>(intro a b h9;omega)
   ·rintro m2 a2 q9 ⟨i1,M8,sO,rfl,cB,cM,hi1,hp⟩
    clear S4
    refine bX cB (c:=KR) rfl ?_
    clear cB a2
    replace az:=az.mono sO
    refine U2 aqW KQ rfl rfl rfl (U0 rfl (af 0 rfl (bS rfl rfl rfl) (U5 rfl (U3 (U2 KP KO rfl rfl rfl ?_)))))
    refine Uf aqV aqU rfl rfl rfl rfl (fun oQ=>?_) (fun oQ=>?_)
    ·refine Ue rfl (ah [1,2,3,35,36] rfl (U3 (U2 afo aqT rfl rfl rfl (Uc KN 3 rfl rfl rfl (U2 aqS KM rfl rfl rfl (U0 rfl (ag 0 2 rfl rfl (U5 rfl ?_))))))))
     refine ah [1,2,3,35,36,9] rfl (U3 (U2 aqR afn rfl rfl rfl (U0 rfl (ag 0 1 rfl rfl (af 1 rfl (Ug rfl rfl rfl (by first|omega|(simp only[ls];omega))) ?_)))))
     refine cy 40 (.int .i64 ((i1+1:Nat):Int)) rfl (int_eq (by omega)) ?_
     refine ag 2 1 rfl rfl (U5 rfl (ah [1,2,3,35,36,9,10] rfl (U3 (Uc afm 4 rfl rfl rfl ?_))))
     refine Ux (fun aS au aM=>∃(j:Nat) (M9:Hp),M8.le M9/\aS=d.ae.length-j/\Env 64 [(1,.pointer (some ⟨aI,0,none⟩)),(2,.pointer (some ⟨aQ,0,none⟩)),(3,.pointer (some ⟨bz,0,none⟩)),(35,.int .i64 (d.ae.length:Int)),(36,.int .i64 (i1:Int)),(9,.int .i64 (i1:Int)),(10,.int .i64 (j:Int))] au/\SH aM M9 X [Rs.box bz 28 [.int .i64 0,.int .i64 0,.int .i64 0,.int .i64 0,.bool false,.int .i64 0,.bool false,.bool false],Rs.box aQ 24 [.slice none 0 0,.int .i64 0],Rs.box aI 24 [.slice aV d.ae.length aU,.int .i64 d.loops]]/\i1<j/\j<=d.ae.length/\(∀b,i1<b->b<j->ja d i1 b=false)) rfl ?_ ?_
     ·intro au aq
      refine⟨_,⟨i1+1,_,Hp.le_refl _,rfl,aq.sub ⟨rfl,rfl,rfl,rfl,rfl,rfl,rfl,trivial⟩,cM.pick [0,1,2] [_,_,_] (by decide) ⟨rfl,rfl,rfl,trivial⟩,?eW,?gq,?oG⟩⟩
      case eW=>omega
      case gq=>omega
      case oG=>(intro b h9 h8;omega)
     ·rintro m3 a3 tv ⟨j,M9,ct,rfl,fu,dz,Fm,hj,hq⟩
      clear cM
      refine bX fu (c:=KL) rfl ?_
      clear fu a3
      replace az:=az.mono ct
      refine U2 KJ KI rfl rfl rfl (U2 aqQ KH rfl rfl rfl (U0 rfl (ag 0 1 rfl rfl (af 1 rfl (U1 rfl rfl ay rfl (bK) (bJ)) (af 2 rfl (U4 rfl rfl bt rfl (dz.ar (i:=2) rfl rfl)) (af 3 rfl (cU rfl rfl rfl rfl rfl rfl bt) (af 4 rfl (bS rfl rfl rfl) (U5 rfl ?_))))))))
      refine ah [1,2,3,35,36,9,10,45] rfl (U3 ?_)
      refine Uf aqP aqO rfl rfl rfl rfl (fun zS=>?_) (fun zS=>?_)
      ·refine Ue rfl (ah [1,2,3,35,36,9,10] rfl (U3 (U2 afl aqN rfl rfl rfl (Uc KG 5 rfl rfl rfl (U2 aqM KF rfl rfl rfl (U0 rfl (ag 0 2 rfl rfl (af 2 rfl (run_build (l:=[_,_,_,_,_,_,_,_]) rfl rfl xj rfl rfl) ?_))))))))
       refine ak 3 4 rfl rfl rfl (Uh (l:=[_,_,_,_,_,_,_,_]) rfl rfl rfl sK rfl dz ?_)
       intro pZ vA dE;clear dz
       refine ak 4 5 rfl rfl rfl (U6 (i:=0) (us:=[_,_,_,_,_,_,_,_]) (l':=[_,_,_,_,_,_,_,_]) (H':=[_,_,_,_]) rfl rfl dE rfl rfl rfl rfl fH rfl rfl rfl rfl ?_)
       intro q8 cI;clear dE
       refine U5 rfl (ah [1,2,3,35,36,9,10,11] rfl (U3 (U2 aqL KE rfl rfl rfl (U0 rfl (af 0 rfl (U8 (us:=[_,_]) rfl rfl ay rfl aA (cI.aw (i:=3) rfl ⟨rfl,rfl,trivial⟩)) (af 1 rfl (U8 (us:=[_,_,_,_,_,_,_,_]) rfl rfl aT rfl fH (cI.aw (i:=0) rfl ⟨rfl,rfl,rfl,rfl,rfl,rfl,rfl,rfl,trivial⟩)) (ak 2 3 rfl rfl rfl (eZ rfl rfl rfl rfl rfl rfl rfl cf8 cI (ag1 d (lJ i1 j) (az.mono (Hp.bY _ _)) cI.aD) ?_))))))))
       intro ayc AH M10 C6 cH amZ;clear cI
       replace az:=az.mono C6
       obtain⟨A2,c2,rfl,hr2⟩:=amZ
       refine ag 3 1 rfl rfl (af 4 rfl (Ui rfl rfl rfl) (af 5 rfl (Ui rfl rfl rfl) (ak 6 7 rfl rfl rfl (Uh (l:=[_,_]) rfl rfl rfl fR rfl cH ?_))))
       intro pY vz fY;clear cH
       refine ak 7 8 rfl rfl rfl (U6 (i:=0) (us:=[_,_]) (l':=[_,_]) (H':=[_,_,_,_,_]) rfl rfl fY rfl rfl rfl rfl aA rfl rfl rfl rfl ?_)
       intro vw eG;clear fY
       refine ag 8 1 rfl rfl (U5 rfl (ah [1,2,3,35,36,9,10,11,12,13] rfl (U3 (U2 aqK KD rfl rfl rfl (U0 rfl (ag 0 1 rfl rfl (af 1 rfl (bR rfl rfl rfl) (U5 rfl ?_))))))))
       refine ah [1,2,3,35,36,9,10,11,12,58] rfl (U3 ?_)
       refine Uf KC aqJ rfl rfl rfl rfl (fun Jr=>?_) (fun Jr=>?_)
       ·refine U2 aqI aqH rfl rfl rfl ?_
        have dB:=eG.pick [3,2,0,1,4] [_,_,_,_,_] (by decide) ⟨rfl,rfl,rfl,rfl,rfl,trivial⟩;clear eG
        refine jM [_,_] [_,_,_] rfl (by kernel_rfl) dB 5 rfl ?_
        clear dB
        change WA _ _ _ _ _ _ _ _ _ _ _ _ [_,_,_,_,_]
        refine aj 0 4 rfl (by kernel_rfl) (fun _ _ _ hz Sz=>.inl (U8 (us:=[_,_]) rfl rfl ay rfl aA (Sz.suf.aw (i:=0) rfl ⟨rfl,rfl,trivial⟩))) ?_
        refine aj 1 3 rfl (by kernel_rfl) (fun _ _ _ hz Sz=>.inl (U8 (us:=[_,_,_,_,_,_,_,_]) rfl rfl aT rfl fH (Sz.suf.aw (i:=1) rfl ⟨rfl,rfl,rfl,rfl,rfl,rfl,rfl,rfl,trivial⟩))) ?_
        refine Un (i:=2) 2 rfl (by kernel_rfl) rfl rfl (fun vt mj=>?_)
        refine(U6 (i:=0) (us:=[_,_]) (l':=[_,_]) (H':=[_,_,_,_,_]) rfl rfl mj rfl rfl rfl rfl aA rfl rfl rfl rfl ?_)
        intro vq gL;clear mj
        refine aP.grow [_,_] (Hp.le_refl _) gL ?_;clear gL
        change WA _ _ _ _ _ _ _ _ _ _ _ _ [_,_,_,_,_]
        refine Un (i:=3) 1 rfl (by kernel_rfl) rfl rfl (fun vp fQ=>?_)
        refine(U6 (i:=1) (us:=[_,_,_,_,_,_,_,_]) (l':=[_,_,_,_,_,_,_,_]) (H':=[_,_,_,_,_]) rfl rfl fQ rfl rfl rfl rfl fH rfl rfl rfl rfl ?_)
        intro pS iW;clear fQ
        refine aP.grow [_,_] (Hp.le_refl _) iW ?_;clear iW
        change WA _ _ _ _ _ _ _ _ _ _ _ _ [_,_,_,_,_]
        refine ai 4 0 rfl (by kernel_rfl) (fun _=>run_assign rfl rfl) ?_
        refine Uu (by kernel_rfl) (fun tq mS=>?_)
        refine ah [2,3,4] rfl (U3 (Uk hC [_,_,_] rfl rfl ⟨⟨_,rfl,Um (us:=[_,_]) ay rfl aA (mS.aw (i:=0) rfl ⟨rfl,rfl,trivial⟩)⟩,⟨_,rfl,Um (us:=[_,_,_,_,_,_,_,_]) aT rfl fH (mS.aw (i:=1) rfl ⟨rfl,rfl,rfl,rfl,rfl,rfl,rfl,rfl,trivial⟩)⟩,rfl,trivial⟩ ?_))
        refine⟨_,rfl,_,((aL.trans sO).trans ct).trans C6,(mS.pick [] [] (by decide) trivial),?_⟩
        have hT:=ac8 (d:=d) (i:=i1) (j:=j) ⟨hU,Fm,by omega,ajS hop Fm (by omega) Jr,hp,hq⟩
        exact .inr ⟨_,_,_,hT,rfl,hr2⟩
       ·refine Ue rfl (bj (ah [1,2,3,35,36,9,10] rfl (U3 (U0 rfl (ag 0 1 rfl rfl (af 1 rfl (Ug rfl rfl rfl (by first|omega|(simp only[ls];omega))) ?_))))))
        refine ag 2 1 rfl rfl (U5 rfl (aO ?_))
        intro au aq
        refine⟨_,?kv,⟨j+1,_,(ct.trans C6),rfl,aq.sub ⟨rfl,rfl,rfl,rfl,rfl,rfl,rfl,trivial⟩,eG.pick [2,3,4] [_,_,_] (by decide) ⟨rfl,rfl,rfl,trivial⟩,?fC,?gp,?mV⟩⟩
        case fC=>omega
        case gp=>omega
        case mV=>(intro b h9 h8;by_cases e9:b<j;exact hq b h9 e9;(obtain rfl:b=j:=(by omega));exact akU hop (by omega) (by omega) Jr)
        case kv=>omega
      ·refine bP rfl rfl (bj (ah [1,2,3,35,36] rfl (U3 (U0 rfl (af 0 rfl (Ug rfl rfl rfl (by first|omega|(simp only[ls];omega))) ?_)))))
       refine ag 1 1 rfl rfl (U5 rfl (aO ?_))
       intro au aq
       refine⟨_,?ku,⟨i1+1,_,(sO.trans ct),rfl,aq.sub ⟨rfl,rfl,rfl,rfl,rfl,trivial⟩,dz.pick [0,1,2] [_,_,_] (by decide) ⟨rfl,rfl,rfl,trivial⟩,?gW,?iY⟩⟩
       case gW=>omega
       case iY=>(intro a b h9 h8 h7;by_cases e9:a<i1;exact hp a b e9 h8 h7;(obtain rfl:a=i1:=(by omega));exact hq b h8 (by omega))
       case ku=>omega
    ·refine bP rfl rfl (ah [2,3] rfl (U3 (U2 aqG aqF rfl rfl rfl ?_)))
     obtain rfl:i1=d.ae.length:=by omega
     refine U0 rfl (af 0 rfl (run_build (l:=[_,_]) rfl rfl dI rfl rfl) (af 1 rfl (run_build (l:=[_,_,_,_,_,_,_,_]) rfl rfl xj rfl rfl) (ak 2 3 rfl rfl rfl (U6 (i:=1) (us:=[_,_]) (l':=[_,_]) (H':=[_,_,_]) rfl rfl cM rfl rfl rfl rfl aA rfl rfl rfl rfl ?_))))
     intro E7 mh;clear cM
     refine ak 3 4 rfl rfl rfl (U6 (i:=0) (us:=[_,_,_,_,_,_,_,_]) (l':=[_,_,_,_,_,_,_,_]) (H':=[_,_,_]) rfl rfl mh rfl rfl rfl rfl fH rfl rfl rfl rfl ?_)
     intro E6 dV;clear mh
     refine ag 4 1 rfl rfl (U5 rfl (ah [2,3,4] rfl (U3 (Uk hC [_,_,_] rfl rfl ⟨⟨_,rfl,Um (us:=[_,_]) ay rfl aA (dV.aw (i:=1) rfl ⟨rfl,rfl,trivial⟩)⟩,⟨_,rfl,Um (us:=[_,_,_,_,_,_,_,_]) aT rfl fH (dV.aw (i:=0) rfl ⟨rfl,rfl,rfl,rfl,rfl,rfl,rfl,rfl,trivial⟩)⟩,rfl,trivial⟩ ?_))))
     refine⟨_,rfl,_,aL.trans sO,(dV.pick [] [] (by decide) trivial),?_⟩
     exact .inl ⟨ac9 hU (fun a b h9 h8=>hp a b (by omega) h9 h8),rfl⟩
end Go.Proofs.YthppkofceancjaaGreat
namespace Go.Proofs.YthppkofceancjaaGreat
open Go.ChangeShapes Go.WideShapes Go.ChangeAt Go.RowKit
noncomputable def KB:=Tryz.f14.body.getD .skip
def aqE:=cL KB
def afk:=cR KB
def KA:=cL afk
def aqD:=cL KA
def Kz:=cR KA
def DZ:=cL Kz
def DY:=cR Kz
def aqC:=cL DY
def Ky:=cR DY
def aqB:=cL Ky
def Kw:=cR Ky
def aqA:=cL Kw
def Aa:=cR Kw
def afj:=cL DZ
def DX:=cR DZ
def Kv:=cL DX
def aqz:=cR DX
def aqy:=cL Kv
def aqx:=cR Kv
def Ku:=cL Aa
def Ks:=cR Aa
def aqw:=cL Ku
def Kr:=cR Ku
def afi:=cL Kr
def DW:=cR Kr
def Kq:=cL DW
def aqv:=cR DW
def aqu:=cL Ks
def aqt:=cR Ks
def aqs:=cL Kq
def aqr:=cR Kq
set_option maxHeartbeats 2000000 in
set_option maxRecDepth 10000 in
theorem ajq{w:World}{M:Hp}{X:Fr}(d:Dg){aV:Option Addr}{aU:Nat}(az:aG aF M aV aU d.ae)(S:SH w M X []):Ct Tryz.prog 14 [.agg [.slice aV d.ae.length aU,.int .i64 d.loops].toArray] w M X (QW (jS d)):=by
 unfold Ct
 have gV:d.ae.length*40<=140737488355328:=az.room
 refine Up (b:=KB) Tryz.func14 rfl Tryz.ntmps14 rfl (fun C hC=>(bq [(0,_)] ⟨rfl,trivial⟩ (U2 aqE afk rfl rfl rfl (U0 rfl (ak 0 1 rfl rfl rfl (bE (l:=[_,_]) rfl rfl rfl rfl rfl S ?_))))))
 intro aI w1 S1;clear S
 refine ak 1 2 rfl rfl rfl (Uh (l:=[_,_]) rfl rfl rfl fR rfl S1 ?_)
 intro aQ w2 S2;clear S1
 refine ag 2 2 rfl rfl (U5 rfl (ah [1,2] rfl (U3 (aiu KA Aa 0 rfl rfl rfl (U2 aqD Kz rfl rfl rfl (U0 rfl (af 0 rfl (U8 (us:=[_,_]) rfl rfl ay rfl aA (S2.aw (i:=1) rfl ⟨rfl,rfl,trivial⟩)) (ak 1 2 rfl rfl rfl (CH rfl rfl rfl rfl rfl rfl rfl JD S2 (GX d (az.mono (Hp.bY _ _)) S2.aD) ?_)))))))))
 intro E8 w3 M1 Nw3 aL S3 qM;clear S2
 replace az:=az.mono aL
 rcases qM with⟨hop,rfl,rfl⟩|⟨hop,bC,ggs,bD,iA,oA,fA,ic,oc,fc,fv,rfl,rfl,hsi,aK,cZ,cY⟩
 ·have S4:SH _ _ _ [_,_]:=S3;clear S3
  refine ag 2 1 rfl rfl (af 3 rfl (Ui rfl rfl rfl) (af 4 rfl (Ui rfl rfl rfl) (ag 5 2 rfl rfl (U5 rfl (ah [2,5,6] rfl (U3 (U2 DZ DY rfl rfl rfl (U2 afj DX rfl rfl rfl ?_))))))))
  refine U0 rfl (ag 0 1 rfl rfl (af 1 rfl (dS rfl rfl) (U5 rfl (ah [2,5,18] rfl (U3 (fN Kv rfl rfl rfl (U2 aqy aqx rfl rfl rfl (U0 rfl ?_))))))))
  refine af 0 rfl (run_build (l:=[_,_]) rfl rfl dI rfl rfl) (ak 1 2 rfl rfl rfl (U6 (i:=0) (us:=[_,_]) (l':=[_,_]) (H':=[_,_]) rfl rfl S4 rfl rfl rfl rfl aA rfl rfl rfl rfl ?_))
  intro w4 S5;clear S4
  refine ag 2 2 rfl rfl (U5 rfl (ah [2,3,4] rfl (U3 (Uk hC [_,_,_] rfl rfl ⟨⟨_,rfl,Um (us:=[_,_]) ay rfl aA (S5.aw (i:=0) rfl ⟨rfl,rfl,trivial⟩)⟩,rfl,rfl,trivial⟩ ?_))))
  refine⟨_,rfl,_,aL,(S5.pick [] [] (by decide) trivial),?_⟩
  rw[show jS d=(⟨[],0⟩,[],7)from by unfold jS;rw[if_pos hop]]
  exact GR 7
 ·have S6:SH _ _ _ [_,_,_,_,_]:=S3;clear S3
  obtain⟨hn,hab,hlo⟩:=yZ hop
  refine ag 2 1 rfl rfl (af 3 rfl (Ui rfl rfl rfl) (af 4 rfl (Ui rfl rfl rfl) (ag 5 2 rfl rfl (U5 rfl (ah [2,5,6] rfl (U3 (U2 DZ DY rfl rfl rfl (U2 afj DX rfl rfl rfl ?_))))))))
  refine U0 rfl (ag 0 1 rfl rfl (af 1 rfl (dS rfl rfl) (U5 rfl (ah [2,5,18] rfl (U3 (jz aqz rfl rfl rfl (Ue rfl (ah [2,5] rfl ?_))))))))
  refine U3 (U2 aqC Ky rfl rfl rfl ?_)
  obtain⟨M2,hle2,S7,⟨A1,c1,e1,hr1⟩⟩:=S6.fZ (i:=2) (H':=[_,_,_,_,_]) rfl rfl (by show _*40<=_;first|omega|(simp only[ls];omega))
  clear S6;subst e1
  replace az:=az.mono hle2
  replace hsi:=hsi.mono hle2
  replace aK:=aK.mono hle2
  replace cZ:=cZ.mono hle2
  replace cY:=cY.mono hle2
  refine U0 rfl (ag 0 1 rfl rfl (af 1 rfl (U9 rfl rfl) (af 2 rfl (U1 rfl rfl cV rfl (dK) (dJ)) (af 3 rfl (U4 rfl rfl dt rfl (S7.ar (i:=0) rfl rfl)) (af 4 rfl (U9 rfl rfl) (af 5 rfl (U1 rfl rfl dR rfl (fE) (fD)) (af 6 rfl (U8 (us:=[_,_]) rfl rfl ay rfl aA (S7.aw (i:=1) rfl ⟨rfl,rfl,trivial⟩)) (ak 7 8 rfl rfl rfl (Uh (l:=[_,_]) rfl rfl rfl fR rfl S7 ?_)))))))))
  intro bz w5 S8;clear S7
  refine ak 8 9 rfl rfl rfl (U6 (i:=0) (us:=[_,_]) (l':=[_,_]) (H':=[_,_,_,_,_,_]) rfl rfl S8 rfl rfl rfl rfl aA rfl rfl rfl rfl ?_)
  intro w6 S9;clear S8
  refine U5 rfl (ah [2,7] rfl (U3 (U2 aqB Kw rfl rfl rfl (U0 rfl (ag 0 1 rfl rfl (U5 rfl (U3 (U2 aqA Aa rfl rfl rfl ?_))))))))
  have bw:=S9.nH nT;clear S9
  refine aiv (fun aS au aM=>∃(D:Dg) (nA:Option Addr) (nc:Nat) (ms:List Mv) (o7:Value) (M3:Hp),M2.le M3/\aS=d.ae.length-ms.length/\Env 41 [(2,.pointer (some ⟨aQ,0,none⟩)),(7,.pointer (some ⟨bz,0,none⟩)),(8,o7)] au/\SH aM M3 X [Rs.row nT o7 ms,Rs.box bz 24 [.slice nA D.ae.length nc,.int .i64 D.loops],Rs.box aQ 24 [.slice none 0 0,.int .i64 0]]/\dv D=true/\D.ae.length+ms.length<=d.ae.length/\simF d.ae.length d []=simF (d.ae.length-ms.length) D ms/\aG aF M3 nA nc D.ae) rfl rfl ?_ ?_
  ·intro au aq
   refine⟨_,⟨d,_,_,[],_,_,Hp.le_refl _,rfl,aq.sub ⟨rfl,rfl,rfl,trivial⟩,bw.pick [0,1,5] [_,_,_] (by decide) ⟨rfl,rfl,rfl,trivial⟩,?cd,?dm,?mW,?uC⟩⟩
   case cd=>exact hop
   case dm=>simp
   case mW=>rfl
   case uC=>exact hr1
  ·rintro m1 a1 w7 ⟨D,nA,nc,ms,o7,M3,dh,rfl,aY,bW,oN,hlen,oM,kR⟩
   clear bw
   refine bX aY (c:=Aa) rfl ?_
   clear aY a1
   replace az:=az.mono dh
   replace hsi:=hsi.mono dh
   replace aK:=aK.mono dh
   replace cZ:=cZ.mono dh
   replace cY:=cY.mono dh
   replace hr1:=hr1.mono dh
   have aoC:ms.length*64<=16*64:=by omega
   refine U2 Ku Ks rfl rfl rfl (U2 aqw Kr rfl rfl rfl (U0 rfl (af 0 rfl (U8 (us:=[_,_]) rfl rfl ay rfl aA (bW.aw (i:=1) rfl ⟨rfl,rfl,trivial⟩)) (ak 1 2 rfl rfl rfl (eZ rfl rfl rfl rfl rfl rfl rfl apu bW (ais D kR oN bW.aD) ?_)))))
   intro vw8 w8 M4 cE bV zW;clear bW
   replace az:=az.mono cE
   replace hsi:=hsi.mono cE
   replace aK:=aK.mono cE
   replace cZ:=cZ.mono cE
   replace cY:=cY.mono cE
   replace hr1:=hr1.mono cE
   replace kR:=kR.mono cE
   rcases zW with⟨ht1,rfl⟩|⟨iQ,A2,c2,ht1,rfl,hr2⟩
   ·have bZ:SH _ _ _ [_,_,_]:=bV;clear bV
    refine ag 2 1 rfl rfl (af 3 rfl (Ui rfl rfl rfl) (af 4 rfl (Ui rfl rfl rfl) (af 5 rfl (Ui rfl rfl rfl) (ak 6 7 rfl rfl rfl (Uh (l:=[_,_]) rfl rfl rfl fR rfl bZ ?_)))))
    intro gZ w9 bI;clear bZ
    refine ak 7 8 rfl rfl rfl (Uh (l:=[_,_,_,_,_,_,_,_]) rfl rfl rfl sK rfl bI ?_)
    intro iy jT bO;clear bI
    refine ak 8 9 rfl rfl rfl (U6 (i:=1) (us:=[_,_]) (l':=[_,_]) (H':=[_,_,_,_,_]) rfl rfl bO rfl rfl rfl rfl aA rfl rfl rfl rfl ?_)
    intro kV cm;clear bO
    refine ak 9 10 rfl rfl rfl (U6 (i:=0) (us:=[_,_,_,_,_,_,_,_]) (l':=[_,_,_,_,_,_,_,_]) (H':=[_,_,_,_,_]) rfl rfl cm rfl rfl rfl rfl fH rfl rfl rfl rfl ?_)
    intro lU bF;clear cm
    refine ag 10 1 rfl rfl (U5 rfl (ah [2,7,8,9,10,11] rfl (U3 (U2 afi DW rfl rfl rfl (U0 rfl (ag 0 1 rfl rfl (U5 rfl (ah [2,7,8,9,10,33] rfl ?_))))))))
    refine U3 (jz aqv rfl rfl rfl (Ue rfl (ah [2,7,8] rfl (U3 (U2 aqu aqt rfl rfl rfl (U0 rfl (af 0 rfl (U8 (us:=[_,_]) rfl rfl ay rfl aA (bF.aw (i:=3) rfl ⟨rfl,rfl,trivial⟩)) (ag 1 1 rfl rfl ?_))))))))
    refine ak 2 3 rfl rfl rfl (U6 (i:=4) (us:=[_,_]) (l':=[_,_]) (H':=[_,_,_,_,_]) rfl rfl bF rfl rfl rfl rfl aA rfl rfl rfl rfl ?_)
    intro kz bU;clear bF
    refine ag 3 2 rfl rfl (U5 rfl (ah [2,3,4] rfl (U3 ?_)))
    obtain⟨M5,fL,dP,⟨A3,c3,e2,hr3⟩⟩:=bU.fZ (i:=2) (H':=[_,_,_,_,_]) rfl rfl (by show _*64<=_;first|omega|(simp only[ls];omega))
    clear bU;subst e2
    replace az:=az.mono fL
    replace hsi:=hsi.mono fL
    replace aK:=aK.mono fL
    replace cZ:=cZ.mono fL
    replace cY:=cY.mono fL
    replace hr1:=hr1.mono fL
    replace kR:=kR.mono fL
    refine Uk hC [_,_,_] rfl rfl ⟨⟨_,rfl,Um (us:=[_,_]) ay rfl aA (dP.aw (i:=4) rfl ⟨rfl,rfl,trivial⟩)⟩,rfl,rfl,trivial⟩ ?_
    refine⟨_,rfl,_,(((aL.trans hle2).trans dh).trans cE).trans fL,(dP.pick [] [] (by decide) trivial),?_⟩
    rw[show jS d=(D,ms,0)from by unfold jS;rw[if_neg (by rw[hop];decide),oM,aaI ht1]]
    exact⟨_,_,_,_,rfl,kR,hr3⟩
   ·have cN:SH _ _ _ [_,_,_]:=bV;clear bV
    refine ag 2 1 rfl rfl (af 3 rfl (Ui rfl rfl rfl) (af 4 rfl (Ui rfl rfl rfl) (af 5 rfl (Ui rfl rfl rfl) (ak 6 7 rfl rfl rfl (Uh (l:=[_,_]) rfl rfl rfl fR rfl cN ?_)))))
    intro pZ jG cM;clear cN
    refine ak 7 8 rfl rfl rfl (Uh (l:=[_,_,_,_,_,_,_,_]) rfl rfl rfl sK rfl cM ?_)
    intro pY nW dz;clear cM
    refine ak 8 9 rfl rfl rfl (U6 (i:=1) (us:=[_,_]) (l':=[_,_]) (H':=[_,_,_,_,_]) rfl rfl dz rfl rfl rfl rfl aA rfl rfl rfl rfl ?_)
    intro ni dE;clear dz
    refine ak 9 10 rfl rfl rfl (U6 (i:=0) (us:=[_,_,_,_,_,_,_,_]) (l':=[_,_,_,_,_,_,_,_]) (H':=[_,_,_,_,_]) rfl rfl dE rfl rfl rfl rfl fH rfl rfl rfl rfl ?_)
    intro kU cI;clear dE
    refine ag 10 1 rfl rfl (U5 rfl (ah [2,7,8,9,10,11] rfl (U3 (U2 afi DW rfl rfl rfl (U0 rfl (ag 0 1 rfl rfl (U5 rfl (ah [2,7,8,9,10,33] rfl ?_))))))))
    refine U3 (fN Kq rfl rfl rfl (U2 aqs aqr rfl rfl rfl ?_))
    have cH:=cI.pick [2,3,0,1,4] [_,_,_,_,_] (by decide) ⟨rfl,rfl,rfl,rfl,rfl,trivial⟩;clear cI
    refine jM [_,_] [_,_,_] rfl (by kernel_rfl) cH 7 rfl ?_
    clear cH
    change WA _ _ _ _ _ _ _ _ _ _ _ _ [_,_,_,_,_]
    refine aj 0 6 rfl (by kernel_rfl) (fun _ _ _ hz Sz=>.inl (U8 (us:=[_,_]) rfl rfl ay rfl aA (Sz.suf.aw (i:=1) rfl ⟨rfl,rfl,trivial⟩))) ?_
    refine ai 1 5 rfl (by kernel_rfl) (fun _=>run_move rfl rfl) ?_
    refine aj 2 4 rfl (by kernel_rfl) (fun _ _ _ hz Sz=>.inl (U8 (us:=[_,_,_,_,_,_,_,_]) rfl rfl aT rfl fH (Sz.suf.aw (i:=0) rfl ⟨rfl,rfl,rfl,rfl,rfl,rfl,rfl,rfl,trivial⟩))) ?_
    refine Un (i:=3) 3 rfl (by kernel_rfl) rfl rfl (fun vA lq=>?_)
    refine(ij (C:=nT) (l:=[_,_,_,_,_,_,_,_]) rfl rfl rfl rfl xk rfl rfl rfl rfl lq ?_)
    intro vQ q8 fX;clear lq
    refine aP.grow [_,_,_] (Hp.le_refl _) fX ?_;clear fX
    change WA _ _ _ _ _ _ _ _ _ _ _ _ [_,_,_,_,_,_]
    refine Un (i:=4) 2 rfl (by kernel_rfl) rfl rfl (fun vz gL=>?_)
    refine(ji (C:=nT) (i:=1) (q:=0) (⟨iQ.kd,iQ.at_,iQ.aJ,iQ.ua,iQ.ub,iQ.va,iQ.vb,iQ.ov⟩:Mv) rfl rfl rfl rfl rfl rfl rfl rfl xk gL rfl rfl rfl (by show(_+1)*64<=_;first|omega|(simp only[ls];omega)) ?_)
    intro adY vw dX;clear gL
    have fQ:=dX.pick [1,2,3,4,5] [_,_,_,_,_] (by decide) ⟨rfl,rfl,rfl,rfl,rfl,trivial⟩;clear dX
    refine aP.grow [_,_] (Hp.le_refl _) fQ ?_;clear fQ
    change WA _ _ _ _ _ _ _ _ _ _ _ _ [_,_,_,_,_]
    refine Un (i:=5) 1 rfl (by kernel_rfl) rfl rfl (fun ng kJ=>?_)
    refine(U6 (i:=1) (us:=[_,_]) (l':=[_,_]) (H':=[_,_,_,_,_]) rfl rfl kJ rfl rfl rfl rfl aA rfl rfl rfl rfl ?_)
    intro q7 mS;clear kJ
    refine aP.grow [_,_] (Hp.le_refl _) mS ?_;clear mS
    change WA _ _ _ _ _ _ _ _ _ _ _ _ [_,_,_,_,_]
    refine ai 6 0 rfl (by kernel_rfl) (fun _=>run_assign rfl rfl) ?_
    refine Uu (by kernel_rfl) (fun vq dV=>?_)
    refine ah [2,7,8] rfl (U3 (ajy rfl rfl ?_))
    intro au aq
    refine⟨_,?dQ,⟨(dx D iQ).1,_,_,ms++[iQ],_,_,(dh.trans cE),rfl,aq.sub ⟨rfl,rfl,rfl,trivial⟩,dV.pick [0,1,4] [_,_,_] (by decide) ⟨rfl,rfl,rfl,trivial⟩,?cx,?dC,?lC,?uB⟩⟩
    case cx=>exact(tL oN hlen oM ht1).1
    case dC=>exact(tL oN hlen oM ht1).2.1
    case lC=>exact(tL oN hlen oM ht1).2.2
    case uB=>exact hr2
    case dQ=>(have RA:=(tL oN hlen oM (by assumption)).2.1;rw[List.length_append,List.length_singleton]at RA ⊢;omega)
end Go.Proofs.YthppkofceancjaaGreat
namespace Go.Proofs.YthppkofceancjaaGreat
open Go.ChangeShapes Go.WideShapes Go.ChangeAt Go.RowKit
theorem acA{d:Dg}{c:Nat}(h:jx (ga d.ae c) 4=false):iP d c=false:=by unfold iP;rw[h];rfl
theorem acz{d:Dg}{c:Nat}(h:¬(bB d (bh [c])).loops<=16):iP d c=false:=by unfold iP;rw[decide_eq_false h,Bool.and_false]
theorem alR{d:Dg}{c:Nat}(h:jx (ga d.ae c) 4=true)(h2:(bB d (bh [c])).loops<=16):iP d c=true:=by unfold iP;rw[h,decide_eq_true h2];rfl
theorem acI{d:Dg}{i j:Nat}(h:(U7 d).any (gw d i j)=false):ja d i j=false:=by unfold ja;rw[h];rfl
theorem acH{d:Dg}{i j:Nat}(h:¬(bB d (bh [i,j])).loops<=16):ja d i j=false:=by unfold ja;rw[decide_eq_false h,Bool.and_false]
theorem amb{d:Dg}{i j:Nat}(h:(U7 d).any (gw d i j)=true)(h2:(bB d (bh [i,j])).loops<=16):ja d i j=true:=by unfold ja;rw[h,decide_eq_true h2];rfl
noncomputable def Ko:=Tryz.f41.body.getD .skip
def aqq:=cL Ko
def Kn:=cR Ko
def Km:=cL Kn
def Kl:=cR Kn
def aqp:=cL Km
def afh:=cR Km
def afg:=cL afh
def Kk:=cL afg
def Kj:=cL Kk
def Ki:=cR Kk
def aqo:=cL Kj
def Kh:=cR Kj
def aqn:=cL Kh
def aqm:=cR Kh
def aff:=cL Ki
def aql:=cR Ki
def Kg:=cL aff
def aqk:=cL Kg
def Kf:=cR Kg
def Ke:=cL Kf
def afe:=cR Kf
def aqj:=cL Ke
def aqi:=cR Ke
def Kc:=cL Kl
def Kb:=cR Kl
def aqh:=cL Kc
def afd:=cR Kc
def afc:=cL afd
def Ka:=cL afc
def J9:=cL Ka
def J8:=cR Ka
def aqg:=cL J9
def J7:=cR J9
def aqf:=cL J7
def aqe:=cR J7
def afb:=cL J8
def aqd:=cR J8
def J6:=cL afb
def aqc:=cL J6
def afa:=cR J6
def ae9:=cL afa
def J5:=cL ae9
def J4:=cL J5
def J3:=cR J5
def aqb:=cL J4
def J2:=cR J4
def aqa:=cL J2
def ap9:=cR J2
def ae8:=cL J3
def ap8:=cR J3
def J1:=cL ae8
def ap7:=cL J1
def J0:=cR J1
def JZ:=cL J0
def ae7:=cR J0
def ap6:=cL JZ
def ap5:=cR JZ
def ap4:=cL Kb
def ap3:=cR Kb
set_option maxHeartbeats 2000000 in
set_option maxRecDepth 10000 in
theorem aky{w:World}{M:Hp}{X:Fr}(d:Dg){aV:Option Addr}{aU:Nat}(az:aG aF (M.un X.h) aV aU d.ae)(hn:d.ae.length<=16)(hab:aN d=true)(hlo:0<=d.loops/\d.loops<=16)(S:SH w M X []):Ct Tryz.prog 41 [.agg [.slice aV d.ae.length aU,.int .i64 d.loops].toArray] w M X (fun u _=>awi d u):=by
 unfold Ct
 have gV:d.ae.length*40<=140737488355328:=az.room
 refine Up (b:=Ko) Tryz.func41 rfl Tryz.ntmps41 rfl (fun C hC=>(bq [(0,_)] ⟨rfl,trivial⟩ (U2 aqq Kn rfl rfl rfl (U0 rfl (ak 0 1 rfl rfl rfl (bE (l:=[_,_]) rfl rfl rfl rfl rfl S ?_))))))
 intro aI w1 S1;clear S
 refine ak 1 2 rfl rfl rfl (Uh (l:=[_,_,_,_,_,_,_,_]) rfl rfl rfl sK rfl S1 ?_)
 intro aQ w2 S2;clear S1
 refine ag 2 1 rfl rfl (U5 rfl (ah [1,2] rfl (U3 (U2 Km Kl rfl rfl rfl (U2 aqp afh rfl rfl rfl (U0 rfl (ag 0 1 rfl rfl (U5 rfl ?_))))))))
 refine U3 (Uc afg 0 rfl rfl rfl ?_)
 refine Ux (fun aS au aM=>∃(i:Nat) (M1:Hp),M.le M1/\aS=d.ae.length-i/\Env 60 [(1,.pointer (some ⟨aI,0,none⟩)),(2,.pointer (some ⟨aQ,0,none⟩)),(4,.int .i64 (i:Int))] au/\SH aM M1 X [Rs.box aQ 28 [.int .i64 0,.int .i64 0,.int .i64 0,.int .i64 0,.bool false,.int .i64 0,.bool false,.bool false],Rs.box aI 24 [.slice aV d.ae.length aU,.int .i64 d.loops]]/\i<=d.ae.length/\(∀x,x<i->iP d x=false)) rfl ?_ ?_
 ·intro au aq
  refine⟨_,⟨0,_,Hp.le_refl _,rfl,aq.sub ⟨rfl,rfl,rfl,trivial⟩,S2.pick [0,1] [_,_] (by decide) ⟨rfl,rfl,trivial⟩,?cd,?dm⟩⟩
  case cd=>omega
  case dm=>(intro x hx;omega)
 ·rintro m1 a1 w3 ⟨i,M1,aL,rfl,aY,S3,hi,hu⟩
  clear S2
  refine bX aY (c:=Kk) rfl ?_
  clear aY a1
  replace az:=az.mono (Hp.Ua aL S3.mx)
  refine U2 Kj Ki rfl rfl rfl (U2 aqo Kh rfl rfl rfl (U0 rfl (ag 0 1 rfl rfl (af 1 rfl (U1 rfl rfl ay rfl (bK) (bJ)) (af 2 rfl (U4 rfl rfl bt rfl (S3.ar (i:=1) rfl rfl)) (af 3 rfl (cU rfl rfl rfl rfl rfl rfl bt) (af 4 rfl (bS rfl rfl rfl) (U5 rfl ?_))))))))
  refine ah [1,2,4,11] rfl (U3 ?_)
  refine Uf aqn aqm rfl rfl rfl rfl (fun ao5=>?_) (fun ao5=>?_)
  ·refine Ue rfl (ah [1,2,4] rfl (U3 (U2 aff aql rfl rfl rfl (Uc Kg 1 rfl rfl rfl (U2 aqk Kf rfl rfl rfl (U0 rfl (af 0 rfl (U8 (us:=[_,_]) rfl rfl ay rfl aA (S3.aw (i:=1) rfl ⟨rfl,rfl,trivial⟩)) (ag 1 1 rfl rfl ?_))))))))
   refine ak 2 3 rfl rfl rfl (cS rfl rfl rfl rfl rfl rfl rfl aeQ S3 (abz d i (az.mono S3.Uy) (by omega) S3.aD) ?_)
   rintro _ w4 S4 rfl;clear S3
   refine ag 3 1 rfl rfl ?_
   refine mR (t:=17) rfl (fun xq=>?_) (fun xq=>?_)
   ·refine aH 4 5 rfl rfl rfl rfl rfl rfl rfl rfl (Ub rfl rfl (U8 (us:=[_,_]) rfl rfl ay rfl aA (S4.aw (i:=1) rfl ⟨rfl,rfl,trivial⟩)) (ag 5 1 rfl rfl (aH 6 7 rfl rfl rfl rfl rfl rfl rfl rfl (ij (C:=Uv) (l:=[_]) rfl rfl rfl rfl bA rfl rfl rfl rfl S4 ?_))))
    intro bz w5 S5;clear S4
    have hr1:=S5.Cz (C:=Uv) (z:=(i:Int)) (i:=0) rfl rfl (by decide)
    have iE:=BH d ([(i:Int)]) (az.mono S5.Uy) hr1 (gs:=[i]) rfl (by intro x hx;simp at hx;omega) hn hab (by omega) S5.aD
    refine aH 7 8 rfl rfl rfl rfl rfl rfl rfl rfl (eZ rfl rfl rfl rfl rfl rfl rfl DN S5 (iE) ?_)
    intro Rm w6 M2 hle2 S6 uY;clear S5
    replace az:=az.mono (Hp.Ua hle2 S6.mx)
    obtain⟨A1,c1,rfl,hr2⟩:=uY
    refine aH 8 9 rfl rfl rfl rfl rfl rfl rfl rfl (Ub rfl rfl (ma rfl rfl ay rfl av rfl rfl) (aH 9 10 rfl rfl rfl rfl rfl rfl rfl rfl (Ub rfl rfl (od rfl rfl rfl) (ag 10 1 rfl rfl (U5 rfl (ah [1,2,4,24] rfl (U3 ?_)))))))
    refine Uf Ke afe rfl rfl rfl rfl (fun mC=>?_) (fun mC=>?_)
    ·refine U2 aqj aqi rfl rfl rfl (U0 rfl (ag 0 1 rfl rfl (af 1 rfl (run_build (l:=[_,_,_,_,_,_,_,_]) rfl rfl xj rfl rfl) (ak 2 3 rfl rfl rfl (U6 (i:=1) (us:=[_,_,_,_,_,_,_,_]) (l':=[_,_,_,_,_,_,_,_]) (H':=[_,_,_]) rfl rfl S6 rfl rfl rfl rfl fH rfl rfl rfl rfl ?_)))))
     intro w7 S7;clear S6
     refine ag 3 1 rfl rfl (U5 rfl (ah [2,3] rfl (U3 (Uk hC [_,_] rfl rfl ⟨⟨_,rfl,Um (us:=[_,_,_,_,_,_,_,_]) aT rfl fH (S7.aw (i:=1) rfl ⟨rfl,rfl,rfl,rfl,rfl,rfl,rfl,rfl,trivial⟩)⟩,rfl,trivial⟩ ?_))))
     refine⟨_,rfl,_,aL.trans hle2,(S7.pick [] [] (by decide) trivial),?_⟩
     have hT:=ac7 (d:=d) (c:=i) ⟨by omega,alR (by simpa using xq) (by simpa using mC),hu⟩
     exact .inr ⟨_,hT,rfl⟩
    ·refine Ue rfl (bj (ah [1,2,4] rfl (U3 (U0 rfl (ag 0 1 rfl rfl (af 1 rfl (Ug rfl rfl rfl (by first|omega|(simp only[ls];omega))) ?_))))))
     refine ag 2 1 rfl rfl (U5 rfl (aO ?_))
     intro au aq
     refine⟨_,?dQ,⟨i+1,_,(aL.trans hle2),rfl,aq.sub ⟨rfl,rfl,rfl,trivial⟩,S6.pick [1,2] [_,_] (by decide) ⟨rfl,rfl,trivial⟩,?cx,?dC⟩⟩
     case cx=>omega
     case dC=>(intro x hx;by_cases e9:x<i;exact hu x e9;(obtain rfl:x=i:=(by omega));first|exact acA (by simpa using xq)|exact acz (by simpa using mC))
     case dQ=>omega
   ·refine ag 4 6 rfl rfl (ag 10 1 rfl rfl (U5 rfl (ah [1,2,4,24] rfl (U3 (jz afe rfl rfl rfl (Ue rfl (bj (ah [1,2,4] rfl ?_))))))))
    refine U3 (U0 rfl (ag 0 1 rfl rfl (af 1 rfl (Ug rfl rfl rfl (by first|omega|(simp only[ls];omega))) ?_)))
    refine ag 2 1 rfl rfl (U5 rfl (aO ?_))
    intro au aq
    refine⟨_,?lM,⟨i+1,_,(aL),rfl,aq.sub ⟨rfl,rfl,rfl,trivial⟩,S4.pick [0,1] [_,_] (by decide) ⟨rfl,rfl,trivial⟩,?eB,?gu⟩⟩
    case eB=>omega
    case gu=>(intro x hx;by_cases e9:x<i;exact hu x e9;(obtain rfl:x=i:=(by omega));first|exact acA (by simpa using xq)|exact acz (by simpa using mC))
    case lM=>omega
  ·refine bP rfl rfl (ah [1,2] rfl (U3 (U2 Kc Kb rfl rfl rfl (U2 aqh afd rfl rfl rfl ?_))))
   obtain rfl:i=d.ae.length:=by omega
   have hU:∀x,x<d.ae.length->iP d x=false:=hu
   refine U0 rfl (ag 0 1 rfl rfl (U5 rfl (U3 (Uc afc 2 rfl rfl rfl ?_))))
   refine Ux (fun aS au aM=>∃(i1:Nat) (M3:Hp),M1.le M3/\aS=d.ae.length-i1/\Env 60 [(1,.pointer (some ⟨aI,0,none⟩)),(2,.pointer (some ⟨aQ,0,none⟩)),(5,.int .i64 (i1:Int))] au/\SH aM M3 X [Rs.box aQ 28 [.int .i64 0,.int .i64 0,.int .i64 0,.int .i64 0,.bool false,.int .i64 0,.bool false,.bool false],Rs.box aI 24 [.slice aV d.ae.length aU,.int .i64 d.loops]]/\i1<=d.ae.length/\(∀a b,a<i1->a<b->b<d.ae.length->ja d a b=false)) rfl ?_ ?_
   ·intro au aq
    refine⟨_,⟨0,_,Hp.le_refl _,rfl,aq.sub ⟨rfl,rfl,rfl,trivial⟩,S3.pick [0,1] [_,_] (by decide) ⟨rfl,rfl,trivial⟩,?eW,?gq⟩⟩
    case eW=>omega
    case gq=>(intro a b h9;omega)
   ·rintro m2 a2 w8 ⟨i1,M3,dh,rfl,cB,S8,hi1,hp⟩
    clear S3
    refine bX cB (c:=Ka) rfl ?_
    clear cB a2
    replace az:=az.mono (Hp.Ua dh S8.mx)
    refine U2 J9 J8 rfl rfl rfl (U2 aqg J7 rfl rfl rfl (U0 rfl (ag 0 1 rfl rfl (af 1 rfl (U1 rfl rfl ay rfl (bK) (bJ)) (af 2 rfl (U4 rfl rfl bt rfl (S8.ar (i:=1) rfl rfl)) (af 3 rfl (cU rfl rfl rfl rfl rfl rfl bt) (af 4 rfl (bS rfl rfl rfl) (U5 rfl ?_))))))))
    refine ah [1,2,5,31] rfl (U3 ?_)
    refine Uf aqf aqe rfl rfl rfl rfl (fun ao3=>?_) (fun ao3=>?_)
    ·refine Ue rfl (ah [1,2,5] rfl (U3 (U2 afb aqd rfl rfl rfl (Uc J6 3 rfl rfl rfl (U2 aqc afa rfl rfl rfl (U0 rfl (ag 0 1 rfl rfl (af 1 rfl (Ug rfl rfl rfl (by first|omega|(simp only[ls];omega))) ?_))))))))
     refine cy 35 (.int .i64 ((i1+1:Nat):Int)) rfl (int_eq (by omega)) ?_
     refine ag 2 1 rfl rfl (U5 rfl (ah [1,2,5,6] rfl (U3 (Uc ae9 4 rfl rfl rfl ?_))))
     refine Ux (fun aS au aM=>∃(j:Nat) (M4:Hp),M3.le M4/\aS=d.ae.length-j/\Env 60 [(1,.pointer (some ⟨aI,0,none⟩)),(2,.pointer (some ⟨aQ,0,none⟩)),(5,.int .i64 (i1:Int)),(6,.int .i64 (j:Int))] au/\SH aM M4 X [Rs.box aQ 28 [.int .i64 0,.int .i64 0,.int .i64 0,.int .i64 0,.bool false,.int .i64 0,.bool false,.bool false],Rs.box aI 24 [.slice aV d.ae.length aU,.int .i64 d.loops]]/\i1<j/\j<=d.ae.length/\(∀b,i1<b->b<j->ja d i1 b=false)) rfl ?_ ?_
     ·intro au aq
      refine⟨_,⟨i1+1,_,Hp.le_refl _,rfl,aq.sub ⟨rfl,rfl,rfl,rfl,trivial⟩,S8.pick [0,1] [_,_] (by decide) ⟨rfl,rfl,trivial⟩,?fC,?gp,?mV⟩⟩
      case fC=>omega
      case gp=>omega
      case mV=>(intro b h9 h8;omega)
     ·rintro m3 a3 w9 ⟨j,M4,cE,rfl,fu,S9,Fm,hj,hq⟩
      clear S8
      refine bX fu (c:=J5) rfl ?_
      clear fu a3
      replace az:=az.mono (Hp.Ua cE S9.mx)
      refine U2 J4 J3 rfl rfl rfl (U2 aqb J2 rfl rfl rfl (U0 rfl (ag 0 1 rfl rfl (af 1 rfl (U1 rfl rfl ay rfl (bK) (bJ)) (af 2 rfl (U4 rfl rfl bt rfl (S9.ar (i:=1) rfl rfl)) (af 3 rfl (cU rfl rfl rfl rfl rfl rfl bt) (af 4 rfl (bS rfl rfl rfl) (U5 rfl ?_))))))))
      refine ah [1,2,5,6,40] rfl (U3 ?_)
      refine Uf aqa ap9 rfl rfl rfl rfl (fun jF=>?_) (fun jF=>?_)
      ·refine Ue rfl (ah [1,2,5,6] rfl (U3 (U2 ae8 ap8 rfl rfl rfl (Uc J1 5 rfl rfl rfl (U2 ap7 J0 rfl rfl rfl (U0 rfl (af 0 rfl (U8 (us:=[_,_]) rfl rfl ay rfl aA (S9.aw (i:=1) rfl ⟨rfl,rfl,trivial⟩)) (ag 1 2 rfl rfl ?_))))))))
       refine ak 3 4 rfl rfl rfl (eZ rfl rfl rfl rfl rfl rfl rfl aeO S9 (aau d (i1:Int) (j:Int) (az.mono S9.Uy) hn hab S9.aD) ?_)
       intro an0 jT M5 fL bw am5;clear S9
       replace az:=az.mono (Hp.Ua fL bw.mx)
       obtain rfl:=am5
       refine ag 4 1 rfl rfl ?_
       refine mR (t:=47) rfl (fun pP=>?_) (fun pP=>?_)
       ·refine aH 5 6 rfl rfl rfl rfl rfl rfl rfl rfl (Ub rfl rfl (U8 (us:=[_,_]) rfl rfl ay rfl aA (bw.aw (i:=1) rfl ⟨rfl,rfl,trivial⟩)) (ag 6 2 rfl rfl (aH 8 9 rfl rfl rfl rfl rfl rfl rfl rfl (wh (C:=Uv) (l:=[_,_]) (pl:=[(0,1),(1,1)]) rfl rfl rfl rfl bA rfl rfl rfl rfl rfl bw ?_))))
        intro gZ lU bV;clear bw
        have hr3:=bV.Cf (C:=Uv) (zs:=[(i1:Int),(j:Int)]) (i:=0) rfl rfl (by show 2*_<=_;decide)
        have lv:=BH d ([(i1:Int),(j:Int)]) (az.mono bV.Uy) hr3 (gs:=[i1,j]) rfl (by intro x hx;simp at hx;omega) hn hab (by omega) bV.aD
        refine aH 9 10 rfl rfl rfl rfl rfl rfl rfl rfl (eZ rfl rfl rfl rfl rfl rfl rfl DN bV (lv) ?_)
        intro anZ kz M6 uO bZ am3;clear bV
        replace az:=az.mono (Hp.Ua uO bZ.mx)
        obtain⟨A2,c2,rfl,hr4⟩:=am3
        refine aH 10 11 rfl rfl rfl rfl rfl rfl rfl rfl (Ub rfl rfl (ma rfl rfl ay rfl av rfl rfl) (aH 11 12 rfl rfl rfl rfl rfl rfl rfl rfl (Ub rfl rfl (od rfl rfl rfl) (ag 12 1 rfl rfl (U5 rfl (ah [1,2,5,6,55] rfl (U3 ?_)))))))
        refine Uf JZ ae7 rfl rfl rfl rfl (fun xu=>?_) (fun xu=>?_)
        ·refine U2 ap6 ap5 rfl rfl rfl (U0 rfl (ag 0 2 rfl rfl (af 2 rfl (run_build (l:=[_,_,_,_,_,_,_,_]) rfl rfl xj rfl rfl) (ak 3 4 rfl rfl rfl (U6 (i:=1) (us:=[_,_,_,_,_,_,_,_]) (l':=[_,_,_,_,_,_,_,_]) (H':=[_,_,_]) rfl rfl bZ rfl rfl rfl rfl fH rfl rfl rfl rfl ?_)))))
         intro jG bI;clear bZ
         refine ag 4 1 rfl rfl (U5 rfl (ah [2,3] rfl (U3 (Uk hC [_,_] rfl rfl ⟨⟨_,rfl,Um (us:=[_,_,_,_,_,_,_,_]) aT rfl fH (bI.aw (i:=1) rfl ⟨rfl,rfl,rfl,rfl,rfl,rfl,rfl,rfl,trivial⟩)⟩,rfl,trivial⟩ ?_))))
         refine⟨_,rfl,_,(((aL.trans dh).trans cE).trans fL).trans uO,(bI.pick [] [] (by decide) trivial),?_⟩
         have hT:=ac8 (d:=d) (i:=i1) (j:=j) ⟨hU,Fm,by omega,amb (by simpa using pP) (by simpa using xu),hp,hq⟩
         exact .inr ⟨_,hT,rfl⟩
        ·refine Ue rfl (bj (ah [1,2,5,6] rfl (U3 (U0 rfl (ag 0 1 rfl rfl (af 1 rfl (Ug rfl rfl rfl (by first|omega|(simp only[ls];omega))) ?_))))))
         refine ag 2 1 rfl rfl (U5 rfl (aO ?_))
         intro au aq
         refine⟨_,?ku,⟨j+1,_,((cE.trans fL).trans uO),rfl,aq.sub ⟨rfl,rfl,rfl,rfl,trivial⟩,bZ.pick [1,2] [_,_] (by decide) ⟨rfl,rfl,trivial⟩,?gW,?iY,?uA⟩⟩
         case gW=>omega
         case iY=>omega
         case uA=>(intro b h9 h8;by_cases e9:b<j;exact hq b h9 e9;(obtain rfl:b=j:=(by omega));first|exact acI (by simpa using pP)|exact acH (by simpa using xu))
         case ku=>omega
       ·refine ag 5 6 rfl rfl (ag 11 2 rfl rfl (U5 rfl (ah [1,2,5,6,55] rfl (U3 (jz ae7 rfl rfl rfl (Ue rfl (bj (ah [1,2,5,6] rfl ?_))))))))
        refine U3 (U0 rfl (ag 0 1 rfl rfl (af 1 rfl (Ug rfl rfl rfl (by first|omega|(simp only[ls];omega))) ?_)))
        refine ag 2 1 rfl rfl (U5 rfl (aO ?_))
        intro au aq
        refine⟨_,?lL,⟨j+1,_,(cE.trans fL),rfl,aq.sub ⟨rfl,rfl,rfl,rfl,trivial⟩,bw.pick [0,1] [_,_] (by decide) ⟨rfl,rfl,trivial⟩,?iX,?ki,?Ie⟩⟩
        case iX=>omega
        case ki=>omega
        case Ie=>(intro b h9 h8;by_cases e9:b<j;exact hq b h9 e9;(obtain rfl:b=j:=(by omega));first|exact acI (by simpa using pP)|exact acH (by simpa using xu))
        case lL=>omega
      ·refine bP rfl rfl (bj (ah [1,2,5] rfl (U3 (U0 rfl (ag 0 1 rfl rfl (af 1 rfl (Ug rfl rfl rfl (by first|omega|(simp only[ls];omega))) ?_))))))
       refine ag 2 1 rfl rfl (U5 rfl (aO ?_))
       intro au aq
       refine⟨_,?lK,⟨i1+1,_,(dh.trans cE),rfl,aq.sub ⟨rfl,rfl,rfl,trivial⟩,S9.pick [0,1] [_,_] (by decide) ⟨rfl,rfl,trivial⟩,?jC,?lB⟩⟩
       case jC=>omega
       case lB=>(intro a b h9 h8 h7;by_cases e9:a<i1;exact hp a b e9 h8 h7;(obtain rfl:a=i1:=(by omega));exact hq b h8 (by omega))
       case lK=>omega
    ·refine bP rfl rfl (ah [2] rfl (U3 (U2 ap4 ap3 rfl rfl rfl ?_)))
     obtain rfl:i1=d.ae.length:=by omega
     refine U0 rfl (af 0 rfl (run_build (l:=[_,_,_,_,_,_,_,_]) rfl rfl xj rfl rfl) (ak 1 2 rfl rfl rfl (U6 (i:=0) (us:=[_,_,_,_,_,_,_,_]) (l':=[_,_,_,_,_,_,_,_]) (H':=[_,_]) rfl rfl S8 rfl rfl rfl rfl fH rfl rfl rfl rfl ?_)))
     intro nW bO;clear S8
     refine ag 2 1 rfl rfl (U5 rfl (ah [2,3] rfl (U3 (Uk hC [_,_] rfl rfl ⟨⟨_,rfl,Um (us:=[_,_,_,_,_,_,_,_]) aT rfl fH (bO.aw (i:=0) rfl ⟨rfl,rfl,rfl,rfl,rfl,rfl,rfl,rfl,trivial⟩)⟩,rfl,trivial⟩ ?_))))
     refine⟨_,rfl,_,aL.trans dh,(bO.pick [] [] (by decide) trivial),?_⟩
     exact .inl ⟨ac9 hU (fun a b h9 h8=>hp a b (by omega) h9 h8),rfl⟩
end Go.Proofs.YthppkofceancjaaGreat
namespace Go.Proofs.YthppkofceancjaaGreat
open Go.ChangeShapes Go.WideShapes Go.ChangeAt Go.RowKit
noncomputable def JY:=Tryz.f15.body.getD .skip
def ap2:=cL JY
def JX:=cR JY
def JW:=cL JX
def JV:=cR JX
def ap1:=cL JW
def JU:=cR JW
def DV:=cL JU
def ap0:=cR JU
def ae6:=cL DV
def ae5:=cR DV
def apZ:=cL JV
def ae4:=cR JV
def ae3:=cL ae4
def ae2:=cL ae3
def JT:=cL ae2
def apY:=cL JT
def JS:=cR JT
def DU:=cL JS
def DT:=cR JS
def ae1:=cL DU
def DS:=cR DU
def JR:=cL DS
def apX:=cR DS
def apW:=cL JR
def apV:=cR JR
def apU:=cL DT
def apT:=cR DT
set_option maxHeartbeats 2000000 in
set_option maxRecDepth 10000 in
theorem ahO{w:World}{M:Hp}{X:Fr}(d:Dg){aV:Option Addr}{aU:Nat}(az:aG aF M aV aU d.ae)(S:SH w M X []):Ct Tryz.prog 15 [.agg [.slice aV d.ae.length aU,.int .i64 d.loops].toArray] w M X (QW (jS d)):=by
 unfold Ct
 have gV:d.ae.length*40<=140737488355328:=az.room
 refine Up (b:=JY) Tryz.func15 rfl Tryz.ntmps15 rfl (fun C hC=>(bq [(0,_)] ⟨rfl,trivial⟩ (U2 ap2 JX rfl rfl rfl (U0 rfl (ak 0 1 rfl rfl rfl (bE (l:=[_,_]) rfl rfl rfl rfl rfl S ?_))))))
 intro aI w1 S1;clear S
 refine ak 1 2 rfl rfl rfl (Uh (l:=[_,_]) rfl rfl rfl fR rfl S1 ?_)
 intro aQ w2 S2;clear S1
 refine ag 2 2 rfl rfl (U5 rfl (ah [1,2] rfl (U3 (U2 JW JV rfl rfl rfl (U2 ap1 JU rfl rfl rfl (U0 rfl (af 0 rfl (U8 (us:=[_,_]) rfl rfl ay rfl aA (S2.aw (i:=1) rfl ⟨rfl,rfl,trivial⟩)) (ak 1 2 rfl rfl rfl (cS rfl rfl rfl rfl rfl rfl rfl aeS S2 (aag d (az.mono (Hp.bY _ _)) S2.aD) ?_)))))))))
 rintro _ w3 S3 rfl;clear S2
 refine af 2 rfl (dS rfl rfl) (ag 3 1 rfl rfl ?_)
 refine mR (t:=11) rfl (fun qE=>?_) (fun qE=>?_)
 ·simp only[Bool.and_eq_true,Bool.or_eq_true,Bool.and_eq_false_iff,Bool.or_eq_false_iff,decide_eq_true_eq,decide_eq_false_iff_not,Bool.not_eq_true',Bool.not_eq_false']at qE
  refine ag 4 4 rfl rfl (U5 rfl (ah [1,2,15] rfl (U3 (fN DV rfl rfl rfl (U2 ae6 ae5 rfl rfl rfl (U0 rfl (af 0 rfl (run_build (l:=[_,_]) rfl rfl dI rfl rfl) (ak 1 2 rfl rfl rfl (U6 (i:=0) (us:=[_,_]) (l':=[_,_]) (H':=[_,_]) rfl rfl S3 rfl rfl rfl rfl aA rfl rfl rfl rfl ?_)))))))))
  intro w4 S4;clear S3
  refine ag 2 2 rfl rfl (U5 rfl (ah [2,3,4] rfl (U3 (Uk hC [_,_,_] rfl rfl ⟨⟨_,rfl,Um (us:=[_,_]) ay rfl aA (S4.aw (i:=0) rfl ⟨rfl,rfl,trivial⟩)⟩,rfl,rfl,trivial⟩ ?_))))
  refine⟨_,rfl,_,Hp.le_refl _,(S4.pick [] [] (by decide) trivial),?_⟩
  rw[show jS d=(⟨[],0⟩,[],7)from by unfold jS;rw[if_pos (by first|exact Cx qE sS|(unfold dv;rw[qE];rfl))]]
  exact GR 7
 ·simp only[Bool.and_eq_true,Bool.or_eq_true,Bool.and_eq_false_iff,Bool.or_eq_false_iff,decide_eq_true_eq,decide_eq_false_iff_not,Bool.not_eq_true',Bool.not_eq_false']at qE
  obtain⟨hn,hab,I4,aeg⟩:=uM qE
  refine aH 4 5 rfl rfl rfl rfl rfl rfl rfl rfl (Ub rfl rfl (U8 (us:=[_,_]) rfl rfl ay rfl aA (S3.aw (i:=1) rfl ⟨rfl,rfl,trivial⟩)) (aH 5 6 rfl rfl rfl rfl rfl rfl rfl rfl (eZ rfl rfl rfl rfl rfl rfl rfl aeR S3 (aaC d (az.mono (Hp.bY _ _)) (hn) (hab) S3.aD) ?_)))
  intro Rn w5 M1 aL S5 zY;clear S3
  replace az:=az.mono aL
  obtain rfl:=zY
  refine aH 6 7 rfl rfl rfl rfl rfl rfl rfl rfl (Ub rfl rfl (dS rfl rfl) (ag 7 1 rfl rfl (U5 rfl (ah [1,2,15] rfl (U3 ?_)))))
  refine dN DV ap0 rfl rfl rfl rfl (fun sS=>?_) (fun sS=>?_)
  ·simp only[Bool.and_eq_true,Bool.or_eq_true,Bool.and_eq_false_iff,Bool.or_eq_false_iff,decide_eq_true_eq,decide_eq_false_iff_not,Bool.not_eq_true',Bool.not_eq_false']at sS
   refine U2 ae6 ae5 rfl rfl rfl (U0 rfl (af 0 rfl (run_build (l:=[_,_]) rfl rfl dI rfl rfl) (ak 1 2 rfl rfl rfl (U6 (i:=0) (us:=[_,_]) (l':=[_,_]) (H':=[_,_]) rfl rfl S5 rfl rfl rfl rfl aA rfl rfl rfl rfl ?_))))
   intro w6 S6;clear S5
   refine ag 2 2 rfl rfl (U5 rfl (ah [2,3,4] rfl (U3 (Uk hC [_,_,_] rfl rfl ⟨⟨_,rfl,Um (us:=[_,_]) ay rfl aA (S6.aw (i:=0) rfl ⟨rfl,rfl,trivial⟩)⟩,rfl,rfl,trivial⟩ ?_))))
   refine⟨_,rfl,_,aL,(S6.pick [] [] (by decide) trivial),?_⟩
   rw[show jS d=(⟨[],0⟩,[],7)from by unfold jS;rw[if_pos (by first|exact Cx qE sS|(unfold dv;rw[qE];rfl))]]
   exact GR 7
  ·simp only[Bool.and_eq_true,Bool.or_eq_true,Bool.and_eq_false_iff,Bool.or_eq_false_iff,decide_eq_true_eq,decide_eq_false_iff_not,Bool.not_eq_true',Bool.not_eq_false']at sS
   have hop:dv d=true:=acN qE (by simpa using sS)
   refine Ue rfl (ah [1,2] rfl (U3 (U2 apZ ae4 rfl rfl rfl (U0 rfl (ag 0 1 rfl rfl (U5 rfl (U3 (Uc ae3 0 rfl rfl rfl ?_))))))))
   have S7:=S5.nH nT;clear S5
   refine Ux (fun aS au aM=>∃(D:Dg) (nA:Option Addr) (nc:Nat) (ms:List Mv) (o7:Value) (M2:Hp),M1.le M2/\aS=d.ae.length-ms.length/\Env 36 [(1,.pointer (some ⟨aI,0,none⟩)),(2,.pointer (some ⟨aQ,0,none⟩)),(5,o7)] au/\SH aM M2 X [Rs.row nT o7 ms,Rs.box aQ 24 [.slice none 0 0,.int .i64 0],Rs.box aI 24 [.slice nA D.ae.length nc,.int .i64 D.loops]]/\dv D=true/\D.ae.length+ms.length<=d.ae.length/\simF d.ae.length d []=simF (d.ae.length-ms.length) D ms/\aG aF M2 nA nc D.ae) rfl ?_ ?_
   ·intro au aq
    refine⟨_,⟨d,_,_,[],_,_,Hp.le_refl _,rfl,aq.sub ⟨rfl,rfl,rfl,trivial⟩,S7.pick [0,1,2] [_,_,_] (by decide) ⟨rfl,rfl,rfl,trivial⟩,?cd,?dm,?mW,?uC⟩⟩
    case cd=>exact hop
    case dm=>simp
    case mW=>rfl
    case uC=>exact az
   ·rintro m1 a1 w7 ⟨D,nA,nc,ms,o7,M2,hle2,rfl,aY,S8,oN,hlen,oM,kR⟩
    clear S7
    refine bX aY (c:=ae2) rfl ?_
    clear aY a1
    replace az:=az.mono hle2
    have aoC:ms.length*64<=16*64:=by omega
    obtain⟨hnD,apa,aoD⟩:=yZ oN
    refine Uc JT 1 rfl rfl rfl (U2 apY JS rfl rfl rfl (U0 rfl (af 0 rfl (U8 (us:=[_,_]) rfl rfl ay rfl aA (S8.aw (i:=2) rfl ⟨rfl,rfl,trivial⟩)) (ak 1 2 rfl rfl rfl (eZ rfl rfl rfl rfl rfl rfl rfl apt S8 (aky D (kR.mono (Hp.bY _ _)) hnD apa aoD S8.aD) ?_)))))
    intro vw8 w8 M3 dh S9 zW;clear S8
    replace az:=az.mono dh
    replace kR:=kR.mono dh
    rcases zW with⟨ht1,rfl⟩|⟨iQ,ht1,rfl⟩
    ·have bw:SH _ _ _ [_,_,_]:=S9;clear S9
     refine ag 2 1 rfl rfl (af 3 rfl (Ui rfl rfl rfl) (af 4 rfl (Ui rfl rfl rfl) (ak 5 6 rfl rfl rfl (Uh (l:=[_,_,_,_,_,_,_,_]) rfl rfl rfl sK rfl bw ?_))))
     intro bz w9 bW;clear bw
     refine ak 6 7 rfl rfl rfl (U6 (i:=0) (us:=[_,_,_,_,_,_,_,_]) (l':=[_,_,_,_,_,_,_,_]) (H':=[_,_,_,_]) rfl rfl bW rfl rfl rfl rfl fH rfl rfl rfl rfl ?_)
     intro jT bV;clear bW
     refine ag 7 1 rfl rfl (U5 rfl (ah [1,2,5,6,7] rfl (U3 (U2 DU DT rfl rfl rfl (U2 ae1 DS rfl rfl rfl (U0 rfl (ag 0 1 rfl rfl (af 1 rfl (dS rfl rfl) ?_))))))))
     refine U5 rfl (ah [1,2,5,6,23] rfl (U3 (fN JR rfl rfl rfl (U2 apW apV rfl rfl rfl (U0 rfl (af 0 rfl (U8 (us:=[_,_]) rfl rfl ay rfl aA (bV.aw (i:=3) rfl ⟨rfl,rfl,trivial⟩)) (ag 1 1 rfl rfl (ak 2 3 rfl rfl rfl (U6 (i:=2) (us:=[_,_]) (l':=[_,_]) (H':=[_,_,_,_]) rfl rfl bV rfl rfl rfl rfl aA rfl rfl rfl rfl ?_)))))))))
     intro kV bZ;clear bV
     refine ag 3 2 rfl rfl (U5 rfl (ah [2,3,4] rfl (U3 ?_)))
     obtain⟨M4,cE,bI,⟨A1,c1,e1,hr1⟩⟩:=bZ.fZ (i:=1) (H':=[_,_,_,_]) rfl rfl (by show _*64<=_;first|omega|(simp only[ls];omega))
     clear bZ;subst e1
     replace az:=az.mono cE
     replace kR:=kR.mono cE
     refine Uk hC [_,_,_] rfl rfl ⟨⟨_,rfl,Um (us:=[_,_]) ay rfl aA (bI.aw (i:=2) rfl ⟨rfl,rfl,trivial⟩)⟩,rfl,rfl,trivial⟩ ?_
     refine⟨_,rfl,_,((aL.trans hle2).trans dh).trans cE,(bI.pick [] [] (by decide) trivial),?_⟩
     rw[show jS d=(D,ms,0)from by unfold jS;rw[if_neg (by rw[hop];decide),oM,aaI ht1]]
     exact⟨_,_,_,_,rfl,kR,hr1⟩
    ·have bO:SH _ _ _ [_,_,_]:=S9;clear S9
     refine ag 2 1 rfl rfl (af 3 rfl (Ui rfl rfl rfl) (af 4 rfl (Ui rfl rfl rfl) (ak 5 6 rfl rfl rfl (Uh (l:=[_,_,_,_,_,_,_,_]) rfl rfl rfl sK rfl bO ?_))))
     intro gZ lU cm;clear bO
     refine ak 6 7 rfl rfl rfl (U6 (i:=0) (us:=[_,_,_,_,_,_,_,_]) (l':=[_,_,_,_,_,_,_,_]) (H':=[_,_,_,_]) rfl rfl cm rfl rfl rfl rfl fH rfl rfl rfl rfl ?_)
     intro kz bF;clear cm
     refine ag 7 1 rfl rfl (U5 rfl (ah [1,2,5,6,7] rfl (U3 (U2 DU DT rfl rfl rfl (U2 ae1 DS rfl rfl rfl (U0 rfl (ag 0 1 rfl rfl (af 1 rfl (dS rfl rfl) ?_))))))))
     refine U5 rfl (ah [1,2,5,6,23] rfl (U3 (jz apX rfl rfl rfl (Ue rfl (ah [1,2,5,6] rfl (U3 (U2 apU apT rfl rfl rfl (U0 rfl ?_))))))))
     refine af 0 rfl (U8 (us:=[_,_]) rfl rfl ay rfl aA (bF.aw (i:=3) rfl ⟨rfl,rfl,trivial⟩)) (af 1 rfl (U8 (us:=[_,_,_,_,_,_,_,_]) rfl rfl aT rfl fH (bF.aw (i:=0) rfl ⟨rfl,rfl,rfl,rfl,rfl,rfl,rfl,rfl,trivial⟩)) (ak 2 3 rfl rfl rfl (eZ rfl rfl rfl rfl rfl rfl rfl apC bF (ajx D iQ (kR.mono (Hp.bY _ _)) bF.aD) ?_)))
     intro adW jG M5 fL bU zy;clear bF
     replace az:=az.mono fL
     replace kR:=kR.mono fL
     obtain⟨A2,c2,rfl,hr2⟩:=zy
     refine ag 3 1 rfl rfl (af 4 rfl (Ui rfl rfl rfl) (af 5 rfl (Ui rfl rfl rfl) (ak 6 7 rfl rfl rfl (U6 (i:=3) (us:=[_,_]) (l':=[_,_]) (H':=[_,_,_,_]) rfl rfl bU rfl rfl rfl rfl aA rfl rfl rfl rfl ?_))))
     intro nW dP;clear bU
     refine U5 rfl (ah [1,2,5,6] rfl (U3 (U0 rfl (ag 0 1 rfl rfl (af 1 rfl (U8 (us:=[_,_,_,_,_,_,_,_]) rfl rfl aT rfl fH (dP.aw (i:=0) rfl ⟨rfl,rfl,rfl,rfl,rfl,rfl,rfl,rfl,trivial⟩)) (ak 2 3 rfl rfl rfl (ij (C:=nT) (l:=[_,_,_,_,_,_,_,_]) rfl rfl rfl rfl xk rfl rfl rfl rfl dP ?_)))))))
     intro iy ni cN;clear dP
     refine ak 3 4 rfl rfl rfl (ji (C:=nT) (i:=2) (q:=0) (⟨iQ.kd,iQ.at_,iQ.aJ,iQ.ua,iQ.ub,iQ.va,iQ.vb,iQ.ov⟩:Mv) rfl rfl rfl rfl rfl rfl rfl rfl xk cN rfl rfl rfl (by show(_+1)*64<=_;first|omega|(simp only[ls];omega)) ?_)
     intro adY kU cM;clear cN
     have dz:=cM.pick [1,2,3,4] [_,_,_,_] (by decide) ⟨rfl,rfl,rfl,rfl,trivial⟩;clear cM
     refine ag 4 1 rfl rfl (U5 rfl (bj (aO ?_)))
     intro au aq
     refine⟨_,?dQ,⟨(dx D iQ).1,_,_,ms++[iQ],_,_,((hle2.trans dh).trans fL),rfl,aq.sub ⟨rfl,rfl,rfl,trivial⟩,dz.pick [1,2,3] [_,_,_] (by decide) ⟨rfl,rfl,rfl,trivial⟩,?cx,?dC,?lC,?uB⟩⟩
     case cx=>exact(tL oN hlen oM ht1).1
     case dC=>exact(tL oN hlen oM ht1).2.1
     case lC=>exact(tL oN hlen oM ht1).2.2
     case uB=>exact hr2
     case dQ=>(have RA:=(tL oN hlen oM (by assumption)).2.1;rw[List.length_append,List.length_singleton]at RA ⊢;omega)
end Go.Proofs.YthppkofceancjaaGreat
namespace Go.Proofs.YthppkofceancjaaGreat
open Go.ChangeShapes Go.WideShapes Go.ChangeAt Go.RowKit
def uh(P:Program)(d:Nat)(T:TypeId)(v:Value):Prop:=∀w,(Op.equalIn d T v v).run P w=.ok true w
def QZ:List Field->(Field->Prop)->Prop
 |[],_=>True
 |f::r,Q=>Q f/\QZ r Q
section
variable {P : Program}
theorem yI{d:Nat}{T:TypeId}{k k':IntKind}{a:Int}(hu:P.underlying T=some (.int k')):uh P (d+1) T (.int k a):=fun w=>by
 rw[run_equalIn_int w d T k k' a a hu]
 simp
theorem F8{d:Nat}{T:TypeId}{a:Bool}(hu:P.underlying T=some .bool):uh P (d+1) T (.bool a):=fun w=>by
 rw[run_equalIn_bool' w d T a a hu]
 simp
theorem aad{xs:Array Value}{d:Nat}{w:World}:∀{fs:List Field},QZ fs (fun f=>∃u,(∀w,(part f.type xs f.offset).run P w=.ok u w)/\uh P d f.type u)->(Op.eqFields d xs xs fs).run P w=.ok true w
 |[],_=>rfl
 |f::fs,h=>by
  obtain⟨⟨u,h1,h2⟩,h3⟩:=h
  have ih:=aad (w:=w) h3
  rw[Op.eqFields]
  split
  ·simp only[Sem.run_bind,h1,h2 w,Result.andThen_ok]
   exact ih
  ·exact ih
theorem GF{d:Nat}{T:TypeId}{fs:List Field}{xs:Array Value}(hu:P.underlying T=some (.struct fs.toArray))(hs:P.stoodInHeld T=false)(h:QZ fs (fun f=>∃u,(∀w,(part f.type xs f.offset).run P w=.ok u w)/\uh P d f.type u)):uh P (d+1) T (.agg xs):=fun w=>by
 have nt:P.fieldsOf T=fs.toArray:=by simp[Program.fieldsOf,hu]
 rw[run_equalIn_struct w d T _ _ (by rw[nt];exact hu) hs,nt]
 exact aad h
theorem adi{T:TypeId}{dd:TypeDesc}{cs:Array Value}{o k:Nat}(hu:P.underlying T=some dd)(hd:pO dd=false)(hk:(P.info? T).map (·.size)=some k):∀w,(part T cs o).run P w=.ok (.agg (cs.extract o (o+k))) w:=fun w=>by
 simp only[part,Sem.run_bind,vT hu,hd,Result.andThen_ok,Bool.not_false,if_true,run_sizeOf hk,Sem.run_pure]
variable {o : Oper} {L : List (Nat × Value)} {w : World} {x y : Operand} {t t' : TypeId}
theorem ahx{xs:List Value}(hop:o.op=.binOp .neq t x y t')(hx:oev L x=some (.agg xs.toArray))(hy:oev L y=some (.agg xs.toArray))(hg:P.eqGuardType P.depth t=false)(h:uh P 10000 t (.agg xs.toArray)):Run P o L w (.bool false) w:=by
 intro n c' he'
 have hg:=run_eqGuard_agg (P:=P) w .neq t x y xs.toArray xs.toArray hg
 unfold execOp
 simp only[hop,he'.eval hx,he'.eval hy,hg,Sem.run_bind,Sem.run_pure,Result.andThen_ok,run_neq_struct,h w,Bool.not_true]
end
end Go.Proofs.YthppkofceancjaaGreat
namespace Go.Proofs.YthppkofceancjaaGreat
open Go.ChangeShapes Go.WideShapes Go.ChangeAt Go.RowKit
theorem ai2(m:Mv):uh Tryz.prog 10000 28 (.agg [.int .i64 m.kd,.int .i64 m.at_,.int .i64 m.aJ,.int .i64 m.ua,.bool m.ub,.int .i64 m.va,.bool m.vb,.bool m.ov].toArray):=
 GF aT (by kernel_rfl) ⟨⟨_,fun w=>mq av rfl rfl,yI av⟩,⟨_,fun w=>mq av rfl rfl,yI av⟩,⟨_,fun w=>mq av rfl rfl,yI av⟩,⟨_,adi aZ rfl cC,GF aZ (by kernel_rfl) ⟨⟨_,fun w=>mq av rfl rfl,yI av⟩,⟨_,fun w=>mq dL rfl rfl,F8 dL⟩,trivial⟩⟩,⟨_,adi aZ rfl cC,GF aZ (by kernel_rfl) ⟨⟨_,fun w=>mq av rfl rfl,yI av⟩,⟨_,fun w=>mq dL rfl rfl,F8 dL⟩,trivial⟩⟩,⟨_,fun w=>mq dL rfl rfl,F8 dL⟩,trivial⟩
noncomputable def JQ:=Tryz.f5.body.getD .skip
def apS:=cL JQ
def JP:=cR JQ
def apR:=cL JP
def JO:=cR JP
def apQ:=cL JO
def JN:=cR JO
def JM:=cL JN
def JL:=cR JN
def apP:=cL JM
def ae0:=cR JM
def apO:=cR ae0
def JK:=cL JL
def JJ:=cR JL
def apN:=cL JK
def aeZ:=cR JK
def aeY:=cL aeZ
def JI:=cL aeY
def JH:=cL JI
def JG:=cR JI
def apM:=cL JH
def JF:=cR JH
def apL:=cL JF
def apK:=cR JF
def aeX:=cL JG
def apJ:=cR JG
def JE:=cL aeX
def apI:=cL JE
def aeW:=cR JE
def apH:=cR aeW
def apG:=cL JJ
def apF:=cR JJ
set_option maxRecDepth 10000 in
theorem ahq{w:World}{M:Hp}{X:Fr}(d:Dg){aV:Option Addr}{aU:Nat}(az:aG aF M aV aU d.ae)(S:SH w M X []):Ct Tryz.prog 5 [.agg [.slice aV d.ae.length aU,.int .i64 d.loops].toArray] w M X (fun u _=>u=.bool true):=by
 unfold Ct
 have gV:d.ae.length*40<=140737488355328:=az.room
 refine Up (b:=JQ) Tryz.func5 rfl Tryz.ntmps5 rfl (fun C hC=>(bq [(0,_)] ⟨rfl,trivial⟩ (U2 apS JP rfl rfl rfl (U0 rfl (ak 0 1 rfl rfl rfl (bE (l:=[_,_]) rfl rfl rfl rfl rfl S ?_))))))
 intro aI w1 S1;clear S
 refine ag 1 1 rfl rfl (U5 rfl (ah [1] rfl (U3 (U2 apR JO rfl rfl rfl (U0 rfl (af 0 rfl (U8 (us:=[_,_]) rfl rfl ay rfl aA (S1.aw (i:=0) rfl ⟨rfl,rfl,trivial⟩)) (ak 1 2 rfl rfl rfl (eZ rfl rfl rfl rfl rfl rfl rfl Bt S1 (ahr d (az.mono (Hp.bY _ _)) S1.aD) ?_))))))))
 intro E9 w2 M1 aL S2 qN;clear S1
 replace az:=az.mono aL
 obtain⟨A1,c1,rfl,hr1⟩:=qN
 refine ak 2 3 rfl rfl rfl (eZ rfl rfl rfl rfl rfl rfl rfl apA S2 (ajq d hr1 S2.aD) ?_)
 intro E8 w3 M2 hle2 S3 qM;clear S2
 replace az:=az.mono hle2
 replace hr1:=hr1.mono hle2
 obtain⟨A2,c2,A3,c3,rfl,hr2,hr3⟩:=qM
 refine ag 3 1 rfl rfl (af 4 rfl (Ui rfl rfl rfl) (af 5 rfl (Ui rfl rfl rfl) (af 6 rfl (Ui rfl rfl rfl) (ak 7 8 rfl rfl rfl (Uh (l:=[_,_]) rfl rfl rfl fR rfl S3 ?_)))))
 intro aQ w4 S4;clear S3
 refine ak 8 9 rfl rfl rfl (U6 (i:=0) (us:=[_,_]) (l':=[_,_]) (H':=[_,_]) rfl rfl S4 rfl rfl rfl rfl aA rfl rfl rfl rfl ?_)
 intro w5 S5;clear S4
 refine ag 9 2 rfl rfl (U5 rfl (ah [1,3,4,5] rfl (U3 (U2 apQ JN rfl rfl rfl (U0 rfl (af 0 rfl (U8 (us:=[_,_]) rfl rfl ay rfl aA (S5.aw (i:=1) rfl ⟨rfl,rfl,trivial⟩)) (ak 1 2 rfl rfl rfl (eZ rfl rfl rfl rfl rfl rfl rfl apz S5 (ahO d az S5.aD) ?_))))))))
 intro Rm w6 M3 dh S6 uY;clear S5
 replace az:=az.mono dh
 replace hr1:=hr1.mono dh
 replace hr2:=hr2.mono dh
 replace hr3:=hr3.mono dh
 obtain⟨A4,c4,A5,c5,rfl,hr4,mJ⟩:=uY
 refine ag 2 1 rfl rfl (af 3 rfl (Ui rfl rfl rfl) (af 4 rfl (Ui rfl rfl rfl) (af 5 rfl (Ui rfl rfl rfl) (ak 6 7 rfl rfl rfl (Uh (l:=[_,_]) rfl rfl rfl fR rfl S6 ?_)))))
 intro bz w7 S7;clear S6
 refine ak 7 8 rfl rfl rfl (U6 (i:=0) (us:=[_,_]) (l':=[_,_]) (H':=[_,_,_]) rfl rfl S7 rfl rfl rfl rfl aA rfl rfl rfl rfl ?_)
 intro w8 S8;clear S7
 refine ag 8 2 rfl rfl (U5 rfl (ah [3,4,5,6,7,8] rfl (U3 (U2 JM JL rfl rfl rfl (U2 apP ae0 rfl rfl rfl (U0 rfl (ag 0 2 rfl rfl (af 2 rfl (jL rfl rfl rfl) ?_))))))))
 refine ag 3 1 rfl rfl ?_
 refine Uw (t:=26) rfl (fun aem=>?_) (fun aem=>?_)
 ·exfalso;exact aem rfl
 ·refine ag 4 1 rfl rfl (aH 5 6 rfl rfl rfl rfl rfl rfl rfl rfl (Ub rfl rfl (cU rfl rfl rfl rfl rfl rfl Dt) (ag 6 1 rfl rfl (aH 7 8 rfl rfl rfl rfl rfl rfl rfl rfl (Ub rfl rfl (cU rfl rfl rfl rfl rfl rfl Dt) (aH 8 9 rfl rfl rfl rfl rfl rfl rfl rfl (Ub rfl rfl (jL rfl rfl rfl) (ag 9 2 rfl rfl ?_))))))))
  refine Uw (t:=33) rfl (fun xo=>?_) (fun xo=>?_)
  ·exfalso;exact xo rfl
  ·refine aH 11 12 rfl rfl rfl rfl rfl rfl rfl rfl (Ub rfl rfl (U8 (us:=[_,_]) rfl rfl ay rfl aA (S8.aw (i:=1) rfl ⟨rfl,rfl,trivial⟩)) (aH 12 13 rfl rfl rfl rfl rfl rfl rfl rfl (Ub rfl rfl (U8 (us:=[_,_]) rfl rfl ay rfl aA (S8.aw (i:=0) rfl ⟨rfl,rfl,trivial⟩)) (aH 13 14 rfl rfl rfl rfl rfl rfl rfl rfl (cS rfl rfl rfl rfl rfl rfl rfl apB S8 (ag9 ((jS d).1) (hr2.mono (Hp.bY _ _)) (hr4.mono (Hp.bY _ _)) S8.aD) ?_)))))
   rintro _ w9 S9 rfl;clear S8
   refine aH 14 15 rfl rfl rfl rfl rfl rfl rfl rfl (Ub rfl rfl (dS rfl rfl) (ag 15 1 rfl rfl (U5 rfl (ah [4,7,38] rfl (U3 (jz apO rfl rfl rfl (Ue rfl (ah [4,7] rfl (U3 ?_)))))))))
   refine U2 JK JJ rfl rfl rfl (U2 apN aeZ rfl rfl rfl ?_)
   have ayx:(jS d).2.1.length*64<=140737488355328:=hr3.room
   refine U0 rfl (ag 0 1 rfl rfl (U5 rfl (U3 (Uc aeY 0 rfl rfl rfl ?_))))
   refine Ux (fun aS au aM=>∃(i:Nat) (M4:Hp),M3.le M4/\aS=(jS d).2.1.length-i/\Env 54 [(4,.slice A3 ((jS d).2.1).length c3),(7,.slice A5 ((jS d).2.1).length c5),(9,.int .i64 (i:Int))] au/\SH aM M4 X []/\i<=(jS d).2.1.length) rfl ?_ ?_
   ·intro au aq
    refine⟨_,⟨0,_,Hp.le_refl _,rfl,aq.sub ⟨rfl,rfl,rfl,trivial⟩,S9.pick [] [] (by decide) trivial,?cd⟩⟩
    case cd=>omega
   ·rintro m1 a1 jT ⟨i,M4,cE,rfl,aY,bw,hi⟩
    clear S9
    refine bX aY (c:=JI) rfl ?_
    clear aY a1
    replace az:=az.mono cE
    replace hr1:=hr1.mono cE
    replace hr2:=hr2.mono cE
    replace hr3:=hr3.mono cE
    replace hr4:=hr4.mono cE
    replace mJ:=mJ.mono cE
    refine U2 JH JG rfl rfl rfl (U2 apM JF rfl rfl rfl (U0 rfl (ag 0 2 rfl rfl (af 2 rfl (cU rfl rfl rfl rfl rfl rfl Dt) (af 3 rfl (bS rfl rfl rfl) (U5 rfl (ah [4,7,9,42] rfl (U3 ?_))))))))
    refine Uf apL apK rfl rfl rfl rfl (fun qI=>?_) (fun qI=>?_)
    ·refine Ue rfl (ah [4,7,9] rfl (U3 (U2 aeX apJ rfl rfl rfl (Uc JE 1 rfl rfl rfl (U2 apI aeW rfl rfl rfl (bM rfl (by kernel_rfl) bw 9 rfl ?_))))))
     clear bw
     refine ai 0 8 rfl (by kernel_rfl) (fun _=>run_move rfl rfl) ?_
     refine ai 1 7 rfl (by kernel_rfl) (fun _=>run_move rfl rfl) ?_
     refine aj 2 6 rfl (by kernel_rfl) (fun _ _ _ hz Sz=>.inl (Ul (C:=nT) i rfl rfl rfl xk (by first|rfl|omega) (hr3.mono hz) (by first|omega|(simp only[ls];omega)))) ?_
     refine aj 3 5 rfl (by kernel_rfl) (fun _ _ _ hz Sz=>.inl (U8 (us:=[_,_,_,_,_,_,_,_]) rfl rfl aT rfl fH ((hr3.mono hz).fU Sz.m (e:=i) (by first|omega|(simp only[ls];omega)) (j:=0) ⟨rfl,rfl,rfl,rfl,rfl,rfl,rfl,rfl,trivial⟩))) ?_
     refine ai 4 4 rfl (by kernel_rfl) (fun _=>run_move rfl rfl) ?_
     refine ai 5 3 rfl (by kernel_rfl) (fun _=>run_move rfl rfl) ?_
     refine aj 6 2 rfl (by kernel_rfl) (fun _ _ _ hz Sz=>.inl (Ul (C:=nT) i rfl rfl rfl xk (by first|rfl|omega) (mJ.mono hz) (by first|omega|(simp only[ls];omega)))) ?_
     refine aj 7 1 rfl (by kernel_rfl) (fun _ _ _ hz Sz=>.inl (U8 (us:=[_,_,_,_,_,_,_,_]) rfl rfl aT rfl fH ((mJ.mono hz).fU Sz.m (e:=i) (by first|omega|(simp only[ls];omega)) (j:=0) ⟨rfl,rfl,rfl,rfl,rfl,rfl,rfl,rfl,trivial⟩))) ?_
     refine ai 8 0 rfl (by kernel_rfl) (fun _=>ahx rfl rfl rfl (by kernel_rfl) (ai2 _)) ?_
     refine Uu (by kernel_rfl) (fun q9 cN=>?_)
     refine ah [4,7,9,53] rfl (U3 (jz apH rfl rfl rfl (Ue rfl (bj (ah [4,7,9] rfl (U3 (U0 rfl (ag 0 1 rfl rfl ?_))))))))
     refine af 1 rfl (Ug rfl rfl rfl (by first|omega|(simp only[ls];omega))) ?_
     refine ag 2 1 rfl rfl (U5 rfl (aO ?_))
     intro au aq
     refine⟨_,?dQ,⟨i+1,_,(cE),rfl,aq.sub ⟨rfl,rfl,rfl,trivial⟩,cN.pick [] [] (by decide) trivial,?cx⟩⟩
     case cx=>omega
     case dQ=>omega
    ·refine bP rfl rfl (bN [] trivial (U3 (U2 apG apF rfl rfl rfl (U0 rfl (ag 0 1 rfl rfl (U5 rfl (U3 (Uk hC [_] rfl rfl ⟨rfl,trivial⟩ ?_))))))))
     refine⟨_,rfl,_,((aL.trans hle2).trans dh).trans cE,(bw.pick [] [] (by decide) trivial),?_⟩
     rfl
end Go.Proofs.YthppkofceancjaaGreat
namespace Go.Proofs.YthppkofceancjaaGreat
open Go.ChangeShapes Go.WideShapes Go.ChangeAt Go.RowKit Go.Joins Go.Deep
theorem aiO{H:Type}{P:Program}{ts:List TypeId}{ds:List (DataW H)}(h:(DataW.weightsEach P ts ds).all (·<=reachBytes)=true){j i:Nat}{t e:TypeId}{f:Field}{fs:Array Field}{parts:List (DataW H)}{elems spare:List (DataW H)}
  (ht:ts[j]? =some t)(hd:ds[j]? =some (.agg parts))(hu:P.underlying t=some (.struct fs))(hf:fs.toList[i]? =some f)(hp:parts[i]? =some (.slice elems spare))(he:P.underlying f.type=some (.slice e)):
  (elems.length+spare.length)*P.bytesOf e<=reachBytes:=by
 have m1:=DataW.weights_mem_each (P:=P) (ts:=fs.toList.map (·.type)) (j:=i) (t:=f.type) (by rw[List.getElem?_map,hf];rfl) hp ((elems.length+spare.length)*P.bytesOf e) (by simp[DataW.weights,he])
 have m2:=DataW.weights_mem_each (P:=P) ht hd ((elems.length+spare.length)*P.bytesOf e) (by simp only[DataW.weights,hu];exact m1)
 simpa using List.all_eq_true.1 h _ m2
theorem ad8(l:List Cr):(l.flatMap ko.f).length=l.length*5:=by
 induction l with
 |nil=>rfl
 |cons x l ih=>rw[List.flatMap_cons,List.length_append,ih,ko.hf,List.length_cons];show 5+_=_;omega
theorem ada{l:List Value}{j:Nat}{u:Value}(h:(l.drop j).take 1=[u]):l[j]? =some u:=by
 have:=congrArg (fun z=>z[0]?) h
 simpa[List.getElem?_take,List.getElem?_drop]using this
theorem pick{α:Type}[Inhabited α]{m:Nat}{Q:Nat->α->Prop}(h:∀i,i<m->∃x,Q i x):∃F:Nat->α,∀i,i<m->Q i (F i):=
 ⟨fun i=>if hi:i<m then(h i hi).choose else default,fun i hi=>by
  show Q i (if hi:i<m then(h i hi).choose else default)
  rw[dif_pos hi];exact(h i hi).choose_spec⟩
section
variable {H : Type} {enc : TypeId × Value → H} {w : World}
theorem C8{n j:Nat}{cs:List Value}{y:DataW H×List MemPlace}(h:DataW.trod enc Tryz.prog w 0 (fun _=>true) true n 3 ((cs.drop j).take (Tryz.prog.cellsOf 3))=some y):∃a,cs[j]? =some (.int .i64 a):=by
 obtain⟨a,e,_⟩:=DataW.trod_int av h
 rw[show Tryz.prog.cellsOf 3=1 by kernel_rfl]at e
 exact⟨a,ada e⟩
theorem alu{n j:Nat}{cs:List Value}{y:DataW H×List MemPlace}(h:DataW.trod enc Tryz.prog w 0 (fun _=>true) true n 4 ((cs.drop j).take (Tryz.prog.cellsOf 4))=some y):∃a,cs[j]? =some (.bool a):=by
 obtain⟨a,e,_⟩:=DataW.trod_bool dL h
 rw[show Tryz.prog.cellsOf 4=1 by kernel_rfl]at e
 exact⟨a,ada e⟩
set_option maxRecDepth 100000 in
theorem ajX{n:Nat}{cs:List Value}{x:DataW H×List MemPlace}(h:DataW.trod enc Tryz.prog w 0 (fun _=>true) true n 77 cs=some x):∃c:Cr,∀j u,j<5->(mM c)[j]? =some u->cs[j]? =some u:=by
 obtain⟨xs,k,_,_,_,hl,hf⟩:=DataW.trod_struct aW h
 match xs,hl with
 |[y0,y1,y2,y3,y4],_=>
  have g0:=hf 0 _ rfl
  have g1:=hf 1 _ rfl
  have g2:=hf 2 _ rfl
  have g3:=hf 3 _ rfl
  have g4:=hf 4 _ rfl
  obtain⟨n0,e0⟩:=C8 (j:=0) (y:=y0) g0
  obtain⟨n1,e1⟩:=C8 (j:=1) (y:=y1) g1
  obtain⟨n2,e2⟩:=C8 (j:=2) (y:=y2) g2
  obtain⟨n3,e3⟩:=C8 (j:=3) (y:=y3) g3
  obtain⟨n4,e4⟩:=alu (j:=4) (y:=y4) g4
  refine⟨⟨n0,n1,n2,n3,n4⟩,fun j u hj hu=>?_⟩
  match j,hj with
  |0,_=>simp[mM]at hu;subst hu;exact e0
  |1,_=>simp[mM]at hu;subst hu;exact e1
  |2,_=>simp[mM]at hu;subst hu;exact e2
  |3,_=>simp[mM]at hu;subst hu;exact e3
  |4,_=>simp[mM]at hu;subst hu;exact e4
set_option maxRecDepth 100000 in
theorem ajY{v:Value}{d:DataW H}{p:List MemPlace}{b0:Nat}(hv:Value.okWide Tryz.prog w .any b0 24 v)(h:DataW.Trod enc Tryz.prog w 0 (fun _=>true) true 24 v d p)(hlt:∀x∈p,x.block<w.heap.size)
  {ts:List TypeId}{ds:List (DataW H)}(hsz:(DataW.weightsEach Tryz.prog ts ds).all (·<=reachBytes)=true){j:Nat}(hj:ts[j]? =some 24)(hd:ds[j]? =some d):
  ∃g:Dg,lS w w.heap.size v g:=by
 obtain⟨v0,v1,y0,y1,n,rfl,rfl,rfl,t0,t1⟩:=open_agg2 ay (by kernel_rfl) (by kernel_rfl) hv h
 obtain⟨l,e1,_,_⟩:=DataW.trod_int av t1
 injection e1 with e1
 subst e1
 have hs:=fun es sp (hp:y0.1=.slice es sp)=>aiO hsz hj hd ay (i:=0) rfl (by rw[List.getElem?_cons_zero,hp]) bt
 rcases open_slice bt t0 with⟨hcs,hx⟩|⟨a,len,cap,m,k,D,Pl,hcs,hb,hl,hm,hmm,hx,hi⟩
 ·injection hcs with hcs
  subst hcs
  exact⟨⟨[],l⟩,none,0,rfl,Nat.le_refl _,Rd.eX⟩
 ·injection hcs with hcs
  subst hcs
  have hk:Tryz.prog.cellsOf 77=5:=by kernel_rfl
  have hby:Tryz.prog.bytesOf 77=40:=by kernel_rfl
  have hs:=hs _ _ (by rw[hx])
  rw[hby]at hs
  simp only[if_true]at hmm
  subst hmm
  simp only[List.length_map,List.length_range,reachBytes]at hs
  obtain⟨F,hF⟩:=pick (m:=m) (Q:=fun i (c:Cr)=>∀j u,j<5->(mM c)[j]? =some u->w.cell? (a.add (i*5+j))=some u) (fun i him=>by
   obtain⟨cs',hc,ht'⟩:=hi i him
   rw[hk]at hc
   obtain⟨c,hc'⟩:=ajX ht'
   obtain⟨_,hcl,hat⟩:=World.cells?_some hc
   refine⟨c,fun j u hj hu=>?_⟩
   rw[<-Go.Deep.add_add,hat j hj]
   exact hc' j u hj hu)
  have hlen:((List.range len).map F).length=len:=by simp
  refine⟨⟨(List.range len).map F,l⟩,some a,m,by rw[hlen],by rw[hlen];exact hl,?_⟩
  refine⟨ad8 _,by show _*40<=_;rw[hlen];omega,fun h0=>?_⟩
  rw[hlen]at h0
  obtain⟨b,off,spot⟩:=a
  have hspot:spot=none:=by simpa[Addr.add]using World.cell?_spot (hF 0 (by omega) 0 _ (by omega) rfl)
  subst hspot
  refine⟨b,off,rfl,hlt (.cell b off) (List.mem_append_left _ (by rw[hx];exact List.mem_append_left _ (MemPlace.mem_row.2 ⟨0,by rw[hk];omega,by simp⟩))),fun i u hu=>?_⟩
  have hil:i<len*5:=by
   have:=(List.getElem?_eq_some_iff.1 hu).1
   rw[ad8,hlen]at this
   exact this
  have hu':=hu
  rw[show i=(i/5)*5+i%5 by omega]at hu'
  rw[show(5:Nat)=ko.k from rfl,nB ko.hf (by rw[hlen];show i/5<len;omega) (by show i%5<5;omega)]at hu'
  have:=hF (i/5) (by omega) (i%5) u (by omega) (by simpa[ko]using hu')
  rw[show(i/5)*5+i%5=i by omega]at this
  rcases Nat.eq_zero_or_pos i with h1|h1
  ·subst h1;simpa[Addr.add]using this
  ·simpa[Addr.add,show¬i=0 by omega]using this
end
end Go.Proofs.YthppkofceancjaaGreat
namespace Go.Proofs.YthppkofceancjaaGreat
open Go.ChangeShapes Go.WideShapes Go.ChangeAt Go.RowKit
theorem aG.amd{α:Type}{C:Cd α}{w:World}{B c:Nat}{A:Option Addr}{xs:List α}(hc:xs.length<=c)(hk:0<C.k)(h:Sl w B C.k C.u8 A xs.length (xs.flatMap C.f)):aG C (hp w) A c xs:=by
 refine⟨hc,h.2.1,fun h0=>?_⟩
 obtain⟨b,off,rfl,_,hat⟩:=h.2.2 h0
 refine⟨rfl,?_⟩
 have hlen:0<(xs.flatMap C.f).length:=by rw[lh C.hf];exact Nat.mul_pos h0 hk
 have h1:=hat 0 _ (List.getElem?_eq_getElem hlen)
 show∃cs T fz,w.heap[b]? =some (.cells cs T fz)/\∀j u,(xs.flatMap C.f)[j]? =some u->cs[off+j]? =some u
 unfold World.cell? at h1
 split at h1
 ·rename_i cs T fz hb
  refine⟨cs,T,fz,hb,fun j u hu=>?_⟩
  have:=hat j u hu
  rw[cell_of_row w b _ cs T fz hb]at this
  exact this
 ·cases h1
theorem lS.rd{w:World}{B:Nat}{v:Value}{d:Dg}(h:lS w B v d):∃A c,v=.agg [.slice A d.ae.length c,.int .i64 d.loops].toArray/\aG aF (hp w) A c d.ae:=by
 obtain⟨A,c,rfl,hc,h⟩:=h
 exact⟨A,c,rfl,aG.amd (C:=aF) hc (by decide) h⟩
end Go.Proofs.YthppkofceancjaaGreat
namespace Go.Proofs.YthppkofceancjaaGreat
open Go.ChangeShapes Go.WideShapes Go.ChangeAt Go.RowKit
theorem ahd(v0:Value)(x0:Dg)(W:World)(h0:lS W W.heap.size v0 x0):
  Calls Tryz.prog 5 #[v0] W fun e W'=>e=.returned (.bool true)/\Below W.heap.size W W':=by
 obtain⟨A0,c0,rfl,r0⟩:=h0.rd
 exact aib (ahq x0 r0 (SH.start W))
set_option maxRecDepth 100000 in
theorem ag2(os:Os)(started:os.Started)(H:Type)(enc:TypeId×Value->H):
  ReturnsInHanded {} Tryz.checked os 5 .any (Rows.movesTakeSpec.pre6 enc Tryz.prog Tryz.f5 Rows.movesTakeRow.domain false) (Rows.movesTakeSpec.post enc Tryz.prog Tryz.f5 false true false false):=by
 refine ai5 (C:=Tryz.checked) (tb:=4) (by kernel_rfl) started (by kernel_rfl) Tryz.func5
  (ChangeSpec.witness6 (enc:=enc) (C:=Tryz.checked) false ⟨#[],#[.agg #[.slice none 0 0,.int .i64 0]],[]⟩ 8 (by kernel_rfl) (by kernel_rfl) (by kernel_rfl) (by kernel_rfl))
  rfl (by kernel_rfl) (by kernel_rfl) rfl dL ?_ ?_
 ·intro ds hds
  match ds,hds with
  |[d0],_=>rfl
 ·intro W base args ds p hval hA _ hlt hsz
  rw[Tryz.params5]at hA hval hsz
  obtain⟨v0,vs0,d0,ds0,p0,q0,hargs,rfl,rfl,h0,r0⟩:=trodAll_cons hA
  obtain⟨rfl,rfl,rfl⟩:=trodAll_nil r0
  obtain rfl:args=#[v0]:=by cases args;simp_all
  obtain⟨a0,i0⟩:=ajY (hval 0 24 v0 rfl rfl) h0 (fun x hx=>hlt x (by simp[hx])) hsz (j:=0) rfl rfl
  exact ahd v0 a0 W i0
theorem movesTake_holds:Rows.MovesTakeSaid:=
 OpenClaim.holds_of_wide 5 Tryz.f5 rfl rfl rfl rfl rfl rfl rfl ⟨rfl,rfl,rfl,rfl,rfl⟩ rfl rfl rfl rfl rfl (by kernel_rfl) Tryz.func5 (by kernel_rfl)
  (of_decide_eq_true (by kernel_rfl)) (by unfold Func.isWrapper;first|(rw[if_pos (by decide+kernel)];kernel_rfl)|(rw[if_neg (by decide+kernel)];exact⟨rfl,rfl⟩))
  (fun os started H enc _=>ag2 os started H enc)
#print axioms movesTake_holds
end Go.Proofs.YthppkofceancjaaGreat
