/- Part 13 of the proof of the law MovesTake: the walks through its functions and the plain laws that they need. -/
import Derived.Test.YthppkofceancjaaGreatMtZ12
set_option linter.unusedSimpArgs false
set_option linter.unusedVariables false
noncomputable section
namespace Go.Proofs.YthppkofceancjaaGreat
open Go.ChangeShapes Go.WideShapes Go.ChangeAt Go.RowKit
def hdN(d:Dg)(f:List Da):Nat->List Int
 |0=>[]
 |i+1=>hdN d f i++[(eQ d (ga f i):Int)]
theorem ab9(d:Dg)(f:List Da)(i:Nat):(hdN d f i).length=i:=by
 induction i with
 |zero=>rfl
 |succ i ih=>unfold hdN;rw[List.length_append,ih];rfl
noncomputable def MR:=Tryz.f38.body.getD .skip
def asH:=cL MR
def MQ:=cR MR
def asG:=cL MQ
def MP:=cR MQ
def MO:=cL MP
def MN:=cR MP
def asF:=cL MO
def afL:=cR MO
def afK:=cL afL
def ML:=cL afK
def MK:=cL ML
def MJ:=cR ML
def asE:=cL MK
def MI:=cR MK
def asD:=cL MI
def asC:=cR MI
def afJ:=cL MJ
def asB:=cR MJ
def MH:=cL afJ
def MG:=cL MH
def MF:=cR MH
def asA:=cL MG
def ME:=cR MG
def asz:=cL ME
def asy:=cR ME
def asx:=cL MF
def MD:=cR MF
def asw:=cL MD
def MC:=cR MD
def asv:=cL MC
def MB:=cR MC
def asu:=cL MB
def MA:=cR MB
def D6:=cL MA
def Mz:=cR MA
def afI:=cL D6
def afH:=cR D6
def ast:=cL MN
def ass:=cR MN
set_option maxHeartbeats 2000000 in
set_option maxRecDepth 10000 in
theorem aau{w:World}{M:Hp}{X:Fr}(d:Dg){aV:Option Addr}{aU:Nat}(i:Int)(j:Int)(az:aG aF (M.un X.h) aV aU d.ae)(hn:d.ae.length<=16)(hab:aN d=true)(S:SH w M X []):Ct Tryz.prog 38 [.agg [.slice aV d.ae.length aU,.int .i64 d.loops].toArray,.int .i64 i,.int .i64 j] w M X (fun x _=>x=.bool ((U7 d).any (gw d i j))):=by
 unfold Ct
 have gV:d.ae.length*40<=140737488355328:=az.room
 refine Up (b:=MR) Tryz.func38 rfl Tryz.ntmps38 rfl (fun C hC=>(bq [(0,_),(1,_),(2,_)] ⟨rfl,rfl,rfl,trivial⟩ (U2 asH MQ rfl rfl rfl (U0 rfl (ak 0 1 rfl rfl rfl (bE (l:=[_,_]) rfl rfl rfl rfl rfl S ?_))))))
 intro aI w1 S1;clear S
 refine ag 1 1 rfl rfl (U5 rfl (ah [1,2,3] rfl (U3 (U2 asG MP rfl rfl rfl (U0 rfl (af 0 rfl (U8 (us:=[_,_]) rfl rfl ay rfl aA (S1.aw (i:=0) rfl ⟨rfl,rfl,trivial⟩)) (ak 1 2 rfl rfl rfl (eZ rfl rfl rfl rfl rfl rfl rfl DM S1 (BU d (az.mono S1.Uy) (hn) (hab) S1.aD) ?_))))))))
 intro E9 w2 M1 aL S2 qN;clear S1
 replace az:=az.mono (Hp.Ua aL S2.mx)
 obtain⟨A1,c1,vs1,rfl,hr1,hd1⟩:=qN
 have adu:=hd1.1
 refine ag 2 1 rfl rfl (U5 rfl (ah [1,2,3,7] rfl (U3 (U2 MO MN rfl rfl rfl (U2 asF afL rfl rfl rfl (U0 rfl (ag 0 1 rfl rfl (U5 rfl ?_))))))))
 refine U3 (Uc afK 0 rfl rfl rfl ?_)
 refine Ux (fun aS au aM=>∃(k:Nat),aS=(U7 d).length-k/\Env 97 [(1,.int .i64 i),(2,.int .i64 j),(3,.pointer (some ⟨aI,0,none⟩)),(7,.slice A1 vs1.length c1),(8,.int .i64 (k:Int))] au/\SH aM M1 X [Rs.box aI 24 [.slice aV d.ae.length aU,.int .i64 d.loops]]/\k<=(U7 d).length/\(∀q,q<k->gw d i j (ga (U7 d) q)=false)) rfl ?_ ?_
 ·intro au aq
  refine⟨_,⟨0,rfl,aq.sub ⟨rfl,rfl,rfl,rfl,rfl,trivial⟩,S2.pick [0] [_] (by decide) ⟨rfl,trivial⟩,?cd,?dm⟩⟩
  case cd=>omega
  case dm=>(intro q hq;omega)
 ·rintro m1 a1 w3 ⟨k,rfl,aY,S3,hk,hno⟩
  clear S2
  refine bX aY (c:=ML) rfl ?_
  clear aY a1
  have aon:=BG d
  refine U2 MK MJ rfl rfl rfl (U2 asE MI rfl rfl rfl (U0 rfl (ag 0 2 rfl rfl (af 2 rfl (cU rfl rfl rfl rfl rfl rfl mr) (af 3 rfl (bS rfl rfl rfl) (U5 rfl (ah [1,2,3,7,8,20] rfl (U3 ?_))))))))
  refine Uf asD asC rfl rfl rfl rfl (fun qJ=>?_) (fun qJ=>?_)
  ·refine Ue rfl (ah [1,2,3,7,8] rfl (U3 (U2 afJ asB rfl rfl rfl (Uc MH 1 rfl rfl rfl (U2 MG MF rfl rfl rfl (U2 asA ME rfl rfl rfl (U0 rfl (ag 0 2 rfl rfl ?_))))))))
   refine af 2 rfl (Ul (C:=(di 141)) k rfl rfl rfl kr (by first|rfl|omega) hr1 (by first|omega|(simp only[ls];omega))) ?_
   obtain⟨lY,hr2⟩:=hd1.2 k (by first|omega|(simp only[ls];omega))
   have H9:(ga (U7 d) k).length*16<=140737488355328:=hr2.room
   refine af 3 rfl (U4 rfl rfl iO rfl (hr1.cell S3.m (i:=k) (by first|omega|(simp only[ls];omega)) 0 rfl (congrArg (fun n=>some (Value.slice _ n _)) lY))) ?_
   refine af 4 rfl (cU rfl rfl rfl rfl rfl rfl iO) (af 5 rfl (jL rfl rfl rfl) (U5 rfl (ah [1,2,3,7,8,28] rfl (U3 ?_))))
   refine Uf asz asy rfl rfl rfl rfl (fun pQ=>?_) (fun pQ=>?_)
   ·refine bP rfl rfl (ah [1,2,3,7,8] rfl (U3 (U0 rfl (ag 0 1 rfl rfl (af 1 rfl (Ug rfl rfl rfl (by first|omega|(simp only[ls];omega))) ?_)))))
    refine ag 2 1 rfl rfl (U5 rfl (aO ?_))
    have hF:gw d i j (ga (U7 d) k)=false:=by unfold gw;rw[decide_eq_false_iff_not];omega
    intro au aq
    refine⟨_,?dQ,⟨k+1,rfl,aq.sub ⟨rfl,rfl,rfl,rfl,rfl,trivial⟩,S3.pick [0] [_] (by decide) ⟨rfl,trivial⟩,?cx,?dC⟩⟩
    case cx=>omega
    case dC=>(intro q hq;by_cases e:q=k;(subst e;exact hF);exact hno q (by omega))
    case dQ=>omega
   ·have kB:(ga (U7 d) k)∈U7 d:=iB (by omega)
    have AU:=Ch hab kB
    have ho0:okD d (ga (ga (U7 d) k) 0):=AU _ (iB (by omega))
    have x4:okD d (ga (ga (U7 d) k) 1):=AU _ (iB (by omega))
    have hp0:1<=(ga (ga (U7 d) k) 0).a/\(ga (ga (U7 d) k) 0).a<=2*(d.ae.length:Int):=ho0
    have hp1:1<=(ga (ga (U7 d) k) 1).a/\(ga (ga (U7 d) k) 1).a<=2*(d.ae.length:Int):=x4
    have hf2:=ana hab kB (by omega)
    unfold eQ at hf2
    refine Ue rfl (ah [1,2,3,7,8] rfl (U3 (U2 asx MD rfl rfl rfl ?_)))
    refine nE (fun au aM=>∃(vP:Nat) (RY:Nat),Env 97 [(1,.int .i64 i),(2,.int .i64 j),(3,.pointer (some ⟨aI,0,none⟩)),(7,.slice A1 vs1.length c1),(8,.int .i64 (k:Int)),(9,.pointer (some ⟨vP,0,none⟩)),(10,.pointer (some ⟨RY,0,none⟩))] au/\SH aM M1 X [Rs.box vP 26 [.int .i64 ((ga (ga (U7 d) k) 0).a),.bool ((ga (ga (U7 d) k) 0).b)],Rs.box RY 26 [.int .i64 ((ga (ga (U7 d) k) 1).a),.bool ((ga (ga (U7 d) k) 1).b)],Rs.box aI 24 [.slice aV d.ae.length aU,.int .i64 d.loops]]) ?_ ?_
    ·refine bM rfl (by kernel_rfl) S3 16 rfl ?_
     clear S3
     refine ai 0 15 rfl (by kernel_rfl) (fun _=>run_move rfl rfl) ?_
     refine ai 1 14 rfl (by kernel_rfl) (fun _=>run_move rfl rfl) ?_
     refine aj 2 13 rfl (by kernel_rfl) (fun _ _ _ hz Sz=>.inl (Ul (C:=(di 141)) k rfl rfl rfl kr (by first|rfl|omega) (hr1.mono hz) (by first|omega|(simp only[ls];omega)))) ?_
     obtain⟨nY,hr3⟩:=hd1.2 k (by first|omega|(simp only[ls];omega))
     have adh:(ga (U7 d) k).length*16<=140737488355328:=hr3.room
     refine aj 3 12 rfl (by kernel_rfl) (fun _ _ _ hz Sz=>.inl (U4 rfl rfl iO rfl ((hr1.mono hz).cell Sz.m (i:=k) (by first|omega|(simp only[ls];omega)) 0 rfl (congrArg (fun n=>some (Value.slice _ n _)) nY)))) ?_
     refine aj 4 11 rfl (by kernel_rfl) (fun _ _ _ hz Sz=>.inl (Ul (C:=cu) 0 rfl rfl rfl iF (by first|rfl|omega) (hr3.mono hz) (by first|omega|(simp only[ls];omega)))) ?_
     refine aj 5 10 rfl (by kernel_rfl) (fun _ _ _ hz Sz=>.inl (U8 (us:=[_,_]) rfl rfl aZ rfl cC ((hr3.mono hz).fU Sz.m (e:=0) (by first|omega|(simp only[ls];omega)) (j:=0) ⟨rfl,rfl,trivial⟩))) ?_
     refine ai 6 9 rfl (by kernel_rfl) (fun _=>run_move rfl rfl) ?_
     refine ai 7 8 rfl (by kernel_rfl) (fun _=>run_move rfl rfl) ?_
     refine aj 8 7 rfl (by kernel_rfl) (fun _ _ _ hz Sz=>.inl (Ul (C:=(di 141)) k rfl rfl rfl kr (by first|rfl|omega) (hr1.mono hz) (by first|omega|(simp only[ls];omega)))) ?_
     obtain⟨AZ,hr4⟩:=hd1.2 k (by first|omega|(simp only[ls];omega))
     have H8:(ga (U7 d) k).length*16<=140737488355328:=hr4.room
     refine aj 9 6 rfl (by kernel_rfl) (fun _ _ _ hz Sz=>.inl (U4 rfl rfl iO rfl ((hr1.mono hz).cell Sz.m (i:=k) (by first|omega|(simp only[ls];omega)) 0 rfl (congrArg (fun n=>some (Value.slice _ n _)) AZ)))) ?_
     refine aj 10 5 rfl (by kernel_rfl) (fun _ _ _ hz Sz=>.inl (Ul (C:=cu) 1 rfl rfl rfl iF (by first|rfl|omega) (hr4.mono hz) (by first|omega|(simp only[ls];omega)))) ?_
     refine aj 11 4 rfl (by kernel_rfl) (fun _ _ _ hz Sz=>.inl (U8 (us:=[_,_]) rfl rfl aZ rfl cC ((hr4.mono hz).fU Sz.m (e:=1) (by first|omega|(simp only[ls];omega)) (j:=0) ⟨rfl,rfl,trivial⟩))) ?_
     refine wK (i:=12) (j:=13) 3 rfl rfl (by kernel_rfl) rfl rfl rfl rfl (fun oZ dP=>?_) (fun oZ dP=>?_)
     ·refine(Uh (l:=[_,_]) rfl rfl rfl nN rfl dP ?_)
      intro aQ q9 cN;clear dP
      refine aP.grow [_] (Hp.le_refl _) cN ?_;clear cN
      change WA _ _ _ _ _ _ _ _ _ _ _ _ [_,_]
      refine Un (i:=13) 2 rfl (by kernel_rfl) rfl rfl (fun vA dz=>?_)
      refine(Uh (l:=[_,_]) rfl rfl rfl nN rfl dz ?_)
      intro bz q8 dE;clear dz
      refine aP.grow [_,_] (Hp.le_refl _) dE ?_;clear dE
      change WA _ _ _ _ _ _ _ _ _ _ _ _ [_,_,_]
      refine Un (i:=14) 1 rfl (by kernel_rfl) rfl rfl (fun vz cH=>?_)
      refine(U6 (i:=1) (us:=[_,_]) (l':=[_,_]) (H':=[_,_,_]) rfl rfl cH rfl rfl rfl rfl cC rfl rfl rfl rfl ?_)
      intro vw fY;clear cH
      refine aP.grow [_,_] (Hp.le_refl _) fY ?_;clear fY
      change WA _ _ _ _ _ _ _ _ _ _ _ _ [_,_,_]
      refine Un (i:=15) 0 rfl (by kernel_rfl) rfl rfl (fun ng dB=>?_)
      refine(U6 (i:=0) (us:=[_,_]) (l':=[_,_]) (H':=[_,_,_]) rfl rfl dB rfl rfl rfl rfl cC rfl rfl rfl rfl ?_)
      intro q7 eV;clear dB
      refine aP.grow [_,_] (Hp.le_refl _) eV ?_;clear eV
      change WA _ _ _ _ _ _ _ _ _ _ _ _ [_,_,_]
      refine Uu (by kernel_rfl) (fun vt lq=>?_)
      refine aO ?_
      intro au aq
      refine⟨_,_,aq.sub ⟨rfl,rfl,rfl,rfl,rfl,rfl,rfl,trivial⟩,lq.pick [1,0,2] [_,_,_] (by decide) ⟨rfl,rfl,rfl,trivial⟩⟩
     ·refine(Uh (l:=[_,_]) rfl rfl rfl nN rfl dP ?_)
      intro gZ vq fX;clear dP
      refine aP.grow [_] (Hp.le_refl _) fX ?_;clear fX
      change WA _ _ _ _ _ _ _ _ _ _ _ _ [_,_]
      refine Un (i:=12) 2 rfl (by kernel_rfl) rfl rfl (fun vp gL=>?_)
      refine(Uh (l:=[_,_]) rfl rfl rfl nN rfl gL ?_)
      intro iy pS dX;clear gL
      refine aP.grow [_,_] (Hp.le_refl _) dX ?_;clear dX
      change WA _ _ _ _ _ _ _ _ _ _ _ _ [_,_,_]
      refine Un (i:=14) 1 rfl (by kernel_rfl) rfl rfl (fun tq iW=>?_)
      refine(U6 (i:=0) (us:=[_,_]) (l':=[_,_]) (H':=[_,_,_]) rfl rfl iW rfl rfl rfl rfl cC rfl rfl rfl rfl ?_)
      intro E7 kJ;clear iW
      refine aP.grow [_,_] (Hp.le_refl _) kJ ?_;clear kJ
      change WA _ _ _ _ _ _ _ _ _ _ _ _ [_,_,_]
      refine Un (i:=15) 0 rfl (by kernel_rfl) rfl rfl (fun AF mh=>?_)
      refine(U6 (i:=1) (us:=[_,_]) (l':=[_,_]) (H':=[_,_,_]) rfl rfl mh rfl rfl rfl rfl cC rfl rfl rfl rfl ?_)
      intro xR dV;clear mh
      refine aP.grow [_,_] (Hp.le_refl _) dV ?_;clear dV
      change WA _ _ _ _ _ _ _ _ _ _ _ _ [_,_,_]
      refine Uu (by kernel_rfl) (fun xQ il=>?_)
      refine aO ?_
      intro au aq
      refine⟨_,_,aq.sub ⟨rfl,rfl,rfl,rfl,rfl,rfl,rfl,trivial⟩,il.pick [0,1,2] [_,_,_] (by decide) ⟨rfl,rfl,rfl,trivial⟩⟩
    ·rintro a2 w4 ⟨vP,RY,cB,S4⟩
     clear S3
     refine nM cB ?_
     clear cB a2
     refine U3 (U2 asw MC rfl rfl rfl (bM rfl (by kernel_rfl) S4 16 rfl ?_))
     clear S4
     refine aj 0 15 rfl (by kernel_rfl) (fun _ _ _ hz Sz=>.inl (U8 (us:=[_,_]) rfl rfl ay rfl aA (Sz.suf.aw (i:=2) rfl ⟨rfl,rfl,trivial⟩))) ?_
     refine ai 1 14 rfl (by kernel_rfl) (fun _=>U1 rfl rfl aZ rfl (aC) (aB)) ?_
     refine aj 2 13 rfl (by kernel_rfl) (fun _ _ _ hz Sz=>.inl (U4 rfl rfl av rfl (Sz.suf.ar (i:=0) rfl rfl))) ?_
     refine ai 3 12 rfl (by kernel_rfl) (fun _=>U1 rfl rfl aZ rfl (gI) (gH)) ?_
     refine aj 4 11 rfl (by kernel_rfl) (fun _ _ _ hz Sz=>.inl (U4 rfl rfl dL rfl (Sz.suf.ar (i:=0) rfl rfl))) ?_
     refine aj 5 10 rfl (by kernel_rfl) (fun _ _ _ hz Sz=>Ur rfl rfl rfl rfl rfl mE Sz (mP d ((ga (ga (U7 d) k) 0).a) ((ga (ga (U7 d) k) 0).b) ((az.mono (Hp.Ua hz Sz.mx)).mono Sz.Uy) Sz.aD)) ?_
     refine ai 6 9 rfl (by kernel_rfl) (fun _=>ma rfl rfl dH rfl av rfl rfl) ?_
     refine aj 7 8 rfl (by kernel_rfl) (fun _ _ _ hz Sz=>.inl (U8 (us:=[_,_]) rfl rfl ay rfl aA (Sz.suf.aw (i:=2) rfl ⟨rfl,rfl,trivial⟩))) ?_
     refine ai 8 7 rfl (by kernel_rfl) (fun _=>U1 rfl rfl aZ rfl (aC) (aB)) ?_
     refine aj 9 6 rfl (by kernel_rfl) (fun _ _ _ hz Sz=>.inl (U4 rfl rfl av rfl (Sz.suf.ar (i:=1) rfl rfl))) ?_
     refine ai 10 5 rfl (by kernel_rfl) (fun _=>U1 rfl rfl aZ rfl (gI) (gH)) ?_
     refine aj 11 4 rfl (by kernel_rfl) (fun _ _ _ hz Sz=>.inl (U4 rfl rfl dL rfl (Sz.suf.ar (i:=1) rfl rfl))) ?_
     refine aj 12 3 rfl (by kernel_rfl) (fun _ _ _ hz Sz=>Ur rfl rfl rfl rfl rfl mE Sz (mP d ((ga (ga (U7 d) k) 1).a) ((ga (ga (U7 d) k) 1).b) ((az.mono (Hp.Ua hz Sz.mx)).mono Sz.Uy) Sz.aD)) ?_
     refine ai 13 2 rfl (by kernel_rfl) (fun _=>ma rfl rfl dH rfl av rfl rfl) ?_
     refine ai 14 1 rfl (by kernel_rfl) (fun _=>run_assign rfl rfl) ?_
     refine ai 15 0 rfl (by kernel_rfl) (fun _=>run_assign rfl rfl) ?_
     refine Uu (by kernel_rfl) (fun E3 ou=>?_)
     refine ah [1,2,3,7,8,9,10,11,12] rfl (U3 (U2 asv MB rfl rfl rfl (bM rfl (by kernel_rfl) ou 10 rfl ?_)))
     clear ou
     refine aj 0 9 rfl (by kernel_rfl) (fun _ _ _ hz Sz=>.inl (U8 (us:=[_,_]) rfl rfl ay rfl aA (Sz.suf.aw (i:=2) rfl ⟨rfl,rfl,trivial⟩))) ?_
     refine ai 1 8 rfl (by kernel_rfl) (fun _=>U1 rfl rfl aZ rfl (aC) (aB)) ?_
     refine aj 2 7 rfl (by kernel_rfl) (fun _ _ _ hz Sz=>.inl (U4 rfl rfl av rfl (Sz.suf.ar (i:=0) rfl rfl))) ?_
     refine aj 3 6 rfl (by kernel_rfl) (fun _ _ _ hz Sz=>Ur rfl rfl rfl rfl rfl JC Sz (F5 d ((ga (ga (U7 d) k) 0).a) ((az.mono (Hp.Ua hz Sz.mx)).mono Sz.Uy) (hab) (by first|assumption|omega) Sz.aD)) ?_
     refine aj 4 5 rfl (by kernel_rfl) (fun _ _ _ hz Sz=>.inl (U8 (us:=[_,_]) rfl rfl ay rfl aA (Sz.suf.aw (i:=2) rfl ⟨rfl,rfl,trivial⟩))) ?_
     refine ai 5 4 rfl (by kernel_rfl) (fun _=>U1 rfl rfl aZ rfl (aC) (aB)) ?_
     refine aj 6 3 rfl (by kernel_rfl) (fun _ _ _ hz Sz=>.inl (U4 rfl rfl av rfl (Sz.suf.ar (i:=1) rfl rfl))) ?_
     refine aj 7 2 rfl (by kernel_rfl) (fun _ _ _ hz Sz=>Ur rfl rfl rfl rfl rfl JC Sz (F5 d ((ga (ga (U7 d) k) 1).a) ((az.mono (Hp.Ua hz Sz.mx)).mono Sz.Uy) (hab) (by first|assumption|omega) Sz.aD)) ?_
     refine ai 8 1 rfl (by kernel_rfl) (fun _=>run_assign rfl rfl) ?_
     refine ai 9 0 rfl (by kernel_rfl) (fun _=>run_assign rfl rfl) ?_
     refine Uu (by kernel_rfl) (fun Q6 fP=>?_)
     refine ah [1,2,3,7,8,11,12,13,14] rfl (U3 (U2 asu MA rfl rfl rfl (U0 rfl (ag 0 2 rfl rfl (af 2 rfl (bR rfl rfl rfl) (ag 3 1 rfl rfl ?_))))))
     refine jZ (k':=8) (d:=70) (decide ((((Ud d ((ga (ga (U7 d) k) 0).a) ((ga (ga (U7 d) k) 0).b)).1:Int)=i)/\(((Ud d ((ga (ga (U7 d) k) 1).a) ((ga (ga (U7 d) k) 1).b)).1:Int)=j))) [(1,_),(2,_),(3,_),(7,_),(8,_),(11,_),(12,_),(13,_),(14,_)] ⟨rfl,rfl,rfl,rfl,rfl,rfl,rfl,rfl,rfl,trivial⟩ (fun aeA=>?_) ?_
     ·refine Uw (t:=66) rfl (fun zM=>?_) (fun zM=>?_)
      ·refine ag 4 2 rfl rfl (aH 6 7 rfl rfl rfl rfl rfl rfl rfl rfl (Ub rfl rfl (bR rfl rfl rfl) (ag 7 1 rfl rfl ?_)))
       exact cy 70 (.bool (decide ((((Ud d ((ga (ga (U7 d) k) 0).a) ((ga (ga (U7 d) k) 0).b)).1:Int)=i)/\(((Ud d ((ga (ga (U7 d) k) 1).a) ((ga (ga (U7 d) k) 1).b)).1:Int)=j)))) rfl (congrArg Value.bool (decide_eq_decide.2 ⟨fun h=>⟨zM,h⟩,fun h=>h.2⟩)) (fx [(70,_),(1,_),(2,_),(3,_),(7,_),(8,_),(11,_),(12,_),(13,_),(14,_)] ⟨rfl,rfl,rfl,rfl,rfl,rfl,rfl,rfl,rfl,rfl,trivial⟩ aeA)
      ·refine ag 4 4 rfl rfl ?_
       exact cy 70 (.bool (decide ((((Ud d ((ga (ga (U7 d) k) 0).a) ((ga (ga (U7 d) k) 0).b)).1:Int)=i)/\(((Ud d ((ga (ga (U7 d) k) 1).a) ((ga (ga (U7 d) k) 1).b)).1:Int)=j)))) rfl (congrArg Value.bool (decide_eq_false (fun h=>zM h.1)).symm) (fx [(70,_),(1,_),(2,_),(3,_),(7,_),(8,_),(11,_),(12,_),(13,_),(14,_)] ⟨rfl,rfl,rfl,rfl,rfl,rfl,rfl,rfl,rfl,rfl,trivial⟩ aeA)
     ·refine ag 8 1 rfl rfl ?_
      refine jZ (k':=18) (d:=80) (decide (((((Ud d ((ga (ga (U7 d) k) 0).a) ((ga (ga (U7 d) k) 0).b)).1:Int)=i)/\(((Ud d ((ga (ga (U7 d) k) 1).a) ((ga (ga (U7 d) k) 1).b)).1:Int)=j))\/((((Ud d ((ga (ga (U7 d) k) 0).a) ((ga (ga (U7 d) k) 0).b)).1:Int)=j)/\(((Ud d ((ga (ga (U7 d) k) 1).a) ((ga (ga (U7 d) k) 1).b)).1:Int)=i)))) [(1,_),(2,_),(3,_),(7,_),(8,_),(11,_),(12,_),(13,_),(14,_)] ⟨rfl,rfl,rfl,rfl,rfl,rfl,rfl,rfl,rfl,trivial⟩ (fun aex=>?_) ?_
      ·refine Uw (t:=71) rfl (fun zL=>?_) (fun zL=>?_)
       ·refine ag 9 6 rfl rfl (ag 15 3 rfl rfl ?_)
        exact cy 80 (.bool (decide (((((Ud d ((ga (ga (U7 d) k) 0).a) ((ga (ga (U7 d) k) 0).b)).1:Int)=i)/\(((Ud d ((ga (ga (U7 d) k) 1).a) ((ga (ga (U7 d) k) 1).b)).1:Int)=j))\/((((Ud d ((ga (ga (U7 d) k) 0).a) ((ga (ga (U7 d) k) 0).b)).1:Int)=j)/\(((Ud d ((ga (ga (U7 d) k) 1).a) ((ga (ga (U7 d) k) 1).b)).1:Int)=i))))) rfl (congrArg Value.bool (decide_eq_true (.inl zL)).symm) (fx [(80,_),(1,_),(2,_),(3,_),(7,_),(8,_),(11,_),(12,_),(13,_),(14,_)] ⟨rfl,rfl,rfl,rfl,rfl,rfl,rfl,rfl,rfl,rfl,trivial⟩ aex)
       ·refine ag 9 2 rfl rfl (aH 11 12 rfl rfl rfl rfl rfl rfl rfl rfl (Ub rfl rfl (bR rfl rfl rfl) (ag 12 1 rfl rfl ?_)))
        refine jZ (k':=17) (d:=79) (decide ((((Ud d ((ga (ga (U7 d) k) 0).a) ((ga (ga (U7 d) k) 0).b)).1:Int)=j)/\(((Ud d ((ga (ga (U7 d) k) 1).a) ((ga (ga (U7 d) k) 1).b)).1:Int)=i))) [(1,_),(2,_),(3,_),(7,_),(8,_),(11,_),(12,_),(13,_),(14,_),(71,_)] ⟨rfl,rfl,rfl,rfl,rfl,rfl,rfl,rfl,rfl,rfl,trivial⟩ (fun aey=>?_) ?_
        ·refine Uw (t:=75) rfl (fun Jc=>?_) (fun Jc=>?_)
         ·refine ag 13 2 rfl rfl (aH 15 16 rfl rfl rfl rfl rfl rfl rfl rfl (Ub rfl rfl (bR rfl rfl rfl) (ag 16 1 rfl rfl ?_)))
          exact cy 79 (.bool (decide ((((Ud d ((ga (ga (U7 d) k) 0).a) ((ga (ga (U7 d) k) 0).b)).1:Int)=j)/\(((Ud d ((ga (ga (U7 d) k) 1).a) ((ga (ga (U7 d) k) 1).b)).1:Int)=i)))) rfl (congrArg Value.bool (decide_eq_decide.2 ⟨fun h=>⟨Jc,h⟩,fun h=>h.2⟩)) (fx [(79,_),(1,_),(2,_),(3,_),(7,_),(8,_),(11,_),(12,_),(13,_),(14,_),(71,_)] ⟨rfl,rfl,rfl,rfl,rfl,rfl,rfl,rfl,rfl,rfl,rfl,trivial⟩ aey)
         ·refine ag 13 4 rfl rfl ?_
          exact cy 79 (.bool (decide ((((Ud d ((ga (ga (U7 d) k) 0).a) ((ga (ga (U7 d) k) 0).b)).1:Int)=j)/\(((Ud d ((ga (ga (U7 d) k) 1).a) ((ga (ga (U7 d) k) 1).b)).1:Int)=i)))) rfl (congrArg Value.bool (decide_eq_false (fun h=>Jc h.1)).symm) (fx [(79,_),(1,_),(2,_),(3,_),(7,_),(8,_),(11,_),(12,_),(13,_),(14,_),(71,_)] ⟨rfl,rfl,rfl,rfl,rfl,rfl,rfl,rfl,rfl,rfl,rfl,trivial⟩ aey)
        ·refine ag 17 1 rfl rfl ?_
         exact cy 80 (.bool (decide (((((Ud d ((ga (ga (U7 d) k) 0).a) ((ga (ga (U7 d) k) 0).b)).1:Int)=i)/\(((Ud d ((ga (ga (U7 d) k) 1).a) ((ga (ga (U7 d) k) 1).b)).1:Int)=j))\/((((Ud d ((ga (ga (U7 d) k) 0).a) ((ga (ga (U7 d) k) 0).b)).1:Int)=j)/\(((Ud d ((ga (ga (U7 d) k) 1).a) ((ga (ga (U7 d) k) 1).b)).1:Int)=i))))) rfl (congrArg Value.bool (decide_eq_decide.2 ⟨.inr,fun h=>h.resolve_left zL⟩)) (fx [(80,_),(1,_),(2,_),(3,_),(7,_),(8,_),(11,_),(12,_),(13,_),(14,_)] ⟨rfl,rfl,rfl,rfl,rfl,rfl,rfl,rfl,rfl,rfl,trivial⟩ aex)
      ·refine ag 18 1 rfl rfl ?_
       refine jZ (k':=34) (d:=96) (decide ((((((Ud d ((ga (ga (U7 d) k) 0).a) ((ga (ga (U7 d) k) 0).b)).1:Int)=i)/\(((Ud d ((ga (ga (U7 d) k) 1).a) ((ga (ga (U7 d) k) 1).b)).1:Int)=j))\/((((Ud d ((ga (ga (U7 d) k) 0).a) ((ga (ga (U7 d) k) 0).b)).1:Int)=j)/\(((Ud d ((ga (ga (U7 d) k) 1).a) ((ga (ga (U7 d) k) 1).b)).1:Int)=i)))/\((((hgt d ((ga (ga (U7 d) k) 0).a):Int)=2)/\((hgt d ((ga (ga (U7 d) k) 1).a):Int)=0))\/(((hgt d ((ga (ga (U7 d) k) 0).a):Int)=0)/\((hgt d ((ga (ga (U7 d) k) 1).a):Int)=2))))) [(1,_),(2,_),(3,_),(7,_),(8,_),(13,_),(14,_)] ⟨rfl,rfl,rfl,rfl,rfl,rfl,rfl,trivial⟩ (fun ayH=>?_) ?_
       ·refine Uw (t:=81) rfl (fun Ja=>?_) (fun Ja=>?_)
        ·refine ag 19 1 rfl rfl (aH 20 21 rfl rfl rfl rfl rfl rfl rfl rfl (Ub rfl rfl (bR rfl rfl rfl) (ag 21 1 rfl rfl ?_)))
         refine jZ (k':=25) (d:=87) (decide (((hgt d ((ga (ga (U7 d) k) 0).a):Int)=2)/\((hgt d ((ga (ga (U7 d) k) 1).a):Int)=0))) [(1,_),(2,_),(3,_),(7,_),(8,_),(13,_),(14,_),(81,_)] ⟨rfl,rfl,rfl,rfl,rfl,rfl,rfl,rfl,trivial⟩ (fun aeu=>?_) ?_
         ·refine Uw (t:=84) rfl (fun I9=>?_) (fun I9=>?_)
          ·refine ag 22 1 rfl rfl (aH 23 24 rfl rfl rfl rfl rfl rfl rfl rfl (Ub rfl rfl (bR rfl rfl rfl) (ag 24 1 rfl rfl ?_)))
           exact cy 87 (.bool (decide (((hgt d ((ga (ga (U7 d) k) 0).a):Int)=2)/\((hgt d ((ga (ga (U7 d) k) 1).a):Int)=0)))) rfl (congrArg Value.bool (decide_eq_decide.2 ⟨fun h=>⟨I9,h⟩,fun h=>h.2⟩)) (fx [(87,_),(1,_),(2,_),(3,_),(7,_),(8,_),(13,_),(14,_),(81,_)] ⟨rfl,rfl,rfl,rfl,rfl,rfl,rfl,rfl,rfl,trivial⟩ aeu)
          ·refine ag 22 3 rfl rfl ?_
           exact cy 87 (.bool (decide (((hgt d ((ga (ga (U7 d) k) 0).a):Int)=2)/\((hgt d ((ga (ga (U7 d) k) 1).a):Int)=0)))) rfl (congrArg Value.bool (decide_eq_false (fun h=>I9 h.1)).symm) (fx [(87,_),(1,_),(2,_),(3,_),(7,_),(8,_),(13,_),(14,_),(81,_)] ⟨rfl,rfl,rfl,rfl,rfl,rfl,rfl,rfl,rfl,trivial⟩ aeu)
         ·refine ag 25 1 rfl rfl ?_
          refine jZ (k':=33) (d:=95) (decide ((((hgt d ((ga (ga (U7 d) k) 0).a):Int)=2)/\((hgt d ((ga (ga (U7 d) k) 1).a):Int)=0))\/(((hgt d ((ga (ga (U7 d) k) 0).a):Int)=0)/\((hgt d ((ga (ga (U7 d) k) 1).a):Int)=2)))) [(1,_),(2,_),(3,_),(7,_),(8,_),(13,_),(14,_),(81,_)] ⟨rfl,rfl,rfl,rfl,rfl,rfl,rfl,rfl,trivial⟩ (fun aes=>?_) ?_
          ·refine Uw (t:=88) rfl (fun I8=>?_) (fun I8=>?_)
           ·refine ag 26 6 rfl rfl (ag 32 1 rfl rfl ?_)
            exact cy 95 (.bool (decide ((((hgt d ((ga (ga (U7 d) k) 0).a):Int)=2)/\((hgt d ((ga (ga (U7 d) k) 1).a):Int)=0))\/(((hgt d ((ga (ga (U7 d) k) 0).a):Int)=0)/\((hgt d ((ga (ga (U7 d) k) 1).a):Int)=2))))) rfl (congrArg Value.bool (decide_eq_true (.inl I8)).symm) (fx [(95,_),(1,_),(2,_),(3,_),(7,_),(8,_),(13,_),(14,_),(81,_)] ⟨rfl,rfl,rfl,rfl,rfl,rfl,rfl,rfl,rfl,trivial⟩ aes)
           ·refine ag 26 1 rfl rfl (aH 27 28 rfl rfl rfl rfl rfl rfl rfl rfl (Ub rfl rfl (bR rfl rfl rfl) (ag 28 1 rfl rfl ?_)))
            refine jZ (k':=32) (d:=94) (decide (((hgt d ((ga (ga (U7 d) k) 0).a):Int)=0)/\((hgt d ((ga (ga (U7 d) k) 1).a):Int)=2))) [(1,_),(2,_),(3,_),(7,_),(8,_),(13,_),(14,_),(81,_),(88,_)] ⟨rfl,rfl,rfl,rfl,rfl,rfl,rfl,rfl,rfl,trivial⟩ (fun aet=>?_) ?_
            ·refine Uw (t:=91) rfl (fun I7=>?_) (fun I7=>?_)
             ·refine ag 29 1 rfl rfl (aH 30 31 rfl rfl rfl rfl rfl rfl rfl rfl (Ub rfl rfl (bR rfl rfl rfl) (ag 31 1 rfl rfl ?_)))
              exact cy 94 (.bool (decide (((hgt d ((ga (ga (U7 d) k) 0).a):Int)=0)/\((hgt d ((ga (ga (U7 d) k) 1).a):Int)=2)))) rfl (congrArg Value.bool (decide_eq_decide.2 ⟨fun h=>⟨I7,h⟩,fun h=>h.2⟩)) (fx [(94,_),(1,_),(2,_),(3,_),(7,_),(8,_),(13,_),(14,_),(81,_),(88,_)] ⟨rfl,rfl,rfl,rfl,rfl,rfl,rfl,rfl,rfl,rfl,trivial⟩ aet)
             ·refine ag 29 3 rfl rfl ?_
              exact cy 94 (.bool (decide (((hgt d ((ga (ga (U7 d) k) 0).a):Int)=0)/\((hgt d ((ga (ga (U7 d) k) 1).a):Int)=2)))) rfl (congrArg Value.bool (decide_eq_false (fun h=>I7 h.1)).symm) (fx [(94,_),(1,_),(2,_),(3,_),(7,_),(8,_),(13,_),(14,_),(81,_),(88,_)] ⟨rfl,rfl,rfl,rfl,rfl,rfl,rfl,rfl,rfl,rfl,trivial⟩ aet)
            ·refine ag 32 1 rfl rfl ?_
             exact cy 95 (.bool (decide ((((hgt d ((ga (ga (U7 d) k) 0).a):Int)=2)/\((hgt d ((ga (ga (U7 d) k) 1).a):Int)=0))\/(((hgt d ((ga (ga (U7 d) k) 0).a):Int)=0)/\((hgt d ((ga (ga (U7 d) k) 1).a):Int)=2))))) rfl (congrArg Value.bool (decide_eq_decide.2 ⟨.inr,fun h=>h.resolve_left I8⟩)) (fx [(95,_),(1,_),(2,_),(3,_),(7,_),(8,_),(13,_),(14,_),(81,_)] ⟨rfl,rfl,rfl,rfl,rfl,rfl,rfl,rfl,rfl,trivial⟩ aes)
          ·refine ag 33 1 rfl rfl (U5 rfl (ah [1,2,3,7,8,96] rfl (U3 ?_)))
           refine Uf D6 Mz rfl rfl rfl rfl (fun jE=>?_) (fun jE=>?_)
           ·refine U2 afI afH rfl rfl rfl (U0 rfl (ag 0 1 rfl rfl (U5 rfl (ah [6] rfl (U3 (Uk hC [_] rfl rfl ⟨rfl,trivial⟩ ?_))))))
            refine⟨_,rfl,_,aL,(fP.pick [] [] (by decide) trivial),?_⟩
            have hT:gw d i j (ga (U7 d) k)=true:=by unfold gw;rw[decide_eq_true_iff];omega
            show Value.bool _=Value.bool _
            rw[List.any_eq_true.2 ⟨_,kB,hT⟩]
           ·refine Ue rfl (bj (ah [1,2,3,7,8] rfl (U3 (U0 rfl (ag 0 1 rfl rfl (af 1 rfl (Ug rfl rfl rfl (by first|omega|(simp only[ls];omega))) ?_))))))
            refine ag 2 1 rfl rfl (U5 rfl (aO ?_))
            have hF:gw d i j (ga (U7 d) k)=false:=by unfold gw;rw[decide_eq_false_iff_not];omega
            intro au aq
            refine⟨_,?kv,⟨k+1,rfl,aq.sub ⟨rfl,rfl,rfl,rfl,rfl,trivial⟩,fP.pick [2] [_] (by decide) ⟨rfl,trivial⟩,?fC,?gp⟩⟩
            case fC=>omega
            case gp=>(intro q hq;by_cases e:q=k;(subst e;exact hF);exact hno q (by omega))
            case kv=>omega
        ·refine ag 19 6 rfl rfl (ag 25 6 rfl rfl (ag 31 3 rfl rfl (U5 rfl (ah [1,2,3,7,8,96] rfl (U3 (jz Mz rfl rfl rfl (Ue rfl (bj ?_))))))))
         refine ah [1,2,3,7,8] rfl (U3 (U0 rfl (ag 0 1 rfl rfl (af 1 rfl (Ug rfl rfl rfl (by first|omega|(simp only[ls];omega))) ?_))))
         refine ag 2 1 rfl rfl (U5 rfl (aO ?_))
         have hF:gw d i j (ga (U7 d) k)=false:=by unfold gw;rw[decide_eq_false_iff_not];omega
         intro au aq
         refine⟨_,?ku,⟨k+1,rfl,aq.sub ⟨rfl,rfl,rfl,rfl,rfl,trivial⟩,fP.pick [2] [_] (by decide) ⟨rfl,trivial⟩,?gW,?iY⟩⟩
         case gW=>omega
         case iY=>(intro q hq;by_cases e:q=k;(subst e;exact hF);exact hno q (by omega))
         case ku=>omega
       ·refine U5 rfl (ah [1,2,3,7,8,96] rfl (U3 ?_))
        refine Uf D6 Mz rfl rfl rfl rfl (fun jE=>?_) (fun jE=>?_)
        ·refine U2 afI afH rfl rfl rfl (U0 rfl (ag 0 1 rfl rfl (U5 rfl (ah [6] rfl (U3 (Uk hC [_] rfl rfl ⟨rfl,trivial⟩ ?_))))))
         refine⟨_,rfl,_,aL,(fP.pick [] [] (by decide) trivial),?_⟩
         have hT:gw d i j (ga (U7 d) k)=true:=by unfold gw;rw[decide_eq_true_iff];omega
         show Value.bool _=Value.bool _
         rw[List.any_eq_true.2 ⟨_,kB,hT⟩]
        ·refine Ue rfl (bj (ah [1,2,3,7,8] rfl (U3 (U0 rfl (ag 0 1 rfl rfl (af 1 rfl (Ug rfl rfl rfl (by first|omega|(simp only[ls];omega))) ?_))))))
         refine ag 2 1 rfl rfl (U5 rfl (aO ?_))
         have hF:gw d i j (ga (U7 d) k)=false:=by unfold gw;rw[decide_eq_false_iff_not];omega
         intro au aq
         refine⟨_,?lL,⟨k+1,rfl,aq.sub ⟨rfl,rfl,rfl,rfl,rfl,trivial⟩,fP.pick [2] [_] (by decide) ⟨rfl,trivial⟩,?iX,?ki⟩⟩
         case iX=>omega
         case ki=>(intro q hq;by_cases e:q=k;(subst e;exact hF);exact hno q (by omega))
         case lL=>omega
  ·refine bP rfl rfl (bN [] trivial (U3 (U2 ast ass rfl rfl rfl (U0 rfl (ag 0 1 rfl rfl (U5 rfl (U3 (Uk hC [_] rfl rfl ⟨rfl,trivial⟩ ?_))))))))
   refine⟨_,rfl,_,aL,(S3.pick [] [] (by decide) trivial),?_⟩
   show Value.bool _=Value.bool _
   rw[List.any_eq_false.2 (fun x hx=>by obtain⟨q,hq,rfl⟩:=List.mem_iff_getElem.1 hx;rw[<-eo hq,hno q (by omega)];decide)]
noncomputable def My:=Tryz.f39.body.getD .skip
def asr:=cL My
def Mx:=cR My
def asq:=cL Mx
def Mw:=cR Mx
def Mu:=cL Mw
def Mt:=cR Mw
def asp:=cL Mu
def Ms:=cR Mu
def D5:=cL Ms
def aso:=cR Ms
def afG:=cL D5
def afF:=cR D5
def asn:=cL Mt
def Mr:=cR Mt
def Mq:=cL Mr
def Mp:=cR Mr
def asl:=cL Mq
def Mn:=cR Mq
def Mm:=cL Mn
def asj:=cR Mn
def asi:=cL Mm
def ash:=cR Mm
def asf:=cL Mp
def Ml:=cR Mp
def ase:=cL Ml
def Mk:=cR Ml
def Mj:=cL Mk
def Mi:=cR Mk
def asc:=cL Mj
def afE:=cR Mj
def afD:=cL afE
def Mh:=cL afD
def Mg:=cL Mh
def Mf:=cR Mh
def asb:=cL Mg
def Me:=cR Mg
def asa:=cL Me
def ar9:=cR Me
def afC:=cL Mf
def ar8:=cR Mf
def Md:=cL afC
def ar7:=cL Md
def ar6:=cR Md
def Mc:=cL Mi
def L9:=cR Mi
def ar5:=cL Mc
def L8:=cR Mc
def sU:=cL L8
def ar4:=cR L8
def xx:=cL sU
def xw:=cR sU
def ar3:=cL L9
def L6:=cR L9
def L5:=cL L6
def L4:=cR L6
def ar2:=cL L5
def afB:=cR L5
def afA:=cL afB
def L3:=cL afA
def LZ:=cL L3
def LY:=cR L3
def ar1:=cL LZ
def LX:=cR LZ
def ar0:=cL LX
def arZ:=cR LX
def afz:=cL LY
def arY:=cR LY
def LW:=cL afz
def arX:=cL LW
def LV:=cR LW
def arW:=cL LV
def LU:=cR LV
def arV:=cL LU
def LS:=cR LU
def arU:=cL LS
def LR:=cR LS
def arT:=cL LR
def LQ:=cR LR
def arS:=cL LQ
def arR:=cR LQ
def arQ:=cL L4
def arP:=cR L4
set_option maxHeartbeats 2000000 in
set_option maxRecDepth 10000 in
theorem ahU{w:World}{M:Hp}{X:Fr}(d:Dg){aV:Option Addr}{aU:Nat}(m:Mv)(az:aG aF (M.un X.h) aV aU d.ae)(hn:d.ae.length<=16)(hab:aN d=true)(S:SH w M X []):Ct Tryz.prog 39 [.agg [.slice aV d.ae.length aU,.int .i64 d.loops].toArray,.int .i64 m.at_] w M X (rO (kA (iu d m) (rh d m))):=by
 unfold Ct
 have gV:d.ae.length*40<=140737488355328:=az.room
 refine Up (b:=My) Tryz.func39 rfl Tryz.ntmps39 rfl (fun C hC=>(bq [(0,_),(1,_)] ⟨rfl,rfl,trivial⟩ (U2 asr Mx rfl rfl rfl (U0 rfl (ak 0 1 rfl rfl rfl (bE (l:=[_,_]) rfl rfl rfl rfl rfl S ?_))))))
 intro aI w1 S1;clear S
 refine ak 1 2 rfl rfl rfl (Uh (l:=[_,_]) rfl rfl rfl fR rfl S1 ?_)
 intro aQ w2 S2;clear S1
 refine ag 2 1 rfl rfl (U5 rfl (ah [1,2,4] rfl (U3 (U2 asq Mw rfl rfl rfl (U0 rfl (af 0 rfl (U8 (us:=[_,_]) rfl rfl ay rfl aA (S2.aw (i:=1) rfl ⟨rfl,rfl,trivial⟩)) (ak 1 2 rfl rfl rfl (eZ rfl rfl rfl rfl rfl rfl rfl DM S2 (BU d (az.mono S2.Uy) (hn) (hab) S2.aD) ?_))))))))
 intro E8 w3 M1 aL S3 qM;clear S2
 replace az:=az.mono (Hp.Ua aL S3.mx)
 obtain⟨A1,c1,vs1,rfl,hr1,hd1⟩:=qM
 have adu:=hd1.1
 refine ag 2 1 rfl rfl (U5 rfl (ah [1,2,4,6] rfl (U3 (U2 Mu Mt rfl rfl rfl (U2 asp Ms rfl rfl rfl (U0 rfl (ag 0 1 rfl rfl (af 1 rfl (bS rfl rfl rfl) ?_))))))))
 refine ag 2 1 rfl rfl ?_
 refine Uw (t:=22) rfl (fun aoN=>?_) (fun aoN=>?_)
 ·refine ag 3 5 rfl rfl (U5 rfl (ah [1,2,4,6,27] rfl (U3 (fN D5 rfl rfl rfl (U2 afG afF rfl rfl rfl (U0 rfl (af 0 rfl (run_build (l:=[_,_]) rfl rfl dI rfl rfl) (ak 1 2 rfl rfl rfl (U6 (i:=0) (us:=[_,_]) (l':=[_,_]) (H':=[_,_]) rfl rfl S3 rfl rfl rfl rfl aA rfl rfl rfl rfl ?_)))))))))
  intro w4 S4;clear S3
  refine ag 2 1 rfl rfl (U5 rfl (ah [4,5] rfl (U3 (Uk hC [_,_] rfl rfl ⟨⟨_,rfl,Um (us:=[_,_]) ay rfl aA (S4.aw (i:=0) rfl ⟨rfl,rfl,trivial⟩)⟩,rfl,trivial⟩ ?_))))
  refine⟨_,rfl,_,aL,(S4.pick [] [] (by decide) trivial),?_⟩
  rw[fG (c:=3) (by unfold iu;rw[if_neg (by omega)]) (by decide)]
  exact eT 3
 ·refine ag 3 2 rfl rfl (aH 5 6 rfl rfl rfl rfl rfl rfl rfl rfl (Ub rfl rfl (cU rfl rfl rfl rfl rfl rfl mr) (aH 6 7 rfl rfl rfl rfl rfl rfl rfl rfl (Ub rfl rfl (lg rfl rfl rfl) (ag 7 1 rfl rfl (U5 rfl (ah [1,2,4,6,27] rfl (U3 ?_))))))))
  refine Uf D5 aso rfl rfl rfl rfl (fun zT=>?_) (fun zT=>?_)
  ·refine U2 afG afF rfl rfl rfl (U0 rfl (af 0 rfl (run_build (l:=[_,_]) rfl rfl dI rfl rfl) (ak 1 2 rfl rfl rfl (U6 (i:=0) (us:=[_,_]) (l':=[_,_]) (H':=[_,_]) rfl rfl S3 rfl rfl rfl rfl aA rfl rfl rfl rfl ?_))))
   intro w5 S5;clear S3
   refine ag 2 1 rfl rfl (U5 rfl (ah [4,5] rfl (U3 (Uk hC [_,_] rfl rfl ⟨⟨_,rfl,Um (us:=[_,_]) ay rfl aA (S5.aw (i:=0) rfl ⟨rfl,rfl,trivial⟩)⟩,rfl,trivial⟩ ?_))))
   refine⟨_,rfl,_,aL,(S5.pick [] [] (by decide) trivial),?_⟩
   rw[fG (c:=3) (by unfold iu;rw[if_neg (by omega)]) (by decide)]
   exact eT 3
  ·refine Ue rfl (ah [1,2,4,6] rfl (U3 (U2 asn Mr rfl rfl rfl ?_)))
   have gN:0<=m.at_/\m.at_<((U7 d).length:Int):=by omega
   have kB:(ga (U7 d) m.at_.toNat)∈U7 d:=iB (by omega)
   have hok:∀x∈(ga (U7 d) m.at_.toNat),okD d x:=Ch hab kB
   refine U0 rfl (ag 0 2 rfl rfl (cy 30 (.int .i64 ((m.at_.toNat:Nat):Int)) rfl (int_eq (by omega)) ?_))
   refine af 2 rfl (Ul (C:=(di 141)) m.at_.toNat rfl rfl rfl kr (by first|rfl|omega) hr1 (by first|omega|(simp only[ls];omega))) ?_
   obtain⟨lY,hr2⟩:=hd1.2 m.at_.toNat (by first|omega|(simp only[ls];omega))
   have H9:(ga (U7 d) m.at_.toNat).length*16<=140737488355328:=hr2.room
   refine af 3 rfl (U4 rfl rfl iO rfl (hr1.cell S3.m (i:=m.at_.toNat) (by first|omega|(simp only[ls];omega)) 0 rfl (congrArg (fun n=>some (Value.slice _ n _)) lY))) ?_
   refine ag 4 1 rfl rfl (U5 rfl (ah [2,4,7] rfl (U3 (U2 Mq Mp rfl rfl rfl (U2 asl Mn rfl rfl rfl (U0 rfl (ag 0 1 rfl rfl (af 1 rfl (cU rfl rfl rfl rfl rfl rfl iO) ?_))))))))
   refine af 2 rfl (jL rfl rfl rfl) (U5 rfl (ah [2,4,7,35] rfl (U3 ?_)))
   refine Uf Mm asj rfl rfl rfl rfl (fun uV=>?_) (fun uV=>?_)
   ·refine U2 asi ash rfl rfl rfl (U0 rfl (af 0 rfl (run_build (l:=[_,_]) rfl rfl dI rfl rfl) (ak 1 2 rfl rfl rfl (U6 (i:=0) (us:=[_,_]) (l':=[_,_]) (H':=[_,_]) rfl rfl S3 rfl rfl rfl rfl aA rfl rfl rfl rfl ?_))))
    intro w6 S6;clear S3
    refine ag 2 1 rfl rfl (U5 rfl (ah [4,5] rfl (U3 (Uk hC [_,_] rfl rfl ⟨⟨_,rfl,Um (us:=[_,_]) ay rfl aA (S6.aw (i:=0) rfl ⟨rfl,rfl,trivial⟩)⟩,rfl,trivial⟩ ?_))))
    refine⟨_,rfl,_,aL,(S6.pick [] [] (by decide) trivial),?_⟩
    rw[fG (c:=8) (by unfold iu;rw[if_pos gN,if_neg (by first|(unfold kZ;rw[decide_eq_true_iff];omega)|(rw[tN hab kB (by omega),decide_eq_true_iff];omega))]) (by decide)]
    exact eT 8
   ·refine Ue rfl (ah [2,4,7] rfl (U3 (U2 asf Ml rfl rfl rfl (U0 rfl (ak 0 1 rfl rfl rfl (Uh (l:=[_,_,_]) rfl rfl rfl r9 rfl S3 ?_))))))
    intro bz w7 S7;clear S3
    refine U5 rfl (U3 (U2 ase Mk rfl rfl rfl (U0 rfl (ag 0 1 rfl rfl (U5 rfl (U3 (U2 Mj Mi rfl rfl rfl (U2 asc afE rfl rfl rfl ?_))))))))
    refine U0 rfl (ag 0 1 rfl rfl (U5 rfl (U3 (Uc afD 0 rfl rfl rfl ?_))))
    have S8:=S7.nH Uv;clear S7
    refine Ux (fun aS au aM=>∃(k:Nat) (mF:Nat->Int) (es:List Int) (Rp:Value),aS=3-k/\Env 161 [(2,.pointer (some ⟨aI,0,none⟩)),(4,.pointer (some ⟨aQ,0,none⟩)),(7,.slice ((ga vs1 m.at_.toNat).A) (ga (U7 d) m.at_.toNat).length ((ga vs1 m.at_.toNat).c)),(8,.pointer (some ⟨bz,0,none⟩)),(9,Rp),(10,.int .i64 (k:Int))] au/\SH aM M1 X [Rs.row Uv Rp es,Rs.box bz 150 [.int .i64 (mF 0),.int .i64 (mF 1),.int .i64 (mF 2)],Rs.box aQ 24 [.slice none 0 0,.int .i64 0],Rs.box aI 24 [.slice aV d.ae.length aU,.int .i64 d.loops]]/\k<=3/\(∀q,q<3->mF q=(iR d (ga (U7 d) m.at_.toNat) q k:Int))/\es=hdN d (ga (U7 d) m.at_.toNat) k) rfl ?_ ?_
    ·intro au aq
     refine⟨_,⟨0,(fun _=>0),[],_,rfl,aq.sub ⟨rfl,rfl,rfl,rfl,rfl,rfl,trivial⟩,S8.pick [0,1,2,3] [_,_,_,_] (by decide) ⟨rfl,rfl,rfl,rfl,trivial⟩,?cd,?dm,?mW⟩⟩
     case cd=>omega
     case dm=>(intro q hq;rfl)
     case mW=>rfl
    ·rintro m1 a1 w8 ⟨k,mF,es,Rp,rfl,aY,S9,hk,Bb,hes⟩
     clear S8
     refine bX aY (c:=Mh) rfl ?_
     clear aY a1
     have hel:es.length=k:=by rw[hes];exact ab9 _ _ _
     have hgl:=acR d (ga (ga (U7 d) m.at_.toNat) k).a
     have hmb:=Bb (hgt d (ga (ga (U7 d) m.at_.toNat) k).a) (by omega)
     have Ba:=HA d (ga (U7 d) m.at_.toNat) (hgt d (ga (ga (U7 d) m.at_.toNat) k).a) k
     refine U2 Mg Mf rfl rfl rfl (U2 asb Me rfl rfl rfl (U0 rfl (ag 0 1 rfl rfl (af 1 rfl (bS rfl rfl rfl) (U5 rfl (ah [2,4,7,8,9,10,38] rfl (U3 ?_)))))))
     refine Uf asa ar9 rfl rfl rfl rfl (fun uU=>?_) (fun uU=>?_)
     ·have ho:okD d (ga (ga (U7 d) m.at_.toNat) k):=hok _ (iB (by omega))
      have hpo:1<=(ga (ga (U7 d) m.at_.toNat) k).a/\(ga (ga (U7 d) m.at_.toNat) k).a<=2*(d.ae.length:Int):=ho
      refine Ue rfl (ah [2,4,7,8,9,10] rfl (U3 (U2 afC ar8 rfl rfl rfl (Uc Md 1 rfl rfl rfl (U2 ar7 ar6 rfl rfl rfl (bM rfl (by kernel_rfl) S9 12 rfl ?_))))))
      clear S9
      refine aj 0 11 rfl (by kernel_rfl) (fun _ _ _ hz Sz=>.inl (U8 (us:=[_,_]) rfl rfl ay rfl aA (Sz.suf.aw (i:=3) rfl ⟨rfl,rfl,trivial⟩))) ?_
      refine ai 1 10 rfl (by kernel_rfl) (fun _=>run_move rfl rfl) ?_
      refine ai 2 9 rfl (by kernel_rfl) (fun _=>run_move rfl rfl) ?_
      refine aj 3 8 rfl (by kernel_rfl) (fun _ _ _ hz Sz=>.inl (Ul (C:=cu) k rfl rfl rfl iF (by first|rfl|omega) (hr2.mono hz) (by first|omega|(simp only[ls];omega)))) ?_
      refine ai 4 7 rfl (by kernel_rfl) (fun _=>U1 rfl rfl aZ rfl (aC) (aB)) ?_
      refine aj 5 6 rfl (by kernel_rfl) (fun _ _ _ hz Sz=>.inl (U4 rfl rfl av rfl ((hr2.mono hz).cell Sz.m (i:=k) (by first|omega|(simp only[ls];omega)) 0 rfl rfl))) ?_
      refine aj 6 5 rfl (by kernel_rfl) (fun _ _ _ hz Sz=>Ur rfl rfl rfl rfl rfl JC Sz (F5 d ((ga (ga (U7 d) m.at_.toNat) k).a) ((az.mono (Hp.Ua hz Sz.mx)).mono Sz.Uy) (hab) (by first|assumption|omega) Sz.aD)) ?_
      refine aj 7 4 rfl (by kernel_rfl) (fun _ _ _ hz Sz=>.inl (iD (e:=hgt d ((ga (ga (U7 d) m.at_.toNat) k).a)) (k:=1) rfl rfl rfl jB bg (by first|rfl|omega) (by first|omega|(simp only[ls];omega)))) ?_
      refine aj 8 3 rfl (by kernel_rfl) (fun _ _ _ hz Sz=>.inl (U4 rfl rfl av rfl (Sz.suf.ar (i:=1) rfl (aj2 (fun k=>Value.int .i64 (mF k)) (by first|omega|(simp only[ls];omega)))))) ?_
      refine ai 9 2 rfl (by kernel_rfl) (fun _=>Ug rfl rfl rfl (by first|omega|(simp only[ls];omega))) ?_
      refine aj 10 1 rfl (by kernel_rfl) (fun _ _ _ hz Sz=>.inl (iD (e:=hgt d ((ga (ga (U7 d) m.at_.toNat) k).a)) (k:=1) rfl rfl rfl jB bg (by first|rfl|omega) (by first|omega|(simp only[ls];omega)))) ?_
      refine Un (i:=11) 0 rfl (by kernel_rfl) rfl rfl (fun tv dz=>?_)
      refine(U6 (i:=1) (us:=[_]) (l':=[.int .i64 (upd mF (hgt d ((ga (ga (U7 d) m.at_.toNat) k).a)) ((mF (hgt d ((ga (ga (U7 d) m.at_.toNat) k).a)))+1) 0),.int .i64 (upd mF (hgt d ((ga (ga (U7 d) m.at_.toNat) k).a)) ((mF (hgt d ((ga (ga (U7 d) m.at_.toNat) k).a)))+1) 1),.int .i64 (upd mF (hgt d ((ga (ga (U7 d) m.at_.toNat) k).a)) ((mF (hgt d ((ga (ga (U7 d) m.at_.toNat) k).a)))+1) 2)]) (H':=[_,_,_,_]) rfl rfl dz rfl rfl rfl rfl bg (akr (fun k=>Value.int .i64 (mF k)) _ (by first|omega|(simp only[ls];omega))) rfl (akP mF ((mF (hgt d ((ga (ga (U7 d) m.at_.toNat) k).a)))+1) (by first|omega|(simp only[ls];omega))) rfl ?_)
      intro vA dE;clear dz
      refine aP.turn (by kernel_rfl) dE ?_;clear dE
      change WA _ _ _ _ _ _ _ _ _ _ _ _ [_,_,_,_]
      refine Uu (by kernel_rfl) (fun q8 cI=>?_)
      refine ah [2,4,7,8,9,10] rfl (U3 ?_)
      have cH:=cI.pick [0,1,2,3] [_,_,_,_] (by decide) ⟨rfl,rfl,rfl,rfl,trivial⟩;clear cI
      refine jM [_] [_,_,_] rfl (by kernel_rfl) cH 17 rfl ?_
      clear cH
      change WA _ _ _ _ _ _ _ _ _ _ _ _ [_,_,_,_]
      refine ai 0 16 rfl (by kernel_rfl) (fun _=>run_move rfl rfl) ?_
      refine aj 1 15 rfl (by kernel_rfl) (fun _ _ _ hz Sz=>.inl (U8 (us:=[_,_]) rfl rfl ay rfl aA (Sz.suf.aw (i:=2) rfl ⟨rfl,rfl,trivial⟩))) ?_
      refine ai 2 14 rfl (by kernel_rfl) (fun _=>run_move rfl rfl) ?_
      refine ai 3 13 rfl (by kernel_rfl) (fun _=>run_move rfl rfl) ?_
      refine aj 4 12 rfl (by kernel_rfl) (fun _ _ _ hz Sz=>.inl (Ul (C:=cu) k rfl rfl rfl iF (by first|rfl|omega) (hr2.mono hz) (by first|omega|(simp only[ls];omega)))) ?_
      refine ai 5 11 rfl (by kernel_rfl) (fun _=>U1 rfl rfl aZ rfl (aC) (aB)) ?_
      refine aj 6 10 rfl (by kernel_rfl) (fun _ _ _ hz Sz=>.inl (U4 rfl rfl av rfl ((hr2.mono hz).cell Sz.m (i:=k) (by first|omega|(simp only[ls];omega)) 0 rfl rfl))) ?_
      refine ai 7 9 rfl (by kernel_rfl) (fun _=>run_move rfl rfl) ?_
      refine ai 8 8 rfl (by kernel_rfl) (fun _=>run_move rfl rfl) ?_
      refine aj 9 7 rfl (by kernel_rfl) (fun _ _ _ hz Sz=>.inl (Ul (C:=cu) k rfl rfl rfl iF (by first|rfl|omega) (hr2.mono hz) (by first|omega|(simp only[ls];omega)))) ?_
      refine ai 10 6 rfl (by kernel_rfl) (fun _=>U1 rfl rfl aZ rfl (gI) (gH)) ?_
      refine aj 11 5 rfl (by kernel_rfl) (fun _ _ _ hz Sz=>.inl (U4 rfl rfl dL rfl ((hr2.mono hz).cell Sz.m (i:=k) (by first|omega|(simp only[ls];omega)) 1 rfl rfl))) ?_
      refine aj 12 4 rfl (by kernel_rfl) (fun _ _ _ hz Sz=>Ur rfl rfl rfl rfl rfl mE Sz (mP d ((ga (ga (U7 d) m.at_.toNat) k).a) ((ga (ga (U7 d) m.at_.toNat) k).b) ((az.mono (Hp.Ua hz Sz.mx)).mono Sz.Uy) Sz.aD)) ?_
      refine ai 13 3 rfl (by kernel_rfl) (fun _=>ma rfl rfl dH rfl av rfl rfl) ?_
      refine Un (i:=14) 2 rfl (by kernel_rfl) rfl rfl (fun AF il=>?_)
      refine(ij (C:=Uv) (l:=[_]) rfl rfl rfl rfl bA rfl rfl rfl rfl il ?_)
      intro gZ xR jA;clear il
      refine aP.grow [_,_] (Hp.le_refl _) jA ?_;clear jA
      change WA _ _ _ _ _ _ _ _ _ _ _ _ [_,_,_,_,_]
      refine Un (i:=15) 1 rfl (by kernel_rfl) rfl rfl (fun xP ik=>?_)
      refine(ji (C:=Uv) (i:=1) (q:=0) ((Ud d ((ga (ga (U7 d) m.at_.toNat) k).a) ((ga (ga (U7 d) m.at_.toNat) k).b)).1:Int) rfl rfl rfl rfl rfl rfl rfl rfl bA ik rfl rfl rfl (by show(_+1)*8<=_;first|omega|(simp only[ls];omega)) ?_)
      intro ayg AE fW;clear ik
      have jm:=fW.pick [1,2,3,4] [_,_,_,_] (by decide) ⟨rfl,rfl,rfl,rfl,trivial⟩;clear fW
      refine aP.grow [_] (Hp.le_refl _) jm ?_;clear jm
      change WA _ _ _ _ _ _ _ _ _ _ _ _ [_,_,_,_]
      refine ai 16 0 rfl (by kernel_rfl) (fun _=>run_assign rfl rfl) ?_
      refine Uu (by kernel_rfl) (fun xO jl=>?_)
      refine bj (ah [2,4,7,8,9,10] rfl (U3 (U0 rfl (ag 0 1 rfl rfl (af 1 rfl (Ug rfl rfl rfl (by first|omega|(simp only[ls];omega))) ?_)))))
      refine ag 2 1 rfl rfl (U5 rfl (aO ?_))
      intro au aq
      refine⟨_,?dQ,⟨k+1,(upd mF (hgt d (ga (ga (U7 d) m.at_.toNat) k).a) (mF (hgt d (ga (ga (U7 d) m.at_.toNat) k).a)+1)),es++[((Ud d ((ga (ga (U7 d) m.at_.toNat) k).a) ((ga (ga (U7 d) m.at_.toNat) k).b)).1:Int)],_,rfl,aq.sub ⟨rfl,rfl,rfl,rfl,rfl,rfl,trivial⟩,jl.pick [0,1,2,3] [_,_,_,_] (by decide) ⟨rfl,rfl,rfl,rfl,trivial⟩,?cx,?dC,?lC⟩⟩
      case cx=>omega
      case dC=>(intro q hq;have h9:=Bb q hq;unfold upd iR;by_cases e:(hgt d (ga (ga (U7 d) m.at_.toNat) k).a)=q;(subst e;rw[if_pos rfl,if_pos rfl,h9];rfl);(rw[if_neg (fun h=>e h.symm),if_neg e,h9];rfl))
      case lC=>(rw[hes];rfl)
      case dQ=>omega
     ·refine bP rfl rfl (ah [2,4,7,8,9] rfl (U3 (U2 Mc L9 rfl rfl rfl (U2 ar5 L8 rfl rfl rfl ?_))))
      obtain rfl:k=3:=by omega
      have hel:es.length=3:=by rw[hes];exact ab9 _ _ _
      have hm0:=Bb 0 (by omega)
      have vI:=Bb 1 (by omega)
      have hm2:=Bb 2 (by omega)
      have hg0:ga es 0=(eQ d (ga (ga (U7 d) m.at_.toNat) 0):Int):=by rw[hes];rfl
      have hg1:ga es 1=(eQ d (ga (ga (U7 d) m.at_.toNat) 1):Int):=by rw[hes];rfl
      have hg2:ga es 2=(eQ d (ga (ga (U7 d) m.at_.toNat) 2):Int):=by rw[hes];rfl
      refine bM rfl (by kernel_rfl) S9 40 rfl ?_
      clear S9
      refine aj 0 39 rfl (by kernel_rfl) (fun _ _ _ hz Sz=>.inl (iD (e:=0) (k:=1) rfl rfl rfl jB bg (by first|rfl|omega) (by first|omega|(simp only[ls];omega)))) ?_
      refine aj 1 38 rfl (by kernel_rfl) (fun _ _ _ hz Sz=>.inl (U4 rfl rfl av rfl (Sz.suf.ar (i:=1) rfl rfl))) ?_
      refine ai 2 37 rfl (by kernel_rfl) (fun _=>jL rfl rfl rfl) ?_
      refine ai 3 36 rfl (by kernel_rfl) (fun _=>run_move rfl rfl) ?_
      refine lj (t:=71) rfl (fun zL=>?_) (fun zL=>?_)
      ·refine Us (i:=4) (d:=72) 35 rfl (by kernel_rfl) (by kernel_rfl) (by kernel_rfl) ⟨_,_,_,rfl,rfl,rfl,rfl⟩ rfl rfl ?_
       refine Us (i:=5) (d:=73) 34 rfl (by kernel_rfl) (by kernel_rfl) (by kernel_rfl) ⟨_,_,_,rfl,rfl,rfl,rfl⟩ rfl rfl ?_
       refine Us (i:=6) (d:=74) 33 rfl (by kernel_rfl) (by kernel_rfl) (by kernel_rfl) ⟨_,_,_,rfl,rfl,rfl,rfl⟩ rfl rfl ?_
       refine ai 7 32 rfl (by kernel_rfl) (fun _=>gK rfl rfl rfl) ?_
       refine ai 8 31 rfl (by kernel_rfl) (fun _=>run_move rfl rfl) ?_
       refine Us (i:=9) (d:=77) 30 rfl (by kernel_rfl) (by kernel_rfl) (by kernel_rfl) ⟨_,_,_,rfl,rfl,rfl,rfl⟩ rfl rfl ?_
       refine Us (i:=10) (d:=78) 29 rfl (by kernel_rfl) (by kernel_rfl) (by kernel_rfl) ⟨_,_,_,rfl,rfl,rfl,rfl⟩ rfl rfl ?_
       refine Us (i:=11) (d:=79) 28 rfl (by kernel_rfl) (by kernel_rfl) (by kernel_rfl) ⟨_,_,_,rfl,rfl,rfl,rfl⟩ rfl rfl ?_
       refine ai 12 27 rfl (by kernel_rfl) (fun _=>gK rfl rfl rfl) ?_
       refine ai 13 26 rfl (by kernel_rfl) (fun _=>run_move rfl rfl) ?_
       refine Us (i:=14) (d:=82) 25 rfl (by kernel_rfl) (by kernel_rfl) (by kernel_rfl) ⟨_,_,_,rfl,rfl,rfl,rfl⟩ rfl rfl ?_
       refine Us (i:=15) (d:=83) 24 rfl (by kernel_rfl) (by kernel_rfl) (by kernel_rfl) ⟨_,_,_,rfl,rfl,rfl,rfl⟩ rfl rfl ?_
       refine Us (i:=16) (d:=84) 23 rfl (by kernel_rfl) (by kernel_rfl) (by kernel_rfl) ⟨_,_,_,rfl,rfl,rfl,rfl⟩ rfl rfl ?_
       refine Us (i:=17) (d:=85) 22 rfl (by kernel_rfl) (by kernel_rfl) (by kernel_rfl) ⟨_,_,_,rfl,rfl,rfl,rfl⟩ rfl rfl ?_
       refine Us (i:=18) (d:=86) 21 rfl (by kernel_rfl) (by kernel_rfl) (by kernel_rfl) ⟨_,_,_,rfl,rfl,rfl,rfl⟩ rfl rfl ?_
       refine Us (i:=19) (d:=87) 20 rfl (by kernel_rfl) (by kernel_rfl) (by kernel_rfl) ⟨_,_,_,rfl,rfl,rfl,rfl⟩ rfl rfl ?_
       refine Us (i:=20) (d:=88) 19 rfl (by kernel_rfl) (by kernel_rfl) (by kernel_rfl) ⟨_,_,_,rfl,rfl,rfl,rfl⟩ rfl rfl ?_
       refine ai 21 18 rfl (by kernel_rfl) (fun _=>gK rfl rfl rfl) ?_
       refine ai 22 17 rfl (by kernel_rfl) (fun _=>run_move rfl rfl) ?_
       refine Us (i:=23) (d:=91) 16 rfl (by kernel_rfl) (by kernel_rfl) (by kernel_rfl) ⟨_,_,_,rfl,rfl,rfl,rfl⟩ rfl rfl ?_
       refine Us (i:=24) (d:=92) 15 rfl (by kernel_rfl) (by kernel_rfl) (by kernel_rfl) ⟨_,_,_,rfl,rfl,rfl,rfl⟩ rfl rfl ?_
       refine Us (i:=25) (d:=93) 14 rfl (by kernel_rfl) (by kernel_rfl) (by kernel_rfl) ⟨_,_,_,rfl,rfl,rfl,rfl⟩ rfl rfl ?_
       refine Us (i:=26) (d:=94) 13 rfl (by kernel_rfl) (by kernel_rfl) (by kernel_rfl) ⟨_,_,_,rfl,rfl,rfl,rfl⟩ rfl rfl ?_
       refine Us (i:=27) (d:=95) 12 rfl (by kernel_rfl) (by kernel_rfl) (by kernel_rfl) ⟨_,_,_,rfl,rfl,rfl,rfl⟩ rfl rfl ?_
       refine Us (i:=28) (d:=96) 11 rfl (by kernel_rfl) (by kernel_rfl) (by kernel_rfl) ⟨_,_,_,rfl,rfl,rfl,rfl⟩ rfl rfl ?_
       refine Us (i:=29) (d:=97) 10 rfl (by kernel_rfl) (by kernel_rfl) (by kernel_rfl) ⟨_,_,_,rfl,rfl,rfl,rfl⟩ rfl rfl ?_
       refine ai 30 9 rfl (by kernel_rfl) (fun _=>gK rfl rfl rfl) ?_
       refine ai 31 8 rfl (by kernel_rfl) (fun _=>run_move rfl rfl) ?_
       refine Us (i:=32) (d:=100) 7 rfl (by kernel_rfl) (by kernel_rfl) (by kernel_rfl) ⟨_,_,_,rfl,rfl,rfl,rfl⟩ rfl rfl ?_
       refine Us (i:=33) (d:=101) 6 rfl (by kernel_rfl) (by kernel_rfl) (by kernel_rfl) ⟨_,_,_,rfl,rfl,rfl,rfl⟩ rfl rfl ?_
       refine Us (i:=34) (d:=102) 5 rfl (by kernel_rfl) (by kernel_rfl) (by kernel_rfl) ⟨_,_,_,rfl,rfl,rfl,rfl⟩ rfl rfl ?_
       refine Us (i:=35) (d:=103) 4 rfl (by kernel_rfl) (by kernel_rfl) (by kernel_rfl) ⟨_,_,_,rfl,rfl,rfl,rfl⟩ rfl rfl ?_
       refine Us (i:=36) (d:=104) 3 rfl (by kernel_rfl) (by kernel_rfl) (by kernel_rfl) ⟨_,_,_,rfl,rfl,rfl,rfl⟩ rfl rfl ?_
       refine Us (i:=37) (d:=105) 2 rfl (by kernel_rfl) (by kernel_rfl) (by kernel_rfl) ⟨_,_,_,rfl,rfl,rfl,rfl⟩ rfl rfl ?_
       refine Us (i:=38) (d:=106) 1 rfl (by kernel_rfl) (by kernel_rfl) (by kernel_rfl) ⟨_,_,_,rfl,rfl,rfl,rfl⟩ rfl rfl ?_
       refine ai 39 0 rfl (by kernel_rfl) (fun _=>gK rfl rfl rfl) ?_
       refine Uu (by kernel_rfl) (fun Rb mf=>?_)
       refine ah [2,4,7,107] rfl (U3 (fN sU rfl rfl rfl (U2 xx xw rfl rfl rfl (U0 rfl (af 0 rfl (run_build (l:=[_,_]) rfl rfl dI rfl rfl) (ak 1 2 rfl rfl rfl (U6 (i:=2) (us:=[_,_]) (l':=[_,_]) (H':=[_,_,_,_]) rfl rfl mf rfl rfl rfl rfl aA rfl rfl rfl rfl ?_)))))))
       intro Ra kF;clear mf
       refine ag 2 1 rfl rfl (U5 rfl (ah [4,5] rfl (U3 (Uk hC [_,_] rfl rfl ⟨⟨_,rfl,Um (us:=[_,_]) ay rfl aA (kF.aw (i:=2) rfl ⟨rfl,rfl,trivial⟩)⟩,rfl,trivial⟩ ?_))))
       refine⟨_,rfl,_,aL,(kF.pick [] [] (by decide) trivial),?_⟩
       rw[fG (c:=8) (by unfold iu;rw[if_pos gN,if_neg (by first|(unfold kZ;rw[decide_eq_true_iff];omega)|(rw[tN hab kB (by omega),decide_eq_true_iff];omega))]) (by decide)]
       exact eT 8
      ·refine aj 4 35 rfl (by kernel_rfl) (fun _ _ _ hz Sz=>.inl (iD (e:=1) (k:=1) rfl rfl rfl jB bg (by first|rfl|omega) (by first|omega|(simp only[ls];omega)))) ?_
       refine aj 5 34 rfl (by kernel_rfl) (fun _ _ _ hz Sz=>.inl (U4 rfl rfl av rfl (Sz.suf.ar (i:=1) rfl rfl))) ?_
       refine ai 6 33 rfl (by kernel_rfl) (fun _=>jL rfl rfl rfl) ?_
       refine ai 7 32 rfl (by kernel_rfl) (fun _=>jy rfl rfl rfl) ?_
       refine ai 8 31 rfl (by kernel_rfl) (fun _=>run_move rfl rfl) ?_
       refine lj (t:=76) rfl (fun aoL=>?_) (fun aoL=>?_)
       ·refine Us (i:=9) (d:=77) 30 rfl (by kernel_rfl) (by kernel_rfl) (by kernel_rfl) ⟨_,_,_,rfl,rfl,rfl,rfl⟩ rfl rfl ?_
        refine Us (i:=10) (d:=78) 29 rfl (by kernel_rfl) (by kernel_rfl) (by kernel_rfl) ⟨_,_,_,rfl,rfl,rfl,rfl⟩ rfl rfl ?_
        refine Us (i:=11) (d:=79) 28 rfl (by kernel_rfl) (by kernel_rfl) (by kernel_rfl) ⟨_,_,_,rfl,rfl,rfl,rfl⟩ rfl rfl ?_
        refine ai 12 27 rfl (by kernel_rfl) (fun _=>gK rfl rfl rfl) ?_
        refine ai 13 26 rfl (by kernel_rfl) (fun _=>run_move rfl rfl) ?_
        refine Us (i:=14) (d:=82) 25 rfl (by kernel_rfl) (by kernel_rfl) (by kernel_rfl) ⟨_,_,_,rfl,rfl,rfl,rfl⟩ rfl rfl ?_
        refine Us (i:=15) (d:=83) 24 rfl (by kernel_rfl) (by kernel_rfl) (by kernel_rfl) ⟨_,_,_,rfl,rfl,rfl,rfl⟩ rfl rfl ?_
        refine Us (i:=16) (d:=84) 23 rfl (by kernel_rfl) (by kernel_rfl) (by kernel_rfl) ⟨_,_,_,rfl,rfl,rfl,rfl⟩ rfl rfl ?_
        refine Us (i:=17) (d:=85) 22 rfl (by kernel_rfl) (by kernel_rfl) (by kernel_rfl) ⟨_,_,_,rfl,rfl,rfl,rfl⟩ rfl rfl ?_
        refine Us (i:=18) (d:=86) 21 rfl (by kernel_rfl) (by kernel_rfl) (by kernel_rfl) ⟨_,_,_,rfl,rfl,rfl,rfl⟩ rfl rfl ?_
        refine Us (i:=19) (d:=87) 20 rfl (by kernel_rfl) (by kernel_rfl) (by kernel_rfl) ⟨_,_,_,rfl,rfl,rfl,rfl⟩ rfl rfl ?_
        refine Us (i:=20) (d:=88) 19 rfl (by kernel_rfl) (by kernel_rfl) (by kernel_rfl) ⟨_,_,_,rfl,rfl,rfl,rfl⟩ rfl rfl ?_
        refine ai 21 18 rfl (by kernel_rfl) (fun _=>gK rfl rfl rfl) ?_
        refine ai 22 17 rfl (by kernel_rfl) (fun _=>run_move rfl rfl) ?_
        refine Us (i:=23) (d:=91) 16 rfl (by kernel_rfl) (by kernel_rfl) (by kernel_rfl) ⟨_,_,_,rfl,rfl,rfl,rfl⟩ rfl rfl ?_
        refine Us (i:=24) (d:=92) 15 rfl (by kernel_rfl) (by kernel_rfl) (by kernel_rfl) ⟨_,_,_,rfl,rfl,rfl,rfl⟩ rfl rfl ?_
        refine Us (i:=25) (d:=93) 14 rfl (by kernel_rfl) (by kernel_rfl) (by kernel_rfl) ⟨_,_,_,rfl,rfl,rfl,rfl⟩ rfl rfl ?_
        refine Us (i:=26) (d:=94) 13 rfl (by kernel_rfl) (by kernel_rfl) (by kernel_rfl) ⟨_,_,_,rfl,rfl,rfl,rfl⟩ rfl rfl ?_
        refine Us (i:=27) (d:=95) 12 rfl (by kernel_rfl) (by kernel_rfl) (by kernel_rfl) ⟨_,_,_,rfl,rfl,rfl,rfl⟩ rfl rfl ?_
        refine Us (i:=28) (d:=96) 11 rfl (by kernel_rfl) (by kernel_rfl) (by kernel_rfl) ⟨_,_,_,rfl,rfl,rfl,rfl⟩ rfl rfl ?_
        refine Us (i:=29) (d:=97) 10 rfl (by kernel_rfl) (by kernel_rfl) (by kernel_rfl) ⟨_,_,_,rfl,rfl,rfl,rfl⟩ rfl rfl ?_
        refine ai 30 9 rfl (by kernel_rfl) (fun _=>gK rfl rfl rfl) ?_
        refine ai 31 8 rfl (by kernel_rfl) (fun _=>run_move rfl rfl) ?_
        refine Us (i:=32) (d:=100) 7 rfl (by kernel_rfl) (by kernel_rfl) (by kernel_rfl) ⟨_,_,_,rfl,rfl,rfl,rfl⟩ rfl rfl ?_
        refine Us (i:=33) (d:=101) 6 rfl (by kernel_rfl) (by kernel_rfl) (by kernel_rfl) ⟨_,_,_,rfl,rfl,rfl,rfl⟩ rfl rfl ?_
        refine Us (i:=34) (d:=102) 5 rfl (by kernel_rfl) (by kernel_rfl) (by kernel_rfl) ⟨_,_,_,rfl,rfl,rfl,rfl⟩ rfl rfl ?_
        refine Us (i:=35) (d:=103) 4 rfl (by kernel_rfl) (by kernel_rfl) (by kernel_rfl) ⟨_,_,_,rfl,rfl,rfl,rfl⟩ rfl rfl ?_
        refine Us (i:=36) (d:=104) 3 rfl (by kernel_rfl) (by kernel_rfl) (by kernel_rfl) ⟨_,_,_,rfl,rfl,rfl,rfl⟩ rfl rfl ?_
        refine Us (i:=37) (d:=105) 2 rfl (by kernel_rfl) (by kernel_rfl) (by kernel_rfl) ⟨_,_,_,rfl,rfl,rfl,rfl⟩ rfl rfl ?_
        refine Us (i:=38) (d:=106) 1 rfl (by kernel_rfl) (by kernel_rfl) (by kernel_rfl) ⟨_,_,_,rfl,rfl,rfl,rfl⟩ rfl rfl ?_
        refine ai 39 0 rfl (by kernel_rfl) (fun _=>gK rfl rfl rfl) ?_
        refine Uu (by kernel_rfl) (fun w73 tQ=>?_)
        refine ah [2,4,7,107] rfl (U3 (fN sU rfl rfl rfl (U2 xx xw rfl rfl rfl (U0 rfl (af 0 rfl (run_build (l:=[_,_]) rfl rfl dI rfl rfl) (ak 1 2 rfl rfl rfl (U6 (i:=2) (us:=[_,_]) (l':=[_,_]) (H':=[_,_,_,_]) rfl rfl tQ rfl rfl rfl rfl aA rfl rfl rfl rfl ?_)))))))
        intro Q5 pF;clear tQ
        refine ag 2 1 rfl rfl (U5 rfl (ah [4,5] rfl (U3 (Uk hC [_,_] rfl rfl ⟨⟨_,rfl,Um (us:=[_,_]) ay rfl aA (pF.aw (i:=2) rfl ⟨rfl,rfl,trivial⟩)⟩,rfl,trivial⟩ ?_))))
        refine⟨_,rfl,_,aL,(pF.pick [] [] (by decide) trivial),?_⟩
        rw[fG (c:=8) (by unfold iu;rw[if_pos gN,if_neg (by first|(unfold kZ;rw[decide_eq_true_iff];omega)|(rw[tN hab kB (by omega),decide_eq_true_iff];omega))]) (by decide)]
        exact eT 8
       ·refine aj 9 30 rfl (by kernel_rfl) (fun _ _ _ hz Sz=>.inl (iD (e:=2) (k:=1) rfl rfl rfl jB bg (by first|rfl|omega) (by first|omega|(simp only[ls];omega)))) ?_
        refine aj 10 29 rfl (by kernel_rfl) (fun _ _ _ hz Sz=>.inl (U4 rfl rfl av rfl (Sz.suf.ar (i:=1) rfl rfl))) ?_
        refine ai 11 28 rfl (by kernel_rfl) (fun _=>jL rfl rfl rfl) ?_
        refine ai 12 27 rfl (by kernel_rfl) (fun _=>jy rfl rfl rfl) ?_
        refine ai 13 26 rfl (by kernel_rfl) (fun _=>run_move rfl rfl) ?_
        refine lj (t:=81) rfl (fun Ja=>?_) (fun Ja=>?_)
        ·refine Us (i:=14) (d:=82) 25 rfl (by kernel_rfl) (by kernel_rfl) (by kernel_rfl) ⟨_,_,_,rfl,rfl,rfl,rfl⟩ rfl rfl ?_
         refine Us (i:=15) (d:=83) 24 rfl (by kernel_rfl) (by kernel_rfl) (by kernel_rfl) ⟨_,_,_,rfl,rfl,rfl,rfl⟩ rfl rfl ?_
         refine Us (i:=16) (d:=84) 23 rfl (by kernel_rfl) (by kernel_rfl) (by kernel_rfl) ⟨_,_,_,rfl,rfl,rfl,rfl⟩ rfl rfl ?_
         refine Us (i:=17) (d:=85) 22 rfl (by kernel_rfl) (by kernel_rfl) (by kernel_rfl) ⟨_,_,_,rfl,rfl,rfl,rfl⟩ rfl rfl ?_
         refine Us (i:=18) (d:=86) 21 rfl (by kernel_rfl) (by kernel_rfl) (by kernel_rfl) ⟨_,_,_,rfl,rfl,rfl,rfl⟩ rfl rfl ?_
         refine Us (i:=19) (d:=87) 20 rfl (by kernel_rfl) (by kernel_rfl) (by kernel_rfl) ⟨_,_,_,rfl,rfl,rfl,rfl⟩ rfl rfl ?_
         refine Us (i:=20) (d:=88) 19 rfl (by kernel_rfl) (by kernel_rfl) (by kernel_rfl) ⟨_,_,_,rfl,rfl,rfl,rfl⟩ rfl rfl ?_
         refine ai 21 18 rfl (by kernel_rfl) (fun _=>gK rfl rfl rfl) ?_
         refine ai 22 17 rfl (by kernel_rfl) (fun _=>run_move rfl rfl) ?_
         refine Us (i:=23) (d:=91) 16 rfl (by kernel_rfl) (by kernel_rfl) (by kernel_rfl) ⟨_,_,_,rfl,rfl,rfl,rfl⟩ rfl rfl ?_
         refine Us (i:=24) (d:=92) 15 rfl (by kernel_rfl) (by kernel_rfl) (by kernel_rfl) ⟨_,_,_,rfl,rfl,rfl,rfl⟩ rfl rfl ?_
         refine Us (i:=25) (d:=93) 14 rfl (by kernel_rfl) (by kernel_rfl) (by kernel_rfl) ⟨_,_,_,rfl,rfl,rfl,rfl⟩ rfl rfl ?_
         refine Us (i:=26) (d:=94) 13 rfl (by kernel_rfl) (by kernel_rfl) (by kernel_rfl) ⟨_,_,_,rfl,rfl,rfl,rfl⟩ rfl rfl ?_
         refine Us (i:=27) (d:=95) 12 rfl (by kernel_rfl) (by kernel_rfl) (by kernel_rfl) ⟨_,_,_,rfl,rfl,rfl,rfl⟩ rfl rfl ?_
         refine Us (i:=28) (d:=96) 11 rfl (by kernel_rfl) (by kernel_rfl) (by kernel_rfl) ⟨_,_,_,rfl,rfl,rfl,rfl⟩ rfl rfl ?_
         refine Us (i:=29) (d:=97) 10 rfl (by kernel_rfl) (by kernel_rfl) (by kernel_rfl) ⟨_,_,_,rfl,rfl,rfl,rfl⟩ rfl rfl ?_
         refine ai 30 9 rfl (by kernel_rfl) (fun _=>gK rfl rfl rfl) ?_
         refine ai 31 8 rfl (by kernel_rfl) (fun _=>run_move rfl rfl) ?_
         refine Us (i:=32) (d:=100) 7 rfl (by kernel_rfl) (by kernel_rfl) (by kernel_rfl) ⟨_,_,_,rfl,rfl,rfl,rfl⟩ rfl rfl ?_
         refine Us (i:=33) (d:=101) 6 rfl (by kernel_rfl) (by kernel_rfl) (by kernel_rfl) ⟨_,_,_,rfl,rfl,rfl,rfl⟩ rfl rfl ?_
         refine Us (i:=34) (d:=102) 5 rfl (by kernel_rfl) (by kernel_rfl) (by kernel_rfl) ⟨_,_,_,rfl,rfl,rfl,rfl⟩ rfl rfl ?_
         refine Us (i:=35) (d:=103) 4 rfl (by kernel_rfl) (by kernel_rfl) (by kernel_rfl) ⟨_,_,_,rfl,rfl,rfl,rfl⟩ rfl rfl ?_
         refine Us (i:=36) (d:=104) 3 rfl (by kernel_rfl) (by kernel_rfl) (by kernel_rfl) ⟨_,_,_,rfl,rfl,rfl,rfl⟩ rfl rfl ?_
         refine Us (i:=37) (d:=105) 2 rfl (by kernel_rfl) (by kernel_rfl) (by kernel_rfl) ⟨_,_,_,rfl,rfl,rfl,rfl⟩ rfl rfl ?_
         refine Us (i:=38) (d:=106) 1 rfl (by kernel_rfl) (by kernel_rfl) (by kernel_rfl) ⟨_,_,_,rfl,rfl,rfl,rfl⟩ rfl rfl ?_
         refine ai 39 0 rfl (by kernel_rfl) (fun _=>gK rfl rfl rfl) ?_
         refine Uu (by kernel_rfl) (fun w85 yB=>?_)
         refine ah [2,4,7,107] rfl (U3 (fN sU rfl rfl rfl (U2 xx xw rfl rfl rfl (U0 rfl (af 0 rfl (run_build (l:=[_,_]) rfl rfl dI rfl rfl) (ak 1 2 rfl rfl rfl (U6 (i:=2) (us:=[_,_]) (l':=[_,_]) (H':=[_,_,_,_]) rfl rfl yB rfl rfl rfl rfl aA rfl rfl rfl rfl ?_)))))))
         intro w86 oq;clear yB
         refine ag 2 1 rfl rfl (U5 rfl (ah [4,5] rfl (U3 (Uk hC [_,_] rfl rfl ⟨⟨_,rfl,Um (us:=[_,_]) ay rfl aA (oq.aw (i:=2) rfl ⟨rfl,rfl,trivial⟩)⟩,rfl,trivial⟩ ?_))))
         refine⟨_,rfl,_,aL,(oq.pick [] [] (by decide) trivial),?_⟩
         rw[fG (c:=8) (by unfold iu;rw[if_pos gN,if_neg (by first|(unfold kZ;rw[decide_eq_true_iff];omega)|(rw[tN hab kB (by omega),decide_eq_true_iff];omega))]) (by decide)]
         exact eT 8
        ·refine ai 14 25 rfl (by kernel_rfl) (fun _=>run_move rfl rfl) ?_
         refine aj 15 24 rfl (by kernel_rfl) (fun _ _ _ hz Sz=>.inl (Uj (C:=Uv) (i:=0) 0 rfl rfl rfl bA Sz.suf rfl (by first|rfl|omega) (by first|omega|(simp only[ls];omega)))) ?_
         refine aj 16 23 rfl (by kernel_rfl) (fun _ _ _ hz Sz=>.inl (U4 rfl rfl av rfl (Sz.suf.dW (i:=0) (e:=0) (j:=0) rfl (by first|omega|(simp only[ls];omega)) rfl rfl))) ?_
         refine ai 17 22 rfl (by kernel_rfl) (fun _=>run_move rfl rfl) ?_
         refine aj 18 21 rfl (by kernel_rfl) (fun _ _ _ hz Sz=>.inl (Uj (C:=Uv) (i:=0) 1 rfl rfl rfl bA Sz.suf rfl (by first|rfl|omega) (by first|omega|(simp only[ls];omega)))) ?_
         refine aj 19 20 rfl (by kernel_rfl) (fun _ _ _ hz Sz=>.inl (U4 rfl rfl av rfl (Sz.suf.dW (i:=0) (e:=1) (j:=0) rfl (by first|omega|(simp only[ls];omega)) rfl rfl))) ?_
         refine ai 20 19 rfl (by kernel_rfl) (fun _=>bR rfl rfl rfl) ?_
         refine ai 21 18 rfl (by kernel_rfl) (fun _=>jy rfl rfl rfl) ?_
         refine ai 22 17 rfl (by kernel_rfl) (fun _=>run_move rfl rfl) ?_
         refine lj (t:=90) rfl (fun aoJ=>?_) (fun aoJ=>?_)
         ·refine Us (i:=23) (d:=91) 16 rfl (by kernel_rfl) (by kernel_rfl) (by kernel_rfl) ⟨_,_,_,rfl,rfl,rfl,rfl⟩ rfl rfl ?_
          refine Us (i:=24) (d:=92) 15 rfl (by kernel_rfl) (by kernel_rfl) (by kernel_rfl) ⟨_,_,_,rfl,rfl,rfl,rfl⟩ rfl rfl ?_
          refine Us (i:=25) (d:=93) 14 rfl (by kernel_rfl) (by kernel_rfl) (by kernel_rfl) ⟨_,_,_,rfl,rfl,rfl,rfl⟩ rfl rfl ?_
          refine Us (i:=26) (d:=94) 13 rfl (by kernel_rfl) (by kernel_rfl) (by kernel_rfl) ⟨_,_,_,rfl,rfl,rfl,rfl⟩ rfl rfl ?_
          refine Us (i:=27) (d:=95) 12 rfl (by kernel_rfl) (by kernel_rfl) (by kernel_rfl) ⟨_,_,_,rfl,rfl,rfl,rfl⟩ rfl rfl ?_
          refine Us (i:=28) (d:=96) 11 rfl (by kernel_rfl) (by kernel_rfl) (by kernel_rfl) ⟨_,_,_,rfl,rfl,rfl,rfl⟩ rfl rfl ?_
          refine Us (i:=29) (d:=97) 10 rfl (by kernel_rfl) (by kernel_rfl) (by kernel_rfl) ⟨_,_,_,rfl,rfl,rfl,rfl⟩ rfl rfl ?_
          refine ai 30 9 rfl (by kernel_rfl) (fun _=>gK rfl rfl rfl) ?_
          refine ai 31 8 rfl (by kernel_rfl) (fun _=>run_move rfl rfl) ?_
          refine Us (i:=32) (d:=100) 7 rfl (by kernel_rfl) (by kernel_rfl) (by kernel_rfl) ⟨_,_,_,rfl,rfl,rfl,rfl⟩ rfl rfl ?_
          refine Us (i:=33) (d:=101) 6 rfl (by kernel_rfl) (by kernel_rfl) (by kernel_rfl) ⟨_,_,_,rfl,rfl,rfl,rfl⟩ rfl rfl ?_
          refine Us (i:=34) (d:=102) 5 rfl (by kernel_rfl) (by kernel_rfl) (by kernel_rfl) ⟨_,_,_,rfl,rfl,rfl,rfl⟩ rfl rfl ?_
          refine Us (i:=35) (d:=103) 4 rfl (by kernel_rfl) (by kernel_rfl) (by kernel_rfl) ⟨_,_,_,rfl,rfl,rfl,rfl⟩ rfl rfl ?_
          refine Us (i:=36) (d:=104) 3 rfl (by kernel_rfl) (by kernel_rfl) (by kernel_rfl) ⟨_,_,_,rfl,rfl,rfl,rfl⟩ rfl rfl ?_
          refine Us (i:=37) (d:=105) 2 rfl (by kernel_rfl) (by kernel_rfl) (by kernel_rfl) ⟨_,_,_,rfl,rfl,rfl,rfl⟩ rfl rfl ?_
          refine Us (i:=38) (d:=106) 1 rfl (by kernel_rfl) (by kernel_rfl) (by kernel_rfl) ⟨_,_,_,rfl,rfl,rfl,rfl⟩ rfl rfl ?_
          refine ai 39 0 rfl (by kernel_rfl) (fun _=>gK rfl rfl rfl) ?_
          refine Uu (by kernel_rfl) (fun w99 qV=>?_)
          refine ah [2,4,7,107] rfl (U3 (fN sU rfl rfl rfl (U2 xx xw rfl rfl rfl (U0 rfl (af 0 rfl (run_build (l:=[_,_]) rfl rfl dI rfl rfl) (ak 1 2 rfl rfl rfl (U6 (i:=2) (us:=[_,_]) (l':=[_,_]) (H':=[_,_,_,_]) rfl rfl qV rfl rfl rfl rfl aA rfl rfl rfl rfl ?_)))))))
          intro adV vk;clear qV
          refine ag 2 1 rfl rfl (U5 rfl (ah [4,5] rfl (U3 (Uk hC [_,_] rfl rfl ⟨⟨_,rfl,Um (us:=[_,_]) ay rfl aA (vk.aw (i:=2) rfl ⟨rfl,rfl,trivial⟩)⟩,rfl,trivial⟩ ?_))))
          refine⟨_,rfl,_,aL,(vk.pick [] [] (by decide) trivial),?_⟩
          rw[fG (c:=8) (by unfold iu;rw[if_pos gN,if_neg (by first|(unfold kZ;rw[decide_eq_true_iff];omega)|(rw[tN hab kB (by omega),decide_eq_true_iff];omega))]) (by decide)]
          exact eT 8
         ·refine ai 23 16 rfl (by kernel_rfl) (fun _=>run_move rfl rfl) ?_
          refine aj 24 15 rfl (by kernel_rfl) (fun _ _ _ hz Sz=>.inl (Uj (C:=Uv) (i:=0) 0 rfl rfl rfl bA Sz.suf rfl (by first|rfl|omega) (by first|omega|(simp only[ls];omega)))) ?_
          refine aj 25 14 rfl (by kernel_rfl) (fun _ _ _ hz Sz=>.inl (U4 rfl rfl av rfl (Sz.suf.dW (i:=0) (e:=0) (j:=0) rfl (by first|omega|(simp only[ls];omega)) rfl rfl))) ?_
          refine ai 26 13 rfl (by kernel_rfl) (fun _=>run_move rfl rfl) ?_
          refine aj 27 12 rfl (by kernel_rfl) (fun _ _ _ hz Sz=>.inl (Uj (C:=Uv) (i:=0) 2 rfl rfl rfl bA Sz.suf rfl (by first|rfl|omega) (by first|omega|(simp only[ls];omega)))) ?_
          refine aj 28 11 rfl (by kernel_rfl) (fun _ _ _ hz Sz=>.inl (U4 rfl rfl av rfl (Sz.suf.dW (i:=0) (e:=2) (j:=0) rfl (by first|omega|(simp only[ls];omega)) rfl rfl))) ?_
          refine ai 29 10 rfl (by kernel_rfl) (fun _=>bR rfl rfl rfl) ?_
          refine ai 30 9 rfl (by kernel_rfl) (fun _=>jy rfl rfl rfl) ?_
          refine ai 31 8 rfl (by kernel_rfl) (fun _=>run_move rfl rfl) ?_
          refine lj (t:=99) rfl (fun aoI=>?_) (fun aoI=>?_)
          ·refine Us (i:=32) (d:=100) 7 rfl (by kernel_rfl) (by kernel_rfl) (by kernel_rfl) ⟨_,_,_,rfl,rfl,rfl,rfl⟩ rfl rfl ?_
           refine Us (i:=33) (d:=101) 6 rfl (by kernel_rfl) (by kernel_rfl) (by kernel_rfl) ⟨_,_,_,rfl,rfl,rfl,rfl⟩ rfl rfl ?_
           refine Us (i:=34) (d:=102) 5 rfl (by kernel_rfl) (by kernel_rfl) (by kernel_rfl) ⟨_,_,_,rfl,rfl,rfl,rfl⟩ rfl rfl ?_
           refine Us (i:=35) (d:=103) 4 rfl (by kernel_rfl) (by kernel_rfl) (by kernel_rfl) ⟨_,_,_,rfl,rfl,rfl,rfl⟩ rfl rfl ?_
           refine Us (i:=36) (d:=104) 3 rfl (by kernel_rfl) (by kernel_rfl) (by kernel_rfl) ⟨_,_,_,rfl,rfl,rfl,rfl⟩ rfl rfl ?_
           refine Us (i:=37) (d:=105) 2 rfl (by kernel_rfl) (by kernel_rfl) (by kernel_rfl) ⟨_,_,_,rfl,rfl,rfl,rfl⟩ rfl rfl ?_
           refine Us (i:=38) (d:=106) 1 rfl (by kernel_rfl) (by kernel_rfl) (by kernel_rfl) ⟨_,_,_,rfl,rfl,rfl,rfl⟩ rfl rfl ?_
           refine ai 39 0 rfl (by kernel_rfl) (fun _=>gK rfl rfl rfl) ?_
           refine Uu (by kernel_rfl) (fun adU mI=>?_)
           refine ah [2,4,7,107] rfl (U3 (fN sU rfl rfl rfl (U2 xx xw rfl rfl rfl (U0 rfl (af 0 rfl (run_build (l:=[_,_]) rfl rfl dI rfl rfl) (ak 1 2 rfl rfl rfl (U6 (i:=2) (us:=[_,_]) (l':=[_,_]) (H':=[_,_,_,_]) rfl rfl mI rfl rfl rfl rfl aA rfl rfl rfl rfl ?_)))))))
           intro adT tj;clear mI
           refine ag 2 1 rfl rfl (U5 rfl (ah [4,5] rfl (U3 (Uk hC [_,_] rfl rfl ⟨⟨_,rfl,Um (us:=[_,_]) ay rfl aA (tj.aw (i:=2) rfl ⟨rfl,rfl,trivial⟩)⟩,rfl,trivial⟩ ?_))))
           refine⟨_,rfl,_,aL,(tj.pick [] [] (by decide) trivial),?_⟩
           rw[fG (c:=8) (by unfold iu;rw[if_pos gN,if_neg (by first|(unfold kZ;rw[decide_eq_true_iff];omega)|(rw[tN hab kB (by omega),decide_eq_true_iff];omega))]) (by decide)]
           exact eT 8
          ·refine ai 32 7 rfl (by kernel_rfl) (fun _=>run_move rfl rfl) ?_
           refine aj 33 6 rfl (by kernel_rfl) (fun _ _ _ hz Sz=>.inl (Uj (C:=Uv) (i:=0) 1 rfl rfl rfl bA Sz.suf rfl (by first|rfl|omega) (by first|omega|(simp only[ls];omega)))) ?_
           refine aj 34 5 rfl (by kernel_rfl) (fun _ _ _ hz Sz=>.inl (U4 rfl rfl av rfl (Sz.suf.dW (i:=0) (e:=1) (j:=0) rfl (by first|omega|(simp only[ls];omega)) rfl rfl))) ?_
           refine ai 35 4 rfl (by kernel_rfl) (fun _=>run_move rfl rfl) ?_
           refine aj 36 3 rfl (by kernel_rfl) (fun _ _ _ hz Sz=>.inl (Uj (C:=Uv) (i:=0) 2 rfl rfl rfl bA Sz.suf rfl (by first|rfl|omega) (by first|omega|(simp only[ls];omega)))) ?_
           refine aj 37 2 rfl (by kernel_rfl) (fun _ _ _ hz Sz=>.inl (U4 rfl rfl av rfl (Sz.suf.dW (i:=0) (e:=2) (j:=0) rfl (by first|omega|(simp only[ls];omega)) rfl rfl))) ?_
           refine ai 38 1 rfl (by kernel_rfl) (fun _=>bR rfl rfl rfl) ?_
           refine ai 39 0 rfl (by kernel_rfl) (fun _=>jy rfl rfl rfl) ?_
           refine Uu (by kernel_rfl) (fun axW vh=>?_)
           refine ah [2,4,7,107] rfl (U3 ?_)
           refine Uf sU ar4 rfl rfl rfl rfl (fun iI=>?_) (fun iI=>?_)
           ·refine U2 xx xw rfl rfl rfl (U0 rfl (af 0 rfl (run_build (l:=[_,_]) rfl rfl dI rfl rfl) (ak 1 2 rfl rfl rfl (U6 (i:=2) (us:=[_,_]) (l':=[_,_]) (H':=[_,_,_,_]) rfl rfl vh rfl rfl rfl rfl aA rfl rfl rfl rfl ?_))))
            intro axV Av;clear vh
            refine ag 2 1 rfl rfl (U5 rfl (ah [4,5] rfl (U3 (Uk hC [_,_] rfl rfl ⟨⟨_,rfl,Um (us:=[_,_]) ay rfl aA (Av.aw (i:=2) rfl ⟨rfl,rfl,trivial⟩)⟩,rfl,trivial⟩ ?_))))
            refine⟨_,rfl,_,aL,(Av.pick [] [] (by decide) trivial),?_⟩
            rw[fG (c:=8) (by unfold iu;rw[if_pos gN,if_neg (by first|(unfold kZ;rw[decide_eq_true_iff];omega)|(rw[tN hab kB (by omega),decide_eq_true_iff];omega))]) (by decide)]
            exact eT 8
           ·refine Ue rfl (ah [2,4,7] rfl (U3 (U2 ar3 L6 rfl rfl rfl (U0 rfl (af 0 rfl (U8 (us:=[_,_]) rfl rfl ay rfl aA (vh.aw (i:=3) rfl ⟨rfl,rfl,trivial⟩)) (ak 1 2 rfl rfl rfl (wT rfl rfl rfl rfl rfl rfl rfl Bt vh (CG d (az.mono vh.Uy) vh.aD) ?_)))))))
            intro awN anV aw6 qU aln;clear vh
            obtain⟨nO,rfl,rfl⟩:=aln
            have Au:SH _ _ _ [_,_,_,_,_]:=qU;clear qU
            refine ak 2 3 rfl rfl rfl (Uh (l:=[_,_]) rfl rfl rfl fR rfl Au ?_)
            intro iy anU td;clear Au
            refine ak 3 4 rfl rfl rfl (U6 (i:=0) (us:=[_,_]) (l':=[_,_]) (H':=[_,_,_,_,_,_]) rfl rfl td rfl rfl rfl rfl aA rfl (dD (td.one (i:=1) rfl) (dD rfl rfl)) rfl rfl ?_)
            intro axU qT;clear td
            refine U5 rfl (ah [2,4,7,11] rfl (U3 (U2 L5 L4 rfl rfl rfl (U2 ar2 afB rfl rfl rfl (U0 rfl (ag 0 1 rfl rfl (U5 rfl (U3 ?_))))))))
            refine Uc afA 2 rfl rfl rfl ?_
            refine Ux (fun aS au aM=>∃(k2:Nat) (xs:List Cr),aS=3-k2/\Env 161 [(2,.pointer (some ⟨aI,0,none⟩)),(4,.pointer (some ⟨aQ,0,none⟩)),(7,.slice ((ga vs1 m.at_.toNat).A) (ga (U7 d) m.at_.toNat).length ((ga vs1 m.at_.toNat).c)),(11,.pointer (some ⟨iy,0,none⟩)),(12,.int .i64 (k2:Int))] au/\SH aM M1 X [Rs.box iy 24 [nO,.int .i64 d.loops],Rs.row aF nO xs,Rs.box aQ 24 [.slice none 0 0,.int .i64 0],Rs.box aI 24 [.slice aV d.ae.length aU,.int .i64 d.loops]]/\k2<=3/\xs=docN d (ga (U7 d) m.at_.toNat) k2) rfl ?_ ?_
            ·intro au aq
             refine⟨_,⟨0,d.ae,rfl,aq.sub ⟨rfl,rfl,rfl,rfl,rfl,trivial⟩,qT.pick [0,1,4,5] [_,_,_,_] (by decide) ⟨rfl,rfl,rfl,rfl,trivial⟩,?eB,?gu⟩⟩
             case eB=>omega
             case gu=>rfl
            ·rintro m2 a2 axT ⟨k2,xs,rfl,cB,je,hk2,hxs⟩
             clear qT
             refine bX cB (c:=L3) rfl ?_
             clear cB a2
             have hxl:xs.length=d.ae.length:=by rw[hxs];exact aby _ _ _
             refine U2 LZ LY rfl rfl rfl (U2 ar1 LX rfl rfl rfl (U0 rfl (ag 0 1 rfl rfl (af 1 rfl (bS rfl rfl rfl) (U5 rfl (ah [2,4,7,11,12,112] rfl (U3 ?_)))))))
             refine Uf ar0 arZ rfl rfl rfl rfl (fun qw=>?_) (fun qw=>?_)
             ·refine Ue rfl (ah [2,4,7,11,12] rfl (U3 (U2 afz arY rfl rfl rfl (Uc LW 3 rfl rfl rfl (U2 arX LV rfl rfl rfl ?_)))))
              have RF:okD d (ga (ga (U7 d) m.at_.toNat) k2):=hok _ (iB (by omega))
              obtain⟨ht1,ht2,_⟩:=eF hab RF true
              obtain⟨Fq,hf2,_⟩:=eF hab RF false
              refine U0 rfl (ag 0 2 rfl rfl (af 2 rfl (Ul (C:=cu) k2 rfl rfl rfl iF (by first|rfl|omega) hr2 (by first|omega|(simp only[ls];omega))) ?_))
              refine af 3 rfl (U1 rfl rfl aZ rfl (aC) (aB)) (af 4 rfl (U4 rfl rfl av rfl (hr2.cell je.m (i:=k2) (by first|omega|(simp only[ls];omega)) 0 rfl rfl)) ?_)
              refine ag 5 1 rfl rfl (U5 rfl (ah [2,4,7,11,12,13] rfl (U3 (U2 arW LU rfl rfl rfl ?_))))
              refine nE (fun au aM=>∃(Bp:Nat) (Bo:Nat),Env 161 [(2,.pointer (some ⟨aI,0,none⟩)),(4,.pointer (some ⟨aQ,0,none⟩)),(7,.slice ((ga vs1 m.at_.toNat).A) (ga (U7 d) m.at_.toNat).length ((ga vs1 m.at_.toNat).c)),(11,.pointer (some ⟨iy,0,none⟩)),(12,.int .i64 (k2:Int)),(13,.int .i64 ((ga (ga (U7 d) m.at_.toNat) k2).a)),(14,.pointer (some ⟨Bp,0,none⟩)),(15,.pointer (some ⟨Bo,0,none⟩))] au/\SH aM M1 X [Rs.box Bp 120 [.int .i64 ((Ud d (ga (ga (U7 d) m.at_.toNat) k2).a true).1:Int),.int .i64 ((Ud d (ga (ga (U7 d) m.at_.toNat) k2).a true).2:Int)],Rs.box Bo 120 [.int .i64 ((Ud d (ga (ga (U7 d) m.at_.toNat) k2).a false).1:Int),.int .i64 ((Ud d (ga (ga (U7 d) m.at_.toNat) k2).a false).2:Int)],Rs.box iy 24 [nO,.int .i64 d.loops],Rs.row aF nO xs,Rs.box aQ 24 [.slice none 0 0,.int .i64 0],Rs.box aI 24 [.slice aV d.ae.length aU,.int .i64 d.loops]]) ?_ ?_
              ·refine bM rfl (by kernel_rfl) je 10 rfl ?_
               clear je
               refine aj 0 9 rfl (by kernel_rfl) (fun _ _ _ hz Sz=>.inl (U8 (us:=[_,_]) rfl rfl ay rfl aA (Sz.suf.aw (i:=3) rfl ⟨rfl,rfl,trivial⟩))) ?_
               refine ai 1 8 rfl (by kernel_rfl) (fun _=>run_move rfl rfl) ?_
               refine aj 2 7 rfl (by kernel_rfl) (fun _ _ _ hz Sz=>Ur rfl rfl rfl rfl rfl mE Sz (mP d ((ga (ga (U7 d) m.at_.toNat) k2).a) true ((az.mono (Hp.Ua hz Sz.mx)).mono Sz.Uy) Sz.aD)) ?_
               refine aj 3 6 rfl (by kernel_rfl) (fun _ _ _ hz Sz=>.inl (U8 (us:=[_,_]) rfl rfl ay rfl aA (Sz.suf.aw (i:=3) rfl ⟨rfl,rfl,trivial⟩))) ?_
               refine ai 4 5 rfl (by kernel_rfl) (fun _=>run_move rfl rfl) ?_
               refine aj 5 4 rfl (by kernel_rfl) (fun _ _ _ hz Sz=>Ur rfl rfl rfl rfl rfl mE Sz (mP d ((ga (ga (U7 d) m.at_.toNat) k2).a) false ((az.mono (Hp.Ua hz Sz.mx)).mono Sz.Uy) Sz.aD)) ?_
               refine wK (i:=6) (j:=7) 3 rfl rfl (by kernel_rfl) rfl rfl rfl rfl (fun IK s6=>?_) (fun IK s6=>?_)
               ·refine(Uh (l:=[_,_]) rfl rfl rfl nJ rfl s6 ?_)
                intro pZ adR xM;clear s6
                refine aP.grow [_] (Hp.le_refl _) xM ?_;clear xM
                change WA _ _ _ _ _ _ _ _ _ _ _ _ [_,_,_,_,_]
                refine Un (i:=7) 2 rfl (by kernel_rfl) rfl rfl (fun axN vg=>?_)
                refine(Uh (l:=[_,_]) rfl rfl rfl nJ rfl vg ?_)
                intro pY axM ES;clear vg
                refine aP.grow [_,_] (Hp.le_refl _) ES ?_;clear ES
                change WA _ _ _ _ _ _ _ _ _ _ _ _ [_,_,_,_,_,_]
                refine Un (i:=8) 1 rfl (by kernel_rfl) rfl rfl (fun axL ER=>?_)
                refine(U6 (i:=1) (us:=[_,_]) (l':=[_,_]) (H':=[_,_,_,_,_,_]) rfl rfl ER rfl rfl rfl rfl gM rfl rfl rfl rfl ?_)
                intro axK agU;clear ER
                refine aP.grow [_,_] (Hp.le_refl _) agU ?_;clear agU
                change WA _ _ _ _ _ _ _ _ _ _ _ _ [_,_,_,_,_,_]
                refine Un (i:=9) 0 rfl (by kernel_rfl) rfl rfl (fun axJ sZ=>?_)
                refine(U6 (i:=0) (us:=[_,_]) (l':=[_,_]) (H':=[_,_,_,_,_,_]) rfl rfl sZ rfl rfl rfl rfl gM rfl rfl rfl rfl ?_)
                intro anP sY;clear sZ
                refine aP.grow [_,_] (Hp.le_refl _) sY ?_;clear sY
                change WA _ _ _ _ _ _ _ _ _ _ _ _ [_,_,_,_,_,_]
                refine Uu (by kernel_rfl) (fun anO oY=>?_)
                refine aO ?_
                intro au aq
                refine⟨_,_,aq.sub ⟨rfl,rfl,rfl,rfl,rfl,rfl,rfl,rfl,trivial⟩,oY.pick [1,0,2,3,4,5] [_,_,_,_,_,_] (by decide) ⟨rfl,rfl,rfl,rfl,rfl,rfl,trivial⟩⟩
               ·refine(Uh (l:=[_,_]) rfl rfl rfl nJ rfl s6 ?_)
                intro vQ anN sX;clear s6
                refine aP.grow [_] (Hp.le_refl _) sX ?_;clear sX
                change WA _ _ _ _ _ _ _ _ _ _ _ _ [_,_,_,_,_]
                refine Un (i:=6) 2 rfl (by kernel_rfl) rfl rfl (fun anM sW=>?_)
                refine(Uh (l:=[_,_]) rfl rfl rfl nJ rfl sW ?_)
                intro yb anL mH;clear sW
                refine aP.grow [_,_] (Hp.le_refl _) mH ?_;clear mH
                change WA _ _ _ _ _ _ _ _ _ _ _ _ [_,_,_,_,_,_]
                refine Un (i:=8) 1 rfl (by kernel_rfl) rfl rfl (fun axH Ao=>?_)
                refine(U6 (i:=0) (us:=[_,_]) (l':=[_,_]) (H':=[_,_,_,_,_,_]) rfl rfl Ao rfl rfl rfl rfl gM rfl rfl rfl rfl ?_)
                intro axG EO;clear Ao
                refine aP.grow [_,_] (Hp.le_refl _) EO ?_;clear EO
                change WA _ _ _ _ _ _ _ _ _ _ _ _ [_,_,_,_,_,_]
                refine Un (i:=9) 0 rfl (by kernel_rfl) rfl rfl (fun axF agS=>?_)
                refine(U6 (i:=1) (us:=[_,_]) (l':=[_,_]) (H':=[_,_,_,_,_,_]) rfl rfl agS rfl rfl rfl rfl gM rfl rfl rfl rfl ?_)
                intro axE agR;clear agS
                refine aP.grow [_,_] (Hp.le_refl _) agR ?_;clear agR
                change WA _ _ _ _ _ _ _ _ _ _ _ _ [_,_,_,_,_,_]
                refine Uu (by kernel_rfl) (fun axD awr=>?_)
                refine aO ?_
                intro au aq
                refine⟨_,_,aq.sub ⟨rfl,rfl,rfl,rfl,rfl,rfl,rfl,rfl,trivial⟩,awr.pick [0,1,2,3,4,5] [_,_,_,_,_,_] (by decide) ⟨rfl,rfl,rfl,rfl,rfl,rfl,trivial⟩⟩
              ·rintro a3 adS ⟨Bp,Bo,fu,qR⟩
               clear je
               refine nM fu ?_
               clear fu a3
               refine U3 (U2 arV LS rfl rfl rfl ?_)
               refine nE (fun au aM=>∃(R4:Nat) (R5:Nat),Env 161 [(2,.pointer (some ⟨aI,0,none⟩)),(4,.pointer (some ⟨aQ,0,none⟩)),(7,.slice ((ga vs1 m.at_.toNat).A) (ga (U7 d) m.at_.toNat).length ((ga vs1 m.at_.toNat).c)),(11,.pointer (some ⟨iy,0,none⟩)),(12,.int .i64 (k2:Int)),(13,.int .i64 ((ga (ga (U7 d) m.at_.toNat) k2).a)),(14,.pointer (some ⟨Bp,0,none⟩)),(15,.pointer (some ⟨Bo,0,none⟩)),(16,.pointer (some ⟨R4,0,none⟩)),(17,.pointer (some ⟨R5,0,none⟩))] au/\SH aM M1 X [Rs.box R4 120 [.int .i64 ((Ud d (ga (ga (U7 d) m.at_.toNat) k2).a true).1:Int),.int .i64 ((((Ud d (ga (ga (U7 d) m.at_.toNat) k2).a true).2+2)%4:Nat):Int)],Rs.box R5 120 [.int .i64 ((Ud d (ga (ga (U7 d) m.at_.toNat) k2).a false).1:Int),.int .i64 ((((Ud d (ga (ga (U7 d) m.at_.toNat) k2).a false).2+2)%4:Nat):Int)],Rs.box Bp 120 [.int .i64 ((Ud d (ga (ga (U7 d) m.at_.toNat) k2).a true).1:Int),.int .i64 ((Ud d (ga (ga (U7 d) m.at_.toNat) k2).a true).2:Int)],Rs.box Bo 120 [.int .i64 ((Ud d (ga (ga (U7 d) m.at_.toNat) k2).a false).1:Int),.int .i64 ((Ud d (ga (ga (U7 d) m.at_.toNat) k2).a false).2:Int)],Rs.box iy 24 [nO,.int .i64 d.loops],Rs.row aF nO xs,Rs.box aQ 24 [.slice none 0 0,.int .i64 0],Rs.box aI 24 [.slice aV d.ae.length aU,.int .i64 d.loops]]) ?_ ?_
               ·refine bM rfl (by kernel_rfl) qR 18 rfl ?_
                clear qR
                refine ai 0 17 rfl (by kernel_rfl) (fun _=>U1 rfl rfl dH rfl (aC) (aB)) ?_
                refine aj 1 16 rfl (by kernel_rfl) (fun _ _ _ hz Sz=>.inl (U4 rfl rfl av rfl (Sz.suf.ar (i:=0) rfl rfl))) ?_
                refine ai 2 15 rfl (by kernel_rfl) (fun _=>U1 rfl rfl dH rfl (aC) (aB)) ?_
                refine aj 3 14 rfl (by kernel_rfl) (fun _ _ _ hz Sz=>.inl (U4 rfl rfl av rfl (Sz.suf.ar (i:=0) rfl rfl))) ?_
                refine ai 4 13 rfl (by kernel_rfl) (fun _=>Ug rfl rfl rfl (by first|omega|(simp only[ls];omega))) ?_
                refine ai 5 12 rfl (by kernel_rfl) (fun _=>jY rfl rfl rfl (by first|omega|(simp only[ls];omega))) ?_
                refine kg 131 (.int .i64 ((((Ud d (ga (ga (U7 d) m.at_.toNat) k2).a true).2+2)%4:Nat):Int)) rfl (int_eq (by omega)) ?_
                refine aj 6 11 rfl (by kernel_rfl) (fun _ _ _ hz Sz=>.inl (run_build (l:=[_,_]) rfl rfl pN rfl rfl)) ?_
                refine ai 7 10 rfl (by kernel_rfl) (fun _=>U1 rfl rfl dH rfl (aC) (aB)) ?_
                refine aj 8 9 rfl (by kernel_rfl) (fun _ _ _ hz Sz=>.inl (U4 rfl rfl av rfl (Sz.suf.ar (i:=1) rfl rfl))) ?_
                refine ai 9 8 rfl (by kernel_rfl) (fun _=>U1 rfl rfl dH rfl (aC) (aB)) ?_
                refine aj 10 7 rfl (by kernel_rfl) (fun _ _ _ hz Sz=>.inl (U4 rfl rfl av rfl (Sz.suf.ar (i:=1) rfl rfl))) ?_
                refine ai 11 6 rfl (by kernel_rfl) (fun _=>Ug rfl rfl rfl (by first|omega|(simp only[ls];omega))) ?_
                refine ai 12 5 rfl (by kernel_rfl) (fun _=>jY rfl rfl rfl (by first|omega|(simp only[ls];omega))) ?_
                refine kg 138 (.int .i64 ((((Ud d (ga (ga (U7 d) m.at_.toNat) k2).a false).2+2)%4:Nat):Int)) rfl (int_eq (by omega)) ?_
                refine aj 13 4 rfl (by kernel_rfl) (fun _ _ _ hz Sz=>.inl (run_build (l:=[_,_]) rfl rfl pN rfl rfl)) ?_
                refine wK (i:=14) (j:=15) 3 rfl rfl (by kernel_rfl) rfl rfl rfl rfl (fun adQ sV=>?_) (fun adQ sV=>?_)
                ·refine(Uh (l:=[_,_]) rfl rfl rfl nJ rfl sV ?_)
                 intro JB axy Am;clear sV
                 refine aP.grow [_] (Hp.le_refl _) Am ?_;clear Am
                 change WA _ _ _ _ _ _ _ _ _ _ _ _ [_,_,_,_,_,_,_]
                 refine Un (i:=15) 2 rfl (by kernel_rfl) rfl rfl (fun axx Al=>?_)
                 refine(Uh (l:=[_,_]) rfl rfl rfl nJ rfl Al ?_)
                 intro apf axw Ak;clear Al
                 refine aP.grow [_,_] (Hp.le_refl _) Ak ?_;clear Ak
                 change WA _ _ _ _ _ _ _ _ _ _ _ _ [_,_,_,_,_,_,_,_]
                 refine Un (i:=16) 1 rfl (by kernel_rfl) rfl rfl (fun anK agO=>?_)
                 refine(U6 (i:=1) (us:=[_,_]) (l':=[_,_]) (H':=[_,_,_,_,_,_,_,_]) rfl rfl agO rfl rfl rfl rfl gM rfl rfl rfl rfl ?_)
                 intro anJ agN;clear agO
                 refine aP.grow [_,_] (Hp.le_refl _) agN ?_;clear agN
                 change WA _ _ _ _ _ _ _ _ _ _ _ _ [_,_,_,_,_,_,_,_]
                 refine Un (i:=17) 0 rfl (by kernel_rfl) rfl rfl (fun axu agM=>?_)
                 refine(U6 (i:=0) (us:=[_,_]) (l':=[_,_]) (H':=[_,_,_,_,_,_,_,_]) rfl rfl agM rfl rfl rfl rfl gM rfl rfl rfl rfl ?_)
                 intro axt u7;clear agM
                 refine aP.grow [_,_] (Hp.le_refl _) u7 ?_;clear u7
                 change WA _ _ _ _ _ _ _ _ _ _ _ _ [_,_,_,_,_,_,_,_]
                 refine Uu (by kernel_rfl) (fun axs EN=>?_)
                 refine aO ?_
                 intro au aq
                 refine⟨_,_,aq.sub ⟨rfl,rfl,rfl,rfl,rfl,rfl,rfl,rfl,rfl,rfl,trivial⟩,EN.pick [1,0,2,3,4,5,6,7] [_,_,_,_,_,_,_,_] (by decide) ⟨rfl,rfl,rfl,rfl,rfl,rfl,rfl,rfl,trivial⟩⟩
                ·refine(Uh (l:=[_,_]) rfl rfl rfl nJ rfl sV ?_)
                 intro JA axr Aj;clear sV
                 refine aP.grow [_] (Hp.le_refl _) Aj ?_;clear Aj
                 change WA _ _ _ _ _ _ _ _ _ _ _ _ [_,_,_,_,_,_,_]
                 refine Un (i:=14) 2 rfl (by kernel_rfl) rfl rfl (fun axq agL=>?_)
                 refine(Uh (l:=[_,_]) rfl rfl rfl nJ rfl agL ?_)
                 intro ape axp agK;clear agL
                 refine aP.grow [_,_] (Hp.le_refl _) agK ?_;clear agK
                 change WA _ _ _ _ _ _ _ _ _ _ _ _ [_,_,_,_,_,_,_,_]
                 refine Un (i:=16) 1 rfl (by kernel_rfl) rfl rfl (fun axo agJ=>?_)
                 refine(U6 (i:=0) (us:=[_,_]) (l':=[_,_]) (H':=[_,_,_,_,_,_,_,_]) rfl rfl agJ rfl rfl rfl rfl gM rfl rfl rfl rfl ?_)
                 intro axn agI;clear agJ
                 refine aP.grow [_,_] (Hp.le_refl _) agI ?_;clear agI
                 change WA _ _ _ _ _ _ _ _ _ _ _ _ [_,_,_,_,_,_,_,_]
                 refine Un (i:=17) 0 rfl (by kernel_rfl) rfl rfl (fun axm agH=>?_)
                 refine(U6 (i:=1) (us:=[_,_]) (l':=[_,_]) (H':=[_,_,_,_,_,_,_,_]) rfl rfl agH rfl rfl rfl rfl gM rfl rfl rfl rfl ?_)
                 intro axl agG;clear agH
                 refine aP.grow [_,_] (Hp.le_refl _) agG ?_;clear agG
                 change WA _ _ _ _ _ _ _ _ _ _ _ _ [_,_,_,_,_,_,_,_]
                 refine Uu (by kernel_rfl) (fun axk awp=>?_)
                 refine aO ?_
                 intro au aq
                 refine⟨_,_,aq.sub ⟨rfl,rfl,rfl,rfl,rfl,rfl,rfl,rfl,rfl,rfl,trivial⟩,awp.pick [0,1,2,3,4,5,6,7] [_,_,_,_,_,_,_,_] (by decide) ⟨rfl,rfl,rfl,rfl,rfl,rfl,rfl,rfl,trivial⟩⟩
               ·rintro a4 axC ⟨R4,R5,mK,agQ⟩
                clear qR
                refine nM mK ?_
                clear mK a4
                refine U3 (U2 arU LR rfl rfl rfl (bM rfl (by kernel_rfl) agQ 6 rfl ?_))
                clear agQ
                refine aj 0 5 rfl (by kernel_rfl) (fun _ _ _ hz Sz=>.inl (U8 (us:=[_,_]) rfl rfl ay rfl aA (Sz.suf.aw (i:=4) rfl ⟨rfl,rfl,trivial⟩))) ?_
                refine aj 1 4 rfl (by kernel_rfl) (fun _ _ _ hz Sz=>.inl (U8 (us:=[_,_]) rfl rfl dH rfl gM (Sz.suf.aw (i:=3) rfl ⟨rfl,rfl,trivial⟩))) ?_
                refine aj 2 3 rfl (by kernel_rfl) (fun _ _ _ hz Sz=>.inl (U8 (us:=[_,_]) rfl rfl ay rfl aA (Sz.suf.aw (i:=7) rfl ⟨rfl,rfl,trivial⟩))) ?_
                refine aj 3 2 rfl (by kernel_rfl) (fun _ _ _ hz Sz=>.inl (U8 (us:=[_,_]) rfl rfl dH rfl gM (Sz.suf.aw (i:=0) rfl ⟨rfl,rfl,trivial⟩))) ?_
                refine aj 4 1 rfl (by kernel_rfl) (fun _ _ _ hz Sz=>Ur rfl rfl rfl rfl rfl qO Sz (qm d ((Ud d (ga (ga (U7 d) m.at_.toNat) k2).a true).1) (((Ud d (ga (ga (U7 d) m.at_.toNat) k2).a true).2+2)%4) ((az.mono (Hp.Ua hz Sz.mx)).mono Sz.Uy) (by omega) (by omega) Sz.aD)) ?_
                refine Un (i:=5) 0 rfl (by kernel_rfl) rfl rfl (fun axj agF=>?_)
                have agE:=agF.pick [5,0,1,2,3,4,6,7] [_,_,_,_,_,_,_,_] (by decide) ⟨rfl,rfl,rfl,rfl,rfl,rfl,rfl,rfl,trivial⟩;clear agF
                have EM:SH _ _ _ (Rs.aX [_]::[_,_,_,_,_,_,_]):=SH.jd (A:=[_]) (B:=[_,_,_,_,_,_,_]) agE;clear agE
                have awo:SH _ _ _ [_,_,_,_,_,_,_,_]:=EM.less (i:=0) rfl
                have iE:=ui xs d.loops ((Ud d (ga (ga (U7 d) m.at_.toNat) k2).a false).1) ((Ud d (ga (ga (U7 d) m.at_.toNat) k2).a false).2) (Uq d ((Ud d (ga (ga (U7 d) m.at_.toNat) k2).a true).1) (((Ud d (ga (ga (U7 d) m.at_.toNat) k2).a true).2+2)%4)) (by rw[hxl];exact Fq) (by exact hf2) (EM.iG (i:=0) rfl);clear awo
                refine(jP (i:=0) rfl rfl rfl rfl rfl rfl rfl uZ EM rfl iE ?_)
                intro awJ axi ayQ awT awD Ai jJ;clear EM
                obtain⟨lu,iK,l6⟩:=jJ
                rw[iK]at Ai
                clear iK
                subst lu
                subst l6
                replace Ai:SH _ _ _ (Rs.aX [_]::[_,_,_,_,_,_,_]):=Ai
                have agD:SH _ _ _ [_,_,_,_,_,_,_,_]:=SH.jK (A:=[_]) (B:=[_,_,_,_,_,_,_]) Ai;clear Ai
                refine aP.turn (by kernel_rfl) agD ?_;clear agD
                change WA _ _ _ _ _ _ _ _ _ _ _ _ [_,_,_,_,_,_,_,_]
                refine Uu (by kernel_rfl) (fun axh EL=>?_)
                refine ah [2,4,7,11,12,13,14,16,17] rfl (U3 (U2 arT LQ rfl rfl rfl (U0 rfl (af 0 rfl (U8 (us:=[_,_]) rfl rfl ay rfl aA (EL.aw (i:=5) rfl ⟨rfl,rfl,trivial⟩)) (af 1 rfl (U8 (us:=[_,_]) rfl rfl dH rfl gM (EL.aw (i:=2) rfl ⟨rfl,rfl,trivial⟩)) (ag 2 1 rfl rfl ?_))))))
                have agC:=EL.pick [0,1,2,3,4,5,6,7] [_,_,_,_,_,_,_,_] (by decide) ⟨rfl,rfl,rfl,rfl,rfl,rfl,rfl,rfl,trivial⟩;clear EL
                have EK:SH _ _ _ (Rs.aX [_]::[_,_,_,_,_,_,_]):=SH.jd (A:=[_]) (B:=[_,_,_,_,_,_,_]) agC;clear agC
                have awn:SH _ _ _ [_,_,_,_,_,_,_,_]:=EK.less (i:=0) rfl
                have lv:=ui (bk xs ((Ud d (ga (ga (U7 d) m.at_.toNat) k2).a false).1) ((Ud d (ga (ga (U7 d) m.at_.toNat) k2).a false).2) (Uq d ((Ud d (ga (ga (U7 d) m.at_.toNat) k2).a true).1) (((Ud d (ga (ga (U7 d) m.at_.toNat) k2).a true).2+2)%4))) d.loops ((Ud d (ga (ga (U7 d) m.at_.toNat) k2).a false).1) (((Ud d (ga (ga (U7 d) m.at_.toNat) k2).a false).2+2)%4) ((ga (ga (U7 d) m.at_.toNat) k2).a) (by rw[iU,hxl];exact Fq) (by omega) (EK.iG (i:=0) rfl);clear awn
                refine ak 3 4 rfl rfl rfl (jP (i:=0) rfl rfl rfl rfl rfl rfl rfl uZ EK rfl lv ?_)
                intro awI axg ayP awS awC Ah vO;clear EK
                obtain⟨uf,oU,vN⟩:=vO
                rw[oU]at Ah
                clear oU
                subst uf
                subst vN
                replace Ah:SH _ _ _ (Rs.aX [_]::[_,_,_,_,_,_,_]):=Ah
                have EJ:SH _ _ _ [_,_,_,_,_,_,_,_]:=SH.jK (A:=[_]) (B:=[_,_,_,_,_,_,_]) Ah;clear Ah
                refine U5 rfl (ah [2,4,7,11,12,13,14,16,17] rfl (U3 (U2 arS arR rfl rfl rfl (U0 rfl (af 0 rfl (U8 (us:=[_,_]) rfl rfl ay rfl aA (EJ.aw (i:=5) rfl ⟨rfl,rfl,trivial⟩)) (af 1 rfl (U8 (us:=[_,_]) rfl rfl dH rfl gM (EJ.aw (i:=1) rfl ⟨rfl,rfl,trivial⟩)) (ag 2 1 rfl rfl ?_)))))))
                have agB:=EJ.pick [0,1,2,3,4,5,6,7] [_,_,_,_,_,_,_,_] (by decide) ⟨rfl,rfl,rfl,rfl,rfl,rfl,rfl,rfl,trivial⟩;clear EJ
                have EI:SH _ _ _ (Rs.aX [_]::[_,_,_,_,_,_,_]):=SH.jd (A:=[_]) (B:=[_,_,_,_,_,_,_]) agB;clear agB
                have awm:SH _ _ _ [_,_,_,_,_,_,_,_]:=EI.less (i:=0) rfl
                have Hz:=ui (bk (bk xs ((Ud d (ga (ga (U7 d) m.at_.toNat) k2).a false).1) ((Ud d (ga (ga (U7 d) m.at_.toNat) k2).a false).2) (Uq d ((Ud d (ga (ga (U7 d) m.at_.toNat) k2).a true).1) (((Ud d (ga (ga (U7 d) m.at_.toNat) k2).a true).2+2)%4))) ((Ud d (ga (ga (U7 d) m.at_.toNat) k2).a false).1) (((Ud d (ga (ga (U7 d) m.at_.toNat) k2).a false).2+2)%4) ((ga (ga (U7 d) m.at_.toNat) k2).a)) d.loops ((Ud d (ga (ga (U7 d) m.at_.toNat) k2).a true).1) (((Ud d (ga (ga (U7 d) m.at_.toNat) k2).a true).2+2)%4) ((ga (ga (U7 d) m.at_.toNat) k2).a) (by rw[iU,iU,hxl];exact ht1) (by omega) (EI.iG (i:=0) rfl);clear awm
                refine ak 3 4 rfl rfl rfl (jP (i:=0) rfl rfl rfl rfl rfl rfl rfl uZ EI rfl Hz ?_)
                intro awH axf ayO awR awB Ag Bk;clear EI
                obtain⟨ak8,DL,Bj⟩:=Bk
                rw[DL]at Ag
                clear DL
                subst ak8
                subst Bj
                replace Ag:SH _ _ _ (Rs.aX [_]::[_,_,_,_,_,_,_]):=Ag
                have agA:SH _ _ _ [_,_,_,_,_,_,_,_]:=SH.jK (A:=[_]) (B:=[_,_,_,_,_,_,_]) Ag;clear Ag
                refine U5 rfl (ah [2,4,7,11,12,14,17] rfl (U3 (bM rfl (by kernel_rfl) agA 6 rfl ?_)))
                clear agA
                refine aj 0 5 rfl (by kernel_rfl) (fun _ _ _ hz Sz=>.inl (U8 (us:=[_,_]) rfl rfl ay rfl aA (Sz.suf.aw (i:=5) rfl ⟨rfl,rfl,trivial⟩))) ?_
                refine aj 1 4 rfl (by kernel_rfl) (fun _ _ _ hz Sz=>.inl (U8 (us:=[_,_]) rfl rfl dH rfl gM (Sz.suf.aw (i:=3) rfl ⟨rfl,rfl,trivial⟩))) ?_
                refine aj 2 3 rfl (by kernel_rfl) (fun _ _ _ hz Sz=>.inl (U8 (us:=[_,_]) rfl rfl ay rfl aA (Sz.suf.aw (i:=7) rfl ⟨rfl,rfl,trivial⟩))) ?_
                refine aj 3 2 rfl (by kernel_rfl) (fun _ _ _ hz Sz=>.inl (U8 (us:=[_,_]) rfl rfl dH rfl gM (Sz.suf.aw (i:=2) rfl ⟨rfl,rfl,trivial⟩))) ?_
                refine aj 4 1 rfl (by kernel_rfl) (fun _ _ _ hz Sz=>Ur rfl rfl rfl rfl rfl qO Sz (qm d ((Ud d (ga (ga (U7 d) m.at_.toNat) k2).a false).1) (((Ud d (ga (ga (U7 d) m.at_.toNat) k2).a false).2+2)%4) ((az.mono (Hp.Ua hz Sz.mx)).mono Sz.Uy) (by omega) (by omega) Sz.aD)) ?_
                refine Un (i:=5) 0 rfl (by kernel_rfl) rfl rfl (fun axe agz=>?_)
                have agy:=agz.pick [0,1,2,3,4,5,6,7] [_,_,_,_,_,_,_,_] (by decide) ⟨rfl,rfl,rfl,rfl,rfl,rfl,rfl,rfl,trivial⟩;clear agz
                have EH:SH _ _ _ (Rs.aX [_]::[_,_,_,_,_,_,_]):=SH.jd (A:=[_]) (B:=[_,_,_,_,_,_,_]) agy;clear agy
                have awl:SH _ _ _ [_,_,_,_,_,_,_,_]:=EH.less (i:=0) rfl
                have Hy:=ui (bk (bk (bk xs ((Ud d (ga (ga (U7 d) m.at_.toNat) k2).a false).1) ((Ud d (ga (ga (U7 d) m.at_.toNat) k2).a false).2) (Uq d ((Ud d (ga (ga (U7 d) m.at_.toNat) k2).a true).1) (((Ud d (ga (ga (U7 d) m.at_.toNat) k2).a true).2+2)%4))) ((Ud d (ga (ga (U7 d) m.at_.toNat) k2).a false).1) (((Ud d (ga (ga (U7 d) m.at_.toNat) k2).a false).2+2)%4) ((ga (ga (U7 d) m.at_.toNat) k2).a)) ((Ud d (ga (ga (U7 d) m.at_.toNat) k2).a true).1) (((Ud d (ga (ga (U7 d) m.at_.toNat) k2).a true).2+2)%4) ((ga (ga (U7 d) m.at_.toNat) k2).a)) d.loops ((Ud d (ga (ga (U7 d) m.at_.toNat) k2).a true).1) ((Ud d (ga (ga (U7 d) m.at_.toNat) k2).a true).2) (Uq d ((Ud d (ga (ga (U7 d) m.at_.toNat) k2).a false).1) (((Ud d (ga (ga (U7 d) m.at_.toNat) k2).a false).2+2)%4)) (by rw[iU,iU,iU,hxl];exact ht1) (by exact ht2) (EH.iG (i:=0) rfl);clear awl
                refine(jP (i:=0) rfl rfl rfl rfl rfl rfl rfl uZ EH rfl Hy ?_)
                intro awG axd ayM awQ awA Af hR7;clear EH
                obtain⟨ak7,DK,hR8⟩:=hR7
                rw[DK]at Af
                clear DK
                subst ak7
                subst hR8
                replace Af:SH _ _ _ (Rs.aX [_]::[_,_,_,_,_,_,_]):=Af
                have agx:SH _ _ _ [_,_,_,_,_,_,_,_]:=SH.jK (A:=[_]) (B:=[_,_,_,_,_,_,_]) Af;clear Af
                refine aP.turn (by kernel_rfl) agx ?_;clear agx
                change WA _ _ _ _ _ _ _ _ _ _ _ _ [_,_,_,_,_,_,_,_]
                refine Uu (by kernel_rfl) (fun axc awk=>?_)
                refine bj (ah [2,4,7,11,12] rfl (U3 (U0 rfl (ag 0 1 rfl rfl (af 1 rfl (Ug rfl rfl rfl (by first|omega|(simp only[ls];omega))) ?_)))))
                refine ag 2 1 rfl rfl (U5 rfl (aO ?_))
                intro au aq
                refine⟨_,?lK,⟨k2+1,bk (bk (bk (bk xs ((Ud d (ga (ga (U7 d) m.at_.toNat) k2).a false).1) ((Ud d (ga (ga (U7 d) m.at_.toNat) k2).a false).2) (Uq d ((Ud d (ga (ga (U7 d) m.at_.toNat) k2).a true).1) (((Ud d (ga (ga (U7 d) m.at_.toNat) k2).a true).2+2)%4))) ((Ud d (ga (ga (U7 d) m.at_.toNat) k2).a false).1) (((Ud d (ga (ga (U7 d) m.at_.toNat) k2).a false).2+2)%4) ((ga (ga (U7 d) m.at_.toNat) k2).a)) ((Ud d (ga (ga (U7 d) m.at_.toNat) k2).a true).1) (((Ud d (ga (ga (U7 d) m.at_.toNat) k2).a true).2+2)%4) ((ga (ga (U7 d) m.at_.toNat) k2).a)) ((Ud d (ga (ga (U7 d) m.at_.toNat) k2).a true).1) ((Ud d (ga (ga (U7 d) m.at_.toNat) k2).a true).2) (Uq d ((Ud d (ga (ga (U7 d) m.at_.toNat) k2).a false).1) (((Ud d (ga (ga (U7 d) m.at_.toNat) k2).a false).2+2)%4)),rfl,aq.sub ⟨rfl,rfl,rfl,rfl,rfl,trivial⟩,awk.pick [5,0,6,7] [_,_,_,_] (by decide) ⟨rfl,rfl,rfl,rfl,trivial⟩,?jC,?lB⟩⟩
                case jC=>omega
                case lB=>(rw[hxs];rfl)
                case lK=>omega
             ·refine bP rfl rfl (ah [4,11] rfl (U3 (U2 arQ arP rfl rfl rfl ?_)))
              obtain rfl:k2=3:=by omega
              have ayv:xs.length=d.ae.length:=by rw[hxs];exact aby _ _ _
              refine U0 rfl (af 0 rfl (U8 (us:=[_,_]) rfl rfl ay rfl aA (je.aw (i:=0) rfl ⟨rfl,rfl,trivial⟩)) (ak 1 2 rfl rfl rfl (U6 (i:=2) (us:=[_,_]) (l':=[_,_]) (H':=[_,_,_,_]) rfl rfl je rfl rfl rfl rfl aA rfl (dD (je.one (i:=1) rfl) (dD rfl rfl)) rfl rfl ?_)))
              intro axb agw;clear je
              refine ag 2 1 rfl rfl (U5 rfl (ah [4,5] rfl (U3 ?_)))
              obtain⟨ayL,zf,QX,⟨A2,c2,e1,hr3⟩⟩:=agw.fZ (i:=1) (H':=[_,_,_,_]) rfl rfl (by show _*40<=_;first|omega|(simp only[ls];omega))
              clear agw;subst e1
              replace az:=az.mono (Hp.Ua zf QX.mx)
              replace hr1:=hr1.mono zf
              replace hd1:=hd1.mono zf
              replace hr2:=hr2.mono zf
              refine Uk hC [_,_] rfl rfl ⟨⟨_,rfl,Um (us:=[_,_]) ay rfl aA (QX.aw (i:=2) rfl ⟨rfl,rfl,trivial⟩)⟩,rfl,trivial⟩ ?_
              refine⟨_,rfl,_,aL.trans zf,(QX.pick [] [] (by decide) trivial),?_⟩
              have hsl:kZ d (ga (U7 d) m.at_.toNat)=true:=by rw[tN hab kB (by omega),decide_eq_true_iff];omega
              rw[ue (E:=⟨xs,d.loops⟩) (by unfold iu;rw[if_pos gN,if_pos hsl]) (by unfold rh;rw[hxs,akg hab hok 3 (by omega)])]
              exact⟨_,_,rfl,hr3⟩
end Go.Proofs.YthppkofceancjaaGreat
