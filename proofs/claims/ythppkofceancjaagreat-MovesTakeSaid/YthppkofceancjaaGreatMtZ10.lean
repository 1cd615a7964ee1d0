/- Part 10 of the proof of the law MovesTake: the walks through its functions and the plain laws that they need. -/
import Derived.Test.YthppkofceancjaaGreatMtZ9
import Derived.RecoverIn
set_option linter.unusedSimpArgs false
set_option linter.unusedVariables false
noncomputable section
namespace Go.Proofs.YthppkofceancjaaGreat
open Go.ChangeShapes Go.WideShapes Go.ChangeAt Go.RowKit
noncomputable def Qc:=Tryz.f71.body.getD .skip
def avv:=cL Qc
def Qb:=cR Qc
def avu:=cL Qb
def Qa:=cR Qb
def avt:=cL Qa
def P9:=cR Qa
def avs:=cL P9
def P8:=cR P9
def avr:=cL P8
def P7:=cR P8
def avq:=cL P7
def P6:=cR P7
def P5:=cL P6
def P4:=cR P6
def avp:=cL P5
def ago:=cR P5
def agn:=cL ago
def PZ:=cL agn
def avo:=cL PZ
def PY:=cR PZ
def PX:=cL PY
def PW:=cR PY
def avn:=cL PX
def avm:=cR PX
def agm:=cL PW
def avl:=cR PW
def PV:=cL agm
def avk:=cL PV
def PU:=cR PV
def avj:=cL PU
def PT:=cR PU
def avi:=cL PT
def PS:=cR PT
def avh:=cL PS
def PR:=cR PS
def avg:=cL PR
def avf:=cR PR
def ave:=cL P4
def agl:=cR P4
def agk:=cL agl
def PQ:=cL agk
def avd:=cL PQ
def PO:=cR PQ
def EF:=cL PO
def PN:=cR PO
def avc:=cL EF
def avb:=cR EF
def PL:=cL PN
def ava:=cL PL
def au9:=cR PL
set_option maxHeartbeats 2000000 in
set_option maxRecDepth 10000 in
theorem akz{w:World}{M:Hp}{X:Fr}(d:Dg){bC ggs:Nat}{bD:Value}{iA oA fA:Option Addr}{ic oc fc:Nat}{fv:List fO}(m:Mv)(hsi:aG br M iA ic (ax d false (4*d.ae.length)))(aK:aG br M oA oc (ax d true (4*d.ae.length)))(cZ:aG (di 141) M fA fc fv)(cY:fy cu M fv (U7 d))(hn:d.ae.length<=16)(hab:aN d=true)(hlo:0<=d.loops/\d.loops<=16)(S:SH w M X [Rs.aX [Rs.box bC 67 [.pointer (some ⟨ggs,0,none⟩),.slice fA fv.length fc],Rs.box ggs 70 [bD,.int .i64 d.loops,.slice iA (ax d false (4*d.ae.length)).length ic,.slice oA (ax d true (4*d.ae.length)).length oc],Rs.row aF bD d.ae]]):Cm 71 [.pointer (some ⟨bC,0,none⟩),.agg [.int .i64 m.kd,.int .i64 m.at_,.int .i64 m.aJ,.int .i64 m.ua,.bool m.ub,.int .i64 m.va,.bool m.vb,.bool m.ov].toArray] w M X (iu d m) (wq bC ggs (.slice fA fv.length fc) (.slice iA (ax d false (4*d.ae.length)).length ic) (.slice oA (ax d true (4*d.ae.length)).length oc) (rh d m)):=by
 unfold Cm
 replace S:=S.kM
 obtain⟨cA,cc,dM,_⟩:=S.sl (i:=2) rfl
 have hfl:=cY.1
 refine Up (b:=Qc) Tryz.func71 rfl Tryz.ntmps71 rfl (fun C hC=>(bq [(0,_),(1,_)] ⟨rfl,rfl,trivial⟩ (U2 avv Qb rfl rfl rfl (U0 rfl (ak 0 1 rfl rfl rfl (bE (l:=[_,_,_,_,_,_,_,_]) rfl rfl rfl rfl rfl S ?_))))))
 intro aI w1 S1;clear S
 refine U5 rfl (ah [0,3] rfl (U3 (U2 avu Qa rfl rfl rfl (bM rfl (by kernel_rfl) S1 14 rfl ?_))))
 clear S1
 refine ai 0 13 rfl (by kernel_rfl) (fun _=>U1 rfl rfl aT rfl (aC) (aB)) ?_
 refine aj 1 12 rfl (by kernel_rfl) (fun _ _ _ hz Sz=>.inl (U4 rfl rfl av rfl (Sz.suf.ar (i:=0) rfl rfl))) ?_
 refine ai 2 11 rfl (by kernel_rfl) (fun _=>lg rfl rfl rfl) ?_
 refine ai 3 10 rfl (by kernel_rfl) (fun _=>run_move rfl rfl) ?_
 refine lj (t:=19) rfl (fun zO=>?_) (fun zO=>?_)
 ·refine ai 4 9 rfl (by kernel_rfl) (fun _=>U1 rfl rfl aT rfl (aC) (aB)) ?_
  refine aj 5 8 rfl (by kernel_rfl) (fun _ _ _ hz Sz=>.inl (U4 rfl rfl av rfl (Sz.suf.ar (i:=0) rfl rfl))) ?_
  refine ai 6 7 rfl (by kernel_rfl) (fun _=>run_move rfl rfl) ?_
  refine ai 7 6 rfl (by kernel_rfl) (fun _=>U9 rfl rfl) ?_
  refine ai 8 5 rfl (by kernel_rfl) (fun _=>U1 rfl rfl cV rfl (DR) (Du)) ?_
  refine aj 9 4 rfl (by kernel_rfl) (fun _ _ _ hz Sz=>.inl (U4 rfl rfl mr rfl (Sz.suf.ar (i:=1) rfl rfl))) ?_
  refine aj 10 3 rfl (by kernel_rfl) (fun _ _ _ hz Sz=>.inl (cU rfl rfl rfl rfl rfl rfl mr)) ?_
  refine ai 11 2 rfl (by kernel_rfl) (fun _=>bS rfl rfl rfl) ?_
  refine ai 12 1 rfl (by kernel_rfl) (fun _=>gK rfl rfl rfl) ?_
  refine lj (t:=28) rfl (fun aoz=>?_) (fun aoz=>?_)
  ·refine aj 13 0 rfl (by kernel_rfl) (fun _ _ _ hz Sz=>Ur rfl rfl rfl rfl rfl eD Sz (mQ 3 Sz.aD)) ?_
   refine Uu (by kernel_rfl) (fun kU bF=>?_)
   refine ah [0,3] rfl (U3 (U2 avt P9 rfl rfl rfl ?_))
   have gN:0<=m.at_/\m.at_<((U7 d).length:Int):=by omega
   have hok:∀x∈(ga (U7 d) m.at_.toNat),okD d x:=Ch hab (iB (by omega))
   refine bM rfl (by kernel_rfl) bF 9 rfl ?_
   clear bF
   refine ai 0 8 rfl (by kernel_rfl) (fun _=>run_move rfl rfl) ?_
   refine ai 1 7 rfl (by kernel_rfl) (fun _=>U9 rfl rfl) ?_
   refine ai 2 6 rfl (by kernel_rfl) (fun _=>U1 rfl rfl cV rfl (DR) (Du)) ?_
   refine aj 3 5 rfl (by kernel_rfl) (fun _ _ _ hz Sz=>.inl (U4 rfl rfl mr rfl (Sz.suf.ar (i:=1) rfl rfl))) ?_
   refine ai 4 4 rfl (by kernel_rfl) (fun _=>U1 rfl rfl aT rfl (aC) (aB)) ?_
   refine aj 5 3 rfl (by kernel_rfl) (fun _ _ _ hz Sz=>.inl (U4 rfl rfl av rfl (Sz.suf.ar (i:=0) rfl rfl))) ?_
   refine kg 35 (.int .i64 ((m.at_.toNat:Nat):Int)) rfl (int_eq (by omega)) ?_
   refine aj 6 2 rfl (by kernel_rfl) (fun _ _ _ hz Sz=>.inl (Ul (C:=(di 141)) m.at_.toNat rfl rfl rfl kr (by first|rfl|omega) (cZ.mono hz) (by first|omega|(simp only[ls];omega)))) ?_
   obtain⟨lY,hr1⟩:=cY.2 m.at_.toNat (by first|omega|(simp only[ls];omega))
   have al9:(ga (U7 d) m.at_.toNat).length*16<=140737488355328:=hr1.room
   refine aj 7 1 rfl (by kernel_rfl) (fun _ _ _ hz Sz=>.inl (U4 rfl rfl iO rfl ((cZ.mono hz).cell Sz.m (i:=m.at_.toNat) (by first|omega|(simp only[ls];omega)) 0 rfl (congrArg (fun n=>some (Value.slice _ n _)) lY)))) ?_
   refine ai 8 0 rfl (by kernel_rfl) (fun _=>run_assign rfl rfl) ?_
   refine Uu (by kernel_rfl) (fun AG eG=>?_)
   refine ah [0,4] rfl (U3 (U2 avs P8 rfl rfl rfl (U0 rfl (ag 0 2 rfl rfl (ak 2 3 rfl rfl rfl (cS rfl rfl rfl rfl rfl rfl rfl anu eG (aiN d (ga (U7 d) m.at_.toNat) (SH.fF (N:=[]) (i:=1) eG rfl rfl) (SH.fF (N:=[]) (i:=2) eG rfl (by rw[dM])) (SH.jD (N:=[]) (i:=3) eG rfl dM (by show _*40<=_;omega)) (hsi.mono (Hp.bY _ _)) (aK.mono (Hp.bY _ _)) (hr1.mono (Hp.bY _ _)) hn hab hok eG.aD) ?_))))))
   rintro _ ng dB rfl;clear eG
   refine mR (t:=40) rfl (fun qC=>?_) (fun qC=>?_)
   ·refine ak 3 4 rfl rfl rfl (cS rfl rfl rfl rfl rfl rfl rfl eD dB (mQ 8 dB.aD) ?_)
    rintro _ q7 eV rfl;clear dB
    refine U5 rfl (ah [0,4] rfl (U3 (U2 avr P7 rfl rfl rfl (U0 rfl (ag 0 1 rfl rfl (U5 rfl (U3 (U2 avq P6 rfl rfl rfl ?_))))))))
    refine U0 rfl (ak 0 1 rfl rfl rfl (yq (Nat×Nat) Int (fun x=>Value.agg (br.f x).toArray) (Value.int .i64) rfl rfl rfl eV ?_))
    intro jg vt lq;clear eV
    refine ag 1 1 rfl rfl (U5 rfl (ah [0,4,5,6] rfl (U3 (U2 P5 P4 rfl rfl rfl (U2 avp ago rfl rfl rfl (U0 rfl (ag 0 1 rfl rfl (af 1 rfl (cU rfl rfl rfl rfl rfl rfl iO) ?_))))))))
    refine ag 2 1 rfl rfl (U5 rfl (ah [0,5,6,43,44,45] rfl (U3 (Uc agn 0 rfl rfl rfl ?_))))
    refine Ux (fun aS au aM=>∃(i:Nat) (es:List ((Nat×Nat)×Int)),aS=(ga (U7 d) m.at_.toNat).length-i/\Env 117 [(0,.pointer (some ⟨bC,0,none⟩)),(5,.func (.func 128) #[] #[]),(6,.map (some jg)),(43,.slice ((ga fv m.at_.toNat).A) (ga (U7 d) m.at_.toNat).length ((ga fv m.at_.toNat).c)),(44,.int .i64 ((ga (U7 d) m.at_.toNat).length:Int)),(45,.int .i64 (i:Int))] au/\SH aM M X [Rs.mp (fun x=>Value.agg (br.f x).toArray) (Value.int .i64) jg es,Rs.box bC 67 [.pointer (some ⟨ggs,0,none⟩),.slice fA fv.length fc],Rs.box ggs 70 [bD,.int .i64 d.loops,.slice iA (ax d false (4*d.ae.length)).length ic,.slice oA (ax d true (4*d.ae.length)).length oc],Rs.row aF bD d.ae]/\i<=(ga (U7 d) m.at_.toNat).length/\es=nP d (ga (U7 d) m.at_.toNat) i) rfl ?_ ?_
    ·intro au aq
     refine⟨_,⟨0,[],rfl,aq.sub ⟨rfl,rfl,rfl,rfl,rfl,rfl,trivial⟩,lq.pick [0,2,3,4] [_,_,_,_] (by decide) ⟨rfl,rfl,rfl,rfl,trivial⟩,?cd,?dm⟩⟩
     case cd=>omega
     case dm=>rfl
    ·rintro m2 a1 vq ⟨i,es,rfl,aY,fX,hi,hes⟩
     clear lq
     refine bX aY (c:=PZ) rfl ?_
     clear aY a1
     refine U2 avo PY rfl rfl rfl (U0 rfl (af 0 rfl (bS rfl rfl rfl) (U5 rfl (U3 (U2 PX PW rfl rfl rfl ?_)))))
     refine Uf avn avm rfl rfl rfl rfl (fun ao1=>?_) (fun ao1=>?_)
     ·refine Ue rfl (ah [0,5,6,43,44,45] rfl (U3 (U2 agm avl rfl rfl rfl (Uc PV 1 rfl rfl rfl (U2 avk PU rfl rfl rfl (U0 rfl (af 0 rfl (Ul (C:=cu) i rfl rfl rfl iF (by first|rfl|omega) hr1 (by first|omega|(simp only[ls];omega))) ?_)))))))
      refine af 1 rfl (U8 (us:=[_,_]) rfl rfl aZ rfl cC (hr1.fU fX.m (e:=i) (by first|omega|(simp only[ls];omega)) (j:=0) ⟨rfl,rfl,trivial⟩)) ?_
      refine ak 2 3 rfl rfl rfl (Uh (l:=[_,_]) rfl rfl rfl nN rfl fX ?_)
      intro aQ Rk mj;clear fX
      refine ak 3 4 rfl rfl rfl (U6 (i:=0) (us:=[_,_]) (l':=[_,_]) (H':=[_,_,_,_,_]) rfl rfl mj rfl rfl rfl rfl cC rfl rfl rfl rfl ?_)
      intro vp gL;clear mj
      refine U5 rfl (ah [0,5,6,43,44,45,8] rfl (U3 (U2 avj PT rfl rfl rfl ?_)))
      have ho:okD d (ga (ga (U7 d) m.at_.toNat) i):=hok _ (iB (by omega))
      have hpo:1<=(ga (ga (U7 d) m.at_.toNat) i).a/\(ga (ga (U7 d) m.at_.toNat) i).a<=2*(d.ae.length:Int):=ho
      obtain⟨ht1,ht2,htg,htl,_⟩:=eF hab ho true
      obtain⟨Fq,hf2,hfg,hfl,_⟩:=eF hab ho false
      have ayA:=gJ d true (4*d.ae.length)
      have kS:=gJ d false (4*d.ae.length)
      refine U0 rfl (af 0 rfl (U1 rfl rfl aZ rfl (aC) (aB)) (af 1 rfl (U4 rfl rfl av rfl (gL.ar (i:=0) rfl rfl)) (ag 2 1 rfl rfl (U5 rfl (ah [0,5,6,43,44,45,9] rfl (U3 (U2 avi PS rfl rfl rfl ?_)))))))
      refine nE (fun au aM=>∃(Jz:Nat) (Jy:Nat),Env 117 [(0,.pointer (some ⟨bC,0,none⟩)),(5,.func (.func 128) #[] #[]),(6,.map (some jg)),(43,.slice ((ga fv m.at_.toNat).A) (ga (U7 d) m.at_.toNat).length ((ga fv m.at_.toNat).c)),(44,.int .i64 ((ga (U7 d) m.at_.toNat).length:Int)),(45,.int .i64 (i:Int)),(9,.int .i64 ((ga (ga (U7 d) m.at_.toNat) i).a)),(10,.pointer (some ⟨Jz,0,none⟩)),(11,.pointer (some ⟨Jy,0,none⟩))] au/\SH aM M X [Rs.box Jz 190 [.int .i64 ((ga (ax d true (4*d.ae.length)) (ga (ga (U7 d) m.at_.toNat) i).a.toNat).1:Int),.int .i64 ((ga (ax d true (4*d.ae.length)) (ga (ga (U7 d) m.at_.toNat) i).a.toNat).2:Int)],Rs.box Jy 190 [.int .i64 ((ga (ax d false (4*d.ae.length)) (ga (ga (U7 d) m.at_.toNat) i).a.toNat).1:Int),.int .i64 ((ga (ax d false (4*d.ae.length)) (ga (ga (U7 d) m.at_.toNat) i).a.toNat).2:Int)],Rs.box aQ 26 [.int .i64 ((ga (ga (U7 d) m.at_.toNat) i).a),.bool ((ga (ga (U7 d) m.at_.toNat) i).b)],Rs.mp (fun x=>Value.agg (br.f x).toArray) (Value.int .i64) jg es,Rs.box bC 67 [.pointer (some ⟨ggs,0,none⟩),.slice fA fv.length fc],Rs.box ggs 70 [bD,.int .i64 d.loops,.slice iA (ax d false (4*d.ae.length)).length ic,.slice oA (ax d true (4*d.ae.length)).length oc],Rs.row aF bD d.ae]) ?_ ?_
      ·refine bM rfl (by kernel_rfl) gL 24 rfl ?_
       clear gL
       refine ai 0 23 rfl (by kernel_rfl) (fun _=>run_move rfl rfl) ?_
       refine ai 1 22 rfl (by kernel_rfl) (fun _=>U9 rfl rfl) ?_
       refine ai 2 21 rfl (by kernel_rfl) (fun _=>U1 rfl rfl cV rfl (dK) (dJ)) ?_
       refine aj 3 20 rfl (by kernel_rfl) (fun _ _ _ hz Sz=>.inl (U4 rfl rfl dt rfl (Sz.suf.ar (i:=2) rfl rfl))) ?_
       refine ai 4 19 rfl (by kernel_rfl) (fun _=>U9 rfl rfl) ?_
       refine ai 5 18 rfl (by kernel_rfl) (fun _=>U1 rfl rfl dR rfl (oW) (oL)) ?_
       refine aj 6 17 rfl (by kernel_rfl) (fun _ _ _ hz Sz=>.inl (U4 rfl rfl mX rfl (Sz.suf.ar (i:=3) rfl rfl))) ?_
       refine ai 7 16 rfl (by kernel_rfl) (fun _=>run_move rfl rfl) ?_
       refine kg 58 (.int .i64 (((ga (ga (U7 d) m.at_.toNat) i).a.toNat:Nat):Int)) rfl (int_eq (by omega)) ?_
       refine aj 8 15 rfl (by kernel_rfl) (fun _ _ _ hz Sz=>.inl (Ul (C:=br) ((ga (ga (U7 d) m.at_.toNat) i).a.toNat) rfl rfl rfl oK (by first|rfl|omega) (aK.mono hz) (by first|omega|(simp only[ls];omega)))) ?_
       refine aj 9 14 rfl (by kernel_rfl) (fun _ _ _ hz Sz=>.inl (U8 (us:=[_,_]) rfl rfl cO rfl eA ((aK.mono hz).fU Sz.m (e:=(ga (ga (U7 d) m.at_.toNat) i).a.toNat) (by first|omega|(simp only[ls];omega)) (j:=0) ⟨rfl,rfl,trivial⟩))) ?_
       refine ai 10 13 rfl (by kernel_rfl) (fun _=>run_move rfl rfl) ?_
       refine ai 11 12 rfl (by kernel_rfl) (fun _=>U9 rfl rfl) ?_
       refine ai 12 11 rfl (by kernel_rfl) (fun _=>U1 rfl rfl cV rfl (dK) (dJ)) ?_
       refine aj 13 10 rfl (by kernel_rfl) (fun _ _ _ hz Sz=>.inl (U4 rfl rfl dt rfl (Sz.suf.ar (i:=2) rfl rfl))) ?_
       refine ai 14 9 rfl (by kernel_rfl) (fun _=>U9 rfl rfl) ?_
       refine ai 15 8 rfl (by kernel_rfl) (fun _=>U1 rfl rfl dR rfl (oW) (oL)) ?_
       refine aj 16 7 rfl (by kernel_rfl) (fun _ _ _ hz Sz=>.inl (U4 rfl rfl mX rfl (Sz.suf.ar (i:=3) rfl rfl))) ?_
       refine ai 17 6 rfl (by kernel_rfl) (fun _=>run_move rfl rfl) ?_
       refine kg 68 (.int .i64 (((ga (ga (U7 d) m.at_.toNat) i).a.toNat:Nat):Int)) rfl (int_eq (by omega)) ?_
       refine aj 18 5 rfl (by kernel_rfl) (fun _ _ _ hz Sz=>.inl (Ul (C:=br) ((ga (ga (U7 d) m.at_.toNat) i).a.toNat) rfl rfl rfl oK (by first|rfl|omega) (hsi.mono hz) (by first|omega|(simp only[ls];omega)))) ?_
       refine aj 19 4 rfl (by kernel_rfl) (fun _ _ _ hz Sz=>.inl (U8 (us:=[_,_]) rfl rfl cO rfl eA ((hsi.mono hz).fU Sz.m (e:=(ga (ga (U7 d) m.at_.toNat) i).a.toNat) (by first|omega|(simp only[ls];omega)) (j:=0) ⟨rfl,rfl,trivial⟩))) ?_
       refine wK (i:=20) (j:=21) 3 rfl rfl (by kernel_rfl) rfl rfl rfl rfl (fun Re nD=>?_) (fun Re nD=>?_)
       ·refine(Uh (l:=[_,_]) rfl rfl rfl oC rfl nD ?_)
        intro bz E3 ou;clear nD
        refine aP.grow [_] (Hp.le_refl _) ou ?_;clear ou
        change WA _ _ _ _ _ _ _ _ _ _ _ _ [_,_,_,_,_,_]
        refine Un (i:=21) 2 rfl (by kernel_rfl) rfl rfl (fun Ra yC=>?_)
        refine(Uh (l:=[_,_]) rfl rfl rfl oC rfl yC ?_)
        intro gZ Q9 ot;clear yC
        refine aP.grow [_,_] (Hp.le_refl _) ot ?_;clear ot
        change WA _ _ _ _ _ _ _ _ _ _ _ _ [_,_,_,_,_,_,_]
        refine Un (i:=22) 1 rfl (by kernel_rfl) rfl rfl (fun Q7 kF=>?_)
        refine(U6 (i:=1) (us:=[_,_]) (l':=[_,_]) (H':=[_,_,_,_,_,_,_]) rfl rfl kF rfl rfl rfl rfl eA rfl rfl rfl rfl ?_)
        intro w64 S64;clear kF
        refine aP.grow [_,_] (Hp.le_refl _) S64 ?_;clear S64
        change WA _ _ _ _ _ _ _ _ _ _ _ _ [_,_,_,_,_,_,_]
        refine Un (i:=23) 0 rfl (by kernel_rfl) rfl rfl (fun w66 rM=>?_)
        refine(U6 (i:=0) (us:=[_,_]) (l':=[_,_]) (H':=[_,_,_,_,_,_,_]) rfl rfl rM rfl rfl rfl rfl eA rfl rfl rfl rfl ?_)
        intro w67 qg;clear rM
        refine aP.grow [_,_] (Hp.le_refl _) qg ?_;clear qg
        change WA _ _ _ _ _ _ _ _ _ _ _ _ [_,_,_,_,_,_,_]
        refine Uu (by kernel_rfl) (fun w68 wm=>?_)
        refine aO ?_
        intro au aq
        refine⟨_,_,aq.sub ⟨rfl,rfl,rfl,rfl,rfl,rfl,rfl,rfl,rfl,trivial⟩,wm.pick [1,0,2,3,4,5,6] [_,_,_,_,_,_,_] (by decide) ⟨rfl,rfl,rfl,rfl,rfl,rfl,rfl,trivial⟩⟩
       ·refine(Uh (l:=[_,_]) rfl rfl rfl oC rfl nD ?_)
        intro iy Q6 fP;clear nD
        refine aP.grow [_] (Hp.le_refl _) fP ?_;clear fP
        change WA _ _ _ _ _ _ _ _ _ _ _ _ [_,_,_,_,_,_]
        refine Un (i:=20) 2 rfl (by kernel_rfl) rfl rfl (fun E2 qf=>?_)
        refine(Uh (l:=[_,_]) rfl rfl rfl oC rfl qf ?_)
        intro pZ EZ j6;clear qf
        refine aP.grow [_,_] (Hp.le_refl _) j6 ?_;clear j6
        change WA _ _ _ _ _ _ _ _ _ _ _ _ [_,_,_,_,_,_,_]
        refine Un (i:=22) 1 rfl (by kernel_rfl) rfl rfl (fun Q5 j5=>?_)
        refine(U6 (i:=0) (us:=[_,_]) (l':=[_,_]) (H':=[_,_,_,_,_,_,_]) rfl rfl j5 rfl rfl rfl rfl eA rfl rfl rfl rfl ?_)
        intro w75 pG;clear j5
        refine aP.grow [_,_] (Hp.le_refl _) pG ?_;clear pG
        change WA _ _ _ _ _ _ _ _ _ _ _ _ [_,_,_,_,_,_,_]
        refine Un (i:=23) 0 rfl (by kernel_rfl) rfl rfl (fun w77 pF=>?_)
        refine(U6 (i:=1) (us:=[_,_]) (l':=[_,_]) (H':=[_,_,_,_,_,_,_]) rfl rfl pF rfl rfl rfl rfl eA rfl rfl rfl rfl ?_)
        intro w78 BA;clear pF
        refine aP.grow [_,_] (Hp.le_refl _) BA ?_;clear BA
        change WA _ _ _ _ _ _ _ _ _ _ _ _ [_,_,_,_,_,_,_]
        refine Uu (by kernel_rfl) (fun w79 FP=>?_)
        refine aO ?_
        intro au aq
        refine⟨_,_,aq.sub ⟨rfl,rfl,rfl,rfl,rfl,rfl,rfl,rfl,rfl,trivial⟩,FP.pick [0,1,2,3,4,5,6] [_,_,_,_,_,_,_] (by decide) ⟨rfl,rfl,rfl,rfl,rfl,rfl,rfl,trivial⟩⟩
      ·rintro a2 pS ⟨Jz,Jy,cB,dX⟩
       clear gL
       refine nM cB ?_
       clear cB a2
       refine U3 (U2 avh PR rfl rfl rfl ?_)
       have xt:qP d (ga (ax d true (4*d.ae.length)) (ga (ga (U7 d) m.at_.toNat) i).a.toNat):=by rw[htg];exact⟨ht1,ht2⟩
       have xt2:(ga (ax d true (4*d.ae.length)) (ga (ga (U7 d) m.at_.toNat) i).a.toNat).2<4:=xt.2
       have aw8:(bH (ga (ax d true (4*d.ae.length)) (ga (ga (U7 d) m.at_.toNat) i).a.toNat)).1<d.ae.length:=(pq xt).1
       have aw7:(bH (ga (ax d true (4*d.ae.length)) (ga (ga (U7 d) m.at_.toNat) i).a.toNat)).2<4:=(pq xt).2
       have xf:qP d (ga (ax d false (4*d.ae.length)) (ga (ga (U7 d) m.at_.toNat) i).a.toNat):=by rw[hfg];exact⟨Fq,hf2⟩
       have xf2:(ga (ax d false (4*d.ae.length)) (ga (ga (U7 d) m.at_.toNat) i).a.toNat).2<4:=xf.2
       have axa:(bH (ga (ax d false (4*d.ae.length)) (ga (ga (U7 d) m.at_.toNat) i).a.toNat)).1<d.ae.length:=(pq xf).1
       have aw9:(bH (ga (ax d false (4*d.ae.length)) (ga (ga (U7 d) m.at_.toNat) i).a.toNat)).2<4:=(pq xf).2
       refine bM rfl (by kernel_rfl) dX 18 rfl ?_
       clear dX
       refine ai 0 17 rfl (by kernel_rfl) (fun _=>run_move rfl rfl) ?_
       refine ai 1 16 rfl (by kernel_rfl) (fun _=>U9 rfl rfl) ?_
       refine ai 2 15 rfl (by kernel_rfl) (fun _=>U1 rfl rfl cV rfl (dK) (dJ)) ?_
       refine aj 3 14 rfl (by kernel_rfl) (fun _ _ _ hz Sz=>.inl (U4 rfl rfl dt rfl (Sz.suf.ar (i:=4) rfl rfl))) ?_
       refine ai 4 13 rfl (by kernel_rfl) (fun _=>run_move rfl rfl) ?_
       refine aj 5 12 rfl (by kernel_rfl) (fun _ _ _ hz Sz=>.inl (U8 (us:=[_,_]) rfl rfl cO rfl eA (Sz.suf.aw (i:=0) rfl ⟨rfl,rfl,trivial⟩))) ?_
       refine aj 6 11 rfl (by kernel_rfl) (fun _ _ _ hz Sz=>Ur rfl rfl rfl rfl rfl Dd Sz (BV (ga (ax d true (4*d.ae.length)) (ga (ga (U7 d) m.at_.toNat) i).a.toNat) (by first|assumption|omega) Sz.aD)) ?_
       refine aj 7 10 rfl (by kernel_rfl) (fun _ _ _ hz Sz=>Ur rfl rfl rfl rfl rfl Dc Sz (EX d ((bH (ga (ax d true (4*d.ae.length)) (ga (ga (U7 d) m.at_.toNat) i).a.toNat)).1) ((bH (ga (ax d true (4*d.ae.length)) (ga (ga (U7 d) m.at_.toNat) i).a.toNat)).2) (SH.fF (i:=5) Sz rfl (by rw[dM])) (SH.jD (i:=6) Sz rfl dM (by show _*40<=_;omega)) ((hsi.mono hz).mono (Hp.bY _ _)) ((aK.mono hz).mono (Hp.bY _ _)) (by omega) (by omega) Sz.aD)) ?_
       refine ai 8 9 rfl (by kernel_rfl) (fun _=>run_move rfl rfl) ?_
       refine ai 9 8 rfl (by kernel_rfl) (fun _=>U9 rfl rfl) ?_
       refine ai 10 7 rfl (by kernel_rfl) (fun _=>U1 rfl rfl cV rfl (dK) (dJ)) ?_
       refine aj 11 6 rfl (by kernel_rfl) (fun _ _ _ hz Sz=>.inl (U4 rfl rfl dt rfl (Sz.suf.ar (i:=4) rfl rfl))) ?_
       refine ai 12 5 rfl (by kernel_rfl) (fun _=>run_move rfl rfl) ?_
       refine aj 13 4 rfl (by kernel_rfl) (fun _ _ _ hz Sz=>.inl (U8 (us:=[_,_]) rfl rfl cO rfl eA (Sz.suf.aw (i:=1) rfl ⟨rfl,rfl,trivial⟩))) ?_
       refine aj 14 3 rfl (by kernel_rfl) (fun _ _ _ hz Sz=>Ur rfl rfl rfl rfl rfl Dd Sz (BV (ga (ax d false (4*d.ae.length)) (ga (ga (U7 d) m.at_.toNat) i).a.toNat) (by first|assumption|omega) Sz.aD)) ?_
       refine aj 15 2 rfl (by kernel_rfl) (fun _ _ _ hz Sz=>Ur rfl rfl rfl rfl rfl Dc Sz (EX d ((bH (ga (ax d false (4*d.ae.length)) (ga (ga (U7 d) m.at_.toNat) i).a.toNat)).1) ((bH (ga (ax d false (4*d.ae.length)) (ga (ga (U7 d) m.at_.toNat) i).a.toNat)).2) (SH.fF (i:=5) Sz rfl (by rw[dM])) (SH.jD (i:=6) Sz rfl dM (by show _*40<=_;omega)) ((hsi.mono hz).mono (Hp.bY _ _)) ((aK.mono hz).mono (Hp.bY _ _)) (by omega) (by omega) Sz.aD)) ?_
       refine ai 16 1 rfl (by kernel_rfl) (fun _=>run_assign rfl rfl) ?_
       refine ai 17 0 rfl (by kernel_rfl) (fun _=>run_assign rfl rfl) ?_
       refine Uu (by kernel_rfl) (fun w98 qc=>?_)
       refine ah [0,5,6,43,44,45,9,10,11,12,13] rfl (U3 (U2 avg avf rfl rfl rfl ?_))
       have wj:=qc.pick [3,0,1,2,4,5,6] [_,_,_,_,_,_,_] (by decide) ⟨rfl,rfl,rfl,rfl,rfl,rfl,rfl,trivial⟩;clear qc
       refine jM [_] [_,_,_,_,_,_] rfl (by kernel_rfl) wj 10 rfl ?_
       clear wj
       change WA _ _ _ _ _ _ _ _ _ _ _ _ [_,_,_,_,_,_,_]
       refine ai 0 9 rfl (by kernel_rfl) (fun _=>run_move rfl rfl) ?_
       refine aj 1 8 rfl (by kernel_rfl) (fun _ _ _ hz Sz=>.inl (U8 (us:=[_,_]) rfl rfl cO rfl eA (Sz.suf.aw (i:=1) rfl ⟨rfl,rfl,trivial⟩))) ?_
       refine ai 2 7 rfl (by kernel_rfl) (fun _=>run_move rfl rfl) ?_
       refine ai 3 6 rfl (by kernel_rfl) (fun _=>run_move rfl rfl) ?_
       refine aj 4 5 rfl (by kernel_rfl) (fun _ _ _ hz Sz=>.inl (U8 (us:=[_,_]) rfl rfl cO rfl eA (Sz.suf.aw (i:=1) rfl ⟨rfl,rfl,trivial⟩))) ?_
       refine aj 5 4 rfl (by kernel_rfl) (fun _ _ _ hz Sz=>Ur rfl rfl rfl rfl rfl Dd Sz (BV (ga (ax d false (4*d.ae.length)) (ga (ga (U7 d) m.at_.toNat) i).a.toNat) (by first|assumption|omega) Sz.aD)) ?_
       refine ai 6 3 rfl (by kernel_rfl) (fun _=>run_move rfl rfl) ?_
       refine ai 7 2 rfl (by kernel_rfl) (fun _=>run_move rfl rfl) ?_
       refine Un (i:=8) 1 rfl (by kernel_rfl) rfl rfl (fun ax2 xN=>?_)
       refine(om (kc:=(fun x=>Value.agg (br.f x).toArray)) (vc:=Value.int .i64) (es:=es) (k:=(ga (ax d false (4*d.ae.length)) (ga (ga (U7 d) m.at_.toNat) i).a.toNat)) (e:=(Uq d ((bH (ga (ax d true (4*d.ae.length)) (ga (ga (U7 d) m.at_.toNat) i).a.toNat)).1) ((bH (ga (ax d true (4*d.ae.length)) (ga (ga (U7 d) m.at_.toNat) i).a.toNat)).2))) (i:=0) (H':=[_,_,_,_,_,_,_]) (.inl rfl) rfl xN rfl rfl rfl rfl zm C3 rfl ?_)
       intro ax1 Aw;clear xN
       refine aP.grow [_] (Hp.le_refl _) Aw ?_;clear Aw
       change WA _ _ _ _ _ _ _ _ _ _ _ _ [_,_,_,_,_,_,_]
       refine Un (i:=9) 0 rfl (by kernel_rfl) rfl rfl (fun adU agY=>?_)
       refine(om (kc:=(fun x=>Value.agg (br.f x).toArray)) (vc:=Value.int .i64) (es:=(mp (ga (ax d false (4*d.ae.length)) (ga (ga (U7 d) m.at_.toNat) i).a.toNat) (Uq d ((bH (ga (ax d true (4*d.ae.length)) (ga (ga (U7 d) m.at_.toNat) i).a.toNat)).1) ((bH (ga (ax d true (4*d.ae.length)) (ga (ga (U7 d) m.at_.toNat) i).a.toNat)).2)) es)) (k:=(bH (ga (ax d false (4*d.ae.length)) (ga (ga (U7 d) m.at_.toNat) i).a.toNat))) (e:=((ga (ga (U7 d) m.at_.toNat) i).a)) (i:=0) (H':=[_,_,_,_,_,_,_]) (.inl rfl) rfl agY rfl rfl rfl rfl zm C3 rfl ?_)
       intro adT agX;clear agY
       refine aP.grow [_] (Hp.le_refl _) agX ?_;clear agX
       change WA _ _ _ _ _ _ _ _ _ _ _ _ [_,_,_,_,_,_,_]
       refine Uu (by kernel_rfl) (fun ax0 mI=>?_)
       refine ah [0,5,6,43,44,45,9,10,13] rfl (U3 ?_)
       have tj:=mI.pick [0,1,2,3,4,5,6] [_,_,_,_,_,_,_] (by decide) ⟨rfl,rfl,rfl,rfl,rfl,rfl,rfl,trivial⟩;clear mI
       refine jM [_] [_,_,_,_,_,_] rfl (by kernel_rfl) tj 12 rfl ?_
       clear tj
       change WA _ _ _ _ _ _ _ _ _ _ _ _ [_,_,_,_,_,_,_]
       refine ai 0 11 rfl (by kernel_rfl) (fun _=>run_move rfl rfl) ?_
       refine ai 1 10 rfl (by kernel_rfl) (fun _=>run_move rfl rfl) ?_
       refine aj 2 9 rfl (by kernel_rfl) (fun _ _ _ hz Sz=>.inl (U8 (us:=[_,_]) rfl rfl cO rfl eA (Sz.suf.aw (i:=0) rfl ⟨rfl,rfl,trivial⟩))) ?_
       refine aj 3 8 rfl (by kernel_rfl) (fun _ _ _ hz Sz=>Ur rfl rfl rfl rfl rfl Dd Sz (BV (ga (ax d true (4*d.ae.length)) (ga (ga (U7 d) m.at_.toNat) i).a.toNat) (by first|assumption|omega) Sz.aD)) ?_
       refine ai 4 7 rfl (by kernel_rfl) (fun _=>run_move rfl rfl) ?_
       refine aj 5 6 rfl (by kernel_rfl) (fun _ _ _ hz Sz=>.inl (U8 (us:=[_,_]) rfl rfl cO rfl eA (Sz.suf.aw (i:=0) rfl ⟨rfl,rfl,trivial⟩))) ?_
       refine ai 6 5 rfl (by kernel_rfl) (fun _=>run_move rfl rfl) ?_
       refine ai 7 4 rfl (by kernel_rfl) (fun _=>run_move rfl rfl) ?_
       refine Un (i:=8) 3 rfl (by kernel_rfl) rfl rfl (fun anV Av=>?_)
       refine(ahi (kc:=(fun x=>Value.agg (br.f x).toArray)) (vc:=Value.int .i64) (es:=(mp (bH (ga (ax d false (4*d.ae.length)) (ga (ga (U7 d) m.at_.toNat) i).a.toNat)) ((ga (ga (U7 d) m.at_.toNat) i).a) (mp (ga (ax d false (4*d.ae.length)) (ga (ga (U7 d) m.at_.toNat) i).a.toNat) (Uq d ((bH (ga (ax d true (4*d.ae.length)) (ga (ga (U7 d) m.at_.toNat) i).a.toNat)).1) ((bH (ga (ax d true (4*d.ae.length)) (ga (ga (U7 d) m.at_.toNat) i).a.toNat)).2)) es))) (k:=(bH (ga (ax d true (4*d.ae.length)) (ga (ga (U7 d) m.at_.toNat) i).a.toNat))) (zv:=0) (i:=0) rfl rfl rfl Av rfl rfl rfl zm C3 zr3 ?_)
       intro sx1 anU qU;clear Av
       change SH _ _ _ [Rs.AR (fun x=>Value.agg (br.f x).toArray) (Value.int .i64) jg (mp (bH (ga (ax d true (4*d.ae.length)) (ga (ga (U7 d) m.at_.toNat) i).a.toNat)) ((mg (bH (ga (ax d true (4*d.ae.length)) (ga (ga (U7 d) m.at_.toNat) i).a.toNat)) (mp (bH (ga (ax d false (4*d.ae.length)) (ga (ga (U7 d) m.at_.toNat) i).a.toNat)) ((ga (ga (U7 d) m.at_.toNat) i).a) (mp (ga (ax d false (4*d.ae.length)) (ga (ga (U7 d) m.at_.toNat) i).a.toNat) (Uq d ((bH (ga (ax d true (4*d.ae.length)) (ga (ga (U7 d) m.at_.toNat) i).a.toNat)).1) ((bH (ga (ax d true (4*d.ae.length)) (ga (ga (U7 d) m.at_.toNat) i).a.toNat)).2)) es))).getD 0) (mp (bH (ga (ax d false (4*d.ae.length)) (ga (ga (U7 d) m.at_.toNat) i).a.toNat)) ((ga (ga (U7 d) m.at_.toNat) i).a) (mp (ga (ax d false (4*d.ae.length)) (ga (ga (U7 d) m.at_.toNat) i).a.toNat) (Uq d ((bH (ga (ax d true (4*d.ae.length)) (ga (ga (U7 d) m.at_.toNat) i).a.toNat)).1) ((bH (ga (ax d true (4*d.ae.length)) (ga (ga (U7 d) m.at_.toNat) i).a.toNat)).2)) es))) (bH (ga (ax d true (4*d.ae.length)) (ga (ga (U7 d) m.at_.toNat) i).a.toNat)) sx1,_,_,_,_,_,_]at qU
       refine aP.grow [_] (Hp.le_refl _) qU ?_;clear qU
       change WA _ _ _ _ _ _ _ _ _ _ _ _ [_,_,_,_,_,_,_]
       refine ai 9 2 rfl (by kernel_rfl) (fun _=>Ui rfl rfl rfl) ?_
       refine Un (i:=10) 1 rfl (by kernel_rfl) rfl rfl (fun adS qT=>?_)
       refine(ag7 (kc:=(fun x=>Value.agg (br.f x).toArray)) (vc:=Value.int .i64) (es:=(mp (bH (ga (ax d true (4*d.ae.length)) (ga (ga (U7 d) m.at_.toNat) i).a.toNat)) ((mg (bH (ga (ax d true (4*d.ae.length)) (ga (ga (U7 d) m.at_.toNat) i).a.toNat)) (mp (bH (ga (ax d false (4*d.ae.length)) (ga (ga (U7 d) m.at_.toNat) i).a.toNat)) ((ga (ga (U7 d) m.at_.toNat) i).a) (mp (ga (ax d false (4*d.ae.length)) (ga (ga (U7 d) m.at_.toNat) i).a.toNat) (Uq d ((bH (ga (ax d true (4*d.ae.length)) (ga (ga (U7 d) m.at_.toNat) i).a.toNat)).1) ((bH (ga (ax d true (4*d.ae.length)) (ga (ga (U7 d) m.at_.toNat) i).a.toNat)).2)) es))).getD 0) (mp (bH (ga (ax d false (4*d.ae.length)) (ga (ga (U7 d) m.at_.toNat) i).a.toNat)) ((ga (ga (U7 d) m.at_.toNat) i).a) (mp (ga (ax d false (4*d.ae.length)) (ga (ga (U7 d) m.at_.toNat) i).a.toNat) (Uq d ((bH (ga (ax d true (4*d.ae.length)) (ga (ga (U7 d) m.at_.toNat) i).a.toNat)).1) ((bH (ga (ax d true (4*d.ae.length)) (ga (ga (U7 d) m.at_.toNat) i).a.toNat)).2)) es)))) (k:=(bH (ga (ax d true (4*d.ae.length)) (ga (ga (U7 d) m.at_.toNat) i).a.toNat))) (e:=((ga (ga (U7 d) m.at_.toNat) i).a)) (st:=sx1) (i:=0) (H':=[_,_,_,_,_,_,_]) rfl rfl qT rfl rfl rfl rfl rfl ?_)
       intro anT je;clear qT
       refine aP.grow [_] (Hp.le_refl _) je ?_;clear je
       change WA _ _ _ _ _ _ _ _ _ _ _ _ [_,_,_,_,_,_,_]
       refine Un (i:=11) 0 rfl (by kernel_rfl) rfl rfl (fun anS s8=>?_)
       refine(om (kc:=(fun x=>Value.agg (br.f x).toArray)) (vc:=Value.int .i64) (es:=(mp (bH (ga (ax d true (4*d.ae.length)) (ga (ga (U7 d) m.at_.toNat) i).a.toNat)) ((ga (ga (U7 d) m.at_.toNat) i).a) (mp (bH (ga (ax d true (4*d.ae.length)) (ga (ga (U7 d) m.at_.toNat) i).a.toNat)) ((mg (bH (ga (ax d true (4*d.ae.length)) (ga (ga (U7 d) m.at_.toNat) i).a.toNat)) (mp (bH (ga (ax d false (4*d.ae.length)) (ga (ga (U7 d) m.at_.toNat) i).a.toNat)) ((ga (ga (U7 d) m.at_.toNat) i).a) (mp (ga (ax d false (4*d.ae.length)) (ga (ga (U7 d) m.at_.toNat) i).a.toNat) (Uq d ((bH (ga (ax d true (4*d.ae.length)) (ga (ga (U7 d) m.at_.toNat) i).a.toNat)).1) ((bH (ga (ax d true (4*d.ae.length)) (ga (ga (U7 d) m.at_.toNat) i).a.toNat)).2)) es))).getD 0) (mp (bH (ga (ax d false (4*d.ae.length)) (ga (ga (U7 d) m.at_.toNat) i).a.toNat)) ((ga (ga (U7 d) m.at_.toNat) i).a) (mp (ga (ax d false (4*d.ae.length)) (ga (ga (U7 d) m.at_.toNat) i).a.toNat) (Uq d ((bH (ga (ax d true (4*d.ae.length)) (ga (ga (U7 d) m.at_.toNat) i).a.toNat)).1) ((bH (ga (ax d true (4*d.ae.length)) (ga (ga (U7 d) m.at_.toNat) i).a.toNat)).2)) es))))) (k:=(ga (ax d true (4*d.ae.length)) (ga (ga (U7 d) m.at_.toNat) i).a.toNat)) (e:=(Uq d ((bH (ga (ax d false (4*d.ae.length)) (ga (ga (U7 d) m.at_.toNat) i).a.toNat)).1) ((bH (ga (ax d false (4*d.ae.length)) (ga (ga (U7 d) m.at_.toNat) i).a.toNat)).2))) (i:=0) (H':=[_,_,_,_,_,_,_]) (.inl rfl) rfl s8 rfl rfl rfl rfl zm C3 rfl ?_)
       intro anR s7;clear s8
       refine aP.grow [_] (Hp.le_refl _) s7 ?_;clear s7
       change WA _ _ _ _ _ _ _ _ _ _ _ _ [_,_,_,_,_,_,_]
       refine Uu (by kernel_rfl) (fun axR ET=>?_)
       refine bj (ah [0,5,6,43,44,45] rfl (U3 (U0 rfl (af 0 rfl (Ug rfl rfl rfl (by first|omega|(simp only[ls];omega))) ?_))))
       refine ag 1 1 rfl rfl (U5 rfl (aO ?_))
       intro au aq
       refine⟨_,?kx,⟨i+1,mp (ga (ax d true (4*d.ae.length)) (ga (ga (U7 d) m.at_.toNat) i).a.toNat) (Uq d ((bH (ga (ax d false (4*d.ae.length)) (ga (ga (U7 d) m.at_.toNat) i).a.toNat)).1) ((bH (ga (ax d false (4*d.ae.length)) (ga (ga (U7 d) m.at_.toNat) i).a.toNat)).2)) (mp (bH (ga (ax d true (4*d.ae.length)) (ga (ga (U7 d) m.at_.toNat) i).a.toNat)) ((ga (ga (U7 d) m.at_.toNat) i).a) (mp (bH (ga (ax d true (4*d.ae.length)) (ga (ga (U7 d) m.at_.toNat) i).a.toNat)) ((mg (bH (ga (ax d true (4*d.ae.length)) (ga (ga (U7 d) m.at_.toNat) i).a.toNat)) (mp (bH (ga (ax d false (4*d.ae.length)) (ga (ga (U7 d) m.at_.toNat) i).a.toNat)) ((ga (ga (U7 d) m.at_.toNat) i).a) (mp (ga (ax d false (4*d.ae.length)) (ga (ga (U7 d) m.at_.toNat) i).a.toNat) (Uq d ((bH (ga (ax d true (4*d.ae.length)) (ga (ga (U7 d) m.at_.toNat) i).a.toNat)).1) ((bH (ga (ax d true (4*d.ae.length)) (ga (ga (U7 d) m.at_.toNat) i).a.toNat)).2)) es))).getD 0) (mp (bH (ga (ax d false (4*d.ae.length)) (ga (ga (U7 d) m.at_.toNat) i).a.toNat)) ((ga (ga (U7 d) m.at_.toNat) i).a) (mp (ga (ax d false (4*d.ae.length)) (ga (ga (U7 d) m.at_.toNat) i).a.toNat) (Uq d ((bH (ga (ax d true (4*d.ae.length)) (ga (ga (U7 d) m.at_.toNat) i).a.toNat)).1) ((bH (ga (ax d true (4*d.ae.length)) (ga (ga (U7 d) m.at_.toNat) i).a.toNat)).2)) es)))),rfl,aq.sub ⟨rfl,rfl,rfl,rfl,rfl,rfl,trivial⟩,ET.pick [0,4,5,6] [_,_,_,_] (by decide) ⟨rfl,rfl,rfl,rfl,trivial⟩,?eW,?gq⟩⟩
       case eW=>omega
       case gq=>(rw[htg,hfg,hes,adk];rfl)
       case kx=>omega
     ·refine bP rfl rfl (ah [0,6] rfl (U3 (U2 ave agl rfl rfl rfl ?_)))
      obtain⟨hs3,_⟩:=of_decide_eq_true (show decide _=true from qC)
      obtain rfl:i=3:=by omega
      have hPl:pK d (nP d (ga (U7 d) m.at_.toNat) 3):=ab0 hab hok 3 (by omega)
      have aee:es=nP d (ga (U7 d) m.at_.toNat) 3:=hes
      rw[aee]at fX;clear aee
      refine U0 rfl (ag 0 1 rfl rfl ?_)
      obtain⟨M94,wV,QY,vI⟩:=fX.akV (i:=0) (H':=[_,_,_,_]) rfl rfl;clear fX
      replace hsi:=hsi.mono wV
      replace aK:=aK.mono wV
      replace cZ:=cZ.mono wV
      replace cY:=cY.mono wV
      replace hr1:=hr1.mono wV
      obtain⟨apE,aeI,ny⟩:=vI.apg
      refine ak 1 2 rfl rfl rfl (aiB rfl rfl rfl rfl zm QY ny QY.m ?_)
      intro r1 axQ agW;clear QY
      refine U5 rfl (ah [0,107] rfl (U3 (Uc agk 2 rfl rfl rfl ?_)))
      refine Ux (fun aS au aM=>∃(sn:Array Nat) (dn:List ((Nat×Nat)×Int)) (lf:List ((Nat×Nat)×Int)) (cs:List Cr),aS=lf.length/\Env 117 [(0,.pointer (some ⟨bC,0,none⟩)),(107,.pointer (some ⟨r1,0,none⟩))] au/\SH aM M94 X [Rs.ry jg aeI r1 sn,Rs.box bC 67 [.pointer (some ⟨ggs,0,none⟩),.slice fA fv.length fc],Rs.box ggs 70 [bD,.int .i64 d.loops,.slice iA (ax d false (4*d.ae.length)).length ic,.slice oA (ax d true (4*d.ae.length)).length oc],Rs.row aF bD cs]/\tS (fun x=>Value.agg (br.f x).toArray) (Value.int .i64) apE sn lf/\(dn++lf).Perm (nP d (ga (U7 d) m.at_.toNat) 3)/\cs=gT d.ae dn) rfl ?_ ?_
      ·intro au aq
       refine⟨_,⟨#[],[],(nP d (ga (U7 d) m.at_.toNat) 3),d.ae,rfl,aq.sub ⟨rfl,rfl,trivial⟩,agW.pick [0,2,3,4] [_,_,_,_] (by decide) ⟨rfl,rfl,rfl,rfl,trivial⟩,?fC,?gp,?mV⟩⟩
       case fC=>exact ny.lft
       case gp=>exact List.Perm.refl _
       case mV=>rfl
      ·rintro m3 a3 axP ⟨sn,dn,lf,cs,rfl,fu,Ar,hlf,Fk,hcs⟩
       clear agW
       refine bX fu (c:=PQ) rfl ?_
       clear fu a3
       refine U2 avd PO rfl rfl rfl (U0 rfl ?_)
       refine ak 0 1 rfl rfl rfl (ajA (i:=0) rfl rfl rfl rfl Ar rfl ny Ar.m hlf (fun I5=>?_) (fun k1 v1 aog aof sn1 anQ I5 awZ amH Aq=>?_))
       ·refine af 1 rfl (Ui rfl rfl rfl) (U5 rfl (ah [0,107,109] rfl (U3 (U2 EF PN rfl rfl rfl (jz avb rfl rfl rfl (bP rfl rfl ?_))))))
        obtain rfl:lf=[]:=I5
        rw[List.append_nil]at Fk
        have hcl:cs.length=d.ae.length:=by rw[hcs];exact aaK _ _
        have e8:cs=gT d.ae (nP d (ga (U7 d) m.at_.toNat) 3):=by rw[hcs];exact ahw Fk hPl
        refine iC hC [] rfl trivial ?_
        obtain⟨M95,su,aws,⟨A1,c1,e1,hr2⟩⟩:=Ar.fZ (i:=3) (H':=[_,_,_,_]) rfl rfl (by show _*40<=_;first|omega|(simp only[ls];omega))
        clear Ar;subst e1
        replace hsi:=hsi.mono su
        replace aK:=aK.mono su
        replace cZ:=cZ.mono su
        replace cY:=cY.mono su
        replace hr1:=hr1.mono su
        replace vI:=vI.mono su
        replace ny:=ny.mono su
        have bn:iu d m=0:=by unfold iu;rw[if_pos gN,if_pos qC]
        refine .inl ⟨bn,_,rfl,_,_,wV.trans su,(aws.pick [1,2] [_,_] (by decide) ⟨rfl,rfl,trivial⟩).aX,?_⟩
        rw[show rh d m=⟨cs,d.loops⟩from by unfold rh;rw[<-e8]]
        exact⟨rfl,_,_,rfl,hr2⟩
       ·clear Ar
        change SH _ _ _ [Rs.ry jg aeI r1 sn1,_,_,_]at Aq
        refine af 1 rfl (Ui rfl rfl rfl) (U5 rfl (ah [0,107,109] rfl (U3 (U2 EF PN rfl rfl rfl (fN avc rfl rfl rfl (Ue rfl (ah [0,107] rfl (U3 ?_))))))))
        refine Uc PL 3 rfl rfl rfl (U2 ava au9 rfl rfl rfl (U0 rfl (af 0 rfl (ah1 (i:=0) rfl rfl Aq rfl ny Aq.m amH) (af 1 rfl (Ui rfl rfl rfl) (af 2 rfl (Ui rfl rfl rfl) (ak 3 4 rfl rfl rfl (Uh (l:=[_,_]) rfl rfl rfl oC rfl Aq ?_)))))))
        intro pY IK s6;clear Aq
        refine ak 4 5 rfl rfl rfl (U6 (i:=0) (us:=[_,_]) (l':=[_,_]) (H':=[_,_,_,_,_]) rfl rfl s6 rfl rfl rfl rfl eA rfl rfl rfl rfl ?_)
        intro adR xM;clear s6
        refine ag 5 1 rfl rfl (U5 rfl (ah [0,107,14,15] rfl (U3 ?_)))
        have hmem:(k1,v1)∈nP d (ga (U7 d) m.at_.toNat) 3:=Fk.mem_iff.1 (by rw[I5];simp)
        have hko:=hPl.2 k1 (List.mem_map.2 ⟨_,hmem,rfl⟩)
        have hcl:cs.length=d.ae.length:=by rw[hcs];exact aaK _ _
        have hk1:k1.1<cs.length:=by rw[hcl];exact hko.1
        have hk2:k1.2<4:=hko.2
        refine U0 rfl (ag 0 1 rfl rfl (af 1 rfl (U8 (us:=[_,_]) rfl rfl cO rfl eA (xM.aw (i:=0) rfl ⟨rfl,rfl,trivial⟩)) (ag 2 1 rfl rfl ?_)))
        have agV:=xM.pick [2,3,4,0,1] [_,_,_,_,_] (by decide) ⟨rfl,rfl,rfl,rfl,rfl,trivial⟩;clear xM
        have vg:SH _ _ _ (Rs.aX [_,_,_]::[_,_]):=SH.jd (A:=[_,_,_]) (B:=[_,_]) agV;clear agV
        have ES:SH _ _ _ [_,_,_]:=vg.less (i:=0) rfl
        have iE:=Dl cs k1.1 k1.2 v1 (by assumption) (by assumption) (vg.iG (i:=0) rfl);clear ES
        refine ak 3 4 rfl rfl rfl (jP (i:=0) rfl rfl rfl rfl rfl rfl rfl Dh vg rfl iE ?_)
        intro awL axO M96 awV aw0 Ap jJ;clear vg
        obtain⟨lu,iK,l6⟩:=jJ
        rw[iK]at Ap
        clear iK
        subst lu
        subst l6
        replace Ap:SH _ _ _ (Rs.aX [_,_,_]::[_,_]):=Ap
        have ER:SH _ _ _ [_,_,_,_,_]:=SH.jK (A:=[_,_,_]) (B:=[_,_]) Ap;clear Ap
        refine U5 rfl (bj (aO ?_))
        intro au aq
        refine⟨_,?ku,⟨sn1,dn++[(k1,v1)],aog++aof,bk cs k1.1 k1.2 v1,rfl,aq.sub ⟨rfl,rfl,trivial⟩,ER.pick [4,0,1,2] [_,_,_,_] (by decide) ⟨rfl,rfl,rfl,rfl,trivial⟩,?gW,?iY,?uA⟩⟩
        case gW=>assumption
        case iY=>(refine List.Perm.trans ?_ Fk;simp only[*,List.append_assoc,List.cons_append,List.nil_append];exact(List.perm_append_left_iff _).2 (List.perm_middle.symm))
        case uA=>(rw[ahv,<-hcs])
        case ku=>(simp only[*,List.length_append,List.length_cons];omega)
   ·have gN:0<=m.at_/\m.at_<((U7 d).length:Int):=by omega
    have bn:iu d m=8:=by unfold iu;rw[if_pos gN,if_neg (by rw[qC];exact Bool.false_ne_true)]
    refine l9 (k:=3) rfl rfl rfl rfl rfl rfl rfl eD dB (iN 8 dB.aD) ?_
    intro w9 M9 ct S9
    subst hC
    exact .inr ⟨by rw[bn];first|decide|assumption,by rw[bn],M9,(Hp.le_refl _).trans ct,S9.pick [] [] (by decide) trivial⟩
  ·have bn:iu d m=3:=by unfold iu;rw[if_neg (by omega)]
   refine qb (i:=13) 0 rfl (by kernel_rfl) rfl rfl rfl rfl rfl rfl rfl eD (fun w9 S9=>iN 3 S9.aD) ?_
   intro w9 M9 ct S9
   subst hC
   exact .inr ⟨by rw[bn];first|decide|assumption,by rw[bn],M9,(Hp.le_refl _).trans ct,S9.pick [] [] (by decide) trivial⟩
 ·refine Us (i:=4) (d:=20) 9 rfl (by kernel_rfl) (by kernel_rfl) (by kernel_rfl) ⟨_,_,_,rfl,rfl,rfl,rfl⟩ rfl rfl ?_
  refine Us (i:=5) (d:=21) 8 rfl (by kernel_rfl) (by kernel_rfl) (by kernel_rfl) ⟨_,_,_,rfl,rfl,rfl,rfl⟩ rfl rfl ?_
  refine Us (i:=6) (d:=22) 7 rfl (by kernel_rfl) (by kernel_rfl) (by kernel_rfl) ⟨_,_,_,rfl,rfl,rfl,rfl⟩ rfl rfl ?_
  refine Us (i:=7) (d:=23) 6 rfl (by kernel_rfl) (by kernel_rfl) (by kernel_rfl) ⟨_,_,_,rfl,rfl,rfl,rfl⟩ rfl rfl ?_
  refine Us (i:=8) (d:=24) 5 rfl (by kernel_rfl) (by kernel_rfl) (by kernel_rfl) ⟨_,_,_,rfl,rfl,rfl,rfl⟩ rfl rfl ?_
  refine Us (i:=9) (d:=25) 4 rfl (by kernel_rfl) (by kernel_rfl) (by kernel_rfl) ⟨_,_,_,rfl,rfl,rfl,rfl⟩ rfl rfl ?_
  refine Us (i:=10) (d:=26) 3 rfl (by kernel_rfl) (by kernel_rfl) (by kernel_rfl) ⟨_,_,_,rfl,rfl,rfl,rfl⟩ rfl rfl ?_
  refine Us (i:=11) (d:=27) 2 rfl (by kernel_rfl) (by kernel_rfl) (by kernel_rfl) ⟨_,_,_,rfl,rfl,rfl,rfl⟩ rfl rfl ?_
  refine ai 12 1 rfl (by kernel_rfl) (fun _=>jy rfl rfl rfl) ?_
  have bn:iu d m=3:=by unfold iu;rw[if_neg (by omega)]
  refine qb (i:=13) 0 rfl (by kernel_rfl) rfl rfl rfl rfl rfl rfl rfl eD (fun w9 S9=>iN 3 S9.aD) ?_
  intro w9 M9 ct S9
  subst hC
  exact .inr ⟨by rw[bn];first|decide|assumption,by rw[bn],M9,(Hp.le_refl _).trans ct,S9.pick [] [] (by decide) trivial⟩
end Go.Proofs.YthppkofceancjaaGreat
namespace Go.Proofs.YthppkofceancjaaGreat
open Go.ChangeShapes Go.WideShapes Go.ChangeAt Go.RowKit
namespace InF
section
variable {P : Program} {n : Nat} {C : Ctx} {c : Code} {s : List K} {L : List (Nat × Value)} {w : World} {M : Hp} {X : Fr} {H : List Rs}
theorem Gw(hk:kind c=6)(h:∀a,Env n L a->C.Q .ret a w):WS P n C c s L w:=by
 have hpr:∀{s:List K}{a:Act}{w:World},post P C [] .ret a w->post P C s .ret a w:=by
  intro s
  induction s with
  |nil=>exact fun h=>h
  |cons x s ih=>intro a w h;cases x<;>exact ih h
 intro a ha
 rw[Gp hk]
 exact wpIn_ret (hpr (h a ha))
theorem tT:∀{s:List K}{a:Act}{w:World},C.Q .ret a w->post P C s .ret a w:=by
 intro s
 induction s with
 |nil=>exact fun h=>h
 |cons x s ih=>intro a w h;cases x<;>exact ih h
end
end InF
structure lT(D:List Deferred)(n:Nat)(L:List (Nat×Value))(a:Act):Prop where
 sz:a.tmps.size=n
 df:a.defers=D
 at_:∀t v,lk L t=some v->a.tmps.getD t undef=v
section
variable {D : List Deferred} {n : Nat} {L L2 : List (Nat × Value)} {a : Act}
theorem lT.uq(h:lT D n L a):Env n L {a with defers:=[]}:=⟨h.sz,rfl,h.at_⟩
theorem lT.eval(h:lT D n L a){x:Operand}{v:Value}(hx:oev L x=some v):a.eval x=v:=h.uq.eval hx
theorem lT.put(h:lT D n L a){d:Nat}(hd:d<n)(v:Value):lT D n ((d,v)::L) (a.put (some d) v):=⟨(h.uq.put hd v).sz,h.df,(h.uq.put hd v).at_⟩
theorem lT.sub(h:lT D n L a)(hs:Sub L L2):lT D n L2 a:=⟨h.sz,h.df,fun t v hv=>h.at_ t v (hs.lk t v hv)⟩
end
namespace fg
theorem akY(C:InF.Ctx){P:Program}{o:Oper}{a:Act}{w:World}{next:Act->World->Prop}{Q:Exit->Act->World->Prop}(hnd:∀c,o.op≠.defer c)(h:o.wp P {a with defers:=[]} w (fun a' w'=>a'.defers=[]/\next {a' with defers:=a.defers} w') (fun e a' w'=>Q e {a' with defers:=a.defers} w')):o.wpIn C.F 0 P a w next Q:=by
 obtain⟨tm,df⟩:=a
 have hput:∀v,({Act.put {tmps:=tm,defers:=[]} o.dst v with defers:=df}:Act)=Act.put {tmps:=tm,defers:=df} o.dst v:=fun v=>by cases o.dst<;>rfl
 refine⟨fun f _=>C.qY f,?_⟩
 rw[Oper.semAt_eq _ _ _ hnd]
 unfold Oper.wp at h
 replace h:o.upon P {tmps:=tm,defers:=[]} (fun a' w'=>a'.defers=[]/\next {a' with defers:=df} w') (fun e a' w'=>Q e {a' with defers:=df} w') ((execOp (Act.eval {tmps:=tm,defers:=df}) o).run P w):=h
 generalize (execOp (Act.eval {tmps:=tm,defers:=df}) o).run P w=r at h ⊢
 cases r with
 |ok nx w'=>
  cases nx with
  |value v=>
   replace h:next {Act.put {tmps:=tm,defers:=[]} o.dst v with defers:=df} w':=h.2
   rw[hput]at h;exact h
  |skip=>
   replace h:next {Act.put {tmps:=tm,defers:=[]} o.dst undef with defers:=df} w':=h.2
   rw[hput]at h;exact h
  |defer d=>
   have h1:(Act.put {tmps:=tm,defers:=[d]} o.dst undef).defers=[]:=h.1
   cases hd:o.dst<;>(rw[hd]at h1;cases h1)
  |enter f args=>
   refine⟨C.tG,InF.CR C (Calls.mono h ?_)⟩
   rintro e w2 hh
   cases e with
   |returned v=>
    replace hh:next {Act.put {tmps:=tm,defers:=[]} o.dst v with defers:=df} w2:=hh.2
    rw[hput]at hh;exact hh
   |panicked chain=>exact hh
   |outgrown=>
    obtain⟨a9,w9,hw⟩:=hh
    exact⟨{a9 with defers:=df},w9,hw⟩
  |row row args=>
   refine⟨C.tG,InF.H7 C ?_⟩
   intro c cs
   obtain⟨v,w2,hr,hs⟩:=h c cs
   replace hr:next {Act.put {tmps:=tm,defers:=[]} o.dst v with defers:=df} w2:=hr.2
   rw[hput]at hr
   exact⟨v,w2,hr,hs⟩
  |_=>exact h.elim
 |halt x w'=>
  cases x with
  |panic v=>exact h
  |_=>exact h.elim
def WS(P:Program)(D:List Deferred)(n:Nat)(C:InF.Ctx)(c:Code)(s:List K)(L:List (Nat×Value))(w:World):Prop:=∀a,lT D n L a->c.wpIn C.F 0 P (InF.post P C s) a w
def NM(P:Program)(D:List Deferred)(n:Nat)(C:InF.Ctx)(s:List K)(L:List (Nat×Value))(w:World):Prop:=∀a,lT D n L a->InF.post P C s .normal a w
def WL(P:Program)(D:List Deferred)(n:Nat)(C:InF.Ctx)(c:Code)(k:Nat)(s:List K)(L:List (Nat×Value))(w:World):Prop:=∀a,lT D n L a->wpListIn C.F 0 P (rg c) (InF.post P C s) ((rg c).toList.drop k) a w
section
variable {P : Program} {n : Nat} {C : InF.Ctx} {D : List Deferred} {c : Code} {s : List K} {L : List (Nat × Value)} {w : World}
theorem bN(L2:List (Nat×Value))(hs:Sub L L2)(h:NM P D n C s L2 w):NM P D n C s L w:=fun a ha=>h a (ha.sub hs)
theorem U2(a b:Code)(hk:kind c=1)(ha:cL c=a)(hb:cR c=b)(h:WS P D n C a (.thn b::s) L w):WS P D n C c s L w:=by
 subst ha;subst hb
 intro a ha
 rw[Cg hk]
 exact wpIn_seq (h a ha)
theorem U3(h:WS P D n C c s L w):NM P D n C (.thn c::s) L w:=fun a ha=>h a ha
theorem U0(hk:kind c=7)(h:WL P D n C c 0 s L w):WS P D n C c s L w:=by
 intro a ha
 rw[FW hk]
 exact wpIn_region_list (h a ha)
theorem U5{k:Nat}(hk:op c k=none)(h:NM P D n C s L w):WL P D n C c k s L w:=by
 intro a ha
 have:((rg c).toList.drop k)=[]:=by
  unfold op at hk
  rw[eN]at hk
  exact List.drop_eq_nil_of_le (by simpa using hk)
 rw[this]
 exact wpListIn_nil (h a ha)
theorem Ut{k k':Nat}{o:Oper}(ho:op c k=some o)(hk:k'=k.succ)(hg:o.guard=none)(h:WO P n o L w (fun L' w'=>WL P D n C c k' s L' w'))(hnd:InF.sL o=true:=by rfl):WL P D n C c k s L w:=by
 intro a ha
 rw[p8 ho]
 subst hk
 refine wpListIn_plain hg fun K hK=>?_
 exact akY C (InF.Gc hnd) (h _ ha.uq _ _ fun L' a' w' he hw=>⟨he.df,hK _ _ (hw _ ⟨he.sz,ha.df,he.at_⟩)⟩)
end
end fg
end Go.Proofs.YthppkofceancjaaGreat
namespace Go.Proofs.YthppkofceancjaaGreat
open Go.ChangeShapes Go.WideShapes Go.ChangeAt Go.RowKit
section
variable {w : World} {M : Hp} {X : Fr} {H : List Rs} {Ds : List Nat}
end
namespace fg
section
variable {P : Program} {n : Nat} {C : InF.Ctx} {c : Code} {s : List K} {L : List (Nat × Value)} {w : World} {M : Hp} {X : Fr} {H : List Rs}
end
end fg
namespace InF.G
theorem Uk{P:Program}{n:Nat}{C:InF.Ctx}{c:Code}{s:List K}{L:List (Nat×Value)}{w:World}{fn:Func}{R:Ending->World->Prop}(hC:C.Q=bodyPostM Fence.wide 0 P fn R){rs:List ResultVar}(vs:List Value)(hr:fn.results=rs.toArray)(hk:kind c=6)(h:sJ P L w rs vs)(hR:R (.returned (tup vs)) w):InF.WS P n C c s L w:=by
 refine InF.Gw hk fun a ha=>?_
 rw[hC]
 show LeavesInM Fence.wide 0 P fn a.tmps R a.defers .returning w
 rw[ha.df]
 exact⟨tup vs,vY ha hr h,hR⟩
end InF.G
end Go.Proofs.YthppkofceancjaaGreat
namespace Go.Proofs.YthppkofceancjaaGreat
open Go.ChangeShapes Go.WideShapes Go.ChangeAt Go.RowKit
namespace InF
section
variable {P : Program} {n : Nat} {C : Ctx} {c : Code} {s : List K} {L : List (Nat × Value)} {w : World} {ch : List PanicEntry}
theorem oa:∀{s:List K}{a:Act}{w:World},C.Q (.panic ch) a w->post P C s (.panic ch) a w
 |[],_,_,h=>h
 |.thn c::s,_,_,h=>oa (s:=s) h
 |.lp I::s,_,_,h=>oa (s:=s) h
 |.jmp _ _::s,_,_,h=>oa (s:=s) h
 |.blk i::s,_,_,h=>oa (s:=s) h
theorem ahT{k k':Nat}{o:Oper}{ca:Call}{fo:Operand}{ck:FuncId}{cap:List Value}(ho:op c k=some o)(hk:k'=k.succ)(hg:o.guard=none)(hd:o.dst=none)(hop:o.op=.defer ca)(cJ:ca.callee=.value fo)(hfo:oev L fo=some (.func (.func ck) #[] cap.toArray))(hxs:ca.args=#[])(hr:C.r=none)
  (h:fg.WL P [{target:=.fn (.func ck) cap.toArray,args:=#[]}] n C c k' s L w):WL P n C c k s L w:=by
 intro a ha
 rw[p8 ho]
 subst hk
 refine wpListIn_plain hg fun K hK=>?_
 refine⟨fun f _=>C.qY f,?_⟩
 have hF:C.F.round=none:=by unfold Ctx.F;rw[hr];rfl
 have hrun:(o.semAt C.F.round a.eval).run P w=.ok (.defer {target:=.fn (.func ck) cap.toArray,args:=#[]}) w:=by
  rw[hF,Oper.semAt_none]
  unfold execOp
  simp only[hop,resolve,cJ,ha.eval hfo,hxs,Deferred.ofValue,Sem.run_bind,Sem.run_pure,Result.andThen_ok]
  simp
 rw[hrun,Oper.uponIn_defer,hd]
 refine hK _ _ (h _ ⟨ha.sz,?_,ha.at_⟩)
 show _::a.defers=_
 rw[ha.df]
end
end InF
namespace fg
section
variable {P : Program} {n d : Nat} {C : InF.Ctx} {c : Code} {s : List K} {L : List (Nat × Value)} {w : World} {D : List Deferred}
theorem aiE{k k':Nat}{o:Oper}{f:FuncId}{vs:List Value}{ca:Call}{fo:Operand}{xs:List Operand}(ho:op c k=some o)(hk:k'=k.succ)(hg:o.guard=none)(hd:o.dst=some d)(hop:o.op=.call ca)(cJ:ca.callee=.value fo)(hfo:oev L fo=some (.func (.func f) #[] #[]))
  (hxs:ca.args=xs.toArray)(hvs:oevs L xs=some vs)(hn:Nat.blt d n=true)(hen:∀args w,(callFunc f args).run P w=.ok (.enter f args) w)
  {R1:Value->World->Prop}{R2:List PanicEntry->World->Prop}(hcall:Calls P f vs.toArray w fun e w'=>(∃v,e=.returned v/\R1 v w')\/(∃ch,e=.panicked ch/\R2 ch w'))
  (h1:∀v w',R1 v w'->WL P D n C c k' s ((d,v)::L) w')(h2:∀ch w',R2 ch w'->∀a,lT D n L a->C.Q (.panic ch) a w'):WL P D n C c k s L w:=by
 intro a ha
 rw[p8 ho]
 subst hk
 refine wpListIn_plain hg fun K hK=>?_
 have he:List.map a.eval xs=vs:=ha.uq.lF hvs
 have hr:(execOp a.eval o).run P w=.ok (.enter f vs.toArray) w:=by
  unfold execOp
  simp only[hop,resolve,cJ,ha.eval hfo,hxs,List.map_toArray,he,Deferred.ofValue,Sem.run_bind,Sem.run_pure,Result.andThen_ok,invoke,Array.empty_append,Array.append_empty]
  exact hen _ _
 refine⟨fun f _=>C.qY f,?_⟩
 rw[Oper.semAt_eq _ _ _ (fun c e=>by rw[e]at hop;cases hop),hr,Oper.uponIn_enter,hd]
 refine⟨C.tG,InF.CR C (Calls.mono hcall ?_)⟩
 rintro e w' (⟨v,rfl,hR⟩|⟨ch,rfl,hR⟩)
 ·exact hK _ _ (h1 v w' hR _ (ha.put (by simpa using hn) v))
 ·exact InF.oa (h2 ch w' hR a ha)
theorem Gw(hk:kind c=6)(h:∀a,lT D n L a->C.Q .ret a w):WS P D n C c s L w:=by
 intro a ha
 rw[Gp hk]
 exact wpIn_ret (InF.tT (h a ha))
end
end fg
theorem aaQ{P:Program}{fn:Func}{tm:Array Value}{R:Ending->World->Prop}{ck:FuncId}{cap:List Value}{u:FrameMode}{w:World}(hu:u≠.run)(hen:∀args w,(callFunc ck args).run P w=.ok (.enter ck args) w)
  (h:CallsDIn Fence.wide 0 P ck cap.toArray u w fun e u' w'=>∃v,e=.returned v/\settle u'=.returning/\∃vv,(results fn tm).run P w'=.ok vv w'/\R (.returned vv) w'):
  LeavesInM Fence.wide 0 P fn tm R [{target:=.fn (.func ck) cap.toArray,args:=#[]}] u w:=by
 refine⟨hu,.inr ⟨fun h=>(by cases h),.func ck,cap.toArray,ck,cap.toArray,rfl,?_,fun _ _=>trivial,?_⟩⟩
 ·simp only[invoke,Array.empty_append,Array.append_empty]
  exact hen _ _
 ·refine CallsDIn.mono h ?_
  rintro e u' w' ⟨v,rfl,hs,vv,h1,h2⟩
  show LeavesInM Fence.wide 0 P fn tm R [] (settle u') w'
  rw[hs]
  exact⟨vv,h1,h2⟩
theorem ag6{F:Fence}{P:Program}{n m id d0 d1:Nat}{c:Code}{o0 o1:Oper}{ca:Call}{L:List (Nat×Value)}{a:Act}{cs cs':List Frame}{v:Value}{w:World}{Q:Exit->Act->List Frame->World->Prop}(hF:∀f,F.fn f)(hc:c=.region id #[o0,o1] false)(ha:Env m L a)(IY:o0.op=.call ca)(cJ:ca.callee=.builtin .recover)(hxs:ca.args=#[])(hg0:o0.guard=none)(hd0:o0.dst=some d0)
  (IX:o1.op=.assign (.tmp d0))(hg1:o1.guard=none)(hd1:o1.dst=some d1)(hn:(Nat.blt d0 m&&Nat.blt d1 m)=true)(hrec:recoverD cs=some (v,cs')\/(recoverD cs=none/\v=.nilIface/\cs'=cs))(h:∀a2,Env m ((d1,v)::(d0,v)::L) a2->Q .normal a2 cs' w):c.wpSIn F n P Q a cs w:=by
 subst hc
 simp only[Bool.and_eq_true]at hn
 refine wpSIn_region ?_
 have e0:∀b:Act,Region.wanted o0 (yielded #[o0,o1] b.tmps)=true:=fun b=>by unfold Region.wanted;rw[hg0]
 have e1:∀b:Act,Region.wanted o1 (yielded #[o0,o1] b.tmps)=true:=fun b=>by unfold Region.wanted;rw[hg1]
 have r0:(execOp a.eval o0).run P w=.ok .recover w:=by
  unfold execOp
  simp only[IY,resolve,cJ,hxs,Sem.run_bind,Sem.run_pure,Result.andThen_ok]
  rfl
 have ha1:=ha.put (d:=d0) (by simpa using hn.1) v
 have r1:(execOp (a.put (some d0) v).eval o1).run P w=.ok (.value v) w:=by
  unfold execOp
  simp only[IX,ha1.eval (x:=.tmp d0) (v:=v) (by simp[oev,lk])]
  rfl
 have ha2:=ha1.put (d:=d1) (by simpa using hn.2) v
 show wpOpsSIn F n P #[o0,o1] Q [0,1] a cs w
 simp only[wpOpsSIn,List.getElem?_toArray,List.getElem?_cons_zero,List.getElem?_cons_succ,e0,e1,if_true,r0,hd0]
 refine⟨fun f _=>hF f,?_⟩
 rcases hrec with hrec|⟨hrec,rfl,rfl⟩
 ·rw[hrec]
  simp only[r1,hd1]
  exact⟨fun f _=>hF f,h _ ha2⟩
 ·rw[hrec]
  simp only[r1,hd1]
  exact⟨fun f _=>hF f,h _ ha2⟩
section
variable {P : Program} {n : Nat} {o : Oper} {L : List (Nat × Value)} {w : World} {t t' T : TypeId} {x : Operand} {v : Value}
theorem ahY{ms}(ho:o.op=.binOp .neq t x (.const .nilIface) t')(hx:oev L x=some .nilIface)(hy:oev L (.const .nilIface)=some .nilIface)(hu:P.underlying t=some (.interface ms)):Run P o L w (.bool false) w:=by
 intro n c hc
 unfold execOp
 have h1:∀w,(eqGuard .neq t x (.const .nilIface) .nilIface .nilIface).run P w=.ok () w:=fun w=>by rw[eqGuard_nil_constR];rfl
 have h2:∀w,(Op.equal t .nilIface .nilIface).run P w=.ok true w:=fun w=>by
  have h:∀d:Nat,(Op.equalIn (d+1) t .nilIface .nilIface).run P w=.ok true w:=fun d=>by simp[Op.equalIn,run_underlying hu]
  exact h 9999
 simp only[ho,hc.eval hx,hc.eval hy,h1,binOp,h2,Sem.run_bind,Result.andThen_ok,Sem.run_pure,Bool.not_true]
theorem ahX{ms}{y:Operand}(ho:o.op=.binOp .neq t x y t')(hx:oev L x=some (.iface T v))(hy:oev L y=some .nilIface)(hu:P.underlying t=some (.interface ms)):Run P o L w (.bool true) w:=by
 intro n c hc
 unfold execOp
 have h1:∀w,(eqGuard .neq t x y (.iface T v) .nilIface).run P w=.ok () w:=fun w=>rfl
 have h2:∀w,(Op.equal t (.iface T v) .nilIface).run P w=.ok false w:=fun w=>by
  have h:∀d:Nat,(Op.equalIn (d+1) t (.iface T v) .nilIface).run P w=.ok false w:=fun d=>by simp[Op.equalIn,run_underlying hu]
  exact h 9999
 simp only[ho,hc.eval hx,hc.eval hy,h1,binOp,h2,Sem.run_bind,Result.andThen_ok,Sem.run_pure,Bool.not_false]
theorem ahc{s:TypeId}{fs:Array Field}(ho:o.op=.typeAssert x s T true)(hx:oev L x=some (.iface T v))(hu:P.underlying T=some (.struct fs)):Run P o L w (.tuple [v,.bool true].toArray) w:=by
 intro n c hc
 unfold execOp
 simp only[ho,hc.eval hx,Instr.typeAssert,Sem.run_bind,run_underlying hu,Result.andThen_ok,if_true,Sem.run_pure]
theorem ahZ{ps rs b}{y:Operand}(ho:o.op=.binOp .eql t x y t')(hx:oev L x=some .nilFunc)(hy:oev L y=some .nilFunc)(hu:P.underlying t=some (.func ps rs b)):Run P o L w (.bool true) w:=by
 intro n c hc
 unfold execOp
 have h1:∀w,(eqGuard .eql t x y .nilFunc .nilFunc).run P w=.ok () w:=fun w=>rfl
 have h2:∀w,(Op.equal t .nilFunc .nilFunc).run P w=.ok true w:=fun w=>by
  have h:∀d:Nat,(Op.equalIn (d+1) t .nilFunc .nilFunc).run P w=.ok true w:=fun d=>by simp[Op.equalIn,run_underlying hu]
  exact h 9999
 simp only[ho,hc.eval hx,hc.eval hy,h1,binOp,h2,Sem.run_bind,Result.andThen_ok,Sem.run_pure]
theorem ah0{ps rs b}{y:Operand}{fn:Fn}{fi cp:Array Value}(ho:o.op=.binOp .eql t x y t')(hx:oev L x=some (.func fn fi cp))(hy:oev L y=some .nilFunc)(hu:P.underlying t=some (.func ps rs b)):Run P o L w (.bool false) w:=by
 intro n c hc
 unfold execOp
 have h1:∀w,(eqGuard .eql t x y (.func fn fi cp) .nilFunc).run P w=.ok () w:=fun w=>rfl
 have h2:∀w,(Op.equal t (.func fn fi cp) .nilFunc).run P w=.ok false w:=fun w=>by
  have h:∀d:Nat,(Op.equalIn (d+1) t (.func fn fi cp) .nilFunc).run P w=.ok false w:=fun d=>by simp[Op.equalIn,run_underlying hu]
  exact h 9999
 simp only[ho,hc.eval hx,hc.eval hy,h1,binOp,h2,Sem.run_bind,Result.andThen_ok,Sem.run_pure]
theorem aje{args:List Value}(hsz:Nat.ble args.length n=true):Env n (argL 0 args) {tmps:=args.toArray++Array.replicate (n-args.toArray.size) undef,defers:=[]}:=by
 refine⟨?_,rfl,fun t v hv=>?_⟩
 ·simp;have:args.length<=n:=by simpa using hsz
  omega
 ·have:=(yS args 0 t v hv).2
  rw[Nat.sub_zero]at this
  have hlt:=(List.getElem?_eq_some_iff.1 this).1
  simp only[Array.getD_eq_getD_getElem?]
  rw[Array.getElem?_append_left (by simpa using hlt)]
  simp[this]
end
theorem aae{P:Program}{n m ck id d0 d1:Nat}{fn:Func}{b c0:Code}{args:List Value}{u u2:FrameMode}{w:World}{R:Ending->FrameMode->World->Prop}{o0 o1:Oper}{ca:Call}(v:Value)(hf:P.funcs[ck]? =some fn)(hb:fn.body=some b)(hres:fn.results=#[])(hm:fn.ntmps=m)(hsz:Nat.ble args.length m=true)(hk:kind b=1)(hc0:cL b=c0)(hc:c0=.region id #[o0,o1] false)(IY:o0.op=.call ca)(cJ:ca.callee=.builtin .recover)(hxs:ca.args=#[])(hg0:o0.guard=none)(hd0:o0.dst=some d0)
  (IX:o1.op=.assign (.tmp d0))(hg1:o1.guard=none)(hd1:o1.dst=some d1)(hn:(Nat.blt d0 m&&Nat.blt d1 m)=true)(hrec:∀(c₀:Frame) (cs:List Frame),c₀.mode=u->recoverD (c₀::cs)=some (v,{c₀ with mode:=u2}::cs)\/(recoverD (c₀::cs)=none/\v=.nilIface/\u2=u))
  (h:∀C:InF.Ctx,C.r=none->(∀w,R (.returned (.tuple #[])) u2 w->InF.NM P m C [] [] w)->InF.WS P m C (cR b) [] ((d1,v)::(d0,v)::argL 0 args) w):CallsDIn Fence.wide n P ck args.toArray u w R:=by
 refine callsDIn_of_wpSIn hf hb trivial fun c₀ cs hu=>?_
 rw[Cg hk,hc0]
 refine wpSIn_seq ?_
 have ha:Env m (argL 0 args) {tmps:=args.toArray++Array.replicate (fn.ntmps-args.toArray.size) undef,defers:=[]}:=by rw[hm];exact aje (n:=m) hsz
 have key:∀cs',cs'={c₀ with mode:=u2}::cs->recoverD (c₀::cs)=some (v,cs')\/(recoverD (c₀::cs)=none/\v=.nilIface/\cs'=c₀::cs)->c0.wpSIn Fence.wide n P (Exit.thenS ((cR b).wpSIn Fence.wide n P (bodyPostS P fn c₀ cs R)) (bodyPostS P fn c₀ cs R)) {tmps:=args.toArray++Array.replicate (fn.ntmps-args.toArray.size) undef,defers:=[]} (c₀::cs) w:=by
  intro cs' hcs hr
  refine ag6 (m:=m) (fun _=>trivial) hc ha IY cJ hxs hg0 hd0 IX hg1 hd1 hn hr fun a2 ha2=>?_
  refine wpSIn_of_wpIn rfl ?_
  have h1:=h ⟨fun e a' w'=>bodyPostS P fn c₀ cs R e a' cs' w',none⟩ rfl ?_ a2 ha2
  ·exact wpIn_wide.2 (wpIn_wide.1 h1)
  ·intro w' hR a' ha'
   refine⟨ha'.df,u2,hcs,.tuple #[],?_,hR⟩
   exact vY (vs:=[]) (rs:=[]) (L:=[]) ha' (by rw[hres]) trivial
 rcases hrec c₀ cs hu with hr|⟨h1,h2,h3⟩
 ·exact key _ rfl (.inl hr)
 ·refine key (c₀::cs) ?_ (.inr ⟨h1,h2,rfl⟩)
  rw[h3,<-hu]
end Go.Proofs.YthppkofceancjaaGreat
namespace Go.Proofs.YthppkofceancjaaGreat
open Go.ChangeShapes Go.WideShapes Go.ChangeAt Go.RowKit
def o8:Option Nat->Value
 |none=>.nilFunc
 |some f=>.func (.func f) #[] #[]
def wN:List (Int×Option Nat):=[(1,some 67),(2,some 68),(3,some 69),(4,some 70),(5,some 71)]
def mU(k:Int):Option Nat:=(mg k wN).getD none
def gY(d:Dg)(m:Mv):Int:=if m.kd=1 then eH d m else if m.kd=2 then jr d m else if m.kd=3 then gQ d m else if m.kd=4 then gG d m else iu d m
def iw(d:Dg)(m:Mv):Dg:=if m.kd=1 then mD d m else if m.kd=2 then xg d m else if m.kd=3 then vD d m else if m.kd=4 then xV d m else rh d m
theorem aaW{k:Int}{f:Nat}(h:mU k=some f):k=1/\f=67\/k=2/\f=68\/k=3/\f=69\/k=4/\f=70\/k=5/\f=71:=by
 unfold mU wN at h
 simp only[mg]at h
 split at h
 ·rename_i e;simp at h;omega
 ·split at h
  ·rename_i e;simp at h;omega
  ·split at h
   ·rename_i e;simp at h;omega
   ·split at h
    ·rename_i e;simp at h;omega
    ·split at h
     ·rename_i e;simp at h;omega
     ·simp at h
theorem ai7{k:Int}{f:Nat}(h:mU k=some f):∀args w,(callFunc f args).run Tryz.prog w=.ok (.enter f args) w:=by
 rcases aaW h with⟨rfl,rfl⟩|⟨rfl,rfl⟩|⟨rfl,rfl⟩|⟨rfl,rfl⟩|⟨rfl,rfl⟩
 ·exact apq
 ·exact apo
 ·exact apn
 ·exact apm
 ·exact apl
theorem ajv{w:World}{M:Hp}{X:Fr}{f:Nat}(m:Mv)(hk:mU m.kd=some f)(d:Dg){bC ggs:Nat}{bD:Value}{iA oA fA:Option Addr}{ic oc fc:Nat}{fv:List fO}(hsi:aG br M iA ic (ax d false (4*d.ae.length)))(aK:aG br M oA oc (ax d true (4*d.ae.length)))(cZ:aG (di 141) M fA fc fv)(cY:fy cu M fv (U7 d))(hn:d.ae.length<=16)(hab:aN d=true)(hlo:0<=d.loops/\d.loops<=16)(S:SH w M X [Rs.aX (bnL d bC ggs bD iA oA fA ic oc fc fv)]):Cm f [.pointer (some ⟨bC,0,none⟩),.agg [.int .i64 m.kd,.int .i64 m.at_,.int .i64 m.aJ,.int .i64 m.ua,.bool m.ub,.int .i64 m.va,.bool m.vb,.bool m.ov].toArray] w M X (gY d m) (wq bC ggs (.slice fA fv.length fc) (.slice iA (ax d false (4*d.ae.length)).length ic) (.slice oA (ax d true (4*d.ae.length)).length oc) (iw d m)):=by
 rcases aaW hk with⟨hq,rfl⟩|⟨hq,rfl⟩|⟨hq,rfl⟩|⟨hq,rfl⟩|⟨hq,rfl⟩
 ·rw[show gY d m=eH d m from by unfold gY;rw[hq];rfl,show iw d m=mD d m from by unfold iw;rw[hq];rfl]
  exact alM d m hsi aK cZ cY hn hab hlo S
 ·rw[show gY d m=jr d m from by unfold gY;rw[hq];rfl,show iw d m=xg d m from by unfold iw;rw[hq];rfl]
  exact ajp d m hsi aK cZ cY hn hab hlo S
 ·rw[show gY d m=gQ d m from by unfold gY;rw[hq];rfl,show iw d m=vD d m from by unfold iw;rw[hq];rfl]
  exact alI d m hsi aK cZ cY hn hab hlo S
 ·rw[show gY d m=gG d m from by unfold gY;rw[hq];rfl,show iw d m=xV d m from by unfold iw;rw[hq];rfl]
  exact alJ d m hsi aK cZ cY hn hab hlo S
 ·rw[show gY d m=iu d m from by unfold gY;rw[hq];rfl,show iw d m=rh d m from by unfold iw;rw[hq];rfl]
  exact akz d m hsi aK cZ cY hn hab hlo S
theorem Cm.two{f:FuncId}{vs:List Value}{w:World}{M:Hp}{X:Fr}{H:List Rs}{r:Rs}{err:Int}{R:Value->Hp->Rs->Prop}(S:SH w M X H)(hi:nth H 0=some r)(h:Cm f vs w M (XH w X (H.set 0 Rs.emp)) err R):Calls Tryz.prog f vs.toArray w fun e w'=>(∃v,e=.returned v/\(err=0/\∃M' r',M.le M'/\SH w' M' X (H.set 0 r')/\R v M' r'))\/(∃ch,e=.panicked ch/\(err≠0/\ch=xm err/\∃M',M.le M'/\SH w' M' X (H.set 0 Rs.emp))):=by
 refine Calls.mono h ?_
 rintro e w' (⟨h0,v,rfl,M',r',h1,h2,h3⟩|⟨h0,rfl,M',h1,h2⟩)
 ·exact .inl ⟨v,rfl,h0,M',r',h1,S.IJ hi h2 rfl,h3⟩
 ·exact .inr ⟨_,rfl,h0,rfl,M',h1,(S.less hi).back h2⟩
theorem yZ{d:Dg}(h:dv d=true):d.ae.length<=16/\aN d=true/\0<=d.loops/\d.loops<=16:=by
 unfold dv at h
 rw[Bool.and_eq_true]at h
 exact uM h.1
def dx(d:Dg)(m:Mv):Dg×Int:=if dv d=false then(⟨[],0⟩,7)else if mU m.kd=none then(⟨[],0⟩,6)else if gY d m=0 then(iw d m,0)else(⟨[],0⟩,gY d m)
def rO(r:Dg×Int)(u:Value)(N:Hp):Prop:=∃A c,u=.tuple [.agg [.slice A r.1.ae.length c,.int .i64 r.1.loops].toArray,.int .i64 r.2].toArray/\aG aF N A c r.1.ae
namespace InF
noncomputable def PK:=Tryz.f30.body.getD .skip
def agj:=cR PK
def au8:=cL agj
def agi:=cR agj
def au7:=cR agi
set_option maxRecDepth 10000 in
theorem catchR{w:World}{p4 p5:Value}:CallsDIn Fence.wide 0 Tryz.prog 30 [p4,p5].toArray .returning w fun e u' w'=>e=.returned (.tuple #[])/\u'=.returning/\w'=w:=by
 refine aae (b:=PK) (c0:=cL PK) (m:=19) (u2:=.returning) (.nilIface) Tryz.func30 rfl rfl Tryz.ntmps30 rfl rfl rfl rfl rfl rfl rfl rfl rfl rfl rfl rfl rfl (fun c₀ cs hu=>?_) (fun C tB hC=>?_)
 ·exact .inr ⟨by simp[recoverD,hu],rfl,rfl⟩
 refine U2 au8 agi rfl rfl rfl ?_
 refine U0 rfl ?_
 refine Ut (k:=0) (k':=1) rfl rfl rfl (Ub rfl rfl (run_move rfl rfl) ?_)
 refine Ut (k:=1) (k':=2) rfl rfl rfl (Ub rfl rfl (ahY rfl rfl rfl ad2) ?_)
 refine U5 rfl ?_
 refine bN [(2,_),(0,_),(1,_),(7,_)] ⟨rfl,rfl,rfl,rfl,trivial⟩ ?_
 refine U3 ?_
 refine jz au7 rfl rfl rfl ?_
 refine Ue rfl ?_
 refine bN [] trivial ?_
 exact hC _ ⟨rfl,rfl,rfl⟩
noncomputable def PJ:=Tryz.f30.body.getD .skip
def agh:=cR PJ
def au6:=cL agh
def agf:=cR agh
def PI:=cL agf
def au5:=cL PI
def PH:=cR PI
def PG:=cL PH
def au4:=cR PH
def au3:=cL PG
def age:=cR PG
def au2:=cR age
set_option maxRecDepth 10000 in
theorem catchP{w:World}{M:Hp}{X:Fr}{RU RT:Nat}{va vb vc:Value}{err:Int}(S:SH w M X [Rs.box RU 24 [va,vb],Rs.box RT 29 [vc]]):CallsDIn Fence.wide 0 Tryz.prog 30 [.pointer (some ⟨RU,0,none⟩),.pointer (some ⟨RT,0,none⟩)].toArray (.panicking (xm err)) w fun e u' w'=>e=.returned (.tuple #[])/\settle u'=.returning/\SH w' M X [Rs.box RU 24 [.slice none 0 0,.int .i64 0],Rs.box RT 29 [.int .i64 err]]:=by
 refine aae (b:=PJ) (c0:=cL PJ) (m:=19) (u2:=.panicking [{v:=.iface 62 (.agg [Value.int .i64 err].toArray),recovered:=true}]) (.iface 62 (.agg [Value.int .i64 err].toArray)) Tryz.func30 rfl rfl Tryz.ntmps30 rfl rfl rfl rfl rfl rfl rfl rfl rfl rfl rfl rfl rfl (fun c₀ cs hu=>?_) (fun C tB hC=>?_)
 ·exact .inl (by simp[recoverD,hu,xm])
 refine U2 au6 agf rfl rfl rfl ?_
 refine U0 rfl ?_
 refine Ut (k:=0) (k':=1) rfl rfl rfl (Ub rfl rfl (run_move rfl rfl) ?_)
 refine Ut (k:=1) (k':=2) rfl rfl rfl (Ub rfl rfl (ahX rfl rfl rfl ad2) ?_)
 refine U5 rfl ?_
 refine bN [(2,_),(0,_),(1,_),(7,_)] ⟨rfl,rfl,rfl,rfl,trivial⟩ ?_
 refine U3 ?_
 refine fN PI rfl rfl rfl ?_
 refine U2 au5 PH rfl rfl rfl ?_
 refine U0 rfl ?_
 refine Ut (k:=0) (k':=1) rfl rfl rfl (Ub rfl rfl (run_move rfl rfl) ?_)
 refine Ut (k:=1) (k':=2) rfl rfl rfl (Ub rfl rfl (ahc rfl rfl Dr) ?_)
 refine Ut (k:=2) (k':=3) rfl rfl rfl (Ub rfl rfl (run_move rfl rfl) ?_)
 refine Ut (k:=3) (k':=4) rfl rfl rfl (Ub rfl rfl (Ui rfl rfl rfl) ?_)
 refine Ut (k:=4) (k':=5) rfl rfl rfl (Ub rfl rfl (Ui rfl rfl rfl) ?_)
 refine Ut (k:=5) (k':=6) rfl rfl rfl (Uh (l:=[_]) rfl rfl rfl anI rfl S ?_)
 intro aI w1 S1;clear S
 refine Ut (k:=6) (k':=7) rfl rfl rfl (U6 (i:=0) (us:=[_]) (l':=[_]) (H':=[_,_,_]) rfl rfl S1 rfl rfl rfl rfl an6 rfl rfl rfl rfl ?_)
 intro w2 S2;clear S1
 refine Ut (k:=7) (k':=8) rfl rfl rfl (Ub rfl rfl (run_assign rfl rfl) ?_)
 refine U5 rfl ?_
 refine bN [(2,_),(0,_),(1,_),(3,_),(4,_)] ⟨rfl,rfl,rfl,rfl,rfl,trivial⟩ ?_
 refine U3 ?_
 refine U2 PG au4 rfl rfl rfl ?_
 refine U2 au3 age rfl rfl rfl ?_
 refine U0 rfl ?_
 refine Ut (k:=0) (k':=1) rfl rfl rfl (Ub rfl rfl (run_move rfl rfl) ?_)
 refine Ut (k:=1) (k':=2) rfl rfl rfl (Ub rfl rfl (dS rfl rfl) ?_)
 refine U5 rfl ?_
 refine bN [(2,_),(0,_),(1,_),(3,_),(14,_)] ⟨rfl,rfl,rfl,rfl,rfl,trivial⟩ ?_
 refine U3 ?_
 refine jz au2 rfl rfl rfl ?_
 refine Ue rfl ?_
 refine bN [(0,_),(1,_),(3,_)] ⟨rfl,rfl,rfl,trivial⟩ ?_
 refine U3 ?_
 have S3:=S2.pick [1,2,0] [_,_,_] (by decide) ⟨rfl,rfl,rfl,trivial⟩;clear S2
 refine jM [_,_] [_] rfl (by kernel_rfl) S3 5 rfl ?_
 clear S3
 change WA _ _ _ _ _ _ _ _ _ _ _ _ [_,_,_]
 refine tU (i:=0) (d:=16) 4 rfl (by kernel_rfl) (by kernel_rfl) (by kernel_rfl) rfl rfl rfl (fun M1 N1 w3 aL S4=>.inl (run_build (l:=[_,_]) rfl rfl dI rfl rfl)) ?_
 refine wu (i:=1) (d:=17) 3 rfl (by kernel_rfl) (by kernel_rfl) (by kernel_rfl) rfl rfl rfl (fun w4=>U1 rfl rfl Dr rfl (apD) (aod)) ?_
 refine tU (i:=2) (d:=18) 2 rfl (by kernel_rfl) (by kernel_rfl) (by kernel_rfl) rfl rfl rfl (fun M3 N3 w5 dh S6=>.inl (U4 rfl rfl xh rfl (S6.suf.ar (i:=0) rfl rfl))) ?_
 refine Un (i:=3) 1 rfl (by kernel_rfl) rfl rfl (fun w7 S8=>?_)
 refine(U6 (i:=0) (us:=[_,_]) (l':=[_,_]) (H':=[_,_,_]) rfl rfl S8 rfl rfl rfl rfl aA rfl rfl rfl rfl ?_)
 intro w8 S9;clear S8
 refine aP.grow [_,_] (Hp.le_refl _) S9 ?_;clear S9
 change WA _ _ _ _ _ _ _ _ _ _ _ _ [_,_,_]
 refine Un (i:=4) 0 rfl (by kernel_rfl) rfl rfl (fun jT bW=>?_)
 refine(U6 (i:=1) (us:=[_]) (l':=[_]) (H':=[_,_,_]) rfl rfl bW rfl rfl rfl rfl zC rfl rfl rfl rfl ?_)
 intro kV bV;clear bW
 refine aP.grow [_,_] (Hp.le_refl _) bV ?_;clear bV
 change WA _ _ _ _ _ _ _ _ _ _ _ _ [_,_,_]
 refine Uu (by kernel_rfl) (fun lU bZ=>?_)
 refine bN [] trivial ?_
 exact hC _ ⟨rfl,rfl,bZ.pick [0,1] [_,_] (by decide) ⟨rfl,rfl,trivial⟩⟩
end InF
open InF (catchR catchP)
noncomputable def PF:=Tryz.f29.body.getD .skip
def au1:=cL PF
def PE:=cR PF
def au0:=cL PE
def auZ:=cR PE
set_option maxRecDepth 10000 in
theorem acr{w:World}{M:Hp}{X:Fr}(S:SH w M X []):Co Tryz.prog 29 [] w M X (fun v N=>∃gm,v=.map (some gm)/\N=[Rs.mp (Value.int .i64) o8 gm wN]):=by
 unfold Co
 refine Up (b:=PF) Tryz.func29 rfl Tryz.ntmps29 rfl (fun C hC=>?_)
 refine bq [] trivial ?_
 refine U2 au1 PE rfl rfl rfl ?_
 refine U0 rfl ?_
 refine Ut (k:=0) (k':=1) rfl rfl rfl (Ub rfl rfl (run_assign rfl rfl) ?_)
 refine U5 rfl ?_
 refine bN [] trivial ?_
 refine U3 ?_
 refine U2 au0 auZ rfl rfl rfl ?_
 refine U0 rfl ?_
 refine Ut (k:=0) (k':=1) rfl rfl rfl (yq Int (Option Nat) (Value.int .i64) o8 rfl rfl rfl S ?_)
 intro jg w1 S1;clear S
 refine Ut (k:=1) (k':=2) rfl rfl rfl (om (kc:=Value.int .i64) (vc:=o8) (es:=([])) (k:=1) (e:=(some 67)) (i:=0) (H':=[_]) (.inr rfl) rfl S1 rfl rfl rfl rfl uI nX rfl ?_)
 intro w2 S2;clear S1
 refine Ut (k:=2) (k':=3) rfl rfl rfl (om (kc:=Value.int .i64) (vc:=o8) (es:=(mp 1 (some 67) ([]))) (k:=2) (e:=(some 68)) (i:=0) (H':=[_]) (.inr rfl) rfl S2 rfl rfl rfl rfl uI nX rfl ?_)
 intro w3 S3;clear S2
 refine Ut (k:=3) (k':=4) rfl rfl rfl (om (kc:=Value.int .i64) (vc:=o8) (es:=(mp 2 (some 68) (mp 1 (some 67) ([])))) (k:=3) (e:=(some 69)) (i:=0) (H':=[_]) (.inr rfl) rfl S3 rfl rfl rfl rfl uI nX rfl ?_)
 intro w4 S4;clear S3
 refine Ut (k:=4) (k':=5) rfl rfl rfl (om (kc:=Value.int .i64) (vc:=o8) (es:=(mp 3 (some 69) (mp 2 (some 68) (mp 1 (some 67) ([]))))) (k:=4) (e:=(some 70)) (i:=0) (H':=[_]) (.inr rfl) rfl S4 rfl rfl rfl rfl uI nX rfl ?_)
 intro w5 S5;clear S4
 refine Ut (k:=5) (k':=6) rfl rfl rfl (om (kc:=Value.int .i64) (vc:=o8) (es:=(mp 4 (some 70) (mp 3 (some 69) (mp 2 (some 68) (mp 1 (some 67) ([])))))) (k:=5) (e:=(some 71)) (i:=0) (H':=[_]) (.inr rfl) rfl S5 rfl rfl rfl rfl uI nX rfl ?_)
 intro w6 S6;clear S5
 refine Ut (k:=6) (k':=7) rfl rfl rfl (Ub rfl rfl (run_move rfl rfl) ?_)
 refine Ut (k:=7) (k':=8) rfl rfl rfl (Ub rfl rfl (run_assign rfl rfl) ?_)
 refine U5 rfl ?_
 refine bN [(0,_)] ⟨rfl,trivial⟩ ?_
 refine U3 ?_
 refine Uk hC [_] rfl rfl ⟨rfl,trivial⟩ ?_
 exact⟨_,rfl,_,S6.pick [0] [_] (by decide) ⟨rfl,trivial⟩,⟨_,rfl,rfl⟩⟩
end Go.Proofs.YthppkofceancjaaGreat
namespace Go.Proofs.YthppkofceancjaaGreat
open Go.ChangeShapes Go.WideShapes Go.ChangeAt Go.RowKit
theorem adM:(Tryz.prog.info? 58).map (·.zero)=some (some (.nilFunc)):=by kernel_rfl
namespace InF.G
noncomputable def PD:=Tryz.f8.body.getD .skip
def auY:=cL PD
def PB:=cR PD
def auX:=cL PB
def PA:=cR PB
def EE:=cL PA
def ED:=cR PA
def agd:=cL EE
def EC:=cR EE
def Pz:=cL EC
def auW:=cR EC
def auV:=cL Pz
def auU:=cR Pz
def auT:=cL ED
def Py:=cR ED
def Px:=cL Py
def auS:=cR Py
def auR:=cL Px
def agc:=cR Px
def Pw:=cL agc
def auQ:=cL Pw
def auP:=cR Pw
set_option maxHeartbeats 2000000 in
set_option maxRecDepth 10000 in
theorem anG{w:World}{M:Hp}{X:Fr}(d:Dg)(m:Mv){dA:Option Addr}{dc:Nat}(hk:mU m.kd=none)(lZ:aG aF (M.un X.h) dA dc d.ae)(S:SH w M X []):Ct Tryz.prog 8 [.agg [.slice dA d.ae.length dc,.int .i64 d.loops].toArray,.agg [.int .i64 m.kd,.int .i64 m.at_,.int .i64 m.aJ,.int .i64 m.ua,.bool m.ub,.int .i64 m.va,.bool m.vb,.bool m.ov].toArray] w M X (rO (dx d m)):=by
 unfold Ct
 refine FZ (b:=PD) Tryz.func8 rfl Tryz.ntmps8 rfl (fun C tB hC=>?_)
 refine bq [(0,_),(1,_)] ⟨rfl,rfl,trivial⟩ ?_
 refine U2 auY PB rfl rfl rfl ?_
 refine U0 rfl ?_
 refine Ut (k:=0) (k':=1) rfl rfl rfl (bE (l:=[_,_]) rfl rfl rfl rfl rfl S ?_)
 intro aI w1 S1;clear S
 refine Ut (k:=1) (k':=2) rfl rfl rfl (bE (l:=[_,_,_,_,_,_,_,_]) rfl rfl rfl rfl rfl S1 ?_)
 intro aQ w2 S2;clear S1
 refine Ut (k:=2) (k':=3) rfl rfl rfl (Uh (l:=[_,_]) rfl rfl rfl fR rfl S2 ?_)
 intro bz w3 S3;clear S2
 refine Ut (k:=3) (k':=4) rfl rfl rfl (Uh (l:=[_]) rfl rfl rfl adP rfl S3 ?_)
 intro gZ w4 S4;clear S3
 refine U5 rfl ?_
 refine bN [(2,_),(3,_),(4,_),(5,_)] ⟨rfl,rfl,rfl,rfl,trivial⟩ ?_
 refine U3 ?_
 refine U2 auX PA rfl rfl rfl ?_
 refine U0 rfl ?_
 refine Ut (k:=0) (k':=1) rfl rfl rfl (Ub rfl rfl (U8 (us:=[_,_]) rfl rfl ay rfl aA (S4.aw (i:=3) rfl ⟨rfl,rfl,trivial⟩)) ?_)
 refine Ut (k:=1) (k':=2) rfl rfl rfl (CH rfl rfl rfl rfl rfl rfl rfl JD S4 (GX d (lZ.mono S4.Uy) S4.aD) ?_)
 intro Rn w5 M1 Nw5 aL S5 zY;clear S4
 replace lZ:=lZ.mono (Hp.Ua aL S5.mx)
 rcases zY with⟨hop,rfl,rfl⟩|⟨hop,bC,ggs,bD,iA,oA,fA,ic,oc,fc,fv,rfl,rfl,hsi,aK,cZ,cY⟩
 ·have S6:SH _ _ _ [_,_,_,_]:=S5;clear S5
  refine Ut (k:=2) (k':=3) rfl rfl rfl (Ub rfl rfl (run_move rfl rfl) ?_)
  refine Ut (k:=3) (k':=4) rfl rfl rfl (Ub rfl rfl (Ui rfl rfl rfl) ?_)
  refine Ut (k:=4) (k':=5) rfl rfl rfl (Ub rfl rfl (Ui rfl rfl rfl) ?_)
  refine Ut (k:=5) (k':=6) rfl rfl rfl (Ub rfl rfl (run_assign rfl rfl) ?_)
  refine Ut (k:=6) (k':=7) rfl rfl rfl (Ub rfl rfl (run_assign rfl rfl) ?_)
  refine U5 rfl ?_
  refine bN [(3,_),(4,_),(5,_),(6,_),(7,_)] ⟨rfl,rfl,rfl,rfl,rfl,trivial⟩ ?_
  refine U3 ?_
  refine U2 EE ED rfl rfl rfl ?_
  refine U2 agd EC rfl rfl rfl ?_
  refine U0 rfl ?_
  refine Ut (k:=0) (k':=1) rfl rfl rfl (Ub rfl rfl (run_move rfl rfl) ?_)
  refine Ut (k:=1) (k':=2) rfl rfl rfl (Ub rfl rfl (dS rfl rfl) ?_)
  refine U5 rfl ?_
  refine bN [(3,_),(4,_),(5,_),(6,_),(15,_)] ⟨rfl,rfl,rfl,rfl,rfl,trivial⟩ ?_
  refine U3 ?_
  refine fN Pz rfl rfl rfl ?_
  refine U2 auV auU rfl rfl rfl ?_
  refine U0 rfl ?_
  refine Ut (k:=0) (k':=1) rfl rfl rfl (Ub rfl rfl (run_build (l:=[_,_]) rfl rfl dI rfl rfl) ?_)
  refine Ut (k:=1) (k':=2) rfl rfl rfl (U6 (i:=1) (us:=[_,_]) (l':=[_,_]) (H':=[_,_,_,_]) rfl rfl S6 rfl rfl rfl rfl aA rfl rfl rfl rfl ?_)
  intro w6 S7;clear S6
  refine Ut (k:=2) (k':=3) rfl rfl rfl (U6 (i:=0) (us:=[_]) (l':=[_]) (H':=[_,_,_,_]) rfl rfl S7 rfl rfl rfl rfl zC rfl rfl rfl rfl ?_)
  intro w7 S8;clear S7
  refine U5 rfl ?_
  refine bN [(4,_),(5,_)] ⟨rfl,rfl,trivial⟩ ?_
  refine U3 ?_
  refine Uk hC [_,_] rfl rfl ⟨⟨_,rfl,Um (us:=[_,_]) ay rfl aA (S8.aw (i:=1) rfl ⟨rfl,rfl,trivial⟩)⟩,⟨_,rfl,yM xh rfl (S8.ar (i:=0) rfl rfl)⟩,trivial⟩ ?_
  refine⟨_,rfl,_,aL,(S8.pick [] [] (by decide) trivial),?_⟩
  rw[show dx d m=(⟨[],0⟩,7)from by unfold dx;rw[if_pos hop]]
  exact⟨none,0,rfl,aG.eX⟩
 ·have S9:SH _ _ _ [_,_,_,_,_,_,_]:=S5;clear S5
  obtain⟨hn,hab,hlo⟩:=yZ hop
  refine Ut (k:=2) (k':=3) rfl rfl rfl (Ub rfl rfl (run_move rfl rfl) ?_)
  refine Ut (k:=3) (k':=4) rfl rfl rfl (Ub rfl rfl (Ui rfl rfl rfl) ?_)
  refine Ut (k:=4) (k':=5) rfl rfl rfl (Ub rfl rfl (Ui rfl rfl rfl) ?_)
  refine Ut (k:=5) (k':=6) rfl rfl rfl (Ub rfl rfl (run_assign rfl rfl) ?_)
  refine Ut (k:=6) (k':=7) rfl rfl rfl (Ub rfl rfl (run_assign rfl rfl) ?_)
  refine U5 rfl ?_
  refine bN [(3,_),(4,_),(5,_),(6,_),(7,_)] ⟨rfl,rfl,rfl,rfl,rfl,trivial⟩ ?_
  refine U3 ?_
  refine U2 EE ED rfl rfl rfl ?_
  refine U2 agd EC rfl rfl rfl ?_
  refine U0 rfl ?_
  refine Ut (k:=0) (k':=1) rfl rfl rfl (Ub rfl rfl (run_move rfl rfl) ?_)
  refine Ut (k:=1) (k':=2) rfl rfl rfl (Ub rfl rfl (dS rfl rfl) ?_)
  refine U5 rfl ?_
  refine bN [(3,_),(4,_),(5,_),(6,_),(15,_)] ⟨rfl,rfl,rfl,rfl,rfl,trivial⟩ ?_
  refine U3 ?_
  refine jz auW rfl rfl rfl ?_
  refine Ue rfl ?_
  refine bN [(3,_),(4,_),(5,_),(6,_)] ⟨rfl,rfl,rfl,rfl,trivial⟩ ?_
  refine U3 ?_
  refine U2 auT Py rfl rfl rfl ?_
  refine bM rfl (by kernel_rfl) S9 5 rfl ?_
  clear S9
  refine wu (i:=1) (d:=18) 4 rfl (by kernel_rfl) (by kernel_rfl) (by kernel_rfl) rfl rfl rfl (fun w9=>U1 rfl rfl aT rfl (aC) (aB)) ?_
  refine tU (i:=2) (d:=19) 3 rfl (by kernel_rfl) (by kernel_rfl) (by kernel_rfl) rfl rfl rfl (fun M5 N4 kV fL bZ=>.inl (U4 rfl rfl av rfl (bZ.suf.ar (i:=5) rfl rfl))) ?_
  refine Un (i:=0) 2 rfl (by kernel_rfl) rfl rfl (fun kz bO=>?_)
  refine(wT rfl rfl rfl rfl rfl rfl rfl aeU bO (acr bO.aD) ?_)
  intro adW jG awu cm zy;clear bO
  obtain⟨gmk,rfl,rfl⟩:=zy
  have bF:SH _ _ _ [_,_,_,_,_,_,_,_]:=cm;clear cm
  refine aP.grow [_] (Hp.le_refl _) bF ?_;clear bF
  change WA _ _ _ _ _ _ _ _ _ _ _ _ [_,_,_,_,_,_,_,_]
  refine abI ?_
  refine tU (i:=3) (d:=20) 1 rfl (by kernel_rfl) (by kernel_rfl) (by kernel_rfl) rfl rfl rfl (fun M7 N6 nW Dy bU=>.inl (yo (kc:=(Value.int .i64)) (vc:=o8) (es:=wN) (k:=m.kd) (zv:=(none:Option Nat)) (i:=0) rfl rfl rfl uI nX adM bU.suf rfl)) ?_
  refine wu (i:=4) (d:=8) 0 rfl (by kernel_rfl) (by kernel_rfl) (by kernel_rfl) rfl rfl rfl (fun ni=>run_assign rfl rfl) ?_
  refine Uu (by kernel_rfl) (fun kU cN=>?_)
  refine bN [(3,_),(4,_),(5,_),(6,_),(8,_)] ⟨rfl,rfl,rfl,rfl,rfl,trivial⟩ ?_
  refine U3 ?_
  refine U2 Px auS rfl rfl rfl ?_
  refine U2 auR agc rfl rfl rfl ?_
  refine kf 8 (.nilFunc) rfl (by show o8 (mU m.kd)=_;rw[hk];rfl) ?_
  refine U0 rfl ?_
  refine Ut (k:=0) (k':=1) rfl rfl rfl (Ub rfl rfl (run_move rfl rfl) ?_)
  refine Ut (k:=1) (k':=2) rfl rfl rfl (Ub rfl rfl (ahZ rfl rfl rfl ad1) ?_)
  refine U5 rfl ?_
  refine bN [(3,_),(4,_),(5,_),(6,_),(8,_),(22,_)] ⟨rfl,rfl,rfl,rfl,rfl,rfl,trivial⟩ ?_
  refine U3 ?_
  refine fN Pw rfl rfl rfl ?_
  refine U2 auQ auP rfl rfl rfl ?_
  refine U0 rfl ?_
  refine Ut (k:=0) (k':=1) rfl rfl rfl (Ub rfl rfl (run_build (l:=[_,_]) rfl rfl dI rfl rfl) ?_)
  refine Ut (k:=1) (k':=2) rfl rfl rfl (U6 (i:=5) (us:=[_,_]) (l':=[_,_]) (H':=[_,_,_,_,_,_,_,_]) rfl rfl cN rfl rfl rfl rfl aA rfl rfl rfl rfl ?_)
  intro tA cM;clear cN
  refine Ut (k:=2) (k':=3) rfl rfl rfl (U6 (i:=4) (us:=[_]) (l':=[_]) (H':=[_,_,_,_,_,_,_,_]) rfl rfl cM rfl rfl rfl rfl zC rfl rfl rfl rfl ?_)
  intro oZ dz;clear cM
  refine U5 rfl ?_
  refine bN [(4,_),(5,_)] ⟨rfl,rfl,trivial⟩ ?_
  refine U3 ?_
  refine Uk hC [_,_] rfl rfl ⟨⟨_,rfl,Um (us:=[_,_]) ay rfl aA (dz.aw (i:=5) rfl ⟨rfl,rfl,trivial⟩)⟩,⟨_,rfl,yM xh rfl (dz.ar (i:=4) rfl rfl)⟩,trivial⟩ ?_
  refine⟨_,rfl,_,aL,(dz.pick [] [] (by decide) trivial),?_⟩
  rw[show dx d m=(⟨[],0⟩,6)from by unfold dx;rw[if_neg (by rw[hop];decide),if_pos hk]]
  exact⟨none,0,rfl,aG.eX⟩
noncomputable def Pv:=Tryz.f8.body.getD .skip
def auO:=cL Pv
def Pt:=cR Pv
def auN:=cL Pt
def Ps:=cR Pt
def EB:=cL Ps
def EA:=cR Ps
def agb:=cL EB
def Ez:=cR EB
def Pr:=cL Ez
def auM:=cR Ez
def auL:=cL Pr
def auK:=cR Pr
def auJ:=cL EA
def Pq:=cR EA
def Pp:=cL Pq
def Po:=cR Pq
def auI:=cL Pp
def aga:=cR Pp
def auH:=cR aga
def auG:=cL Po
def Pn:=cR Po
def auF:=cL Pn
def Pm:=cR Pn
def auE:=cL Pm
def auD:=cR Pm
set_option maxHeartbeats 2000000 in
set_option maxRecDepth 10000 in
theorem anF{w:World}{M:Hp}{X:Fr}(d:Dg)(m:Mv){dA:Option Addr}{dc:Nat}{f:Nat}(hk:mU m.kd=some f)(lZ:aG aF (M.un X.h) dA dc d.ae)(S:SH w M X []):Ct Tryz.prog 8 [.agg [.slice dA d.ae.length dc,.int .i64 d.loops].toArray,.agg [.int .i64 m.kd,.int .i64 m.at_,.int .i64 m.aJ,.int .i64 m.ua,.bool m.ub,.int .i64 m.va,.bool m.vb,.bool m.ov].toArray] w M X (rO (dx d m)):=by
 unfold Ct
 refine FZ (b:=Pv) Tryz.func8 rfl Tryz.ntmps8 rfl (fun C tB hC=>?_)
 refine bq [(0,_),(1,_)] ⟨rfl,rfl,trivial⟩ ?_
 refine U2 auO Pt rfl rfl rfl ?_
 refine U0 rfl ?_
 refine Ut (k:=0) (k':=1) rfl rfl rfl (bE (l:=[_,_]) rfl rfl rfl rfl rfl S ?_)
 intro aI w1 S1;clear S
 refine Ut (k:=1) (k':=2) rfl rfl rfl (bE (l:=[_,_,_,_,_,_,_,_]) rfl rfl rfl rfl rfl S1 ?_)
 intro aQ w2 S2;clear S1
 refine Ut (k:=2) (k':=3) rfl rfl rfl (Uh (l:=[_,_]) rfl rfl rfl fR rfl S2 ?_)
 intro bz w3 S3;clear S2
 refine Ut (k:=3) (k':=4) rfl rfl rfl (Uh (l:=[_]) rfl rfl rfl adP rfl S3 ?_)
 intro gZ w4 S4;clear S3
 refine U5 rfl ?_
 refine bN [(2,_),(3,_),(4,_),(5,_)] ⟨rfl,rfl,rfl,rfl,trivial⟩ ?_
 refine U3 ?_
 refine U2 auN Ps rfl rfl rfl ?_
 refine U0 rfl ?_
 refine Ut (k:=0) (k':=1) rfl rfl rfl (Ub rfl rfl (U8 (us:=[_,_]) rfl rfl ay rfl aA (S4.aw (i:=3) rfl ⟨rfl,rfl,trivial⟩)) ?_)
 refine Ut (k:=1) (k':=2) rfl rfl rfl (CH rfl rfl rfl rfl rfl rfl rfl JD S4 (GX d (lZ.mono S4.Uy) S4.aD) ?_)
 intro Rn w5 M1 Nw5 aL S5 zY;clear S4
 replace lZ:=lZ.mono (Hp.Ua aL S5.mx)
 rcases zY with⟨hop,rfl,rfl⟩|⟨hop,bC,ggs,bD,iA,oA,fA,ic,oc,fc,fv,rfl,rfl,hsi,aK,cZ,cY⟩
 ·have S6:SH _ _ _ [_,_,_,_]:=S5;clear S5
  refine Ut (k:=2) (k':=3) rfl rfl rfl (Ub rfl rfl (run_move rfl rfl) ?_)
  refine Ut (k:=3) (k':=4) rfl rfl rfl (Ub rfl rfl (Ui rfl rfl rfl) ?_)
  refine Ut (k:=4) (k':=5) rfl rfl rfl (Ub rfl rfl (Ui rfl rfl rfl) ?_)
  refine Ut (k:=5) (k':=6) rfl rfl rfl (Ub rfl rfl (run_assign rfl rfl) ?_)
  refine Ut (k:=6) (k':=7) rfl rfl rfl (Ub rfl rfl (run_assign rfl rfl) ?_)
  refine U5 rfl ?_
  refine bN [(3,_),(4,_),(5,_),(6,_),(7,_)] ⟨rfl,rfl,rfl,rfl,rfl,trivial⟩ ?_
  refine U3 ?_
  refine U2 EB EA rfl rfl rfl ?_
  refine U2 agb Ez rfl rfl rfl ?_
  refine U0 rfl ?_
  refine Ut (k:=0) (k':=1) rfl rfl rfl (Ub rfl rfl (run_move rfl rfl) ?_)
  refine Ut (k:=1) (k':=2) rfl rfl rfl (Ub rfl rfl (dS rfl rfl) ?_)
  refine U5 rfl ?_
  refine bN [(3,_),(4,_),(5,_),(6,_),(15,_)] ⟨rfl,rfl,rfl,rfl,rfl,trivial⟩ ?_
  refine U3 ?_
  refine fN Pr rfl rfl rfl ?_
  refine U2 auL auK rfl rfl rfl ?_
  refine U0 rfl ?_
  refine Ut (k:=0) (k':=1) rfl rfl rfl (Ub rfl rfl (run_build (l:=[_,_]) rfl rfl dI rfl rfl) ?_)
  refine Ut (k:=1) (k':=2) rfl rfl rfl (U6 (i:=1) (us:=[_,_]) (l':=[_,_]) (H':=[_,_,_,_]) rfl rfl S6 rfl rfl rfl rfl aA rfl rfl rfl rfl ?_)
  intro w6 S7;clear S6
  refine Ut (k:=2) (k':=3) rfl rfl rfl (U6 (i:=0) (us:=[_]) (l':=[_]) (H':=[_,_,_,_]) rfl rfl S7 rfl rfl rfl rfl zC rfl rfl rfl rfl ?_)
  intro w7 S8;clear S7
  refine U5 rfl ?_
  refine bN [(4,_),(5,_)] ⟨rfl,rfl,trivial⟩ ?_
  refine U3 ?_
  refine Uk hC [_,_] rfl rfl ⟨⟨_,rfl,Um (us:=[_,_]) ay rfl aA (S8.aw (i:=1) rfl ⟨rfl,rfl,trivial⟩)⟩,⟨_,rfl,yM xh rfl (S8.ar (i:=0) rfl rfl)⟩,trivial⟩ ?_
  refine⟨_,rfl,_,aL,(S8.pick [] [] (by decide) trivial),?_⟩
  rw[show dx d m=(⟨[],0⟩,7)from by unfold dx;rw[if_pos hop]]
  exact⟨none,0,rfl,aG.eX⟩
 ·have S9:SH _ _ _ [_,_,_,_,_,_,_]:=S5;clear S5
  obtain⟨hn,hab,hlo⟩:=yZ hop
  refine Ut (k:=2) (k':=3) rfl rfl rfl (Ub rfl rfl (run_move rfl rfl) ?_)
  refine Ut (k:=3) (k':=4) rfl rfl rfl (Ub rfl rfl (Ui rfl rfl rfl) ?_)
  refine Ut (k:=4) (k':=5) rfl rfl rfl (Ub rfl rfl (Ui rfl rfl rfl) ?_)
  refine Ut (k:=5) (k':=6) rfl rfl rfl (Ub rfl rfl (run_assign rfl rfl) ?_)
  refine Ut (k:=6) (k':=7) rfl rfl rfl (Ub rfl rfl (run_assign rfl rfl) ?_)
  refine U5 rfl ?_
  refine bN [(3,_),(4,_),(5,_),(6,_),(7,_)] ⟨rfl,rfl,rfl,rfl,rfl,trivial⟩ ?_
  refine U3 ?_
  refine U2 EB EA rfl rfl rfl ?_
  refine U2 agb Ez rfl rfl rfl ?_
  refine U0 rfl ?_
  refine Ut (k:=0) (k':=1) rfl rfl rfl (Ub rfl rfl (run_move rfl rfl) ?_)
  refine Ut (k:=1) (k':=2) rfl rfl rfl (Ub rfl rfl (dS rfl rfl) ?_)
  refine U5 rfl ?_
  refine bN [(3,_),(4,_),(5,_),(6,_),(15,_)] ⟨rfl,rfl,rfl,rfl,rfl,trivial⟩ ?_
  refine U3 ?_
  refine jz auM rfl rfl rfl ?_
  refine Ue rfl ?_
  refine bN [(3,_),(4,_),(5,_),(6,_)] ⟨rfl,rfl,rfl,rfl,trivial⟩ ?_
  refine U3 ?_
  refine U2 auJ Pq rfl rfl rfl ?_
  refine bM rfl (by kernel_rfl) S9 5 rfl ?_
  clear S9
  refine wu (i:=1) (d:=18) 4 rfl (by kernel_rfl) (by kernel_rfl) (by kernel_rfl) rfl rfl rfl (fun w9=>U1 rfl rfl aT rfl (aC) (aB)) ?_
  refine tU (i:=2) (d:=19) 3 rfl (by kernel_rfl) (by kernel_rfl) (by kernel_rfl) rfl rfl rfl (fun M5 N4 kV fL bZ=>.inl (U4 rfl rfl av rfl (bZ.suf.ar (i:=5) rfl rfl))) ?_
  refine Un (i:=0) 2 rfl (by kernel_rfl) rfl rfl (fun kz bO=>?_)
  refine(wT rfl rfl rfl rfl rfl rfl rfl aeU bO (acr bO.aD) ?_)
  intro adW jG awu cm zy;clear bO
  obtain⟨gmk,rfl,rfl⟩:=zy
  have bF:SH _ _ _ [_,_,_,_,_,_,_,_]:=cm;clear cm
  refine aP.grow [_] (Hp.le_refl _) bF ?_;clear bF
  change WA _ _ _ _ _ _ _ _ _ _ _ _ [_,_,_,_,_,_,_,_]
  refine abI ?_
  refine tU (i:=3) (d:=20) 1 rfl (by kernel_rfl) (by kernel_rfl) (by kernel_rfl) rfl rfl rfl (fun M7 N6 nW Dy bU=>.inl (yo (kc:=(Value.int .i64)) (vc:=o8) (es:=wN) (k:=m.kd) (zv:=(none:Option Nat)) (i:=0) rfl rfl rfl uI nX adM bU.suf rfl)) ?_
  refine wu (i:=4) (d:=8) 0 rfl (by kernel_rfl) (by kernel_rfl) (by kernel_rfl) rfl rfl rfl (fun ni=>run_assign rfl rfl) ?_
  refine Uu (by kernel_rfl) (fun kU cN=>?_)
  refine bN [(3,_),(4,_),(5,_),(6,_),(8,_)] ⟨rfl,rfl,rfl,rfl,rfl,trivial⟩ ?_
  refine U3 ?_
  refine U2 Pp Po rfl rfl rfl ?_
  refine U2 auI aga rfl rfl rfl ?_
  refine kf 8 (.func (.func f) #[] #[]) rfl (by show o8 (mU m.kd)=_;rw[hk];rfl) ?_
  refine U0 rfl ?_
  refine Ut (k:=0) (k':=1) rfl rfl rfl (Ub rfl rfl (run_move rfl rfl) ?_)
  refine Ut (k:=1) (k':=2) rfl rfl rfl (Ub rfl rfl (ah0 rfl rfl rfl ad1) ?_)
  refine U5 rfl ?_
  refine bN [(3,_),(4,_),(5,_),(6,_),(8,_),(22,_)] ⟨rfl,rfl,rfl,rfl,rfl,rfl,trivial⟩ ?_
  refine U3 ?_
  refine jz auH rfl rfl rfl ?_
  refine Ue rfl ?_
  refine bN [(3,_),(4,_),(5,_),(6,_),(8,_)] ⟨rfl,rfl,rfl,rfl,rfl,trivial⟩ ?_
  refine U3 ?_
  refine U2 auG Pn rfl rfl rfl ?_
  refine U0 rfl ?_
  refine Ut (k:=0) (k':=1) rfl rfl rfl (Ub rfl rfl (vZ (vs:=[_,_]) rfl rfl rfl rfl) ?_)
  refine ahT (k:=1) (k':=2) (cap:=[_,_]) rfl rfl rfl rfl rfl rfl rfl rfl tB ?_
  refine fg.U5 rfl ?_
  refine fg.bN [(3,_),(4,_),(5,_),(6,_),(8,_)] ⟨rfl,rfl,rfl,rfl,rfl,trivial⟩ ?_
  refine fg.U3 ?_
  refine fg.U2 auF Pm rfl rfl rfl ?_
  refine fg.U0 rfl ?_
  refine fg.Ut (k:=0) (k':=1) rfl rfl rfl (Ub rfl rfl (run_move rfl rfl) ?_)
  refine fg.Ut (k:=1) (k':=2) rfl rfl rfl (Ub rfl rfl (run_move rfl rfl) ?_)
  refine fg.Ut (k:=2) (k':=3) rfl rfl rfl (Ub rfl rfl (U8 (us:=[_,_,_,_,_,_,_,_]) rfl rfl aT rfl fH (cN.aw (i:=6) rfl ⟨rfl,rfl,rfl,rfl,rfl,rfl,rfl,rfl,trivial⟩)) ?_)
  have cM:=cN.pick [1,2,3,0,4,5,6,7] [_,_,_,_,_,_,_,_] (by decide) ⟨rfl,rfl,rfl,rfl,rfl,rfl,rfl,rfl,trivial⟩;clear cN
  have dz:SH _ _ _ (Rs.aX [_,_,_]::[_,_,_,_,_]):=SH.jd (A:=[_,_,_]) (B:=[_,_,_,_,_]) cM;clear cM
  have dE:SH _ _ _ [_,_,_,_,_,_]:=dz.less (i:=0) rfl
  clear dE
  have Jn:=ajv m hk d hsi aK cZ cY hn hab hlo (dz.iG (i:=0) rfl)
  refine fg.aiE (k:=3) (k':=4) rfl rfl rfl rfl rfl rfl rfl rfl rfl rfl (ai7 hk) (Cm.two dz rfl Jn) ?_ ?_
  ·rintro _ ng ⟨Jm,M28,_,sx,dB,rfl,A28,c28,rfl,h28⟩
   clear Jn dz
   replace lZ:=lZ.mono (Hp.Ua sx dB.mx)
   replace hsi:=hsi.mono sx
   replace aK:=aK.mono sx
   replace cZ:=cZ.mono sx
   replace cY:=cY.mono sx
   replace dB:SH _ _ _ (Rs.aX [_,_]::[_,_,_,_,_]):=dB
   have eV:SH _ _ _ [_,_,_,_,_,_,_]:=SH.jK (A:=[_,_]) (B:=[_,_,_,_,_]) dB;clear dB
   refine fg.U5 rfl ?_
   refine fg.bN [(4,_),(5,_),(6,_)] ⟨rfl,rfl,rfl,trivial⟩ ?_
   refine fg.U3 ?_
   refine fg.U2 auE auD rfl rfl rfl ?_
   refine fg.U0 rfl ?_
   refine fg.Ut (k:=0) (k':=1) rfl rfl rfl (Ub rfl rfl (run_move rfl rfl) ?_)
   refine fg.Ut (k:=1) (k':=2) rfl rfl rfl (Ub rfl rfl (U9 rfl rfl) ?_)
   refine fg.Ut (k:=2) (k':=3) rfl rfl rfl (Ub rfl rfl (U1 rfl rfl cV rfl (dK) (dJ)) ?_)
   refine fg.Ut (k:=3) (k':=4) rfl rfl rfl (Ub rfl rfl (U4 rfl rfl dt rfl (eV.ar (i:=0) rfl rfl)) ?_)
   refine fg.Ut (k:=4) (k':=5) rfl rfl rfl (Ub rfl rfl (U9 rfl rfl) ?_)
   refine fg.Ut (k:=5) (k':=6) rfl rfl rfl (Ub rfl rfl (U1 rfl rfl dR rfl (fE) (fD)) ?_)
   refine fg.Ut (k:=6) (k':=7) rfl rfl rfl (Ub rfl rfl (U8 (us:=[_,_]) rfl rfl ay rfl aA (eV.aw (i:=1) rfl ⟨rfl,rfl,trivial⟩)) ?_)
   refine fg.Ut (k:=7) (k':=8) rfl rfl rfl (U6 (i:=4) (us:=[_,_]) (l':=[_,_]) (H':=[_,_,_,_,_,_,_]) rfl rfl eV rfl rfl rfl rfl aA rfl rfl rfl rfl ?_)
   intro tA cI;clear eV
   refine fg.Ut (k:=8) (k':=9) rfl rfl rfl (U6 (i:=3) (us:=[_]) (l':=[_]) (H':=[_,_,_,_,_,_,_]) rfl rfl cI rfl rfl rfl rfl zC rfl rfl rfl rfl ?_)
   intro oZ cH;clear cI
   refine fg.U5 rfl ?_
   refine fg.bN [(4,_),(5,_)] ⟨rfl,rfl,trivial⟩ ?_
   refine fg.U3 ?_
   refine fg.Gw rfl (fun a28 zV=>?_)
   rw[hC]
   show LeavesInM Fence.wide 0 Tryz.prog Tryz.f8 a28.tmps _ a28.defers .returning _
   rw[zV.df]
   refine aaQ (fun h=>by cases h) aeT (CallsDIn.mono catchR ?_)
   rintro e9 u9 w9 ⟨rfl,rfl,rfl⟩
   refine⟨_,rfl,rfl,tup [_,_],vY zV.uq rfl ⟨⟨_,rfl,Um (us:=[_,_]) ay rfl aA (cH.aw (i:=4) rfl ⟨rfl,rfl,trivial⟩)⟩,⟨_,rfl,yM xh rfl (cH.ar (i:=3) rfl rfl)⟩,trivial⟩,_,rfl,_,aL.trans sx,cH.pick [] [] (by decide) trivial,?_⟩
   rw[show dx d m=(iw d m,0)from by unfold dx;rw[if_neg (by rw[hop];decide),if_neg (by rw[hk];exact Option.some_ne_none _),if_pos Jm]]
   exact⟨_,_,rfl,h28⟩
  ·rintro _ ng ⟨Jm,rfl,M28,sx,dB⟩ a28 zV
   clear Jn dz
   replace dB:SH _ _ _ [_,_,_,_,_,_]:=dB
   rw[hC]
   show LeavesInM Fence.wide 0 Tryz.prog Tryz.f8 a28.tmps _ a28.defers (.panicking _) ng
   rw[zV.df]
   refine aaQ (fun h=>by cases h) aeT (CallsDIn.mono (catchP (dB.pick [3,2] [_,_] (by decide) ⟨rfl,rfl,trivial⟩)) ?_)
   rintro e9 u9 w9 ⟨rfl,hs9,S9⟩
   refine⟨_,rfl,hs9,tup [_,_],vY zV.uq rfl ⟨⟨_,rfl,Um (us:=[_,_]) ay rfl aA (S9.aw (i:=0) rfl ⟨rfl,rfl,trivial⟩)⟩,⟨_,rfl,yM xh rfl (S9.ar (i:=1) rfl rfl)⟩,trivial⟩,_,rfl,M28,aL.trans sx,S9.pick [] [] (by decide) trivial,?_⟩
   rw[show dx d m=(⟨[],0⟩,gY d m)from by unfold dx;rw[if_neg (by rw[hop];decide),if_neg (by rw[hk];exact Option.some_ne_none _),if_neg Jm]]
   exact⟨none,0,rfl,aG.eX⟩
end InF.G
theorem ag1{w:World}{M:Hp}{X:Fr}(d:Dg)(m:Mv){dA:Option Addr}{dc:Nat}(lZ:aG aF (M.un X.h) dA dc d.ae)(S:SH w M X []):Ct Tryz.prog 8 [.agg [.slice dA d.ae.length dc,.int .i64 d.loops].toArray,.agg [.int .i64 m.kd,.int .i64 m.at_,.int .i64 m.aJ,.int .i64 m.ua,.bool m.ub,.int .i64 m.va,.bool m.vb,.bool m.ov].toArray] w M X (rO (dx d m)):=by
 cases hk:mU m.kd with
 |none=>exact InF.G.anG d m hk lZ S
 |some f=>exact InF.G.anF d m hk lZ S
end Go.Proofs.YthppkofceancjaaGreat
