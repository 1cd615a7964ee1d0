/- Part 10 of the proof of the law MovesRows: the walks through its functions and the plain laws that they need. -/
import Derived.Test.YthppkofceancjaaGreatMxZ9
import Derived.RecoverIn
set_option linter.unusedSimpArgs false
set_option linter.unusedVariables false
noncomputable section
namespace Go.Proofs.YthppkofceancjaaGreat
open Go.ChangeShapes Go.WideShapes Go.ChangeAt Go.RowKit
noncomputable def MU:=Tryz.f71.body.getD .skip
def asK:=cL MU
def MT:=cR MU
def asJ:=cL MT
def MS:=cR MT
def asI:=cL MS
def MR:=cR MS
def asH:=cL MR
def MQ:=cR MR
def asG:=cL MQ
def MP:=cR MQ
def asF:=cL MP
def MO:=cR MP
def MN:=cL MO
def ML:=cR MO
def asE:=cL MN
def aff:=cR MN
def afe:=cL aff
def MK:=cL afe
def asD:=cL MK
def MJ:=cR MK
def MI:=cL MJ
def MH:=cR MJ
def asC:=cL MI
def asB:=cR MI
def afd:=cL MH
def asA:=cR MH
def MG:=cL afd
def asz:=cL MG
def MF:=cR MG
def asy:=cL MF
def ME:=cR MF
def asx:=cL ME
def MD:=cR ME
def asw:=cL MD
def MC:=cR MD
def asv:=cL MC
def asu:=cR MC
def ast:=cL ML
def afc:=cR ML
def afb:=cL afc
def MB:=cL afb
def ass:=cL MB
def MA:=cR MB
def CP:=cL MA
def Mz:=cR MA
def asr:=cL CP
def asq:=cR CP
def My:=cL Mz
def asp:=cL My
def aso:=cR My
set_option maxHeartbeats 2000000 in
set_option maxRecDepth 10000 in
theorem aiR{w:World}{M:Hp}{X:Fr}(d:Dg){bu ggs:Nat}{bz:Value}{iA oA fA:Option Addr}{ic oc fc:Nat}{fv:List eT}(m:Mv)(hsi:aF bp M iA ic (aw d false (4*d.ae.length)))(aK:aF bp M oA oc (aw d true (4*d.ae.length)))(cG:aF (cB 141) M fA fc fv)(cF:ez bW M fv (U6 d))(hn:d.ae.length<=16)(hab:aX d=true)(hlo:0<=d.loops/\d.loops<=16)(S:SH w M X [Rs.aW [Rs.box bu 67 [.pointer (some ⟨ggs,0,none⟩),.slice fA fv.length fc],Rs.box ggs 70 [bz,.int .i64 d.loops,.slice iA (aw d false (4*d.ae.length)).length ic,.slice oA (aw d true (4*d.ae.length)).length oc],Rs.row aG bz d.ae]]):Cm 71 [.pointer (some ⟨bu,0,none⟩),.agg [.int .i64 m.kd,.int .i64 m.at_,.int .i64 m.aJ,.int .i64 m.ua,.bool m.ub,.int .i64 m.va,.bool m.vb,.bool m.ov].toArray] w M X (gF d m) (uz bu ggs (.slice fA fv.length fc) (.slice iA (aw d false (4*d.ae.length)).length ic) (.slice oA (aw d true (4*d.ae.length)).length oc) (p6 d m)):=by
 unfold Cm
 replace S:=S.jT
 obtain⟨cA,cc,cQ,_⟩:=S.sl (i:=2) rfl
 have hfl:=cF.1
 refine Up (b:=MU) Tryz.func71 rfl Tryz.ntmps71 rfl (fun C hC=>(bq [(0,_),(1,_)] ⟨rfl,rfl,trivial⟩ (U2 asK MT rfl rfl rfl (U0 rfl (ak 0 1 rfl rfl rfl (bA (l:=[_,_,_,_,_,_,_,_]) rfl rfl rfl rfl rfl S ?_))))))
 intro aI w1 S1;clear S
 refine U5 rfl (ah [0,3] rfl (U3 (U2 asJ MS rfl rfl rfl (Ux rfl (by kernel_rfl) S1 14 rfl ?_))))
 clear S1
 refine ai 0 13 rfl (by kernel_rfl) (fun _=>U1 rfl rfl aR rfl (aB) (aA)) ?_
 refine aj 1 12 rfl (by kernel_rfl) (fun _ _ _ hz Sz=>.inl (U4 rfl rfl av rfl (Sz.suf.ar (i:=0) rfl rfl))) ?_
 refine ai 2 11 rfl (by kernel_rfl) (fun _=>kf rfl rfl rfl) ?_
 refine ai 3 10 rfl (by kernel_rfl) (fun _=>run_move rfl rfl) ?_
 refine kj (t:=19) rfl (fun x8=>?_) (fun x8=>?_)
 ·refine ai 4 9 rfl (by kernel_rfl) (fun _=>U1 rfl rfl aR rfl (aB) (aA)) ?_
  refine aj 5 8 rfl (by kernel_rfl) (fun _ _ _ hz Sz=>.inl (U4 rfl rfl av rfl (Sz.suf.ar (i:=0) rfl rfl))) ?_
  refine ai 6 7 rfl (by kernel_rfl) (fun _=>run_move rfl rfl) ?_
  refine ai 7 6 rfl (by kernel_rfl) (fun _=>U9 rfl rfl) ?_
  refine ai 8 5 rfl (by kernel_rfl) (fun _=>U1 rfl rfl cz rfl (BL) (Br)) ?_
  refine aj 9 4 rfl (by kernel_rfl) (fun _ _ _ hz Sz=>.inl (U4 rfl rfl kY rfl (Sz.suf.ar (i:=1) rfl rfl))) ?_
  refine aj 10 3 rfl (by kernel_rfl) (fun _ _ _ hz Sz=>.inl (cI rfl rfl rfl rfl rfl rfl kY)) ?_
  refine ai 11 2 rfl (by kernel_rfl) (fun _=>bV rfl rfl rfl) ?_
  refine ai 12 1 rfl (by kernel_rfl) (fun _=>fL rfl rfl rfl) ?_
  refine kj (t:=28) rfl (fun amF=>?_) (fun amF=>?_)
  ·refine aj 13 0 rfl (by kernel_rfl) (fun _ _ _ hz Sz=>Uq rfl rfl rfl rfl rfl dI Sz (lI 3 Sz.aD)) ?_
   refine Uu (by kernel_rfl) (fun lv bI=>?_)
   refine ah [0,3] rfl (U3 (U2 asI MR rfl rfl rfl ?_))
   have fR:0<=m.at_/\m.at_<((U6 d).length:Int):=by omega
   have hok:∀x∈(ga (U6 d) m.at_.toNat),okD d x:=Ae hab (gZ (by omega))
   refine Ux rfl (by kernel_rfl) bI 9 rfl ?_
   clear bI
   refine ai 0 8 rfl (by kernel_rfl) (fun _=>run_move rfl rfl) ?_
   refine ai 1 7 rfl (by kernel_rfl) (fun _=>U9 rfl rfl) ?_
   refine ai 2 6 rfl (by kernel_rfl) (fun _=>U1 rfl rfl cz rfl (BL) (Br)) ?_
   refine aj 3 5 rfl (by kernel_rfl) (fun _ _ _ hz Sz=>.inl (U4 rfl rfl kY rfl (Sz.suf.ar (i:=1) rfl rfl))) ?_
   refine ai 4 4 rfl (by kernel_rfl) (fun _=>U1 rfl rfl aR rfl (aB) (aA)) ?_
   refine aj 5 3 rfl (by kernel_rfl) (fun _ _ _ hz Sz=>.inl (U4 rfl rfl av rfl (Sz.suf.ar (i:=0) rfl rfl))) ?_
   refine jz 35 (.int .i64 ((m.at_.toNat:Nat):Int)) rfl (int_eq (by omega)) ?_
   refine aj 6 2 rfl (by kernel_rfl) (fun _ _ _ hz Sz=>.inl (Uk (C:=(cB 141)) m.at_.toNat rfl rfl rfl jF (by first|rfl|omega) (cG.mono hz) (by first|omega|(simp only[ls];omega)))) ?_
   obtain⟨kN,hr1⟩:=cF.2 m.at_.toNat (by first|omega|(simp only[ls];omega))
   have akd:(ga (U6 d) m.at_.toNat).length*16<=140737488355328:=hr1.room
   refine aj 7 1 rfl (by kernel_rfl) (fun _ _ _ hz Sz=>.inl (U4 rfl rfl ig rfl ((cG.mono hz).cell Sz.m (i:=m.at_.toNat) (by first|omega|(simp only[ls];omega)) 0 rfl (congrArg (fun n=>some (Value.slice _ n _)) kN)))) ?_
   refine ai 8 0 rfl (by kernel_rfl) (fun _=>run_assign rfl rfl) ?_
   refine Uu (by kernel_rfl) (fun yU ey=>?_)
   refine ah [0,4] rfl (U3 (U2 asH MQ rfl rfl rfl (U0 rfl (ag 0 2 rfl rfl (ak 2 3 rfl rfl rfl (cC rfl rfl rfl rfl rfl rfl rfl aly ey (aho d (ga (U6 d) m.at_.toNat) (SH.eG (N:=[]) (i:=1) ey rfl rfl) (SH.eG (N:=[]) (i:=2) ey rfl (by rw[cQ])) (SH.iY (N:=[]) (i:=3) ey rfl cQ (by show _*40<=_;omega)) (hsi.mono (Hp.bR _ _)) (aK.mono (Hp.bR _ _)) (hr1.mono (Hp.bR _ _)) hn hab hok ey.aD) ?_))))))
   rintro _ l9 cy rfl;clear ey
   refine mX (t:=40) rfl (fun py=>?_) (fun py=>?_)
   ·refine ak 3 4 rfl rfl rfl (cC rfl rfl rfl rfl rfl rfl rfl dI cy (lI 8 cy.aD) ?_)
    rintro _ pX dL rfl;clear cy
    refine U5 rfl (ah [0,4] rfl (U3 (U2 asG MP rfl rfl rfl (U0 rfl (ag 0 1 rfl rfl (U5 rfl (U3 (U2 asF MO rfl rfl rfl ?_))))))))
    refine U0 rfl (ak 0 1 rfl rfl rfl (wA (Nat×Nat) Int (fun x=>Value.agg (bp.f x).toArray) (Value.int .i64) rfl rfl rfl dL ?_))
    intro iG tP kW;clear dL
    refine ag 1 1 rfl rfl (U5 rfl (ah [0,4,5,6] rfl (U3 (U2 MN ML rfl rfl rfl (U2 asE aff rfl rfl rfl (U0 rfl (ag 0 1 rfl rfl (af 1 rfl (cI rfl rfl rfl rfl rfl rfl ig) ?_))))))))
    refine ag 2 1 rfl rfl (U5 rfl (ah [0,5,6,43,44,45] rfl (U3 (Uc afe 0 rfl rfl rfl ?_))))
    refine Uz (fun aS au aM=>∃(i:Nat) (es:List ((Nat×Nat)×Int)),aS=(ga (U6 d) m.at_.toNat).length-i/\Env 117 [(0,.pointer (some ⟨bu,0,none⟩)),(5,.func (.func 128) #[] #[]),(6,.map (some iG)),(43,.slice ((ga fv m.at_.toNat).A) (ga (U6 d) m.at_.toNat).length ((ga fv m.at_.toNat).c)),(44,.int .i64 ((ga (U6 d) m.at_.toNat).length:Int)),(45,.int .i64 (i:Int))] au/\SH aM M X [Rs.mp (fun x=>Value.agg (bp.f x).toArray) (Value.int .i64) iG es,Rs.box bu 67 [.pointer (some ⟨ggs,0,none⟩),.slice fA fv.length fc],Rs.box ggs 70 [bz,.int .i64 d.loops,.slice iA (aw d false (4*d.ae.length)).length ic,.slice oA (aw d true (4*d.ae.length)).length oc],Rs.row aG bz d.ae]/\i<=(ga (U6 d) m.at_.toNat).length/\es=mJ d (ga (U6 d) m.at_.toNat) i) rfl ?_ ?_
    ·intro au aq
     refine⟨_,⟨0,[],rfl,aq.sub ⟨rfl,rfl,rfl,rfl,rfl,rfl,trivial⟩,kW.pick [0,2,3,4] [_,_,_,_] (by decide) ⟨rfl,rfl,rfl,rfl,trivial⟩,?cd,?cT⟩⟩
     case cd=>omega
     case cT=>rfl
    ·rintro m2 a1 vL ⟨i,es,rfl,bh,fu,hi,hes⟩
     clear kW
     refine b7 bh (c:=MK) rfl ?_
     clear bh a1
     refine U2 asD MJ rfl rfl rfl (U0 rfl (af 0 rfl (bV rfl rfl rfl) (U5 rfl (U3 (U2 MI MH rfl rfl rfl ?_)))))
     refine Ue asC asB rfl rfl rfl rfl (fun am7=>?_) (fun am7=>?_)
     ·refine Uf rfl (ah [0,5,6,43,44,45] rfl (U3 (U2 afd asA rfl rfl rfl (Uc MG 1 rfl rfl rfl (U2 asz MF rfl rfl rfl (U0 rfl (af 0 rfl (Uk (C:=bW) i rfl rfl rfl gM (by first|rfl|omega) hr1 (by first|omega|(simp only[ls];omega))) ?_)))))))
      refine af 1 rfl (U8 (us:=[_,_]) rfl rfl aZ rfl cg (hr1.fq fu.m (e:=i) (by first|omega|(simp only[ls];omega)) (j:=0) ⟨rfl,rfl,trivial⟩)) ?_
      refine ak 2 3 rfl rfl rfl (Uh (l:=[_,_]) rfl rfl rfl mH rfl fu ?_)
      intro aQ Oo nj;clear fu
      refine ak 3 4 rfl rfl rfl (U7 (i:=0) (us:=[_,_]) (l':=[_,_]) (H':=[_,_,_,_,_]) rfl rfl nj rfl rfl rfl rfl cg rfl rfl rfl rfl ?_)
      intro tO gB;clear nj
      refine U5 rfl (ah [0,5,6,43,44,45,8] rfl (U3 (U2 asy ME rfl rfl rfl ?_)))
      have ho:okD d (ga (ga (U6 d) m.at_.toNat) i):=hok _ (gZ (by omega))
      have hpo:1<=(ga (ga (U6 d) m.at_.toNat) i).a/\(ga (ga (U6 d) m.at_.toNat) i).a<=2*(d.ae.length:Int):=ho
      obtain⟨ht1,ht2,htg,htl,_⟩:=fe hab ho true
      obtain⟨Du,hf2,hfg,hfl,_⟩:=fe hab ho false
      have avU:=fK d true (4*d.ae.length)
      have jW:=fK d false (4*d.ae.length)
      refine U0 rfl (af 0 rfl (U1 rfl rfl aZ rfl (aB) (aA)) (af 1 rfl (U4 rfl rfl av rfl (gB.ar (i:=0) rfl rfl)) (ag 2 1 rfl rfl (U5 rfl (ah [0,5,6,43,44,45,9] rfl (U3 (U2 asx MD rfl rfl rfl ?_)))))))
      refine mA (fun au aM=>∃(Hd:Nat) (G9:Nat),Env 117 [(0,.pointer (some ⟨bu,0,none⟩)),(5,.func (.func 128) #[] #[]),(6,.map (some iG)),(43,.slice ((ga fv m.at_.toNat).A) (ga (U6 d) m.at_.toNat).length ((ga fv m.at_.toNat).c)),(44,.int .i64 ((ga (U6 d) m.at_.toNat).length:Int)),(45,.int .i64 (i:Int)),(9,.int .i64 ((ga (ga (U6 d) m.at_.toNat) i).a)),(10,.pointer (some ⟨Hd,0,none⟩)),(11,.pointer (some ⟨G9,0,none⟩))] au/\SH aM M X [Rs.box Hd 190 [.int .i64 ((ga (aw d true (4*d.ae.length)) (ga (ga (U6 d) m.at_.toNat) i).a.toNat).1:Int),.int .i64 ((ga (aw d true (4*d.ae.length)) (ga (ga (U6 d) m.at_.toNat) i).a.toNat).2:Int)],Rs.box G9 190 [.int .i64 ((ga (aw d false (4*d.ae.length)) (ga (ga (U6 d) m.at_.toNat) i).a.toNat).1:Int),.int .i64 ((ga (aw d false (4*d.ae.length)) (ga (ga (U6 d) m.at_.toNat) i).a.toNat).2:Int)],Rs.box aQ 26 [.int .i64 ((ga (ga (U6 d) m.at_.toNat) i).a),.bool ((ga (ga (U6 d) m.at_.toNat) i).b)],Rs.mp (fun x=>Value.agg (bp.f x).toArray) (Value.int .i64) iG es,Rs.box bu 67 [.pointer (some ⟨ggs,0,none⟩),.slice fA fv.length fc],Rs.box ggs 70 [bz,.int .i64 d.loops,.slice iA (aw d false (4*d.ae.length)).length ic,.slice oA (aw d true (4*d.ae.length)).length oc],Rs.row aG bz d.ae]) ?_ ?_
      ·refine Ux rfl (by kernel_rfl) gB 24 rfl ?_
       clear gB
       refine ai 0 23 rfl (by kernel_rfl) (fun _=>run_move rfl rfl) ?_
       refine ai 1 22 rfl (by kernel_rfl) (fun _=>U9 rfl rfl) ?_
       refine ai 2 21 rfl (by kernel_rfl) (fun _=>U1 rfl rfl cz rfl (cP) (cO)) ?_
       refine aj 3 20 rfl (by kernel_rfl) (fun _ _ _ hz Sz=>.inl (U4 rfl rfl cE rfl (Sz.suf.ar (i:=2) rfl rfl))) ?_
       refine ai 4 19 rfl (by kernel_rfl) (fun _=>U9 rfl rfl) ?_
       refine ai 5 18 rfl (by kernel_rfl) (fun _=>U1 rfl rfl cU rfl (nK) (nD)) ?_
       refine aj 6 17 rfl (by kernel_rfl) (fun _ _ _ hz Sz=>.inl (U4 rfl rfl lT rfl (Sz.suf.ar (i:=3) rfl rfl))) ?_
       refine ai 7 16 rfl (by kernel_rfl) (fun _=>run_move rfl rfl) ?_
       refine jz 58 (.int .i64 (((ga (ga (U6 d) m.at_.toNat) i).a.toNat:Nat):Int)) rfl (int_eq (by omega)) ?_
       refine aj 8 15 rfl (by kernel_rfl) (fun _ _ _ hz Sz=>.inl (Uk (C:=bp) ((ga (ga (U6 d) m.at_.toNat) i).a.toNat) rfl rfl rfl nC (by first|rfl|omega) (aK.mono hz) (by first|omega|(simp only[ls];omega)))) ?_
       refine aj 9 14 rfl (by kernel_rfl) (fun _ _ _ hz Sz=>.inl (U8 (us:=[_,_]) rfl rfl ct rfl dH ((aK.mono hz).fq Sz.m (e:=(ga (ga (U6 d) m.at_.toNat) i).a.toNat) (by first|omega|(simp only[ls];omega)) (j:=0) ⟨rfl,rfl,trivial⟩))) ?_
       refine ai 10 13 rfl (by kernel_rfl) (fun _=>run_move rfl rfl) ?_
       refine ai 11 12 rfl (by kernel_rfl) (fun _=>U9 rfl rfl) ?_
       refine ai 12 11 rfl (by kernel_rfl) (fun _=>U1 rfl rfl cz rfl (cP) (cO)) ?_
       refine aj 13 10 rfl (by kernel_rfl) (fun _ _ _ hz Sz=>.inl (U4 rfl rfl cE rfl (Sz.suf.ar (i:=2) rfl rfl))) ?_
       refine ai 14 9 rfl (by kernel_rfl) (fun _=>U9 rfl rfl) ?_
       refine ai 15 8 rfl (by kernel_rfl) (fun _=>U1 rfl rfl cU rfl (nK) (nD)) ?_
       refine aj 16 7 rfl (by kernel_rfl) (fun _ _ _ hz Sz=>.inl (U4 rfl rfl lT rfl (Sz.suf.ar (i:=3) rfl rfl))) ?_
       refine ai 17 6 rfl (by kernel_rfl) (fun _=>run_move rfl rfl) ?_
       refine jz 68 (.int .i64 (((ga (ga (U6 d) m.at_.toNat) i).a.toNat:Nat):Int)) rfl (int_eq (by omega)) ?_
       refine aj 18 5 rfl (by kernel_rfl) (fun _ _ _ hz Sz=>.inl (Uk (C:=bp) ((ga (ga (U6 d) m.at_.toNat) i).a.toNat) rfl rfl rfl nC (by first|rfl|omega) (hsi.mono hz) (by first|omega|(simp only[ls];omega)))) ?_
       refine aj 19 4 rfl (by kernel_rfl) (fun _ _ _ hz Sz=>.inl (U8 (us:=[_,_]) rfl rfl ct rfl dH ((hsi.mono hz).fq Sz.m (e:=(ga (ga (U6 d) m.at_.toNat) i).a.toNat) (by first|omega|(simp only[ls];omega)) (j:=0) ⟨rfl,rfl,trivial⟩))) ?_
       refine rZ (i:=20) (j:=21) 3 rfl rfl (by kernel_rfl) rfl rfl rfl rfl (fun Od mv=>?_) (fun Od mv=>?_)
       ·refine(Uh (l:=[_,_]) rfl rfl rfl nr rfl mv ?_)
        intro bE Dc ni;clear mv
        refine aN.grow [_] (Hp.le_refl _) ni ?_;clear ni
        change WA _ _ _ _ _ _ _ _ _ _ _ _ [_,_,_,_,_,_]
        refine Un (i:=21) 2 rfl (by kernel_rfl) rfl rfl (fun Ob wG=>?_)
        refine(Uh (l:=[_,_]) rfl rfl rfl nr rfl wG ?_)
        intro gY Oa ng;clear wG
        refine aN.grow [_,_] (Hp.le_refl _) ng ?_;clear ng
        change WA _ _ _ _ _ _ _ _ _ _ _ _ [_,_,_,_,_,_,_]
        refine Un (i:=22) 1 rfl (by kernel_rfl) rfl rfl (fun N8 jN=>?_)
        refine(U7 (i:=1) (us:=[_,_]) (l':=[_,_]) (H':=[_,_,_,_,_,_,_]) rfl rfl jN rfl rfl rfl rfl dH rfl rfl rfl rfl ?_)
        intro w64 S64;clear jN
        refine aN.grow [_,_] (Hp.le_refl _) S64 ?_;clear S64
        change WA _ _ _ _ _ _ _ _ _ _ _ _ [_,_,_,_,_,_,_]
        refine Un (i:=23) 0 rfl (by kernel_rfl) rfl rfl (fun w66 qo=>?_)
        refine(U7 (i:=0) (us:=[_,_]) (l':=[_,_]) (H':=[_,_,_,_,_,_,_]) rfl rfl qo rfl rfl rfl rfl dH rfl rfl rfl rfl ?_)
        intro w67 oO;clear qo
        refine aN.grow [_,_] (Hp.le_refl _) oO ?_;clear oO
        change WA _ _ _ _ _ _ _ _ _ _ _ _ [_,_,_,_,_,_,_]
        refine Uu (by kernel_rfl) (fun w68 ux=>?_)
        refine aP ?_
        intro au aq
        refine⟨_,_,aq.sub ⟨rfl,rfl,rfl,rfl,rfl,rfl,rfl,rfl,rfl,trivial⟩,ux.pick [1,0,2,3,4,5,6] [_,_,_,_,_,_,_] (by decide) ⟨rfl,rfl,rfl,rfl,rfl,rfl,rfl,trivial⟩⟩
       ·refine(Uh (l:=[_,_]) rfl rfl rfl nr rfl mv ?_)
        intro iq N7 eZ;clear mv
        refine aN.grow [_] (Hp.le_refl _) eZ ?_;clear eZ
        change WA _ _ _ _ _ _ _ _ _ _ _ _ [_,_,_,_,_,_]
        refine Un (i:=20) 2 rfl (by kernel_rfl) rfl rfl (fun Db oN=>?_)
        refine(Uh (l:=[_,_]) rfl rfl rfl nr rfl oN ?_)
        intro rJ C9 jw;clear oN
        refine aN.grow [_,_] (Hp.le_refl _) jw ?_;clear jw
        change WA _ _ _ _ _ _ _ _ _ _ _ _ [_,_,_,_,_,_,_]
        refine Un (i:=22) 1 rfl (by kernel_rfl) rfl rfl (fun N5 jv=>?_)
        refine(U7 (i:=0) (us:=[_,_]) (l':=[_,_]) (H':=[_,_,_,_,_,_,_]) rfl rfl jv rfl rfl rfl rfl dH rfl rfl rfl rfl ?_)
        intro w75 nV;clear jv
        refine aN.grow [_,_] (Hp.le_refl _) nV ?_;clear nV
        change WA _ _ _ _ _ _ _ _ _ _ _ _ [_,_,_,_,_,_,_]
        refine Un (i:=23) 0 rfl (by kernel_rfl) rfl rfl (fun w77 nU=>?_)
        refine(U7 (i:=1) (us:=[_,_]) (l':=[_,_]) (H':=[_,_,_,_,_,_,_]) rfl rfl nU rfl rfl rfl rfl dH rfl rfl rfl rfl ?_)
        intro w78 zJ;clear nU
        refine aN.grow [_,_] (Hp.le_refl _) zJ ?_;clear zJ
        change WA _ _ _ _ _ _ _ _ _ _ _ _ [_,_,_,_,_,_,_]
        refine Uu (by kernel_rfl) (fun w79 DU=>?_)
        refine aP ?_
        intro au aq
        refine⟨_,_,aq.sub ⟨rfl,rfl,rfl,rfl,rfl,rfl,rfl,rfl,rfl,trivial⟩,DU.pick [0,1,2,3,4,5,6] [_,_,_,_,_,_,_] (by decide) ⟨rfl,rfl,rfl,rfl,rfl,rfl,rfl,trivial⟩⟩
      ·rintro a2 oo ⟨Hd,G9,cx,dm⟩
       clear gB
       refine mG cx ?_
       clear cx a2
       refine U3 (U2 asw MC rfl rfl rfl ?_)
       have xt:pO d (ga (aw d true (4*d.ae.length)) (ga (ga (U6 d) m.at_.toNat) i).a.toNat):=by rw[htg];exact⟨ht1,ht2⟩
       have xt2:(ga (aw d true (4*d.ae.length)) (ga (ga (U6 d) m.at_.toNat) i).a.toNat).2<4:=xt.2
       have aur:(bC (ga (aw d true (4*d.ae.length)) (ga (ga (U6 d) m.at_.toNat) i).a.toNat)).1<d.ae.length:=(nS xt).1
       have auq:(bC (ga (aw d true (4*d.ae.length)) (ga (ga (U6 d) m.at_.toNat) i).a.toNat)).2<4:=(nS xt).2
       have xf:pO d (ga (aw d false (4*d.ae.length)) (ga (ga (U6 d) m.at_.toNat) i).a.toNat):=by rw[hfg];exact⟨Du,hf2⟩
       have xf2:(ga (aw d false (4*d.ae.length)) (ga (ga (U6 d) m.at_.toNat) i).a.toNat).2<4:=xf.2
       have aut:(bC (ga (aw d false (4*d.ae.length)) (ga (ga (U6 d) m.at_.toNat) i).a.toNat)).1<d.ae.length:=(nS xf).1
       have aus:(bC (ga (aw d false (4*d.ae.length)) (ga (ga (U6 d) m.at_.toNat) i).a.toNat)).2<4:=(nS xf).2
       refine Ux rfl (by kernel_rfl) dm 18 rfl ?_
       clear dm
       refine ai 0 17 rfl (by kernel_rfl) (fun _=>run_move rfl rfl) ?_
       refine ai 1 16 rfl (by kernel_rfl) (fun _=>U9 rfl rfl) ?_
       refine ai 2 15 rfl (by kernel_rfl) (fun _=>U1 rfl rfl cz rfl (cP) (cO)) ?_
       refine aj 3 14 rfl (by kernel_rfl) (fun _ _ _ hz Sz=>.inl (U4 rfl rfl cE rfl (Sz.suf.ar (i:=4) rfl rfl))) ?_
       refine ai 4 13 rfl (by kernel_rfl) (fun _=>run_move rfl rfl) ?_
       refine aj 5 12 rfl (by kernel_rfl) (fun _ _ _ hz Sz=>.inl (U8 (us:=[_,_]) rfl rfl ct rfl dH (Sz.suf.ax (i:=0) rfl ⟨rfl,rfl,trivial⟩))) ?_
       refine aj 6 11 rfl (by kernel_rfl) (fun _ _ _ hz Sz=>Uq rfl rfl rfl rfl rfl Bd Sz (zY (ga (aw d true (4*d.ae.length)) (ga (ga (U6 d) m.at_.toNat) i).a.toNat) (by first|assumption|omega) Sz.aD)) ?_
       refine aj 7 10 rfl (by kernel_rfl) (fun _ _ _ hz Sz=>Uq rfl rfl rfl rfl rfl Bc Sz (C7 d ((bC (ga (aw d true (4*d.ae.length)) (ga (ga (U6 d) m.at_.toNat) i).a.toNat)).1) ((bC (ga (aw d true (4*d.ae.length)) (ga (ga (U6 d) m.at_.toNat) i).a.toNat)).2) (SH.eG (i:=5) Sz rfl (by rw[cQ])) (SH.iY (i:=6) Sz rfl cQ (by show _*40<=_;omega)) ((hsi.mono hz).mono (Hp.bR _ _)) ((aK.mono hz).mono (Hp.bR _ _)) (by omega) (by omega) Sz.aD)) ?_
       refine ai 8 9 rfl (by kernel_rfl) (fun _=>run_move rfl rfl) ?_
       refine ai 9 8 rfl (by kernel_rfl) (fun _=>U9 rfl rfl) ?_
       refine ai 10 7 rfl (by kernel_rfl) (fun _=>U1 rfl rfl cz rfl (cP) (cO)) ?_
       refine aj 11 6 rfl (by kernel_rfl) (fun _ _ _ hz Sz=>.inl (U4 rfl rfl cE rfl (Sz.suf.ar (i:=4) rfl rfl))) ?_
       refine ai 12 5 rfl (by kernel_rfl) (fun _=>run_move rfl rfl) ?_
       refine aj 13 4 rfl (by kernel_rfl) (fun _ _ _ hz Sz=>.inl (U8 (us:=[_,_]) rfl rfl ct rfl dH (Sz.suf.ax (i:=1) rfl ⟨rfl,rfl,trivial⟩))) ?_
       refine aj 14 3 rfl (by kernel_rfl) (fun _ _ _ hz Sz=>Uq rfl rfl rfl rfl rfl Bd Sz (zY (ga (aw d false (4*d.ae.length)) (ga (ga (U6 d) m.at_.toNat) i).a.toNat) (by first|assumption|omega) Sz.aD)) ?_
       refine aj 15 2 rfl (by kernel_rfl) (fun _ _ _ hz Sz=>Uq rfl rfl rfl rfl rfl Bc Sz (C7 d ((bC (ga (aw d false (4*d.ae.length)) (ga (ga (U6 d) m.at_.toNat) i).a.toNat)).1) ((bC (ga (aw d false (4*d.ae.length)) (ga (ga (U6 d) m.at_.toNat) i).a.toNat)).2) (SH.eG (i:=5) Sz rfl (by rw[cQ])) (SH.iY (i:=6) Sz rfl cQ (by show _*40<=_;omega)) ((hsi.mono hz).mono (Hp.bR _ _)) ((aK.mono hz).mono (Hp.bR _ _)) (by omega) (by omega) Sz.aD)) ?_
       refine ai 16 1 rfl (by kernel_rfl) (fun _=>run_assign rfl rfl) ?_
       refine ai 17 0 rfl (by kernel_rfl) (fun _=>run_assign rfl rfl) ?_
       refine Uu (by kernel_rfl) (fun w98 oL=>?_)
       refine ah [0,5,6,43,44,45,9,10,11,12,13] rfl (U3 (U2 asv asu rfl rfl rfl ?_))
       have uv:=oL.pick [3,0,1,2,4,5,6] [_,_,_,_,_,_,_] (by decide) ⟨rfl,rfl,rfl,rfl,rfl,rfl,rfl,trivial⟩;clear oL
       refine ki [_] [_,_,_,_,_,_] rfl (by kernel_rfl) uv 10 rfl ?_
       clear uv
       change WA _ _ _ _ _ _ _ _ _ _ _ _ [_,_,_,_,_,_,_]
       refine ai 0 9 rfl (by kernel_rfl) (fun _=>run_move rfl rfl) ?_
       refine aj 1 8 rfl (by kernel_rfl) (fun _ _ _ hz Sz=>.inl (U8 (us:=[_,_]) rfl rfl ct rfl dH (Sz.suf.ax (i:=1) rfl ⟨rfl,rfl,trivial⟩))) ?_
       refine ai 2 7 rfl (by kernel_rfl) (fun _=>run_move rfl rfl) ?_
       refine ai 3 6 rfl (by kernel_rfl) (fun _=>run_move rfl rfl) ?_
       refine aj 4 5 rfl (by kernel_rfl) (fun _ _ _ hz Sz=>.inl (U8 (us:=[_,_]) rfl rfl ct rfl dH (Sz.suf.ax (i:=1) rfl ⟨rfl,rfl,trivial⟩))) ?_
       refine aj 5 4 rfl (by kernel_rfl) (fun _ _ _ hz Sz=>Uq rfl rfl rfl rfl rfl Bd Sz (zY (ga (aw d false (4*d.ae.length)) (ga (ga (U6 d) m.at_.toNat) i).a.toNat) (by first|assumption|omega) Sz.aD)) ?_
       refine ai 6 3 rfl (by kernel_rfl) (fun _=>run_move rfl rfl) ?_
       refine ai 7 2 rfl (by kernel_rfl) (fun _=>run_move rfl rfl) ?_
       refine Un (i:=8) 1 rfl (by kernel_rfl) rfl rfl (fun avm vG=>?_)
       refine(mY (kc:=(fun x=>Value.agg (bp.f x).toArray)) (vc:=Value.int .i64) (es:=es) (k:=(ga (aw d false (4*d.ae.length)) (ga (ga (U6 d) m.at_.toNat) i).a.toNat)) (e:=(bt d ((bC (ga (aw d true (4*d.ae.length)) (ga (ga (U6 d) m.at_.toNat) i).a.toNat)).1) ((bC (ga (aw d true (4*d.ae.length)) (ga (ga (U6 d) m.at_.toNat) i).a.toNat)).2))) (i:=0) (H':=[_,_,_,_,_,_,_]) (.inl rfl) rfl vG rfl rfl rfl rfl xB AV rfl ?_)
       intro avl yO;clear vG
       refine aN.grow [_] (Hp.le_refl _) yO ?_;clear yO
       change WA _ _ _ _ _ _ _ _ _ _ _ _ [_,_,_,_,_,_,_]
       refine Un (i:=9) 0 rfl (by kernel_rfl) rfl rfl (fun ac7 afP=>?_)
       refine(mY (kc:=(fun x=>Value.agg (bp.f x).toArray)) (vc:=Value.int .i64) (es:=(mp (ga (aw d false (4*d.ae.length)) (ga (ga (U6 d) m.at_.toNat) i).a.toNat) (bt d ((bC (ga (aw d true (4*d.ae.length)) (ga (ga (U6 d) m.at_.toNat) i).a.toNat)).1) ((bC (ga (aw d true (4*d.ae.length)) (ga (ga (U6 d) m.at_.toNat) i).a.toNat)).2)) es)) (k:=(bC (ga (aw d false (4*d.ae.length)) (ga (ga (U6 d) m.at_.toNat) i).a.toNat))) (e:=((ga (ga (U6 d) m.at_.toNat) i).a)) (i:=0) (H':=[_,_,_,_,_,_,_]) (.inl rfl) rfl afP rfl rfl rfl rfl xB AV rfl ?_)
       intro ac6 afO;clear afP
       refine aN.grow [_] (Hp.le_refl _) afO ?_;clear afO
       change WA _ _ _ _ _ _ _ _ _ _ _ _ [_,_,_,_,_,_,_]
       refine Uu (by kernel_rfl) (fun avk lu=>?_)
       refine ah [0,5,6,43,44,45,9,10,13] rfl (U3 ?_)
       have rA:=lu.pick [0,1,2,3,4,5,6] [_,_,_,_,_,_,_] (by decide) ⟨rfl,rfl,rfl,rfl,rfl,rfl,rfl,trivial⟩;clear lu
       refine ki [_] [_,_,_,_,_,_] rfl (by kernel_rfl) rA 12 rfl ?_
       clear rA
       change WA _ _ _ _ _ _ _ _ _ _ _ _ [_,_,_,_,_,_,_]
       refine ai 0 11 rfl (by kernel_rfl) (fun _=>run_move rfl rfl) ?_
       refine ai 1 10 rfl (by kernel_rfl) (fun _=>run_move rfl rfl) ?_
       refine aj 2 9 rfl (by kernel_rfl) (fun _ _ _ hz Sz=>.inl (U8 (us:=[_,_]) rfl rfl ct rfl dH (Sz.suf.ax (i:=0) rfl ⟨rfl,rfl,trivial⟩))) ?_
       refine aj 3 8 rfl (by kernel_rfl) (fun _ _ _ hz Sz=>Uq rfl rfl rfl rfl rfl Bd Sz (zY (ga (aw d true (4*d.ae.length)) (ga (ga (U6 d) m.at_.toNat) i).a.toNat) (by first|assumption|omega) Sz.aD)) ?_
       refine ai 4 7 rfl (by kernel_rfl) (fun _=>run_move rfl rfl) ?_
       refine aj 5 6 rfl (by kernel_rfl) (fun _ _ _ hz Sz=>.inl (U8 (us:=[_,_]) rfl rfl ct rfl dH (Sz.suf.ax (i:=0) rfl ⟨rfl,rfl,trivial⟩))) ?_
       refine ai 6 5 rfl (by kernel_rfl) (fun _=>run_move rfl rfl) ?_
       refine ai 7 4 rfl (by kernel_rfl) (fun _=>run_move rfl rfl) ?_
       refine Un (i:=8) 3 rfl (by kernel_rfl) rfl rfl (fun alZ yN=>?_)
       refine(af9 (kc:=(fun x=>Value.agg (bp.f x).toArray)) (vc:=Value.int .i64) (es:=(mp (bC (ga (aw d false (4*d.ae.length)) (ga (ga (U6 d) m.at_.toNat) i).a.toNat)) ((ga (ga (U6 d) m.at_.toNat) i).a) (mp (ga (aw d false (4*d.ae.length)) (ga (ga (U6 d) m.at_.toNat) i).a.toNat) (bt d ((bC (ga (aw d true (4*d.ae.length)) (ga (ga (U6 d) m.at_.toNat) i).a.toNat)).1) ((bC (ga (aw d true (4*d.ae.length)) (ga (ga (U6 d) m.at_.toNat) i).a.toNat)).2)) es))) (k:=(bC (ga (aw d true (4*d.ae.length)) (ga (ga (U6 d) m.at_.toNat) i).a.toNat))) (zv:=0) (i:=0) rfl rfl rfl yN rfl rfl rfl xB AV zr3 ?_)
       intro sx1 alY pR;clear yN
       change SH _ _ _ [Rs.y9 (fun x=>Value.agg (bp.f x).toArray) (Value.int .i64) iG (mp (bC (ga (aw d true (4*d.ae.length)) (ga (ga (U6 d) m.at_.toNat) i).a.toNat)) ((mg (bC (ga (aw d true (4*d.ae.length)) (ga (ga (U6 d) m.at_.toNat) i).a.toNat)) (mp (bC (ga (aw d false (4*d.ae.length)) (ga (ga (U6 d) m.at_.toNat) i).a.toNat)) ((ga (ga (U6 d) m.at_.toNat) i).a) (mp (ga (aw d false (4*d.ae.length)) (ga (ga (U6 d) m.at_.toNat) i).a.toNat) (bt d ((bC (ga (aw d true (4*d.ae.length)) (ga (ga (U6 d) m.at_.toNat) i).a.toNat)).1) ((bC (ga (aw d true (4*d.ae.length)) (ga (ga (U6 d) m.at_.toNat) i).a.toNat)).2)) es))).getD 0) (mp (bC (ga (aw d false (4*d.ae.length)) (ga (ga (U6 d) m.at_.toNat) i).a.toNat)) ((ga (ga (U6 d) m.at_.toNat) i).a) (mp (ga (aw d false (4*d.ae.length)) (ga (ga (U6 d) m.at_.toNat) i).a.toNat) (bt d ((bC (ga (aw d true (4*d.ae.length)) (ga (ga (U6 d) m.at_.toNat) i).a.toNat)).1) ((bC (ga (aw d true (4*d.ae.length)) (ga (ga (U6 d) m.at_.toNat) i).a.toNat)).2)) es))) (bC (ga (aw d true (4*d.ae.length)) (ga (ga (U6 d) m.at_.toNat) i).a.toNat)) sx1,_,_,_,_,_,_]at pR
       refine aN.grow [_] (Hp.le_refl _) pR ?_;clear pR
       change WA _ _ _ _ _ _ _ _ _ _ _ _ [_,_,_,_,_,_,_]
       refine ai 9 2 rfl (by kernel_rfl) (fun _=>Ul rfl rfl rfl) ?_
       refine Un (i:=10) 1 rfl (by kernel_rfl) rfl rfl (fun ac5 pQ=>?_)
       refine(afX (kc:=(fun x=>Value.agg (bp.f x).toArray)) (vc:=Value.int .i64) (es:=(mp (bC (ga (aw d true (4*d.ae.length)) (ga (ga (U6 d) m.at_.toNat) i).a.toNat)) ((mg (bC (ga (aw d true (4*d.ae.length)) (ga (ga (U6 d) m.at_.toNat) i).a.toNat)) (mp (bC (ga (aw d false (4*d.ae.length)) (ga (ga (U6 d) m.at_.toNat) i).a.toNat)) ((ga (ga (U6 d) m.at_.toNat) i).a) (mp (ga (aw d false (4*d.ae.length)) (ga (ga (U6 d) m.at_.toNat) i).a.toNat) (bt d ((bC (ga (aw d true (4*d.ae.length)) (ga (ga (U6 d) m.at_.toNat) i).a.toNat)).1) ((bC (ga (aw d true (4*d.ae.length)) (ga (ga (U6 d) m.at_.toNat) i).a.toNat)).2)) es))).getD 0) (mp (bC (ga (aw d false (4*d.ae.length)) (ga (ga (U6 d) m.at_.toNat) i).a.toNat)) ((ga (ga (U6 d) m.at_.toNat) i).a) (mp (ga (aw d false (4*d.ae.length)) (ga (ga (U6 d) m.at_.toNat) i).a.toNat) (bt d ((bC (ga (aw d true (4*d.ae.length)) (ga (ga (U6 d) m.at_.toNat) i).a.toNat)).1) ((bC (ga (aw d true (4*d.ae.length)) (ga (ga (U6 d) m.at_.toNat) i).a.toNat)).2)) es)))) (k:=(bC (ga (aw d true (4*d.ae.length)) (ga (ga (U6 d) m.at_.toNat) i).a.toNat))) (e:=((ga (ga (U6 d) m.at_.toNat) i).a)) (st:=sx1) (i:=0) (H':=[_,_,_,_,_,_,_]) rfl rfl pQ rfl rfl rfl rfl rfl ?_)
       intro alX iE;clear pQ
       refine aN.grow [_] (Hp.le_refl _) iE ?_;clear iE
       change WA _ _ _ _ _ _ _ _ _ _ _ _ [_,_,_,_,_,_,_]
       refine Un (i:=11) 0 rfl (by kernel_rfl) rfl rfl (fun alW ry=>?_)
       refine(mY (kc:=(fun x=>Value.agg (bp.f x).toArray)) (vc:=Value.int .i64) (es:=(mp (bC (ga (aw d true (4*d.ae.length)) (ga (ga (U6 d) m.at_.toNat) i).a.toNat)) ((ga (ga (U6 d) m.at_.toNat) i).a) (mp (bC (ga (aw d true (4*d.ae.length)) (ga (ga (U6 d) m.at_.toNat) i).a.toNat)) ((mg (bC (ga (aw d true (4*d.ae.length)) (ga (ga (U6 d) m.at_.toNat) i).a.toNat)) (mp (bC (ga (aw d false (4*d.ae.length)) (ga (ga (U6 d) m.at_.toNat) i).a.toNat)) ((ga (ga (U6 d) m.at_.toNat) i).a) (mp (ga (aw d false (4*d.ae.length)) (ga (ga (U6 d) m.at_.toNat) i).a.toNat) (bt d ((bC (ga (aw d true (4*d.ae.length)) (ga (ga (U6 d) m.at_.toNat) i).a.toNat)).1) ((bC (ga (aw d true (4*d.ae.length)) (ga (ga (U6 d) m.at_.toNat) i).a.toNat)).2)) es))).getD 0) (mp (bC (ga (aw d false (4*d.ae.length)) (ga (ga (U6 d) m.at_.toNat) i).a.toNat)) ((ga (ga (U6 d) m.at_.toNat) i).a) (mp (ga (aw d false (4*d.ae.length)) (ga (ga (U6 d) m.at_.toNat) i).a.toNat) (bt d ((bC (ga (aw d true (4*d.ae.length)) (ga (ga (U6 d) m.at_.toNat) i).a.toNat)).1) ((bC (ga (aw d true (4*d.ae.length)) (ga (ga (U6 d) m.at_.toNat) i).a.toNat)).2)) es))))) (k:=(ga (aw d true (4*d.ae.length)) (ga (ga (U6 d) m.at_.toNat) i).a.toNat)) (e:=(bt d ((bC (ga (aw d false (4*d.ae.length)) (ga (ga (U6 d) m.at_.toNat) i).a.toNat)).1) ((bC (ga (aw d false (4*d.ae.length)) (ga (ga (U6 d) m.at_.toNat) i).a.toNat)).2))) (i:=0) (H':=[_,_,_,_,_,_,_]) (.inl rfl) rfl ry rfl rfl rfl rfl xB AV rfl ?_)
       intro alV rq;clear ry
       refine aN.grow [_] (Hp.le_refl _) rq ?_;clear rq
       change WA _ _ _ _ _ _ _ _ _ _ _ _ [_,_,_,_,_,_,_]
       refine Uu (by kernel_rfl) (fun avb C4=>?_)
       refine bk (ah [0,5,6,43,44,45] rfl (U3 (U0 rfl (af 0 rfl (Ug rfl rfl rfl (by first|omega|(simp only[ls];omega))) ?_))))
       refine ag 1 1 rfl rfl (U5 rfl (aP ?_))
       intro au aq
       refine⟨_,?jG,⟨i+1,mp (ga (aw d true (4*d.ae.length)) (ga (ga (U6 d) m.at_.toNat) i).a.toNat) (bt d ((bC (ga (aw d false (4*d.ae.length)) (ga (ga (U6 d) m.at_.toNat) i).a.toNat)).1) ((bC (ga (aw d false (4*d.ae.length)) (ga (ga (U6 d) m.at_.toNat) i).a.toNat)).2)) (mp (bC (ga (aw d true (4*d.ae.length)) (ga (ga (U6 d) m.at_.toNat) i).a.toNat)) ((ga (ga (U6 d) m.at_.toNat) i).a) (mp (bC (ga (aw d true (4*d.ae.length)) (ga (ga (U6 d) m.at_.toNat) i).a.toNat)) ((mg (bC (ga (aw d true (4*d.ae.length)) (ga (ga (U6 d) m.at_.toNat) i).a.toNat)) (mp (bC (ga (aw d false (4*d.ae.length)) (ga (ga (U6 d) m.at_.toNat) i).a.toNat)) ((ga (ga (U6 d) m.at_.toNat) i).a) (mp (ga (aw d false (4*d.ae.length)) (ga (ga (U6 d) m.at_.toNat) i).a.toNat) (bt d ((bC (ga (aw d true (4*d.ae.length)) (ga (ga (U6 d) m.at_.toNat) i).a.toNat)).1) ((bC (ga (aw d true (4*d.ae.length)) (ga (ga (U6 d) m.at_.toNat) i).a.toNat)).2)) es))).getD 0) (mp (bC (ga (aw d false (4*d.ae.length)) (ga (ga (U6 d) m.at_.toNat) i).a.toNat)) ((ga (ga (U6 d) m.at_.toNat) i).a) (mp (ga (aw d false (4*d.ae.length)) (ga (ga (U6 d) m.at_.toNat) i).a.toNat) (bt d ((bC (ga (aw d true (4*d.ae.length)) (ga (ga (U6 d) m.at_.toNat) i).a.toNat)).1) ((bC (ga (aw d true (4*d.ae.length)) (ga (ga (U6 d) m.at_.toNat) i).a.toNat)).2)) es)))),rfl,aq.sub ⟨rfl,rfl,rfl,rfl,rfl,rfl,trivial⟩,C4.pick [0,4,5,6] [_,_,_,_] (by decide) ⟨rfl,rfl,rfl,rfl,trivial⟩,?eU,?gQ⟩⟩
       case eU=>omega
       case gQ=>(rw[htg,hfg,hes,acD];rfl)
       case jG=>omega
     ·refine bS rfl rfl (ah [0,6] rfl (U3 (U2 ast afc rfl rfl rfl ?_)))
      obtain⟨hs3,_⟩:=of_decide_eq_true (show decide _=true from py)
      obtain rfl:i=3:=by omega
      have hPl:nY d (mJ d (ga (U6 d) m.at_.toNat) 3):=abJ hab hok 3 (by omega)
      have adp:es=mJ d (ga (U6 d) m.at_.toNat) 3:=hes
      rw[adp]at fu;clear adp
      refine U0 rfl (ag 0 1 rfl rfl ?_)
      obtain⟨M94,uR,NY,Dp⟩:=fu.ai9 (i:=0) (H':=[_,_,_,_]) rfl rfl;clear fu
      replace hsi:=hsi.mono uR
      replace aK:=aK.mono uR
      replace cG:=cG.mono uR
      replace cF:=cF.mono uR
      replace hr1:=hr1.mono uR
      obtain⟨anK,adU,oD⟩:=Dp.ano
      refine ak 1 2 rfl rfl rfl (ahf rfl rfl rfl rfl xB NY oD NY.m ?_)
      intro r1 ava afN;clear NY
      refine U5 rfl (ah [0,107] rfl (U3 (Uc afb 2 rfl rfl rfl ?_)))
      refine Uz (fun aS au aM=>∃(sn:Array Nat) (dn:List ((Nat×Nat)×Int)) (lf:List ((Nat×Nat)×Int)) (cs:List Cr),aS=lf.length/\Env 117 [(0,.pointer (some ⟨bu,0,none⟩)),(107,.pointer (some ⟨r1,0,none⟩))] au/\SH aM M94 X [Rs.p8 iG adU r1 sn,Rs.box bu 67 [.pointer (some ⟨ggs,0,none⟩),.slice fA fv.length fc],Rs.box ggs 70 [bz,.int .i64 d.loops,.slice iA (aw d false (4*d.ae.length)).length ic,.slice oA (aw d true (4*d.ae.length)).length oc],Rs.row aG bz cs]/\rW (fun x=>Value.agg (bp.f x).toArray) (Value.int .i64) anK sn lf/\(dn++lf).Perm (mJ d (ga (U6 d) m.at_.toNat) 3)/\cs=fX d.ae dn) rfl ?_ ?_
      ·intro au aq
       refine⟨_,⟨#[],[],(mJ d (ga (U6 d) m.at_.toNat) 3),d.ae,rfl,aq.sub ⟨rfl,rfl,trivial⟩,afN.pick [0,2,3,4] [_,_,_,_] (by decide) ⟨rfl,rfl,rfl,rfl,trivial⟩,?fB,?gP,?o7⟩⟩
       case fB=>exact oD.lft
       case gP=>exact List.Perm.refl _
       case o7=>rfl
      ·rintro m3 a3 au9 ⟨sn,dn,lf,cs,rfl,fU,yL,hlf,Dn,hcs⟩
       clear afN
       refine b7 fU (c:=MB) rfl ?_
       clear fU a3
       refine U2 ass MA rfl rfl rfl (U0 rfl ?_)
       refine ak 0 1 rfl rfl rfl (ah3 (i:=0) rfl rfl rfl rfl yL rfl oD yL.m hlf (fun Gw=>?_) (fun k1 v1 aml amk sn1 alU Gw aui akK yK=>?_))
       ·refine af 1 rfl (Ul rfl rfl rfl) (U5 rfl (ah [0,107,109] rfl (U3 (U2 CP Mz rfl rfl rfl (lK asq rfl rfl rfl (bS rfl rfl ?_))))))
        obtain rfl:lf=[]:=Gw
        rw[List.append_nil]at Dn
        have hcl:cs.length=d.ae.length:=by rw[hcs];exact aaG _ _
        have e8:cs=fX d.ae (mJ d (ga (U6 d) m.at_.toNat) 3):=by rw[hcs];exact agq Dn hPl
        refine gI hC [] rfl trivial ?_
        obtain⟨M95,qI,atH,⟨A1,c1,e1,hr2⟩⟩:=yL.fZ (i:=3) (H':=[_,_,_,_]) rfl rfl (by show _*40<=_;first|omega|(simp only[ls];omega))
        clear yL;subst e1
        replace hsi:=hsi.mono qI
        replace aK:=aK.mono qI
        replace cG:=cG.mono qI
        replace cF:=cF.mono qI
        replace hr1:=hr1.mono qI
        replace Dp:=Dp.mono qI
        replace oD:=oD.mono qI
        have bj:gF d m=0:=by unfold gF;rw[if_pos fR,if_pos py]
        refine .inl ⟨bj,_,rfl,_,_,uR.trans qI,(atH.pick [1,2] [_,_] (by decide) ⟨rfl,rfl,trivial⟩).aW,?_⟩
        rw[show p6 d m=⟨cs,d.loops⟩from by unfold p6;rw[<-e8]]
        exact⟨rfl,_,_,rfl,hr2⟩
       ·clear yL
        change SH _ _ _ [Rs.p8 iG adU r1 sn1,_,_,_]at yK
        refine af 1 rfl (Ul rfl rfl rfl) (U5 rfl (ah [0,107,109] rfl (U3 (U2 CP Mz rfl rfl rfl (fM asr rfl rfl rfl (Uf rfl (ah [0,107] rfl (U3 ?_))))))))
        refine Uc My 3 rfl rfl rfl (U2 asp aso rfl rfl rfl (U0 rfl (af 0 rfl (agO (i:=0) rfl rfl yK rfl oD yK.m akK) (af 1 rfl (Ul rfl rfl rfl) (af 2 rfl (Ul rfl rfl rfl) (ak 3 4 rfl rfl rfl (Uh (l:=[_,_]) rfl rfl rfl nr rfl yK ?_)))))))
        intro rI Ge rh;clear yK
        refine ak 4 5 rfl rfl rfl (U7 (i:=0) (us:=[_,_]) (l':=[_,_]) (H':=[_,_,_,_,_]) rfl rfl rh rfl rfl rfl rfl dH rfl rfl rfl rfl ?_)
        intro ac4 vF;clear rh
        refine ag 5 1 rfl rfl (U5 rfl (ah [0,107,14,15] rfl (U3 ?_)))
        have hmem:(k1,v1)∈mJ d (ga (U6 d) m.at_.toNat) 3:=Dn.mem_iff.1 (by rw[Gw];simp)
        have hko:=hPl.2 k1 (List.mem_map.2 ⟨_,hmem,rfl⟩)
        have hcl:cs.length=d.ae.length:=by rw[hcs];exact aaG _ _
        have hk1:k1.1<cs.length:=by rw[hcl];exact hko.1
        have hk2:k1.2<4:=hko.2
        refine U0 rfl (ag 0 1 rfl rfl (af 1 rfl (U8 (us:=[_,_]) rfl rfl ct rfl dH (vF.ax (i:=0) rfl ⟨rfl,rfl,trivial⟩)) (ag 2 1 rfl rfl ?_)))
        have afM:=vF.pick [2,3,4,0,1] [_,_,_,_,_] (by decide) ⟨rfl,rfl,rfl,rfl,rfl,trivial⟩;clear vF
        have tH:SH _ _ _ (Rs.aW [_,_,_]::[_,_]):=SH.iD (A:=[_,_,_]) (B:=[_,_]) afM;clear afM
        have C3:SH _ _ _ [_,_,_]:=tH.less (i:=0) rfl
        have gL:=Bk cs k1.1 k1.2 v1 (by assumption) (by assumption) (tH.gN (i:=0) rfl);clear C3
        refine ak 3 4 rfl rfl rfl (jk (i:=0) rfl rfl rfl rfl rfl rfl rfl Bg tH rfl gL ?_)
        intro at3 au8 M96 aue auj yJ jc;clear tH
        obtain⟨kq,gX,kP⟩:=jc
        rw[gX]at yJ
        clear gX
        subst kq
        subst kP
        replace yJ:SH _ _ _ (Rs.aW [_,_,_]::[_,_]):=yJ
        have C2:SH _ _ _ [_,_,_,_,_]:=SH.je (A:=[_,_,_]) (B:=[_,_]) yJ;clear yJ
        refine U5 rfl (bk (aP ?_))
        intro au aq
        refine⟨_,?lZ,⟨sn1,dn++[(k1,v1)],aml++amk,bg cs k1.1 k1.2 v1,rfl,aq.sub ⟨rfl,rfl,trivial⟩,C2.pick [4,0,1,2] [_,_,_,_] (by decide) ⟨rfl,rfl,rfl,rfl,trivial⟩,?iz,?jB,?xF⟩⟩
        case iz=>assumption
        case jB=>(refine List.Perm.trans ?_ Dn;simp only[*,List.append_assoc,List.cons_append,List.nil_append];exact(List.perm_append_left_iff _).2 (List.perm_middle.symm))
        case xF=>(rw[agp,<-hcs])
        case lZ=>(simp only[*,List.length_append,List.length_cons];omega)
   ·have fR:0<=m.at_/\m.at_<((U6 d).length:Int):=by omega
    have bj:gF d m=8:=by unfold gF;rw[if_pos fR,if_neg (by rw[py];exact Bool.false_ne_true)]
    refine kS (k:=3) rfl rfl rfl rfl rfl rfl rfl dI cy (ia 8 cy.aD) ?_
    intro w9 M9 ck S9
    subst hC
    exact .inr ⟨by rw[bj];first|decide|assumption,by rw[bj],M9,(Hp.le_refl _).trans ck,S9.pick [] [] (by decide) trivial⟩
  ·have bj:gF d m=3:=by unfold gF;rw[if_neg (by omega)]
   refine oK (i:=13) 0 rfl (by kernel_rfl) rfl rfl rfl rfl rfl rfl rfl dI (fun w9 S9=>ia 3 S9.aD) ?_
   intro w9 M9 ck S9
   subst hC
   exact .inr ⟨by rw[bj];first|decide|assumption,by rw[bj],M9,(Hp.le_refl _).trans ck,S9.pick [] [] (by decide) trivial⟩
 ·refine Ur (i:=4) (d:=20) 9 rfl (by kernel_rfl) (by kernel_rfl) (by kernel_rfl) ⟨_,_,_,rfl,rfl,rfl,rfl⟩ rfl rfl ?_
  refine Ur (i:=5) (d:=21) 8 rfl (by kernel_rfl) (by kernel_rfl) (by kernel_rfl) ⟨_,_,_,rfl,rfl,rfl,rfl⟩ rfl rfl ?_
  refine Ur (i:=6) (d:=22) 7 rfl (by kernel_rfl) (by kernel_rfl) (by kernel_rfl) ⟨_,_,_,rfl,rfl,rfl,rfl⟩ rfl rfl ?_
  refine Ur (i:=7) (d:=23) 6 rfl (by kernel_rfl) (by kernel_rfl) (by kernel_rfl) ⟨_,_,_,rfl,rfl,rfl,rfl⟩ rfl rfl ?_
  refine Ur (i:=8) (d:=24) 5 rfl (by kernel_rfl) (by kernel_rfl) (by kernel_rfl) ⟨_,_,_,rfl,rfl,rfl,rfl⟩ rfl rfl ?_
  refine Ur (i:=9) (d:=25) 4 rfl (by kernel_rfl) (by kernel_rfl) (by kernel_rfl) ⟨_,_,_,rfl,rfl,rfl,rfl⟩ rfl rfl ?_
  refine Ur (i:=10) (d:=26) 3 rfl (by kernel_rfl) (by kernel_rfl) (by kernel_rfl) ⟨_,_,_,rfl,rfl,rfl,rfl⟩ rfl rfl ?_
  refine Ur (i:=11) (d:=27) 2 rfl (by kernel_rfl) (by kernel_rfl) (by kernel_rfl) ⟨_,_,_,rfl,rfl,rfl,rfl⟩ rfl rfl ?_
  refine ai 12 1 rfl (by kernel_rfl) (fun _=>iU rfl rfl rfl) ?_
  have bj:gF d m=3:=by unfold gF;rw[if_neg (by omega)]
  refine oK (i:=13) 0 rfl (by kernel_rfl) rfl rfl rfl rfl rfl rfl rfl dI (fun w9 S9=>ia 3 S9.aD) ?_
  intro w9 M9 ck S9
  subst hC
  exact .inr ⟨by rw[bj];first|decide|assumption,by rw[bj],M9,(Hp.le_refl _).trans ck,S9.pick [] [] (by decide) trivial⟩
end Go.Proofs.YthppkofceancjaaGreat
namespace Go.Proofs.YthppkofceancjaaGreat
open Go.ChangeShapes Go.WideShapes Go.ChangeAt Go.RowKit
namespace InF
section
variable {P : Program} {n : Nat} {C : Ctx} {c : Code} {s : List K} {L : List (Nat × Value)} {w : World} {M : Hp} {X : Fr} {H : List Rs}
theorem Ey(hk:kind c=6)(h:∀a,Env n L a->C.Q .ret a w):WS P n C c s L w:=by
 have hpr:∀{s:List K}{a:Act}{w:World},post P C [] .ret a w->post P C s .ret a w:=by
  intro s
  induction s with
  |nil=>exact fun h=>h
  |cons x s ih=>intro a w h;cases x<;>exact ih h
 intro a ha
 rw[Er hk]
 exact wpIn_ret (hpr (h a ha))
theorem uB:∀{s:List K}{a:Act}{w:World},C.Q .ret a w->post P C s .ret a w:=by
 intro s
 induction s with
 |nil=>exact fun h=>h
 |cons x s ih=>intro a w h;cases x<;>exact ih h
end
end InF
structure kG(D:List Deferred)(n:Nat)(L:List (Nat×Value))(a:Act):Prop where
 sz:a.tmps.size=n
 df:a.defers=D
 at_:∀t v,lk L t=some v->a.tmps.getD t undef=v
section
variable {D : List Deferred} {n : Nat} {L L2 : List (Nat × Value)} {a : Act}
theorem kG.sy(h:kG D n L a):Env n L {a with defers:=[]}:=⟨h.sz,rfl,h.at_⟩
theorem kG.eval(h:kG D n L a){x:Operand}{v:Value}(hx:oev L x=some v):a.eval x=v:=h.sy.eval hx
theorem kG.put(h:kG D n L a){d:Nat}(hd:d<n)(v:Value):kG D n ((d,v)::L) (a.put (some d) v):=⟨(h.sy.put hd v).sz,h.df,(h.sy.put hd v).at_⟩
theorem kG.sub(h:kG D n L a)(hs:Sub L L2):kG D n L2 a:=⟨h.sz,h.df,fun t v hv=>h.at_ t v (hs.lk t v hv)⟩
end
namespace dX
theorem ajb(C:InF.Ctx){P:Program}{o:Oper}{a:Act}{w:World}{next:Act->World->Prop}{Q:Exit->Act->World->Prop}(hnd:∀c,o.op≠.defer c)(h:o.wp P {a with defers:=[]} w (fun a' w'=>a'.defers=[]/\next {a' with defers:=a.defers} w') (fun e a' w'=>Q e {a' with defers:=a.defers} w')):o.wpIn C.F 0 P a w next Q:=by
 obtain⟨tm,df⟩:=a
 have hput:∀v,({Act.put {tmps:=tm,defers:=[]} o.dst v with defers:=df}:Act)=Act.put {tmps:=tm,defers:=df} o.dst v:=fun v=>by cases o.dst<;>rfl
 refine⟨fun f _=>C.pV f,?_⟩
 rw[Oper.semAt_eq _ _ _ hnd]
 unfold Oper.wp at h
 replace h:o.upon P {tmps:=tm,defers:=[]} (fun a' w'=>a'.defers=[]/\next {a' with defers:=df} w') (fun e a' w'=>Q e {a' with defers:=df} w') ((execOp (Act.eval {tmps:=tm,defers:=df}) o).run P w):=h
 generalize (execOp (Act.eval {tmps:=tm,defers:=df}) o).run P w=r at h ⊢
 cases r with
 |ok nx w'=>
  cases nx with
  |value v=>
   replace h:next {Act.put {tmps:=tm,defers:=[]} o.dst v with defers:=df} w':=h.2
   rw[hput]at h;exact h
  |skip=>
   replace h:next {Act.put {tmps:=tm,defers:=[]} o.dst undef with defers:=df} w':=h.2
   rw[hput]at h;exact h
  |defer d=>
   have h1:(Act.put {tmps:=tm,defers:=[d]} o.dst undef).defers=[]:=h.1
   cases hd:o.dst<;>(rw[hd]at h1;cases h1)
  |enter f args=>
   refine⟨C.rK,InF.AH C (Calls.mono h ?_)⟩
   rintro e w2 hh
   cases e with
   |returned v=>
    replace hh:next {Act.put {tmps:=tm,defers:=[]} o.dst v with defers:=df} w2:=hh.2
    rw[hput]at hh;exact hh
   |panicked chain=>exact hh
   |outgrown=>
    obtain⟨a9,w9,hw⟩:=hh
    exact⟨{a9 with defers:=df},w9,hw⟩
  |row row args=>
   refine⟨C.rK,InF.FF C ?_⟩
   intro c cs
   obtain⟨v,w2,hr,hs⟩:=h c cs
   replace hr:next {Act.put {tmps:=tm,defers:=[]} o.dst v with defers:=df} w2:=hr.2
   rw[hput]at hr
   exact⟨v,w2,hr,hs⟩
  |_=>exact h.elim
 |halt x w'=>
  cases x with
  |panic v=>exact h
  |_=>exact h.elim
def WS(P:Program)(D:List Deferred)(n:Nat)(C:InF.Ctx)(c:Code)(s:List K)(L:List (Nat×Value))(w:World):Prop:=∀a,kG D n L a->c.wpIn C.F 0 P (InF.post P C s) a w
def NM(P:Program)(D:List Deferred)(n:Nat)(C:InF.Ctx)(s:List K)(L:List (Nat×Value))(w:World):Prop:=∀a,kG D n L a->InF.post P C s .normal a w
def WL(P:Program)(D:List Deferred)(n:Nat)(C:InF.Ctx)(c:Code)(k:Nat)(s:List K)(L:List (Nat×Value))(w:World):Prop:=∀a,kG D n L a->wpListIn C.F 0 P (rg c) (InF.post P C s) ((rg c).toList.drop k) a w
section
variable {P : Program} {n : Nat} {C : InF.Ctx} {D : List Deferred} {c : Code} {s : List K} {L : List (Nat × Value)} {w : World}
theorem bL(L2:List (Nat×Value))(hs:Sub L L2)(h:NM P D n C s L2 w):NM P D n C s L w:=fun a ha=>h a (ha.sub hs)
theorem U2(a b:Code)(hk:kind c=1)(ha:cL c=a)(hb:cR c=b)(h:WS P D n C a (.thn b::s) L w):WS P D n C c s L w:=by
 subst ha;subst hb
 intro a ha
 rw[Ad hk]
 exact wpIn_seq (h a ha)
theorem U3(h:WS P D n C c s L w):NM P D n C (.thn c::s) L w:=fun a ha=>h a ha
theorem U0(hk:kind c=7)(h:WL P D n C c 0 s L w):WS P D n C c s L w:=by
 intro a ha
 rw[DZ hk]
 exact wpIn_region_list (h a ha)
theorem U5{k:Nat}(hk:op c k=none)(h:NM P D n C s L w):WL P D n C c k s L w:=by
 intro a ha
 have:((rg c).toList.drop k)=[]:=by
  unfold op at hk
  rw[dR]at hk
  exact List.drop_eq_nil_of_le (by simpa using hk)
 rw[this]
 exact wpListIn_nil (h a ha)
theorem Us{k k':Nat}{o:Oper}(ho:op c k=some o)(hk:k'=k.succ)(hg:o.guard=none)(h:WO P n o L w (fun L' w'=>WL P D n C c k' s L' w'))(hnd:InF.qT o=true:=by rfl):WL P D n C c k s L w:=by
 intro a ha
 rw[oG ho]
 subst hk
 refine wpListIn_plain hg fun K hK=>?_
 exact ajb C (InF.Ec hnd) (h _ ha.sy _ _ fun L' a' w' he hw=>⟨he.df,hK _ _ (hw _ ⟨he.sz,ha.df,he.at_⟩)⟩)
end
end dX
end Go.Proofs.YthppkofceancjaaGreat
namespace Go.Proofs.YthppkofceancjaaGreat
open Go.ChangeShapes Go.WideShapes Go.ChangeAt Go.RowKit
section
variable {w : World} {M : Hp} {X : Fr} {H : List Rs} {Ds : List Nat}
end
namespace dX
section
variable {P : Program} {n : Nat} {C : InF.Ctx} {c : Code} {s : List K} {L : List (Nat × Value)} {w : World} {M : Hp} {X : Fr} {H : List Rs}
end
end dX
namespace InF.G
theorem Uj{P:Program}{n:Nat}{C:InF.Ctx}{c:Code}{s:List K}{L:List (Nat×Value)}{w:World}{fn:Func}{R:Ending->World->Prop}(hC:C.Q=bodyPostM Fence.wide 0 P fn R){rs:List ResultVar}(vs:List Value)(hr:fn.results=rs.toArray)(hk:kind c=6)(h:qQ P L w rs vs)(hR:R (.returned (tup vs)) w):InF.WS P n C c s L w:=by
 refine InF.Ey hk fun a ha=>?_
 rw[hC]
 show LeavesInM Fence.wide 0 P fn a.tmps R a.defers .returning w
 rw[ha.df]
 exact⟨tup vs,ur ha hr h,hR⟩
end InF.G
end Go.Proofs.YthppkofceancjaaGreat
namespace Go.Proofs.YthppkofceancjaaGreat
open Go.ChangeShapes Go.WideShapes Go.ChangeAt Go.RowKit
namespace InF
section
variable {P : Program} {n : Nat} {C : Ctx} {c : Code} {s : List K} {L : List (Nat × Value)} {w : World} {ch : List PanicEntry}
theorem oH:∀{s:List K}{a:Act}{w:World},C.Q (.panic ch) a w->post P C s (.panic ch) a w
 |[],_,_,h=>h
 |.thn c::s,_,_,h=>oH (s:=s) h
 |.lp I::s,_,_,h=>oH (s:=s) h
 |.blk i::s,_,_,h=>oH (s:=s) h
theorem agI{k k':Nat}{o:Oper}{ca:Call}{fo:Operand}{bU:FuncId}{cap:List Value}(ho:op c k=some o)(hk:k'=k.succ)(hg:o.guard=none)(hd:o.dst=none)(hop:o.op=.defer ca)(cm:ca.callee=.value fo)(hfo:oev L fo=some (.func (.func bU) #[] cap.toArray))(hxs:ca.args=#[])(hr:C.r=none)
  (h:dX.WL P [{target:=.fn (.func bU) cap.toArray,args:=#[]}] n C c k' s L w):WL P n C c k s L w:=by
 intro a ha
 rw[oG ho]
 subst hk
 refine wpListIn_plain hg fun K hK=>?_
 refine⟨fun f _=>C.pV f,?_⟩
 have hF:C.F.round=none:=by unfold Ctx.F;rw[hr];rfl
 have hrun:(o.semAt C.F.round a.eval).run P w=.ok (.defer {target:=.fn (.func bU) cap.toArray,args:=#[]}) w:=by
  rw[hF,Oper.semAt_none]
  unfold execOp
  simp only[hop,resolve,cm,ha.eval hfo,hxs,Deferred.ofValue,Sem.run_bind,Sem.run_pure,Result.andThen_ok]
  simp
 rw[hrun,Oper.uponIn_defer,hd]
 refine hK _ _ (h _ ⟨ha.sz,?_,ha.at_⟩)
 show _::a.defers=_
 rw[ha.df]
end
end InF
namespace dX
section
variable {P : Program} {n d : Nat} {C : InF.Ctx} {c : Code} {s : List K} {L : List (Nat × Value)} {w : World} {D : List Deferred}
theorem ahi{k k':Nat}{o:Oper}{f:FuncId}{vs:List Value}{ca:Call}{fo:Operand}{xs:List Operand}(ho:op c k=some o)(hk:k'=k.succ)(hg:o.guard=none)(hd:o.dst=some d)(hop:o.op=.call ca)(cm:ca.callee=.value fo)(hfo:oev L fo=some (.func (.func f) #[] #[]))
  (hxs:ca.args=xs.toArray)(hvs:oevs L xs=some vs)(hn:Nat.blt d n=true)(hen:∀args w,(callFunc f args).run P w=.ok (.enter f args) w)
  {R1:Value->World->Prop}{R2:List PanicEntry->World->Prop}(hcall:Calls P f vs.toArray w fun e w'=>(∃v,e=.returned v/\R1 v w')\/(∃ch,e=.panicked ch/\R2 ch w'))
  (h1:∀v w',R1 v w'->WL P D n C c k' s ((d,v)::L) w')(h2:∀ch w',R2 ch w'->∀a,kG D n L a->C.Q (.panic ch) a w'):WL P D n C c k s L w:=by
 intro a ha
 rw[oG ho]
 subst hk
 refine wpListIn_plain hg fun K hK=>?_
 have he:List.map a.eval xs=vs:=ha.sy.kx hvs
 have hr:(execOp a.eval o).run P w=.ok (.enter f vs.toArray) w:=by
  unfold execOp
  simp only[hop,resolve,cm,ha.eval hfo,hxs,List.map_toArray,he,Deferred.ofValue,Sem.run_bind,Sem.run_pure,Result.andThen_ok,invoke,Array.empty_append,Array.append_empty]
  exact hen _ _
 refine⟨fun f _=>C.pV f,?_⟩
 rw[Oper.semAt_eq _ _ _ (fun c e=>by rw[e]at hop;cases hop),hr,Oper.uponIn_enter,hd]
 refine⟨C.rK,InF.AH C (Calls.mono hcall ?_)⟩
 rintro e w' (⟨v,rfl,hR⟩|⟨ch,rfl,hR⟩)
 ·exact hK _ _ (h1 v w' hR _ (ha.put (by simpa using hn) v))
 ·exact InF.oH (h2 ch w' hR a ha)
theorem Ey(hk:kind c=6)(h:∀a,kG D n L a->C.Q .ret a w):WS P D n C c s L w:=by
 intro a ha
 rw[Er hk]
 exact wpIn_ret (InF.uB (h a ha))
end
end dX
theorem aaM{P:Program}{fn:Func}{tm:Array Value}{R:Ending->World->Prop}{bU:FuncId}{cap:List Value}{u:FrameMode}{w:World}(hu:u≠.run)(hen:∀args w,(callFunc bU args).run P w=.ok (.enter bU args) w)
  (h:CallsDIn Fence.wide 0 P bU cap.toArray u w fun e u' w'=>∃v,e=.returned v/\settle u'=.returning/\∃vv,(results fn tm).run P w'=.ok vv w'/\R (.returned vv) w'):
  LeavesInM Fence.wide 0 P fn tm R [{target:=.fn (.func bU) cap.toArray,args:=#[]}] u w:=by
 refine⟨hu,.inr ⟨fun h=>(by cases h),.func bU,cap.toArray,bU,cap.toArray,rfl,?_,fun _ _=>trivial,?_⟩⟩
 ·simp only[invoke,Array.empty_append,Array.append_empty]
  exact hen _ _
 ·refine CallsDIn.mono h ?_
  rintro e u' w' ⟨v,rfl,hs,vv,h1,h2⟩
  show LeavesInM Fence.wide 0 P fn tm R [] (settle u') w'
  rw[hs]
  exact⟨vv,h1,h2⟩
theorem afW{F:Fence}{P:Program}{n m id d0 d1:Nat}{c:Code}{o0 o1:Oper}{ca:Call}{L:List (Nat×Value)}{a:Act}{cs cs':List Frame}{v:Value}{w:World}{Q:Exit->Act->List Frame->World->Prop}(hF:∀f,F.fn f)(hc:c=.region id #[o0,o1] false)(ha:Env m L a)(Gp:o0.op=.call ca)(cm:ca.callee=.builtin .recover)(hxs:ca.args=#[])(hg0:o0.guard=none)(hd0:o0.dst=some d0)
  (Gn:o1.op=.assign (.tmp d0))(hg1:o1.guard=none)(hd1:o1.dst=some d1)(hn:(Nat.blt d0 m&&Nat.blt d1 m)=true)(hrec:recoverD cs=some (v,cs')\/(recoverD cs=none/\v=.nilIface/\cs'=cs))(h:∀a2,Env m ((d1,v)::(d0,v)::L) a2->Q .normal a2 cs' w):c.wpSIn F n P Q a cs w:=by
 subst hc
 simp only[Bool.and_eq_true]at hn
 refine wpSIn_region ?_
 have e0:∀b:Act,Region.wanted o0 (yielded #[o0,o1] b.tmps)=true:=fun b=>by unfold Region.wanted;rw[hg0]
 have e1:∀b:Act,Region.wanted o1 (yielded #[o0,o1] b.tmps)=true:=fun b=>by unfold Region.wanted;rw[hg1]
 have r0:(execOp a.eval o0).run P w=.ok .recover w:=by
  unfold execOp
  simp only[Gp,resolve,cm,hxs,Sem.run_bind,Sem.run_pure,Result.andThen_ok]
  rfl
 have ha1:=ha.put (d:=d0) (by simpa using hn.1) v
 have r1:(execOp (a.put (some d0) v).eval o1).run P w=.ok (.value v) w:=by
  unfold execOp
  simp only[Gn,ha1.eval (x:=.tmp d0) (v:=v) (by simp[oev,lk])]
  rfl
 have ha2:=ha1.put (d:=d1) (by simpa using hn.2) v
 show wpOpsSIn F n P #[o0,o1] Q [0,1] a cs w
 simp only[wpOpsSIn,List.getElem?_toArray,List.getElem?_cons_zero,List.getElem?_cons_succ,e0,e1,if_true,r0,hd0]
 refine⟨fun f _=>hF f,?_⟩
 rcases hrec with hrec|⟨hrec,rfl,rfl⟩
 ·rw[hrec]
  simp only[r1,hd1]
  exact⟨fun f _=>hF f,h _ ha2⟩
 ·rw[hrec]
  simp only[r1,hd1]
  exact⟨fun f _=>hF f,h _ ha2⟩
section
variable {P : Program} {n : Nat} {o : Oper} {L : List (Nat × Value)} {w : World} {t t' T : TypeId} {x : Operand} {v : Value}
theorem agL{ms}(ho:o.op=.binOp .neq t x (.const .nilIface) t')(hx:oev L x=some .nilIface)(hy:oev L (.const .nilIface)=some .nilIface)(hu:P.underlying t=some (.interface ms)):Run P o L w (.bool false) w:=by
 intro n c hc
 unfold execOp
 have h1:∀w,(eqGuard .neq t x (.const .nilIface) .nilIface .nilIface).run P w=.ok () w:=fun w=>by rw[eqGuard_nil_constR];rfl
 have h2:∀w,(Op.equal t .nilIface .nilIface).run P w=.ok true w:=fun w=>by
  have h:∀d:Nat,(Op.equalIn (d+1) t .nilIface .nilIface).run P w=.ok true w:=fun d=>by simp[Op.equalIn,run_underlying hu]
  exact h 9999
 simp only[ho,hc.eval hx,hc.eval hy,h1,binOp,h2,Sem.run_bind,Result.andThen_ok,Sem.run_pure,Bool.not_true]
theorem agK{ms}{y:Operand}(ho:o.op=.binOp .neq t x y t')(hx:oev L x=some (.iface T v))(hy:oev L y=some .nilIface)(hu:P.underlying t=some (.interface ms)):Run P o L w (.bool true) w:=by
 intro n c hc
 unfold execOp
 have h1:∀w,(eqGuard .neq t x y (.iface T v) .nilIface).run P w=.ok () w:=fun w=>rfl
 have h2:∀w,(Op.equal t (.iface T v) .nilIface).run P w=.ok false w:=fun w=>by
  have h:∀d:Nat,(Op.equalIn (d+1) t (.iface T v) .nilIface).run P w=.ok false w:=fun d=>by simp[Op.equalIn,run_underlying hu]
  exact h 9999
 simp only[ho,hc.eval hx,hc.eval hy,h1,binOp,h2,Sem.run_bind,Result.andThen_ok,Sem.run_pure,Bool.not_false]
theorem af2{s:TypeId}{fs:Array Field}(ho:o.op=.typeAssert x s T true)(hx:oev L x=some (.iface T v))(hu:P.underlying T=some (.struct fs)):Run P o L w (.tuple [v,.bool true].toArray) w:=by
 intro n c hc
 unfold execOp
 simp only[ho,hc.eval hx,Instr.typeAssert,Sem.run_bind,run_underlying hu,Result.andThen_ok,if_true,Sem.run_pure]
theorem agM{ps rs b}{y:Operand}(ho:o.op=.binOp .eql t x y t')(hx:oev L x=some .nilFunc)(hy:oev L y=some .nilFunc)(hu:P.underlying t=some (.func ps rs b)):Run P o L w (.bool true) w:=by
 intro n c hc
 unfold execOp
 have h1:∀w,(eqGuard .eql t x y .nilFunc .nilFunc).run P w=.ok () w:=fun w=>rfl
 have h2:∀w,(Op.equal t .nilFunc .nilFunc).run P w=.ok true w:=fun w=>by
  have h:∀d:Nat,(Op.equalIn (d+1) t .nilFunc .nilFunc).run P w=.ok true w:=fun d=>by simp[Op.equalIn,run_underlying hu]
  exact h 9999
 simp only[ho,hc.eval hx,hc.eval hy,h1,binOp,h2,Sem.run_bind,Result.andThen_ok,Sem.run_pure]
theorem agN{ps rs b}{y:Operand}{fn:Fn}{fi cp:Array Value}(ho:o.op=.binOp .eql t x y t')(hx:oev L x=some (.func fn fi cp))(hy:oev L y=some .nilFunc)(hu:P.underlying t=some (.func ps rs b)):Run P o L w (.bool false) w:=by
 intro n c hc
 unfold execOp
 have h1:∀w,(eqGuard .eql t x y (.func fn fi cp) .nilFunc).run P w=.ok () w:=fun w=>rfl
 have h2:∀w,(Op.equal t (.func fn fi cp) .nilFunc).run P w=.ok false w:=fun w=>by
  have h:∀d:Nat,(Op.equalIn (d+1) t (.func fn fi cp) .nilFunc).run P w=.ok false w:=fun d=>by simp[Op.equalIn,run_underlying hu]
  exact h 9999
 simp only[ho,hc.eval hx,hc.eval hy,h1,binOp,h2,Sem.run_bind,Result.andThen_ok,Sem.run_pure]
theorem ahL{args:List Value}(hsz:Nat.ble args.length n=true):Env n (argL 0 args) {tmps:=args.toArray++Array.replicate (n-args.toArray.size) undef,defers:=[]}:=by
 refine⟨?_,rfl,fun t v hv=>?_⟩
 ·simp;have:args.length<=n:=by simpa using hsz
  omega
 ·have:=(wS args 0 t v hv).2
  rw[Nat.sub_zero]at this
  have hlt:=(List.getElem?_eq_some_iff.1 this).1
  simp only[Array.getD_eq_getD_getElem?]
  rw[Array.getElem?_append_left (by simpa using hlt)]
  simp[this]
end
theorem aae{P:Program}{n m bU id d0 d1:Nat}{fn:Func}{b c0:Code}{args:List Value}{u u2:FrameMode}{w:World}{R:Ending->FrameMode->World->Prop}{o0 o1:Oper}{ca:Call}(v:Value)(hf:P.funcs[bU]? =some fn)(hb:fn.body=some b)(hres:fn.results=#[])(hm:fn.ntmps=m)(hsz:Nat.ble args.length m=true)(hk:kind b=1)(hc0:cL b=c0)(hc:c0=.region id #[o0,o1] false)(Gp:o0.op=.call ca)(cm:ca.callee=.builtin .recover)(hxs:ca.args=#[])(hg0:o0.guard=none)(hd0:o0.dst=some d0)
  (Gn:o1.op=.assign (.tmp d0))(hg1:o1.guard=none)(hd1:o1.dst=some d1)(hn:(Nat.blt d0 m&&Nat.blt d1 m)=true)(hrec:∀(c₀:Frame) (cs:List Frame),c₀.mode=u->recoverD (c₀::cs)=some (v,{c₀ with mode:=u2}::cs)\/(recoverD (c₀::cs)=none/\v=.nilIface/\u2=u))
  (h:∀C:InF.Ctx,C.r=none->(∀w,R (.returned (.tuple #[])) u2 w->InF.NM P m C [] [] w)->InF.WS P m C (cR b) [] ((d1,v)::(d0,v)::argL 0 args) w):CallsDIn Fence.wide n P bU args.toArray u w R:=by
 refine callsDIn_of_wpSIn hf hb trivial fun c₀ cs hu=>?_
 rw[Ad hk,hc0]
 refine wpSIn_seq ?_
 have ha:Env m (argL 0 args) {tmps:=args.toArray++Array.replicate (fn.ntmps-args.toArray.size) undef,defers:=[]}:=by rw[hm];exact ahL (n:=m) hsz
 have key:∀cs',cs'={c₀ with mode:=u2}::cs->recoverD (c₀::cs)=some (v,cs')\/(recoverD (c₀::cs)=none/\v=.nilIface/\cs'=c₀::cs)->c0.wpSIn Fence.wide n P (Exit.thenS ((cR b).wpSIn Fence.wide n P (bodyPostS P fn c₀ cs R)) (bodyPostS P fn c₀ cs R)) {tmps:=args.toArray++Array.replicate (fn.ntmps-args.toArray.size) undef,defers:=[]} (c₀::cs) w:=by
  intro cs' hcs hr
  refine afW (m:=m) (fun _=>trivial) hc ha Gp cm hxs hg0 hd0 Gn hg1 hd1 hn hr fun a2 ha2=>?_
  refine wpSIn_of_wpIn rfl ?_
  have h1:=h ⟨fun e a' w'=>bodyPostS P fn c₀ cs R e a' cs' w',none⟩ rfl ?_ a2 ha2
  ·exact wpIn_wide.2 (wpIn_wide.1 h1)
  ·intro w' hR a' ha'
   refine⟨ha'.df,u2,hcs,.tuple #[],?_,hR⟩
   exact ur (vs:=[]) (rs:=[]) (L:=[]) ha' (by rw[hres]) trivial
 rcases hrec c₀ cs hu with hr|⟨h1,h2,h3⟩
 ·exact key _ rfl (.inl hr)
 ·refine key (c₀::cs) ?_ (.inr ⟨h1,h2,rfl⟩)
  rw[h3,<-hu]
end Go.Proofs.YthppkofceancjaaGreat
namespace Go.Proofs.YthppkofceancjaaGreat
open Go.ChangeShapes Go.WideShapes Go.ChangeAt Go.RowKit
def nO:Option Nat->Value
 |none=>.nilFunc
 |some f=>.func (.func f) #[] #[]
def uK:List (Int×Option Nat):=[(1,some 67),(2,some 68),(3,some 69),(4,some 70),(5,some 71)]
def lQ(k:Int):Option Nat:=(mg k uK).getD none
def gu(d:Dg)(m:Mv):Int:=if m.kd=1 then dP d m else if m.kd=2 then jm d m else if m.kd=3 then fT d m else if m.kd=4 then gp d m else gF d m
def gG(d:Dg)(m:Mv):Dg:=if m.kd=1 then lh d m else if m.kd=2 then xO d m else if m.kd=3 then tU d m else if m.kd=4 then y8 d m else p6 d m
theorem aaS{k:Int}{f:Nat}(h:lQ k=some f):k=1/\f=67\/k=2/\f=68\/k=3/\f=69\/k=4/\f=70\/k=5/\f=71:=by
 unfold lQ uK at h
 simp only[mg]at h
 split at h
 ·rename_i e;simp at h;omega
 ·split at h
  ·rename_i e;simp at h;omega
  ·split at h
   ·rename_i e;simp at h;omega
   ·split at h
    ·rename_i e;simp at h;omega
    ·split at h
     ·rename_i e;simp at h;omega
     ·simp at h
theorem ahF{k:Int}{f:Nat}(h:lQ k=some f):∀args w,(callFunc f args).run Tryz.prog w=.ok (.enter f args) w:=by
 rcases aaS h with⟨rfl,rfl⟩|⟨rfl,rfl⟩|⟨rfl,rfl⟩|⟨rfl,rfl⟩|⟨rfl,rfl⟩
 ·exact anw
 ·exact anv
 ·exact anu
 ·exact ant
 ·exact ans
theorem ah0{w:World}{M:Hp}{X:Fr}{f:Nat}(m:Mv)(hk:lQ m.kd=some f)(d:Dg){bu ggs:Nat}{bz:Value}{iA oA fA:Option Addr}{ic oc fc:Nat}{fv:List eT}(hsi:aF bp M iA ic (aw d false (4*d.ae.length)))(aK:aF bp M oA oc (aw d true (4*d.ae.length)))(cG:aF (cB 141) M fA fc fv)(cF:ez bW M fv (U6 d))(hn:d.ae.length<=16)(hab:aX d=true)(hlo:0<=d.loops/\d.loops<=16)(S:SH w M X [Rs.aW (bnL d bu ggs bz iA oA fA ic oc fc fv)]):Cm f [.pointer (some ⟨bu,0,none⟩),.agg [.int .i64 m.kd,.int .i64 m.at_,.int .i64 m.aJ,.int .i64 m.ua,.bool m.ub,.int .i64 m.va,.bool m.vb,.bool m.ov].toArray] w M X (gu d m) (uz bu ggs (.slice fA fv.length fc) (.slice iA (aw d false (4*d.ae.length)).length ic) (.slice oA (aw d true (4*d.ae.length)).length oc) (gG d m)):=by
 rcases aaS hk with⟨hq,rfl⟩|⟨hq,rfl⟩|⟨hq,rfl⟩|⟨hq,rfl⟩|⟨hq,rfl⟩
 ·rw[show gu d m=dP d m from by unfold gu;rw[hq];rfl,show gG d m=lh d m from by unfold gG;rw[hq];rfl]
  exact ajS d m hsi aK cG cF hn hab hlo S
 ·rw[show gu d m=jm d m from by unfold gu;rw[hq];rfl,show gG d m=xO d m from by unfold gG;rw[hq];rfl]
  exact ahV d m hsi aK cG cF hn hab hlo S
 ·rw[show gu d m=fT d m from by unfold gu;rw[hq];rfl,show gG d m=tU d m from by unfold gG;rw[hq];rfl]
  exact ajO d m hsi aK cG cF hn hab hlo S
 ·rw[show gu d m=gp d m from by unfold gu;rw[hq];rfl,show gG d m=y8 d m from by unfold gG;rw[hq];rfl]
  exact ajP d m hsi aK cG cF hn hab hlo S
 ·rw[show gu d m=gF d m from by unfold gu;rw[hq];rfl,show gG d m=p6 d m from by unfold gG;rw[hq];rfl]
  exact aiR d m hsi aK cG cF hn hab hlo S
theorem Cm.two{f:FuncId}{vs:List Value}{w:World}{M:Hp}{X:Fr}{H:List Rs}{r:Rs}{err:Int}{R:Value->Hp->Rs->Prop}(S:SH w M X H)(hi:nth H 0=some r)(h:Cm f vs w M (XH w X (H.set 0 Rs.emp)) err R):Calls Tryz.prog f vs.toArray w fun e w'=>(∃v,e=.returned v/\(err=0/\∃M' r',M.le M'/\SH w' M' X (H.set 0 r')/\R v M' r'))\/(∃ch,e=.panicked ch/\(err≠0/\ch=uY err/\∃M',M.le M'/\SH w' M' X (H.set 0 Rs.emp))):=by
 refine Calls.mono h ?_
 rintro e w' (⟨h0,v,rfl,M',r',h1,h2,h3⟩|⟨h0,rfl,M',h1,h2⟩)
 ·exact .inl ⟨v,rfl,h0,M',r',h1,S.Gc hi h2 rfl,h3⟩
 ·exact .inr ⟨_,rfl,h0,rfl,M',h1,(S.less hi).back h2⟩
theorem ER{d:Dg}(h:gq d=true):d.ae.length<=16/\aX d=true/\0<=d.loops/\d.loops<=16:=by
 unfold gq at h
 rw[Bool.and_eq_true]at h
 exact sW h.1
def dK(d:Dg)(m:Mv):Dg×Int:=if gq d=false then(⟨[],0⟩,7)else if lQ m.kd=none then(⟨[],0⟩,6)else if gu d m=0 then(gG d m,0)else(⟨[],0⟩,gu d m)
def qq(r:Dg×Int)(u:Value)(N:Hp):Prop:=∃A c,u=.tuple [.agg [.slice A r.1.ae.length c,.int .i64 r.1.loops].toArray,.int .i64 r.2].toArray/\aF aG N A c r.1.ae
namespace InF
noncomputable def Mx:=Tryz.f30.body.getD .skip
def afa:=cR Mx
def asn:=cL afa
def ae9:=cR afa
def asl:=cR ae9
set_option maxRecDepth 10000 in
theorem catchR{w:World}{p4 p5:Value}:CallsDIn Fence.wide 0 Tryz.prog 30 [p4,p5].toArray .returning w fun e u' w'=>e=.returned (.tuple #[])/\u'=.returning/\w'=w:=by
 refine aae (b:=Mx) (c0:=cL Mx) (m:=19) (u2:=.returning) (.nilIface) Tryz.func30 rfl rfl Tryz.ntmps30 rfl rfl rfl rfl rfl rfl rfl rfl rfl rfl rfl rfl rfl (fun c₀ cs hu=>?_) (fun C rE hC=>?_)
 ·exact .inr ⟨by simp[recoverD,hu],rfl,rfl⟩
 refine U2 asn ae9 rfl rfl rfl ?_
 refine U0 rfl ?_
 refine Us (k:=0) (k':=1) rfl rfl rfl (Ub rfl rfl (run_move rfl rfl) ?_)
 refine Us (k:=1) (k':=2) rfl rfl rfl (Ub rfl rfl (agL rfl rfl rfl adf) ?_)
 refine U5 rfl ?_
 refine bL [(2,_),(0,_),(1,_),(7,_)] ⟨rfl,rfl,rfl,rfl,trivial⟩ ?_
 refine U3 ?_
 refine lK asl rfl rfl rfl ?_
 refine Uf rfl ?_
 refine bL [] trivial ?_
 exact hC _ ⟨rfl,rfl,rfl⟩
noncomputable def Mw:=Tryz.f30.body.getD .skip
def ae8:=cR Mw
def asj:=cL ae8
def ae7:=cR ae8
def Mu:=cL ae7
def asi:=cL Mu
def Mt:=cR Mu
def Ms:=cL Mt
def ash:=cR Mt
def asf:=cL Ms
def ae6:=cR Ms
def ase:=cR ae6
set_option maxRecDepth 10000 in
theorem catchP{w:World}{M:Hp}{X:Fr}{OY OX:Nat}{va vb vc:Value}{err:Int}(S:SH w M X [Rs.box OY 24 [va,vb],Rs.box OX 29 [vc]]):CallsDIn Fence.wide 0 Tryz.prog 30 [.pointer (some ⟨OY,0,none⟩),.pointer (some ⟨OX,0,none⟩)].toArray (.panicking (uY err)) w fun e u' w'=>e=.returned (.tuple #[])/\settle u'=.returning/\SH w' M X [Rs.box OY 24 [.slice none 0 0,.int .i64 0],Rs.box OX 29 [.int .i64 err]]:=by
 refine aae (b:=Mw) (c0:=cL Mw) (m:=19) (u2:=.panicking [{v:=.iface 62 (.agg [Value.int .i64 err].toArray),recovered:=true}]) (.iface 62 (.agg [Value.int .i64 err].toArray)) Tryz.func30 rfl rfl Tryz.ntmps30 rfl rfl rfl rfl rfl rfl rfl rfl rfl rfl rfl rfl rfl (fun c₀ cs hu=>?_) (fun C rE hC=>?_)
 ·exact .inl (by simp[recoverD,hu,uY])
 refine U2 asj ae7 rfl rfl rfl ?_
 refine U0 rfl ?_
 refine Us (k:=0) (k':=1) rfl rfl rfl (Ub rfl rfl (run_move rfl rfl) ?_)
 refine Us (k:=1) (k':=2) rfl rfl rfl (Ub rfl rfl (agK rfl rfl rfl adf) ?_)
 refine U5 rfl ?_
 refine bL [(2,_),(0,_),(1,_),(7,_)] ⟨rfl,rfl,rfl,rfl,trivial⟩ ?_
 refine U3 ?_
 refine fM Mu rfl rfl rfl ?_
 refine U2 asi Mt rfl rfl rfl ?_
 refine U0 rfl ?_
 refine Us (k:=0) (k':=1) rfl rfl rfl (Ub rfl rfl (run_move rfl rfl) ?_)
 refine Us (k:=1) (k':=2) rfl rfl rfl (Ub rfl rfl (af2 rfl rfl Bp) ?_)
 refine Us (k:=2) (k':=3) rfl rfl rfl (Ub rfl rfl (run_move rfl rfl) ?_)
 refine Us (k:=3) (k':=4) rfl rfl rfl (Ub rfl rfl (Ul rfl rfl rfl) ?_)
 refine Us (k:=4) (k':=5) rfl rfl rfl (Ub rfl rfl (Ul rfl rfl rfl) ?_)
 refine Us (k:=5) (k':=6) rfl rfl rfl (Uh (l:=[_]) rfl rfl rfl alL rfl S ?_)
 intro aI w1 S1;clear S
 refine Us (k:=6) (k':=7) rfl rfl rfl (U7 (i:=0) (us:=[_]) (l':=[_]) (H':=[_,_,_]) rfl rfl S1 rfl rfl rfl rfl ama rfl rfl rfl rfl ?_)
 intro w2 S2;clear S1
 refine Us (k:=7) (k':=8) rfl rfl rfl (Ub rfl rfl (run_assign rfl rfl) ?_)
 refine U5 rfl ?_
 refine bL [(2,_),(0,_),(1,_),(3,_),(4,_)] ⟨rfl,rfl,rfl,rfl,rfl,trivial⟩ ?_
 refine U3 ?_
 refine U2 Ms ash rfl rfl rfl ?_
 refine U2 asf ae6 rfl rfl rfl ?_
 refine U0 rfl ?_
 refine Us (k:=0) (k':=1) rfl rfl rfl (Ub rfl rfl (run_move rfl rfl) ?_)
 refine Us (k:=1) (k':=2) rfl rfl rfl (Ub rfl rfl (dE rfl rfl) ?_)
 refine U5 rfl ?_
 refine bL [(2,_),(0,_),(1,_),(3,_),(14,_)] ⟨rfl,rfl,rfl,rfl,rfl,trivial⟩ ?_
 refine U3 ?_
 refine lK ase rfl rfl rfl ?_
 refine Uf rfl ?_
 refine bL [(0,_),(1,_),(3,_)] ⟨rfl,rfl,rfl,trivial⟩ ?_
 refine U3 ?_
 have S3:=S2.pick [1,2,0] [_,_,_] (by decide) ⟨rfl,rfl,rfl,trivial⟩;clear S2
 refine ki [_,_] [_] rfl (by kernel_rfl) S3 5 rfl ?_
 clear S3
 change WA _ _ _ _ _ _ _ _ _ _ _ _ [_,_,_]
 refine rX (i:=0) (d:=16) 4 rfl (by kernel_rfl) (by kernel_rfl) (by kernel_rfl) rfl rfl rfl (fun M1 N1 w3 aL S4=>.inl (run_build (l:=[_,_]) rfl rfl cJ rfl rfl)) ?_
 refine uA (i:=1) (d:=17) 3 rfl (by kernel_rfl) (by kernel_rfl) (by kernel_rfl) rfl rfl rfl (fun w4=>U1 rfl rfl Bp rfl (anJ) (amh)) ?_
 refine rX (i:=2) (d:=18) 2 rfl (by kernel_rfl) (by kernel_rfl) (by kernel_rfl) rfl rfl rfl (fun M3 N3 w5 dw S6=>.inl (U4 rfl rfl uX rfl (S6.suf.ar (i:=0) rfl rfl))) ?_
 refine Un (i:=3) 1 rfl (by kernel_rfl) rfl rfl (fun w7 S8=>?_)
 refine(U7 (i:=0) (us:=[_,_]) (l':=[_,_]) (H':=[_,_,_]) rfl rfl S8 rfl rfl rfl rfl az rfl rfl rfl rfl ?_)
 intro w8 S9;clear S8
 refine aN.grow [_,_] (Hp.le_refl _) S9 ?_;clear S9
 change WA _ _ _ _ _ _ _ _ _ _ _ _ [_,_,_]
 refine Un (i:=4) 0 rfl (by kernel_rfl) rfl rfl (fun jZ bQ=>?_)
 refine(U7 (i:=1) (us:=[_]) (l':=[_]) (H':=[_,_,_]) rfl rfl bQ rfl rfl rfl rfl xP rfl rfl rfl rfl ?_)
 intro kH cw;clear bQ
 refine aN.grow [_,_] (Hp.le_refl _) cw ?_;clear cw
 change WA _ _ _ _ _ _ _ _ _ _ _ _ [_,_,_]
 refine Uu (by kernel_rfl) (fun mb bZ=>?_)
 refine bL [] trivial ?_
 exact hC _ ⟨rfl,rfl,bZ.pick [0,1] [_,_] (by decide) ⟨rfl,rfl,trivial⟩⟩
end InF
open InF (catchR catchP)
noncomputable def Mr:=Tryz.f29.body.getD .skip
def asc:=cL Mr
def Mq:=cR Mr
def asb:=cL Mq
def asa:=cR Mq
set_option maxRecDepth 10000 in
theorem ab1{w:World}{M:Hp}{X:Fr}(S:SH w M X []):Co Tryz.prog 29 [] w M X (fun v N=>∃gm,v=.map (some gm)/\N=[Rs.mp (Value.int .i64) nO gm uK]):=by
 unfold Co
 refine Up (b:=Mr) Tryz.func29 rfl Tryz.ntmps29 rfl (fun C hC=>?_)
 refine bq [] trivial ?_
 refine U2 asc Mq rfl rfl rfl ?_
 refine U0 rfl ?_
 refine Us (k:=0) (k':=1) rfl rfl rfl (Ub rfl rfl (run_assign rfl rfl) ?_)
 refine U5 rfl ?_
 refine bL [] trivial ?_
 refine U3 ?_
 refine U2 asb asa rfl rfl rfl ?_
 refine U0 rfl ?_
 refine Us (k:=0) (k':=1) rfl rfl rfl (wA Int (Option Nat) (Value.int .i64) nO rfl rfl rfl S ?_)
 intro iG w1 S1;clear S
 refine Us (k:=1) (k':=2) rfl rfl rfl (mY (kc:=Value.int .i64) (vc:=nO) (es:=([])) (k:=1) (e:=(some 67)) (i:=0) (H':=[_]) (.inr rfl) rfl S1 rfl rfl rfl rfl sQ mQ rfl ?_)
 intro w2 S2;clear S1
 refine Us (k:=2) (k':=3) rfl rfl rfl (mY (kc:=Value.int .i64) (vc:=nO) (es:=(mp 1 (some 67) ([]))) (k:=2) (e:=(some 68)) (i:=0) (H':=[_]) (.inr rfl) rfl S2 rfl rfl rfl rfl sQ mQ rfl ?_)
 intro w3 S3;clear S2
 refine Us (k:=3) (k':=4) rfl rfl rfl (mY (kc:=Value.int .i64) (vc:=nO) (es:=(mp 2 (some 68) (mp 1 (some 67) ([])))) (k:=3) (e:=(some 69)) (i:=0) (H':=[_]) (.inr rfl) rfl S3 rfl rfl rfl rfl sQ mQ rfl ?_)
 intro w4 S4;clear S3
 refine Us (k:=4) (k':=5) rfl rfl rfl (mY (kc:=Value.int .i64) (vc:=nO) (es:=(mp 3 (some 69) (mp 2 (some 68) (mp 1 (some 67) ([]))))) (k:=4) (e:=(some 70)) (i:=0) (H':=[_]) (.inr rfl) rfl S4 rfl rfl rfl rfl sQ mQ rfl ?_)
 intro w5 S5;clear S4
 refine Us (k:=5) (k':=6) rfl rfl rfl (mY (kc:=Value.int .i64) (vc:=nO) (es:=(mp 4 (some 70) (mp 3 (some 69) (mp 2 (some 68) (mp 1 (some 67) ([])))))) (k:=5) (e:=(some 71)) (i:=0) (H':=[_]) (.inr rfl) rfl S5 rfl rfl rfl rfl sQ mQ rfl ?_)
 intro w6 S6;clear S5
 refine Us (k:=6) (k':=7) rfl rfl rfl (Ub rfl rfl (run_move rfl rfl) ?_)
 refine Us (k:=7) (k':=8) rfl rfl rfl (Ub rfl rfl (run_assign rfl rfl) ?_)
 refine U5 rfl ?_
 refine bL [(0,_)] ⟨rfl,trivial⟩ ?_
 refine U3 ?_
 refine Uj hC [_] rfl rfl ⟨rfl,trivial⟩ ?_
 exact⟨_,rfl,_,S6.pick [0] [_] (by decide) ⟨rfl,trivial⟩,⟨_,rfl,rfl⟩⟩
end Go.Proofs.YthppkofceancjaaGreat
namespace Go.Proofs.YthppkofceancjaaGreat
open Go.ChangeShapes Go.WideShapes Go.ChangeAt Go.RowKit
theorem ac0:(Tryz.prog.info? 58).map (·.zero)=some (some (.nilFunc)):=by kernel_rfl
namespace InF.G
noncomputable def Mp:=Tryz.f8.body.getD .skip
def ar9:=cL Mp
def Mn:=cR Mp
def ar8:=cL Mn
def Mm:=cR Mn
def CO:=cL Mm
def CN:=cR Mm
def ae5:=cL CO
def CM:=cR CO
def Ml:=cL CM
def ar7:=cR CM
def ar6:=cL Ml
def ar5:=cR Ml
def ar4:=cL CN
def Mk:=cR CN
def Mj:=cL Mk
def ar3:=cR Mk
def ar2:=cL Mj
def ae4:=cR Mj
def Mi:=cL ae4
def ar1:=cL Mi
def ar0:=cR Mi
set_option maxHeartbeats 2000000 in
set_option maxRecDepth 10000 in
theorem alJ{w:World}{M:Hp}{X:Fr}(d:Dg)(m:Mv){dA:Option Addr}{dc:Nat}(hk:lQ m.kd=none)(kO:aF aG (M.un X.h) dA dc d.ae)(S:SH w M X []):Ct Tryz.prog 8 [.agg [.slice dA d.ae.length dc,.int .i64 d.loops].toArray,.agg [.int .i64 m.kd,.int .i64 m.at_,.int .i64 m.aJ,.int .i64 m.ua,.bool m.ub,.int .i64 m.va,.bool m.vb,.bool m.ov].toArray] w M X (qq (dK d m)):=by
 unfold Ct
 refine D2 (b:=Mp) Tryz.func8 rfl Tryz.ntmps8 rfl (fun C rE hC=>?_)
 refine bq [(0,_),(1,_)] ⟨rfl,rfl,trivial⟩ ?_
 refine U2 ar9 Mn rfl rfl rfl ?_
 refine U0 rfl ?_
 refine Us (k:=0) (k':=1) rfl rfl rfl (bA (l:=[_,_]) rfl rfl rfl rfl rfl S ?_)
 intro aI w1 S1;clear S
 refine Us (k:=1) (k':=2) rfl rfl rfl (bA (l:=[_,_,_,_,_,_,_,_]) rfl rfl rfl rfl rfl S1 ?_)
 intro aQ w2 S2;clear S1
 refine Us (k:=2) (k':=3) rfl rfl rfl (Uh (l:=[_,_]) rfl rfl rfl fQ rfl S2 ?_)
 intro bE w3 S3;clear S2
 refine Us (k:=3) (k':=4) rfl rfl rfl (Uh (l:=[_]) rfl rfl rfl ac2 rfl S3 ?_)
 intro gY w4 S4;clear S3
 refine U5 rfl ?_
 refine bL [(2,_),(3,_),(4,_),(5,_)] ⟨rfl,rfl,rfl,rfl,trivial⟩ ?_
 refine U3 ?_
 refine U2 ar8 Mm rfl rfl rfl ?_
 refine U0 rfl ?_
 refine Us (k:=0) (k':=1) rfl rfl rfl (Ub rfl rfl (U8 (us:=[_,_]) rfl rfl ay rfl az (S4.ax (i:=3) rfl ⟨rfl,rfl,trivial⟩)) ?_)
 refine Us (k:=1) (k':=2) rfl rfl rfl (Ay rfl rfl rfl rfl rfl rfl rfl Hh S4 (EK d (kO.mono S4.Uw) S4.aD) ?_)
 intro Ot w5 M1 Nw5 aL S5 yl;clear S4
 replace kO:=kO.mono (Hp.Ua aL S5.mx)
 rcases yl with⟨hop,rfl,rfl⟩|⟨hop,bu,ggs,bz,iA,oA,fA,ic,oc,fc,fv,rfl,rfl,hsi,aK,cG,cF⟩
 ·have S6:SH _ _ _ [_,_,_,_]:=S5;clear S5
  refine Us (k:=2) (k':=3) rfl rfl rfl (Ub rfl rfl (run_move rfl rfl) ?_)
  refine Us (k:=3) (k':=4) rfl rfl rfl (Ub rfl rfl (Ul rfl rfl rfl) ?_)
  refine Us (k:=4) (k':=5) rfl rfl rfl (Ub rfl rfl (Ul rfl rfl rfl) ?_)
  refine Us (k:=5) (k':=6) rfl rfl rfl (Ub rfl rfl (run_assign rfl rfl) ?_)
  refine Us (k:=6) (k':=7) rfl rfl rfl (Ub rfl rfl (run_assign rfl rfl) ?_)
  refine U5 rfl ?_
  refine bL [(3,_),(4,_),(5,_),(6,_),(7,_)] ⟨rfl,rfl,rfl,rfl,rfl,trivial⟩ ?_
  refine U3 ?_
  refine U2 CO CN rfl rfl rfl ?_
  refine U2 ae5 CM rfl rfl rfl ?_
  refine U0 rfl ?_
  refine Us (k:=0) (k':=1) rfl rfl rfl (Ub rfl rfl (run_move rfl rfl) ?_)
  refine Us (k:=1) (k':=2) rfl rfl rfl (Ub rfl rfl (dE rfl rfl) ?_)
  refine U5 rfl ?_
  refine bL [(3,_),(4,_),(5,_),(6,_),(15,_)] ⟨rfl,rfl,rfl,rfl,rfl,trivial⟩ ?_
  refine U3 ?_
  refine fM Ml rfl rfl rfl ?_
  refine U2 ar6 ar5 rfl rfl rfl ?_
  refine U0 rfl ?_
  refine Us (k:=0) (k':=1) rfl rfl rfl (Ub rfl rfl (run_build (l:=[_,_]) rfl rfl cJ rfl rfl) ?_)
  refine Us (k:=1) (k':=2) rfl rfl rfl (U7 (i:=1) (us:=[_,_]) (l':=[_,_]) (H':=[_,_,_,_]) rfl rfl S6 rfl rfl rfl rfl az rfl rfl rfl rfl ?_)
  intro w6 S7;clear S6
  refine Us (k:=2) (k':=3) rfl rfl rfl (U7 (i:=0) (us:=[_]) (l':=[_]) (H':=[_,_,_,_]) rfl rfl S7 rfl rfl rfl rfl xP rfl rfl rfl rfl ?_)
  intro w7 S8;clear S7
  refine U5 rfl ?_
  refine bL [(4,_),(5,_)] ⟨rfl,rfl,trivial⟩ ?_
  refine U3 ?_
  refine Uj hC [_,_] rfl rfl ⟨⟨_,rfl,Um (us:=[_,_]) ay rfl az (S8.ax (i:=1) rfl ⟨rfl,rfl,trivial⟩)⟩,⟨_,rfl,wO uX rfl (S8.ar (i:=0) rfl rfl)⟩,trivial⟩ ?_
  refine⟨_,rfl,_,aL,(S8.pick [] [] (by decide) trivial),?_⟩
  rw[show dK d m=(⟨[],0⟩,7)from by unfold dK;rw[if_pos hop]]
  exact⟨none,0,rfl,aF.dW⟩
 ·have S9:SH _ _ _ [_,_,_,_,_,_,_]:=S5;clear S5
  obtain⟨hn,hab,hlo⟩:=ER hop
  refine Us (k:=2) (k':=3) rfl rfl rfl (Ub rfl rfl (run_move rfl rfl) ?_)
  refine Us (k:=3) (k':=4) rfl rfl rfl (Ub rfl rfl (Ul rfl rfl rfl) ?_)
  refine Us (k:=4) (k':=5) rfl rfl rfl (Ub rfl rfl (Ul rfl rfl rfl) ?_)
  refine Us (k:=5) (k':=6) rfl rfl rfl (Ub rfl rfl (run_assign rfl rfl) ?_)
  refine Us (k:=6) (k':=7) rfl rfl rfl (Ub rfl rfl (run_assign rfl rfl) ?_)
  refine U5 rfl ?_
  refine bL [(3,_),(4,_),(5,_),(6,_),(7,_)] ⟨rfl,rfl,rfl,rfl,rfl,trivial⟩ ?_
  refine U3 ?_
  refine U2 CO CN rfl rfl rfl ?_
  refine U2 ae5 CM rfl rfl rfl ?_
  refine U0 rfl ?_
  refine Us (k:=0) (k':=1) rfl rfl rfl (Ub rfl rfl (run_move rfl rfl) ?_)
  refine Us (k:=1) (k':=2) rfl rfl rfl (Ub rfl rfl (dE rfl rfl) ?_)
  refine U5 rfl ?_
  refine bL [(3,_),(4,_),(5,_),(6,_),(15,_)] ⟨rfl,rfl,rfl,rfl,rfl,trivial⟩ ?_
  refine U3 ?_
  refine lK ar7 rfl rfl rfl ?_
  refine Uf rfl ?_
  refine bL [(3,_),(4,_),(5,_),(6,_)] ⟨rfl,rfl,rfl,rfl,trivial⟩ ?_
  refine U3 ?_
  refine U2 ar4 Mk rfl rfl rfl ?_
  refine Ux rfl (by kernel_rfl) S9 5 rfl ?_
  clear S9
  refine uA (i:=1) (d:=18) 4 rfl (by kernel_rfl) (by kernel_rfl) (by kernel_rfl) rfl rfl rfl (fun w9=>U1 rfl rfl aR rfl (aB) (aA)) ?_
  refine rX (i:=2) (d:=19) 3 rfl (by kernel_rfl) (by kernel_rfl) (by kernel_rfl) rfl rfl rfl (fun M5 N4 kH nE bZ=>.inl (U4 rfl rfl av rfl (bZ.suf.ar (i:=5) rfl rfl))) ?_
  refine Un (i:=0) 2 rfl (by kernel_rfl) rfl rfl (fun lB bX=>?_)
  refine(uO rfl rfl rfl rfl rfl rfl rfl ad5 bX (ab1 bX.aD) ?_)
  intro al3 jY atJ bM F3;clear bX
  obtain⟨gmk,rfl,rfl⟩:=F3
  have bI:SH _ _ _ [_,_,_,_,_,_,_,_]:=bM;clear bM
  refine aN.grow [_] (Hp.le_refl _) bI ?_;clear bI
  change WA _ _ _ _ _ _ _ _ _ _ _ _ [_,_,_,_,_,_,_,_]
  refine Ak ?_
  refine rX (i:=3) (d:=20) 1 rfl (by kernel_rfl) (by kernel_rfl) (by kernel_rfl) rfl rfl rfl (fun M7 N6 ot Bw bY=>.inl (wz (kc:=(Value.int .i64)) (vc:=nO) (es:=uK) (k:=m.kd) (zv:=(none:Option Nat)) (i:=0) rfl rfl rfl sQ mQ ac0 bY.suf rfl)) ?_
  refine uA (i:=4) (d:=8) 0 rfl (by kernel_rfl) (by kernel_rfl) (by kernel_rfl) rfl rfl rfl (fun ma=>run_assign rfl rfl) ?_
  refine Uu (by kernel_rfl) (fun lv dB=>?_)
  refine bL [(3,_),(4,_),(5,_),(6,_),(8,_)] ⟨rfl,rfl,rfl,rfl,rfl,trivial⟩ ?_
  refine U3 ?_
  refine U2 Mj ar3 rfl rfl rfl ?_
  refine U2 ar2 ae4 rfl rfl rfl ?_
  refine jy 8 (.nilFunc) rfl (by show nO (lQ m.kd)=_;rw[hk];rfl) ?_
  refine U0 rfl ?_
  refine Us (k:=0) (k':=1) rfl rfl rfl (Ub rfl rfl (run_move rfl rfl) ?_)
  refine Us (k:=1) (k':=2) rfl rfl rfl (Ub rfl rfl (agM rfl rfl rfl ade) ?_)
  refine U5 rfl ?_
  refine bL [(3,_),(4,_),(5,_),(6,_),(8,_),(22,_)] ⟨rfl,rfl,rfl,rfl,rfl,rfl,trivial⟩ ?_
  refine U3 ?_
  refine fM Mi rfl rfl rfl ?_
  refine U2 ar1 ar0 rfl rfl rfl ?_
  refine U0 rfl ?_
  refine Us (k:=0) (k':=1) rfl rfl rfl (Ub rfl rfl (run_build (l:=[_,_]) rfl rfl cJ rfl rfl) ?_)
  refine Us (k:=1) (k':=2) rfl rfl rfl (U7 (i:=5) (us:=[_,_]) (l':=[_,_]) (H':=[_,_,_,_,_,_,_,_]) rfl rfl dB rfl rfl rfl rfl az rfl rfl rfl rfl ?_)
  intro rC dt;clear dB
  refine Us (k:=2) (k':=3) rfl rfl rfl (U7 (i:=4) (us:=[_]) (l':=[_]) (H':=[_,_,_,_,_,_,_,_]) rfl rfl dt rfl rfl rfl rfl xP rfl rfl rfl rfl ?_)
  intro oq dz;clear dt
  refine U5 rfl ?_
  refine bL [(4,_),(5,_)] ⟨rfl,rfl,trivial⟩ ?_
  refine U3 ?_
  refine Uj hC [_,_] rfl rfl ⟨⟨_,rfl,Um (us:=[_,_]) ay rfl az (dz.ax (i:=5) rfl ⟨rfl,rfl,trivial⟩)⟩,⟨_,rfl,wO uX rfl (dz.ar (i:=4) rfl rfl)⟩,trivial⟩ ?_
  refine⟨_,rfl,_,aL,(dz.pick [] [] (by decide) trivial),?_⟩
  rw[show dK d m=(⟨[],0⟩,6)from by unfold dK;rw[if_neg (by rw[hop];decide),if_pos hk]]
  exact⟨none,0,rfl,aF.dW⟩
noncomputable def Mh:=Tryz.f8.body.getD .skip
def arZ:=cL Mh
def Mg:=cR Mh
def arY:=cL Mg
def Mf:=cR Mg
def CL:=cL Mf
def CK:=cR Mf
def ae3:=cL CL
def CJ:=cR CL
def Me:=cL CJ
def arX:=cR CJ
def arW:=cL Me
def arV:=cR Me
def arU:=cL CK
def Md:=cR CK
def Mc:=cL Md
def L9:=cR Md
def arT:=cL Mc
def ae2:=cR Mc
def arS:=cR ae2
def arR:=cL L9
def L8:=cR L9
def arQ:=cL L8
def L6:=cR L8
def arP:=cL L6
def arO:=cR L6
set_option maxHeartbeats 2000000 in
set_option maxRecDepth 10000 in
theorem alI{w:World}{M:Hp}{X:Fr}(d:Dg)(m:Mv){dA:Option Addr}{dc:Nat}{f:Nat}(hk:lQ m.kd=some f)(kO:aF aG (M.un X.h) dA dc d.ae)(S:SH w M X []):Ct Tryz.prog 8 [.agg [.slice dA d.ae.length dc,.int .i64 d.loops].toArray,.agg [.int .i64 m.kd,.int .i64 m.at_,.int .i64 m.aJ,.int .i64 m.ua,.bool m.ub,.int .i64 m.va,.bool m.vb,.bool m.ov].toArray] w M X (qq (dK d m)):=by
 unfold Ct
 refine D2 (b:=Mh) Tryz.func8 rfl Tryz.ntmps8 rfl (fun C rE hC=>?_)
 refine bq [(0,_),(1,_)] ⟨rfl,rfl,trivial⟩ ?_
 refine U2 arZ Mg rfl rfl rfl ?_
 refine U0 rfl ?_
 refine Us (k:=0) (k':=1) rfl rfl rfl (bA (l:=[_,_]) rfl rfl rfl rfl rfl S ?_)
 intro aI w1 S1;clear S
 refine Us (k:=1) (k':=2) rfl rfl rfl (bA (l:=[_,_,_,_,_,_,_,_]) rfl rfl rfl rfl rfl S1 ?_)
 intro aQ w2 S2;clear S1
 refine Us (k:=2) (k':=3) rfl rfl rfl (Uh (l:=[_,_]) rfl rfl rfl fQ rfl S2 ?_)
 intro bE w3 S3;clear S2
 refine Us (k:=3) (k':=4) rfl rfl rfl (Uh (l:=[_]) rfl rfl rfl ac2 rfl S3 ?_)
 intro gY w4 S4;clear S3
 refine U5 rfl ?_
 refine bL [(2,_),(3,_),(4,_),(5,_)] ⟨rfl,rfl,rfl,rfl,trivial⟩ ?_
 refine U3 ?_
 refine U2 arY Mf rfl rfl rfl ?_
 refine U0 rfl ?_
 refine Us (k:=0) (k':=1) rfl rfl rfl (Ub rfl rfl (U8 (us:=[_,_]) rfl rfl ay rfl az (S4.ax (i:=3) rfl ⟨rfl,rfl,trivial⟩)) ?_)
 refine Us (k:=1) (k':=2) rfl rfl rfl (Ay rfl rfl rfl rfl rfl rfl rfl Hh S4 (EK d (kO.mono S4.Uw) S4.aD) ?_)
 intro Ot w5 M1 Nw5 aL S5 yl;clear S4
 replace kO:=kO.mono (Hp.Ua aL S5.mx)
 rcases yl with⟨hop,rfl,rfl⟩|⟨hop,bu,ggs,bz,iA,oA,fA,ic,oc,fc,fv,rfl,rfl,hsi,aK,cG,cF⟩
 ·have S6:SH _ _ _ [_,_,_,_]:=S5;clear S5
  refine Us (k:=2) (k':=3) rfl rfl rfl (Ub rfl rfl (run_move rfl rfl) ?_)
  refine Us (k:=3) (k':=4) rfl rfl rfl (Ub rfl rfl (Ul rfl rfl rfl) ?_)
  refine Us (k:=4) (k':=5) rfl rfl rfl (Ub rfl rfl (Ul rfl rfl rfl) ?_)
  refine Us (k:=5) (k':=6) rfl rfl rfl (Ub rfl rfl (run_assign rfl rfl) ?_)
  refine Us (k:=6) (k':=7) rfl rfl rfl (Ub rfl rfl (run_assign rfl rfl) ?_)
  refine U5 rfl ?_
  refine bL [(3,_),(4,_),(5,_),(6,_),(7,_)] ⟨rfl,rfl,rfl,rfl,rfl,trivial⟩ ?_
  refine U3 ?_
  refine U2 CL CK rfl rfl rfl ?_
  refine U2 ae3 CJ rfl rfl rfl ?_
  refine U0 rfl ?_
  refine Us (k:=0) (k':=1) rfl rfl rfl (Ub rfl rfl (run_move rfl rfl) ?_)
  refine Us (k:=1) (k':=2) rfl rfl rfl (Ub rfl rfl (dE rfl rfl) ?_)
  refine U5 rfl ?_
  refine bL [(3,_),(4,_),(5,_),(6,_),(15,_)] ⟨rfl,rfl,rfl,rfl,rfl,trivial⟩ ?_
  refine U3 ?_
  refine fM Me rfl rfl rfl ?_
  refine U2 arW arV rfl rfl rfl ?_
  refine U0 rfl ?_
  refine Us (k:=0) (k':=1) rfl rfl rfl (Ub rfl rfl (run_build (l:=[_,_]) rfl rfl cJ rfl rfl) ?_)
  refine Us (k:=1) (k':=2) rfl rfl rfl (U7 (i:=1) (us:=[_,_]) (l':=[_,_]) (H':=[_,_,_,_]) rfl rfl S6 rfl rfl rfl rfl az rfl rfl rfl rfl ?_)
  intro w6 S7;clear S6
  refine Us (k:=2) (k':=3) rfl rfl rfl (U7 (i:=0) (us:=[_]) (l':=[_]) (H':=[_,_,_,_]) rfl rfl S7 rfl rfl rfl rfl xP rfl rfl rfl rfl ?_)
  intro w7 S8;clear S7
  refine U5 rfl ?_
  refine bL [(4,_),(5,_)] ⟨rfl,rfl,trivial⟩ ?_
  refine U3 ?_
  refine Uj hC [_,_] rfl rfl ⟨⟨_,rfl,Um (us:=[_,_]) ay rfl az (S8.ax (i:=1) rfl ⟨rfl,rfl,trivial⟩)⟩,⟨_,rfl,wO uX rfl (S8.ar (i:=0) rfl rfl)⟩,trivial⟩ ?_
  refine⟨_,rfl,_,aL,(S8.pick [] [] (by decide) trivial),?_⟩
  rw[show dK d m=(⟨[],0⟩,7)from by unfold dK;rw[if_pos hop]]
  exact⟨none,0,rfl,aF.dW⟩
 ·have S9:SH _ _ _ [_,_,_,_,_,_,_]:=S5;clear S5
  obtain⟨hn,hab,hlo⟩:=ER hop
  refine Us (k:=2) (k':=3) rfl rfl rfl (Ub rfl rfl (run_move rfl rfl) ?_)
  refine Us (k:=3) (k':=4) rfl rfl rfl (Ub rfl rfl (Ul rfl rfl rfl) ?_)
  refine Us (k:=4) (k':=5) rfl rfl rfl (Ub rfl rfl (Ul rfl rfl rfl) ?_)
  refine Us (k:=5) (k':=6) rfl rfl rfl (Ub rfl rfl (run_assign rfl rfl) ?_)
  refine Us (k:=6) (k':=7) rfl rfl rfl (Ub rfl rfl (run_assign rfl rfl) ?_)
  refine U5 rfl ?_
  refine bL [(3,_),(4,_),(5,_),(6,_),(7,_)] ⟨rfl,rfl,rfl,rfl,rfl,trivial⟩ ?_
  refine U3 ?_
  refine U2 CL CK rfl rfl rfl ?_
  refine U2 ae3 CJ rfl rfl rfl ?_
  refine U0 rfl ?_
  refine Us (k:=0) (k':=1) rfl rfl rfl (Ub rfl rfl (run_move rfl rfl) ?_)
  refine Us (k:=1) (k':=2) rfl rfl rfl (Ub rfl rfl (dE rfl rfl) ?_)
  refine U5 rfl ?_
  refine bL [(3,_),(4,_),(5,_),(6,_),(15,_)] ⟨rfl,rfl,rfl,rfl,rfl,trivial⟩ ?_
  refine U3 ?_
  refine lK arX rfl rfl rfl ?_
  refine Uf rfl ?_
  refine bL [(3,_),(4,_),(5,_),(6,_)] ⟨rfl,rfl,rfl,rfl,trivial⟩ ?_
  refine U3 ?_
  refine U2 arU Md rfl rfl rfl ?_
  refine Ux rfl (by kernel_rfl) S9 5 rfl ?_
  clear S9
  refine uA (i:=1) (d:=18) 4 rfl (by kernel_rfl) (by kernel_rfl) (by kernel_rfl) rfl rfl rfl (fun w9=>U1 rfl rfl aR rfl (aB) (aA)) ?_
  refine rX (i:=2) (d:=19) 3 rfl (by kernel_rfl) (by kernel_rfl) (by kernel_rfl) rfl rfl rfl (fun M5 N4 kH nE bZ=>.inl (U4 rfl rfl av rfl (bZ.suf.ar (i:=5) rfl rfl))) ?_
  refine Un (i:=0) 2 rfl (by kernel_rfl) rfl rfl (fun lB bX=>?_)
  refine(uO rfl rfl rfl rfl rfl rfl rfl ad5 bX (ab1 bX.aD) ?_)
  intro al3 jY atJ bM F3;clear bX
  obtain⟨gmk,rfl,rfl⟩:=F3
  have bI:SH _ _ _ [_,_,_,_,_,_,_,_]:=bM;clear bM
  refine aN.grow [_] (Hp.le_refl _) bI ?_;clear bI
  change WA _ _ _ _ _ _ _ _ _ _ _ _ [_,_,_,_,_,_,_,_]
  refine Ak ?_
  refine rX (i:=3) (d:=20) 1 rfl (by kernel_rfl) (by kernel_rfl) (by kernel_rfl) rfl rfl rfl (fun M7 N6 ot Bw bY=>.inl (wz (kc:=(Value.int .i64)) (vc:=nO) (es:=uK) (k:=m.kd) (zv:=(none:Option Nat)) (i:=0) rfl rfl rfl sQ mQ ac0 bY.suf rfl)) ?_
  refine uA (i:=4) (d:=8) 0 rfl (by kernel_rfl) (by kernel_rfl) (by kernel_rfl) rfl rfl rfl (fun ma=>run_assign rfl rfl) ?_
  refine Uu (by kernel_rfl) (fun lv dB=>?_)
  refine bL [(3,_),(4,_),(5,_),(6,_),(8,_)] ⟨rfl,rfl,rfl,rfl,rfl,trivial⟩ ?_
  refine U3 ?_
  refine U2 Mc L9 rfl rfl rfl ?_
  refine U2 arT ae2 rfl rfl rfl ?_
  refine jy 8 (.func (.func f) #[] #[]) rfl (by show nO (lQ m.kd)=_;rw[hk];rfl) ?_
  refine U0 rfl ?_
  refine Us (k:=0) (k':=1) rfl rfl rfl (Ub rfl rfl (run_move rfl rfl) ?_)
  refine Us (k:=1) (k':=2) rfl rfl rfl (Ub rfl rfl (agN rfl rfl rfl ade) ?_)
  refine U5 rfl ?_
  refine bL [(3,_),(4,_),(5,_),(6,_),(8,_),(22,_)] ⟨rfl,rfl,rfl,rfl,rfl,rfl,trivial⟩ ?_
  refine U3 ?_
  refine lK arS rfl rfl rfl ?_
  refine Uf rfl ?_
  refine bL [(3,_),(4,_),(5,_),(6,_),(8,_)] ⟨rfl,rfl,rfl,rfl,rfl,trivial⟩ ?_
  refine U3 ?_
  refine U2 arR L8 rfl rfl rfl ?_
  refine U0 rfl ?_
  refine Us (k:=0) (k':=1) rfl rfl rfl (Ub rfl rfl (uu (vs:=[_,_]) rfl rfl rfl rfl) ?_)
  refine agI (k:=1) (k':=2) (cap:=[_,_]) rfl rfl rfl rfl rfl rfl rfl rfl rE ?_
  refine dX.U5 rfl ?_
  refine dX.bL [(3,_),(4,_),(5,_),(6,_),(8,_)] ⟨rfl,rfl,rfl,rfl,rfl,trivial⟩ ?_
  refine dX.U3 ?_
  refine dX.U2 arQ L6 rfl rfl rfl ?_
  refine dX.U0 rfl ?_
  refine dX.Us (k:=0) (k':=1) rfl rfl rfl (Ub rfl rfl (run_move rfl rfl) ?_)
  refine dX.Us (k:=1) (k':=2) rfl rfl rfl (Ub rfl rfl (run_move rfl rfl) ?_)
  refine dX.Us (k:=2) (k':=3) rfl rfl rfl (Ub rfl rfl (U8 (us:=[_,_,_,_,_,_,_,_]) rfl rfl aR rfl sS (dB.ax (i:=6) rfl ⟨rfl,rfl,rfl,rfl,rfl,rfl,rfl,rfl,trivial⟩)) ?_)
  have dt:=dB.pick [1,2,3,0,4,5,6,7] [_,_,_,_,_,_,_,_] (by decide) ⟨rfl,rfl,rfl,rfl,rfl,rfl,rfl,rfl,trivial⟩;clear dB
  have dz:SH _ _ _ (Rs.aW [_,_,_]::[_,_,_,_,_]):=SH.iD (A:=[_,_,_]) (B:=[_,_,_,_,_]) dt;clear dt
  have cW:SH _ _ _ [_,_,_,_,_,_]:=dz.less (i:=0) rfl
  clear cW
  have GY:=ah0 m hk d hsi aK cG cF hn hab hlo (dz.gN (i:=0) rfl)
  refine dX.ahi (k:=3) (k':=4) rfl rfl rfl rfl rfl rfl rfl rfl rfl rfl (ahF hk) (Cm.two dz rfl GY) ?_ ?_
  ·rintro _ l9 ⟨GX,M28,_,qK,cy,rfl,A28,c28,rfl,h28⟩
   clear GY dz
   replace kO:=kO.mono (Hp.Ua qK cy.mx)
   replace hsi:=hsi.mono qK
   replace aK:=aK.mono qK
   replace cG:=cG.mono qK
   replace cF:=cF.mono qK
   replace cy:SH _ _ _ (Rs.aW [_,_]::[_,_,_,_,_]):=cy
   have dL:SH _ _ _ [_,_,_,_,_,_,_]:=SH.je (A:=[_,_]) (B:=[_,_,_,_,_]) cy;clear cy
   refine dX.U5 rfl ?_
   refine dX.bL [(4,_),(5,_),(6,_)] ⟨rfl,rfl,rfl,trivial⟩ ?_
   refine dX.U3 ?_
   refine dX.U2 arP arO rfl rfl rfl ?_
   refine dX.U0 rfl ?_
   refine dX.Us (k:=0) (k':=1) rfl rfl rfl (Ub rfl rfl (run_move rfl rfl) ?_)
   refine dX.Us (k:=1) (k':=2) rfl rfl rfl (Ub rfl rfl (U9 rfl rfl) ?_)
   refine dX.Us (k:=2) (k':=3) rfl rfl rfl (Ub rfl rfl (U1 rfl rfl cz rfl (cP) (cO)) ?_)
   refine dX.Us (k:=3) (k':=4) rfl rfl rfl (Ub rfl rfl (U4 rfl rfl cE rfl (dL.ar (i:=0) rfl rfl)) ?_)
   refine dX.Us (k:=4) (k':=5) rfl rfl rfl (Ub rfl rfl (U9 rfl rfl) ?_)
   refine dX.Us (k:=5) (k':=6) rfl rfl rfl (Ub rfl rfl (U1 rfl rfl cU rfl (eF) (eB)) ?_)
   refine dX.Us (k:=6) (k':=7) rfl rfl rfl (Ub rfl rfl (U8 (us:=[_,_]) rfl rfl ay rfl az (dL.ax (i:=1) rfl ⟨rfl,rfl,trivial⟩)) ?_)
   refine dX.Us (k:=7) (k':=8) rfl rfl rfl (U7 (i:=4) (us:=[_,_]) (l':=[_,_]) (H':=[_,_,_,_,_,_,_]) rfl rfl dL rfl rfl rfl rfl az rfl rfl rfl rfl ?_)
   intro rC cK;clear dL
   refine dX.Us (k:=8) (k':=9) rfl rfl rfl (U7 (i:=3) (us:=[_]) (l':=[_]) (H':=[_,_,_,_,_,_,_]) rfl rfl cK rfl rfl rfl rfl xP rfl rfl rfl rfl ?_)
   intro oq cv;clear cK
   refine dX.U5 rfl ?_
   refine dX.bL [(4,_),(5,_)] ⟨rfl,rfl,trivial⟩ ?_
   refine dX.U3 ?_
   refine dX.Ey rfl (fun a28 yh=>?_)
   rw[hC]
   show LeavesInM Fence.wide 0 Tryz.prog Tryz.f8 a28.tmps _ a28.defers .returning _
   rw[yh.df]
   refine aaM (fun h=>by cases h) ad4 (CallsDIn.mono catchR ?_)
   rintro e9 u9 w9 ⟨rfl,rfl,rfl⟩
   refine⟨_,rfl,rfl,tup [_,_],ur yh.sy rfl ⟨⟨_,rfl,Um (us:=[_,_]) ay rfl az (cv.ax (i:=4) rfl ⟨rfl,rfl,trivial⟩)⟩,⟨_,rfl,wO uX rfl (cv.ar (i:=3) rfl rfl)⟩,trivial⟩,_,rfl,_,aL.trans qK,cv.pick [] [] (by decide) trivial,?_⟩
   rw[show dK d m=(gG d m,0)from by unfold dK;rw[if_neg (by rw[hop];decide),if_neg (by rw[hk];exact Option.some_ne_none _),if_pos GX]]
   exact⟨_,_,rfl,h28⟩
  ·rintro _ l9 ⟨GX,rfl,M28,qK,cy⟩ a28 yh
   clear GY dz
   replace cy:SH _ _ _ [_,_,_,_,_,_]:=cy
   rw[hC]
   show LeavesInM Fence.wide 0 Tryz.prog Tryz.f8 a28.tmps _ a28.defers (.panicking _) l9
   rw[yh.df]
   refine aaM (fun h=>by cases h) ad4 (CallsDIn.mono (catchP (cy.pick [3,2] [_,_] (by decide) ⟨rfl,rfl,trivial⟩)) ?_)
   rintro e9 u9 w9 ⟨rfl,hs9,S9⟩
   refine⟨_,rfl,hs9,tup [_,_],ur yh.sy rfl ⟨⟨_,rfl,Um (us:=[_,_]) ay rfl az (S9.ax (i:=0) rfl ⟨rfl,rfl,trivial⟩)⟩,⟨_,rfl,wO uX rfl (S9.ar (i:=1) rfl rfl)⟩,trivial⟩,_,rfl,M28,aL.trans qK,S9.pick [] [] (by decide) trivial,?_⟩
   rw[show dK d m=(⟨[],0⟩,gu d m)from by unfold dK;rw[if_neg (by rw[hop];decide),if_neg (by rw[hk];exact Option.some_ne_none _),if_neg GX]]
   exact⟨none,0,rfl,aF.dW⟩
end InF.G
theorem atM{w:World}{M:Hp}{X:Fr}(d:Dg)(m:Mv){dA:Option Addr}{dc:Nat}(kO:aF aG (M.un X.h) dA dc d.ae)(S:SH w M X []):Ct Tryz.prog 8 [.agg [.slice dA d.ae.length dc,.int .i64 d.loops].toArray,.agg [.int .i64 m.kd,.int .i64 m.at_,.int .i64 m.aJ,.int .i64 m.ua,.bool m.ub,.int .i64 m.va,.bool m.vb,.bool m.ov].toArray] w M X (qq (dK d m)):=by
 cases hk:lQ m.kd with
 |none=>exact InF.G.alJ d m hk kO S
 |some f=>exact InF.G.alI d m hk kO S
end Go.Proofs.YthppkofceancjaaGreat
