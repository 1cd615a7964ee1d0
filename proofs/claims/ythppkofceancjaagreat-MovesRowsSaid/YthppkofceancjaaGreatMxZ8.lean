/- Part 8 of the proof of the law MovesRows: the walks through its functions and the plain laws that they need. -/
import Derived.Test.YthppkofceancjaaGreatMxZ7
set_option linter.unusedSimpArgs false
set_option linter.unusedVariables false
noncomputable section
namespace Go.Proofs.YthppkofceancjaaGreat
open Go.ChangeShapes Go.WideShapes Go.ChangeAt Go.RowKit
def uz(gb gs:Nat)(fV iV oV:Value)(D:Dg)(u:Value)(N:Hp)(r:Rs):Prop:=u=.tuple [].toArray/\∃A c,r=Rs.aW [Rs.box gb 67 [.pointer (some ⟨gs,0,none⟩),fV],Rs.box gs 70 [.slice A D.ae.length c,.int .i64 D.loops,iV,oV]]/\aF aG N A c D.ae
def lU(d:Dg)(gs:List Nat):Int:=if(jo d (bD gs)).loops<=16 then 0 else 2
def curlN(x:Cr):Nat->Bool
 |0=>false
 |k+1=>curlN x k||decide (cD x k=cD x ((k+1)%4))
def jm(d:Dg)(m:Mv):Int:=if 0<=m.at_/\m.at_<(d.ae.length:Int)then(if curlN (ga d.ae m.at_.toNat) 4=true then lU d [m.at_.toNat]else 8)else 3
def xO(d:Dg)(m:Mv):Dg:=jo d (bD [m.at_.toNat])
theorem aiO{b:Int}(h:0<=b/\b<=3):Value.bool (decide (IntKind.i64.wrap (((BitVec.ofInt 64 b &&& BitVec.ofInt 64 2).toNat:Nat):Int)≠0))=.bool (decide (2<=b)):=by
 obtain rfl|rfl|rfl|rfl:b=0\/b=1\/b=2\/b=3:=by omega
 all_goals rfl
theorem ab0{b:Int}(h:0<=b/\b<=3):Value.bool (decide (IntKind.i64.wrap (((BitVec.ofInt 64 b &&& BitVec.ofInt 64 1).toNat:Nat):Int)≠0))=.bool (decide (b%2=1)):=by
 obtain rfl|rfl|rfl|rfl:b=0\/b=1\/b=2\/b=3:=by omega
 all_goals rfl
noncomputable def QJ:=Tryz.f116.body.getD .skip
def Zu0:=cL QJ
def QI:=cR QJ
def Zu2:=cL QI
def Zu3:=cR QI
set_option maxHeartbeats 1000000 in
set_option maxRecDepth 10000 in
theorem AK{w:World}{M:Hp}{X:Fr}(d:Dg){bu ggs:Nat}{bz:Value}{iA oA fA:Option Addr}{ic oc fc:Nat}{fv:List eT}(gone:List Int){iM:Option Addr}{iL:Nat}(hsi:aF bp M iA ic (aw d false (4*d.ae.length)))(aK:aF bp M oA oc (aw d true (4*d.ae.length)))(cG:aF (cB 141) M fA fc fv)(cF:ez bW M fv (U6 d))(gS:aF Uv (M.un X.h) iM iL gone){gs:List Nat}(ou:gone=gs.map fun x:Nat=>(x:Int))(hn:d.ae.length<=16)(hab:aX d=true)(hlo:0<=d.loops/\d.loops<=16)(S:SH w M X [Rs.aW [Rs.box bu 67 [.pointer (some ⟨ggs,0,none⟩),.slice fA fv.length fc],Rs.box ggs 70 [bz,.int .i64 d.loops,.slice iA (aw d false (4*d.ae.length)).length ic,.slice oA (aw d true (4*d.ae.length)).length oc],Rs.row aG bz d.ae]]):Cm 116 [.pointer (some ⟨bu,0,none⟩),.slice iM gone.length iL] w M X (lU d gs) (uz bu ggs (.slice fA fv.length fc) (.slice iA (aw d false (4*d.ae.length)).length ic) (.slice oA (aw d true (4*d.ae.length)).length oc) (jo d (bD gs))):=by
 unfold Cm
 replace S:=S.jT
 have abB:gone.length*8<=140737488355328:=gS.room
 obtain⟨cA,cc,cQ,_⟩:=S.sl (i:=2) rfl
 refine Up (b:=QJ) Tryz.func116 rfl Tryz.ntmps116 rfl (fun C hC=>(bq [(0,_),(1,_)] ⟨rfl,rfl,trivial⟩ (U2 Zu0 QI rfl rfl rfl (U0 rfl (ag 0 1 rfl rfl (af 1 rfl (U9 rfl rfl) (af 2 rfl (U1 rfl rfl cz rfl (cP) (cO)) (af 3 rfl (U4 rfl rfl cE rfl (S.ar (i:=0) rfl rfl)) (ag 4 1 rfl rfl ?_)))))))))
 refine ak 5 6 rfl rfl rfl (fp rfl rfl rfl rfl rfl rfl rfl anp S (agE d gone (SH.eG (N:=[]) (i:=1) S rfl (by rw[cQ])) (SH.iY (N:=[]) (i:=2) S rfl cQ (by show _*40<=_;omega)) (hsi.mono (Hp.bR _ _)) (aK.mono (Hp.bR _ _)) (gS.mono S.Uw) ou hn hab (by omega) S.aD) ?_)
 intro vw1 w1 M1 aL S1 anj;clear S
 replace hsi:=hsi.mono aL
 replace aK:=aK.mono aL
 replace cG:=cG.mono aL
 replace cF:=cF.mono aL
 replace gS:=gS.mono (Hp.Ua aL S1.mx)
 obtain⟨A1,c1,rfl,hr1⟩:=anj
 refine ak 6 7 rfl rfl rfl (Uh (l:=[_,_]) rfl rfl rfl fQ rfl S1 ?_)
 intro aI w2 S2;clear S1
 refine ak 7 8 rfl rfl rfl (U7 (i:=0) (us:=[_,_]) (l':=[_,_]) (H':=[_,_,_,_]) rfl rfl S2 rfl rfl rfl rfl az rfl rfl rfl rfl ?_)
 intro w3 S3;clear S2
 refine U5 rfl (ah [0,4] rfl (U3 (U2 Zu2 Zu3 rfl rfl rfl (U0 rfl (af 0 rfl (U1 rfl rfl ay rfl (aB) (aA)) (af 1 rfl (U4 rfl rfl av rfl (S3.ar (i:=0) rfl rfl)) (af 2 rfl (oI rfl rfl rfl) ?_)))))))
 refine Ut (t:=13) rfl (fun Gu=>?_) (fun Gu=>?_)
 ·refine ak 3 4 rfl rfl rfl (cC rfl rfl rfl rfl rfl rfl rfl dI S3 (lI 2 S3.aD) ?_)
  rintro _ w4 S4 rfl;clear S3
  refine U5 rfl (ah [0,4] rfl (U3 (Ux rfl (by kernel_rfl) S4 8 rfl ?_)))
  clear S4
  refine ai 0 7 rfl (by kernel_rfl) (fun _=>run_move rfl rfl) ?_
  refine ai 1 6 rfl (by kernel_rfl) (fun _=>U9 rfl rfl) ?_
  refine ai 2 5 rfl (by kernel_rfl) (fun _=>U1 rfl rfl cz rfl (cP) (cO)) ?_
  refine aj 3 4 rfl (by kernel_rfl) (fun _ _ _ hz Sz=>.inl (U4 rfl rfl cE rfl (Sz.suf.ar (i:=1) rfl rfl))) ?_
  refine aj 4 3 rfl (by kernel_rfl) (fun _ _ _ hz Sz=>.inl (U8 (us:=[_,_]) rfl rfl ay rfl az (Sz.suf.ax (i:=0) rfl ⟨rfl,rfl,trivial⟩))) ?_
  refine ai 5 2 rfl (by kernel_rfl) (fun _=>U9 rfl rfl) ?_
  refine ai 6 1 rfl (by kernel_rfl) (fun _=>U1 rfl rfl cU rfl (eF) (eB)) ?_
  refine Un (i:=7) 0 rfl (by kernel_rfl) rfl rfl (fun lB bZ=>?_)
  refine(U7 (i:=2) (us:=[_,_]) (l':=[_,_,_,_]) (H':=[_,_,_,_]) rfl rfl bZ rfl rfl rfl rfl az rfl rfl rfl rfl ?_)
  intro jY bN;clear bZ
  refine aN.turn (by kernel_rfl) bN ?_;clear bN
  change WA _ _ _ _ _ _ _ _ _ _ _ _ [_,_,_,_]
  refine Uu (by kernel_rfl) (fun ot bX=>?_)
  refine gI hC [] rfl trivial ?_
  have bj:lU d gs=0:=by unfold lU;rw[if_pos Gu]
  refine .inl ⟨bj,_,rfl,_,_,aL,(bX.pick [1,2] [_,_] (by decide) ⟨rfl,rfl,trivial⟩).aW,?_⟩
  exact⟨rfl,_,_,rfl,hr1⟩
 ·have bj:lU d gs=2:=by unfold lU;rw[if_neg Gu]
  refine kS (k:=3) rfl rfl rfl rfl rfl rfl rfl dI S3 (ia 2 S3.aD) ?_
  intro w9 M9 ck S9
  subst hC
  exact .inr ⟨by rw[bj];first|decide|assumption,by rw[bj],M9,(aL).trans ck,S9.pick [] [] (by decide) trivial⟩
noncomputable def QH:=Tryz.f68.body.getD .skip
def Zu5:=cL QH
def QG:=cR QH
def Zu7:=cL QG
def QF:=cR QG
def Zu9:=cL QF
def QE:=cR QF
def Zub:=cL QE
def QD:=cR QE
def QC:=cL QD
def QB:=cR QD
def Zuf:=cL QC
def Zug:=cR QC
def Zuh:=cL Zug
def QA:=cL Zuh
def Zuj:=cL QA
def Qz:=cR QA
def Qy:=cL Qz
def Qx:=cR Qz
def Zun:=cL Qy
def Zuo:=cR Qy
def Zup:=cL Qx
def Zuq:=cR Qx
def Qw:=cL Zup
def Zus:=cL Qw
def Zut:=cR Qw
def Zuu:=cL QB
def Zuv:=cR QB
set_option maxHeartbeats 1000000 in
set_option maxRecDepth 10000 in
theorem ahV{w:World}{M:Hp}{X:Fr}(d:Dg){bu ggs:Nat}{bz:Value}{iA oA fA:Option Addr}{ic oc fc:Nat}{fv:List eT}(m:Mv)(hsi:aF bp M iA ic (aw d false (4*d.ae.length)))(aK:aF bp M oA oc (aw d true (4*d.ae.length)))(cG:aF (cB 141) M fA fc fv)(cF:ez bW M fv (U6 d))(hn:d.ae.length<=16)(hab:aX d=true)(hlo:0<=d.loops/\d.loops<=16)(S:SH w M X [Rs.aW [Rs.box bu 67 [.pointer (some ⟨ggs,0,none⟩),.slice fA fv.length fc],Rs.box ggs 70 [bz,.int .i64 d.loops,.slice iA (aw d false (4*d.ae.length)).length ic,.slice oA (aw d true (4*d.ae.length)).length oc],Rs.row aG bz d.ae]]):Cm 68 [.pointer (some ⟨bu,0,none⟩),.agg [.int .i64 m.kd,.int .i64 m.at_,.int .i64 m.aJ,.int .i64 m.ua,.bool m.ub,.int .i64 m.va,.bool m.vb,.bool m.ov].toArray] w M X (jm d m) (uz bu ggs (.slice fA fv.length fc) (.slice iA (aw d false (4*d.ae.length)).length ic) (.slice oA (aw d true (4*d.ae.length)).length oc) (xO d m)):=by
 unfold Cm
 replace S:=S.jT
 obtain⟨cA,cc,cQ,_⟩:=S.sl (i:=2) rfl
 refine Up (b:=QH) Tryz.func68 rfl Tryz.ntmps68 rfl (fun C hC=>(bq [(0,_),(1,_)] ⟨rfl,rfl,trivial⟩ (U2 Zu5 QG rfl rfl rfl (U0 rfl (ak 0 1 rfl rfl rfl (bA (l:=[_,_,_,_,_,_,_,_]) rfl rfl rfl rfl rfl S ?_))))))
 intro aI w1 S1;clear S
 refine U5 rfl (ah [0,3] rfl (U3 (U2 Zu7 QF rfl rfl rfl (U0 rfl (ag 0 1 rfl rfl (af 1 rfl (U1 rfl rfl aR rfl (aB) (aA)) (af 2 rfl (U4 rfl rfl av rfl (S1.ar (i:=0) rfl rfl)) (ak 3 4 rfl rfl rfl (cC rfl rfl rfl rfl rfl rfl rfl Ga S1 (Ef d m.at_ (SH.eG (N:=[]) (i:=1) S1 rfl rfl) (SH.eG (N:=[]) (i:=2) S1 rfl (by rw[cQ])) (SH.iY (N:=[]) (i:=3) S1 rfl cQ (by show _*40<=_;omega)) (hsi.mono (Hp.bR _ _)) (aK.mono (Hp.bR _ _)) (by omega) S1.aD) ?_)))))))))
 rintro _ w2 S2 rfl;clear S1
 refine Ut (t:=10) rfl (fun xW=>?_) (fun xW=>?_)
 ·refine ak 4 5 rfl rfl rfl (cC rfl rfl rfl rfl rfl rfl rfl dI S2 (lI 3 S2.aD) ?_)
  rintro _ w3 S3 rfl;clear S2
  refine U5 rfl (ah [0,3] rfl (U3 (U2 Zu9 QE rfl rfl rfl (Ux rfl (by kernel_rfl) S3 14 rfl ?_))))
  clear S3
  refine ai 0 13 rfl (by kernel_rfl) (fun _=>run_move rfl rfl) ?_
  refine ai 1 12 rfl (by kernel_rfl) (fun _=>U9 rfl rfl) ?_
  refine ai 2 11 rfl (by kernel_rfl) (fun _=>U1 rfl rfl cz rfl (cP) (cO)) ?_
  refine aj 3 10 rfl (by kernel_rfl) (fun _ _ _ hz Sz=>.inl (U4 rfl rfl cE rfl (Sz.suf.ar (i:=1) rfl rfl))) ?_
  refine ai 4 9 rfl (by kernel_rfl) (fun _=>U9 rfl rfl) ?_
  refine ai 5 8 rfl (by kernel_rfl) (fun _=>U1 rfl rfl cU rfl (eF) (eB)) ?_
  refine ai 6 7 rfl (by kernel_rfl) (fun _=>U1 rfl rfl ay rfl (bK) (bJ)) ?_
  refine aj 7 6 rfl (by kernel_rfl) (fun _ _ _ hz Sz=>.inl (U4 rfl rfl bG rfl (Sz.suf.ar (i:=2) rfl rfl))) ?_
  refine ai 8 5 rfl (by kernel_rfl) (fun _=>U1 rfl rfl aR rfl (aB) (aA)) ?_
  refine aj 9 4 rfl (by kernel_rfl) (fun _ _ _ hz Sz=>.inl (U4 rfl rfl av rfl (Sz.suf.ar (i:=0) rfl rfl))) ?_
  refine jz 21 (.int .i64 ((m.at_.toNat:Nat):Int)) rfl (int_eq (by omega)) ?_
  refine aj 10 3 rfl (by kernel_rfl) (fun _ _ _ hz Sz=>.inl (Ui (C:=aG) (i:=3) m.at_.toNat rfl rfl rfl b8 Sz.suf rfl (by first|rfl|omega) (by first|omega|(simp only[ls];omega)))) ?_
  refine aj 11 2 rfl (by kernel_rfl) (fun _ _ _ hz Sz=>.inl (U8 (us:=[_,_,_,_,_]) rfl rfl aT rfl bT (Sz.suf.AU (i:=3) (e:=m.at_.toNat) (j:=0) rfl (by first|omega|(simp only[ls];omega)) ⟨rfl,rfl,rfl,rfl,rfl,trivial⟩))) ?_
  refine Un (i:=12) 1 rfl (by kernel_rfl) rfl rfl (fun lv bI=>?_)
  refine(Uh (l:=[_,_,_,_,_]) rfl rfl rfl kz rfl bI ?_)
  intro aQ rC bY;clear bI
  refine aN.grow [_] (Hp.le_refl _) bY ?_;clear bY
  change WA _ _ _ _ _ _ _ _ _ _ _ _ [_,_,_,_,_]
  refine Un (i:=13) 0 rfl (by kernel_rfl) rfl rfl (fun tS dB=>?_)
  refine(U7 (i:=0) (us:=[_,_,_,_,_]) (l':=[_,_,_,_,_]) (H':=[_,_,_,_,_]) rfl rfl dB rfl rfl rfl rfl bT rfl rfl rfl rfl ?_)
  intro tQ dt;clear dB
  refine aN.grow [_] (Hp.le_refl _) dt ?_;clear dt
  change WA _ _ _ _ _ _ _ _ _ _ _ _ [_,_,_,_,_]
  refine Uu (by kernel_rfl) (fun vO dz=>?_)
  refine ah [0,3,4] rfl (U3 (U2 Zub QD rfl rfl rfl (U0 rfl (ag 0 1 rfl rfl (U5 rfl (U3 (U2 QC QB rfl rfl rfl (U2 Zuf Zug rfl rfl rfl ?_))))))))
  refine U0 rfl (ag 0 1 rfl rfl (U5 rfl (U3 (Uc Zuh 0 rfl rfl rfl ?_))))
  refine Uz (fun aS au aM=>∃(s9:Nat),aS=4-s9/\Env 47 [(0,.pointer (some ⟨bu,0,none⟩)),(3,.pointer (some ⟨aI,0,none⟩)),(4,.pointer (some ⟨aQ,0,none⟩)),(5,.bool (curlN (ga d.ae m.at_.toNat) s9)),(24,.int .i64 (s9:Int))] au/\SH aM M X [Rs.box aQ 77 [.int .i64 ((ga d.ae m.at_.toNat).a),.int .i64 ((ga d.ae m.at_.toNat).b),.int .i64 ((ga d.ae m.at_.toNat).c),.int .i64 ((ga d.ae m.at_.toNat).d),.bool ((ga d.ae m.at_.toNat).plus)],Rs.box aI 28 [.int .i64 m.kd,.int .i64 m.at_,.int .i64 m.aJ,.int .i64 m.ua,.bool m.ub,.int .i64 m.va,.bool m.vb,.bool m.ov],Rs.box bu 67 [.pointer (some ⟨ggs,0,none⟩),.slice fA fv.length fc],Rs.box ggs 70 [bz,.int .i64 d.loops,.slice iA (aw d false (4*d.ae.length)).length ic,.slice oA (aw d true (4*d.ae.length)).length oc],Rs.row aG bz d.ae]/\s9<=4) rfl ?_ ?_
  ·intro au aq
   refine⟨_,⟨0,rfl,aq.sub ⟨rfl,rfl,rfl,rfl,rfl,trivial⟩,dz.pick [0,1,2,3,4] [_,_,_,_,_] (by decide) ⟨rfl,rfl,rfl,rfl,rfl,trivial⟩,?cd⟩⟩
   case cd=>omega
  ·rintro m1 a1 rB ⟨s9,rfl,bh,cW,hs9⟩
   clear dz
   refine b7 bh (c:=QA) rfl ?_
   clear bh a1
   refine U2 Zuj Qz rfl rfl rfl (U0 rfl (af 0 rfl (bV rfl rfl rfl) (U5 rfl (U3 (U2 Qy Qx rfl rfl rfl ?_)))))
   refine Ue Zun Zuo rfl rfl rfl rfl (fun tB=>?_) (fun tB=>?_)
   ·refine Uf rfl (ah [0,3,4,5,24] rfl (U3 (U2 Zup Zuq rfl rfl rfl (Uc Qw 1 rfl rfl rfl (U2 Zus Zut rfl rfl rfl (U0 rfl (ag 0 2 rfl rfl (U5 rfl ?_))))))))
    refine ah [0,3,4,5,24,6] rfl (U3 (Ux rfl (by kernel_rfl) cW 13 rfl ?_))
    clear cW
    refine ai 0 12 rfl (by kernel_rfl) (fun _=>run_move rfl rfl) ?_
    refine ai 1 11 rfl (by kernel_rfl) (fun _=>run_move rfl rfl) ?_
    refine wL (t:=28) rfl (fun GM=>?_) (fun GM=>?_)
    ·refine Ur (i:=2) (d:=29) 10 rfl (by kernel_rfl) (by kernel_rfl) (by kernel_rfl) ⟨_,_,_,rfl,rfl,rfl,rfl⟩ rfl rfl ?_
     refine Ur (i:=3) (d:=30) 9 rfl (by kernel_rfl) (by kernel_rfl) (by kernel_rfl) ⟨_,_,_,rfl,rfl,rfl,rfl⟩ rfl rfl ?_
     refine Ur (i:=4) (d:=31) 8 rfl (by kernel_rfl) (by kernel_rfl) (by kernel_rfl) ⟨_,_,_,rfl,rfl,rfl,rfl⟩ rfl rfl ?_
     refine Ur (i:=5) (d:=32) 7 rfl (by kernel_rfl) (by kernel_rfl) (by kernel_rfl) ⟨_,_,_,rfl,rfl,rfl,rfl⟩ rfl rfl ?_
     refine Ur (i:=6) (d:=33) 6 rfl (by kernel_rfl) (by kernel_rfl) (by kernel_rfl) ⟨_,_,_,rfl,rfl,rfl,rfl⟩ rfl rfl ?_
     refine Ur (i:=7) (d:=34) 5 rfl (by kernel_rfl) (by kernel_rfl) (by kernel_rfl) ⟨_,_,_,rfl,rfl,rfl,rfl⟩ rfl rfl ?_
     refine Ur (i:=8) (d:=35) 4 rfl (by kernel_rfl) (by kernel_rfl) (by kernel_rfl) ⟨_,_,_,rfl,rfl,rfl,rfl⟩ rfl rfl ?_
     refine Ur (i:=9) (d:=36) 3 rfl (by kernel_rfl) (by kernel_rfl) (by kernel_rfl) ⟨_,_,_,rfl,rfl,rfl,rfl⟩ rfl rfl ?_
     refine Ur (i:=10) (d:=37) 2 rfl (by kernel_rfl) (by kernel_rfl) (by kernel_rfl) ⟨_,_,_,rfl,rfl,rfl,rfl⟩ rfl rfl ?_
     refine ai 11 1 rfl (by kernel_rfl) (fun _=>fL rfl rfl rfl) ?_
     refine ai 12 0 rfl (by kernel_rfl) (fun _=>run_assign rfl rfl) ?_
     refine Uu (by kernel_rfl) (fun l9 cy=>?_)
     refine bk (ah [0,3,4,5,24] rfl (U3 (jy 5 (.bool (curlN (ga d.ae m.at_.toNat) (s9+1))) rfl (by show Value.bool _=Value.bool (curlN _ s9||_);rw[GM];rfl) ?_)))
     refine U0 rfl (af 0 rfl (Ug rfl rfl rfl (by first|omega|(simp only[ls];omega))) ?_)
     refine ag 1 1 rfl rfl (U5 rfl (aP ?_))
     intro au aq
     refine⟨_,?dJ,⟨s9+1,rfl,aq.sub ⟨rfl,rfl,rfl,rfl,rfl,trivial⟩,cy.pick [0,1,2,3,4] [_,_,_,_,_] (by decide) ⟨rfl,rfl,rfl,rfl,rfl,trivial⟩,?cu⟩⟩
     case cu=>omega
     case dJ=>omega
    ·refine aj 2 10 rfl (by kernel_rfl) (fun _ _ _ hz Sz=>.inl (U8 (us:=[_,_,_,_,_]) rfl rfl aT rfl bT (Sz.suf.ax (i:=0) rfl ⟨rfl,rfl,rfl,rfl,rfl,trivial⟩))) ?_
     refine ai 3 9 rfl (by kernel_rfl) (fun _=>run_move rfl rfl) ?_
     refine aj 4 8 rfl (by kernel_rfl) (fun _ _ _ hz Sz=>Uq rfl rfl rfl rfl rfl Bf Sz (Bl (ga d.ae m.at_.toNat) s9 (by omega) Sz.aD)) ?_
     refine aj 5 7 rfl (by kernel_rfl) (fun _ _ _ hz Sz=>.inl (U8 (us:=[_,_,_,_,_]) rfl rfl aT rfl bT (Sz.suf.ax (i:=0) rfl ⟨rfl,rfl,rfl,rfl,rfl,trivial⟩))) ?_
     refine ai 6 6 rfl (by kernel_rfl) (fun _=>run_move rfl rfl) ?_
     refine ai 7 5 rfl (by kernel_rfl) (fun _=>Ug rfl rfl rfl (by first|omega|(simp only[ls];omega))) ?_
     refine ai 8 4 rfl (by kernel_rfl) (fun _=>jq rfl rfl rfl (by first|omega|(simp only[ls];omega))) ?_
     refine jz 35 (.int .i64 (((s9+1)%4:Nat):Int)) rfl (int_eq (by omega)) ?_
     refine aj 9 3 rfl (by kernel_rfl) (fun _ _ _ hz Sz=>Uq rfl rfl rfl rfl rfl Bf Sz (Bl (ga d.ae m.at_.toNat) ((s9+1)%4) (by omega) Sz.aD)) ?_
     refine ai 10 2 rfl (by kernel_rfl) (fun _=>bP rfl rfl rfl) ?_
     refine ai 11 1 rfl (by kernel_rfl) (fun _=>iU rfl rfl rfl) ?_
     refine ai 12 0 rfl (by kernel_rfl) (fun _=>run_assign rfl rfl) ?_
     refine Uu (by kernel_rfl) (fun tM dG=>?_)
     refine bk (ah [0,3,4,5,24] rfl (U3 (jy 5 (.bool (curlN (ga d.ae m.at_.toNat) (s9+1))) rfl (by show Value.bool _=Value.bool (curlN _ s9||_);rw[GM];rfl) ?_)))
     refine U0 rfl (af 0 rfl (Ug rfl rfl rfl (by first|omega|(simp only[ls];omega))) ?_)
     refine ag 1 1 rfl rfl (U5 rfl (aP ?_))
     intro au aq
     refine⟨_,?kC,⟨s9+1,rfl,aq.sub ⟨rfl,rfl,rfl,rfl,rfl,trivial⟩,dG.pick [0,1,2,3,4] [_,_,_,_,_] (by decide) ⟨rfl,rfl,rfl,rfl,rfl,trivial⟩,?dO⟩⟩
     case dO=>omega
     case kC=>omega
   ·refine bS rfl rfl (ah [0,3,5] rfl (U3 (U2 Zuu Zuv rfl rfl rfl ?_)))
    obtain rfl:s9=4:=by omega
    refine U0 rfl (ag 0 1 rfl rfl ?_)
    refine mX (t:=40) rfl (fun py=>?_) (fun py=>?_)
    ·refine ak 1 2 rfl rfl rfl (cC rfl rfl rfl rfl rfl rfl rfl dI cW (lI 8 cW.aD) ?_)
     rintro _ vI gA rfl;clear cW
     refine U5 rfl (ah [0,3] rfl (U3 (U0 rfl (ag 0 1 rfl rfl (af 1 rfl (U1 rfl rfl aR rfl (aB) (aA)) (af 2 rfl (U4 rfl rfl av rfl (gA.ar (i:=1) rfl rfl)) (b6 44 (.int .i64 ((m.at_.toNat:Nat):Int)) rfl (int_eq (by omega)) ?_)))))))
     refine ak 3 4 rfl rfl rfl (iy (C:=Uv) (l:=[_]) rfl rfl rfl rfl bw rfl rfl rfl rfl gA ?_)
     intro bE tL fO;clear gA
     by_cases EE:lU d [m.at_.toNat]=0
     ·have lL:=fO.pick [3,4,5,0,1,2] [_,_,_,_,_,_] (by decide) ⟨rfl,rfl,rfl,rfl,rfl,rfl,trivial⟩;clear fO
      have fN:SH _ _ _ (Rs.aW [_,_,_]::[_,_,_]):=SH.iD (A:=[_,_,_]) (B:=[_,_,_]) lL;clear lL
      have eN:SH _ _ _ [_,_,_,_]:=fN.less (i:=0) rfl
      have hr1:=eN.EC (C:=Uv) (z:=((m.at_.toNat:Nat):Int)) (i:=1) rfl rfl (by decide)
      have gL:=AK d ([((m.at_.toNat:Nat):Int)]) hsi aK cG cF hr1 (gs:=[m.at_.toNat]) rfl hn hab hlo (fN.gN (i:=0) rfl)
      clear eN
      refine ak 4 5 rfl rfl rfl (jk (i:=0) rfl rfl rfl rfl rfl rfl rfl Be fN rfl (gL.ok EE) ?_)
      intro avr vH M30 avI xK iK jc;clear fN
      obtain⟨rfl,A1,c1,rfl,hr2⟩:=jc
      replace hsi:=hsi.mono xK
      replace aK:=aK.mono xK
      replace cG:=cG.mono xK
      replace cF:=cF.mono xK
      replace iK:SH _ _ _ (Rs.aW [_,_]::[_,_,_]):=iK
      have jQ:SH _ _ _ [_,_,_,_,_]:=SH.je (A:=[_,_]) (B:=[_,_,_]) iK;clear iK
      refine U5 rfl (gI hC [] rfl trivial ?_)
      have bj:jm d m=0:=by unfold jm;rw[if_pos xW,if_pos py];exact EE
      refine .inl ⟨bj,_,rfl,_,_,xK,(jQ.pick [0,1] [_,_] (by decide) ⟨rfl,rfl,trivial⟩).aW,?_⟩
      exact⟨rfl,_,_,rfl,hr2⟩
     ·have bj:jm d m=lU d [m.at_.toNat]:=by unfold jm;rw[if_pos xW,if_pos py]
      have iJ:=fO.pick [3,4,5,0,1,2] [_,_,_,_,_,_] (by decide) ⟨rfl,rfl,rfl,rfl,rfl,rfl,trivial⟩;clear fO
      have iI:SH _ _ _ (Rs.aW [_,_,_]::[_,_,_]):=SH.iD (A:=[_,_,_]) (B:=[_,_,_]) iJ;clear iJ
      have jP:SH _ _ _ [_,_,_,_]:=iI.less (i:=0) rfl
      have hr3:=jP.EC (C:=Uv) (z:=((m.at_.toNat:Nat):Int)) (i:=1) rfl rfl (by decide)
      have lN:=AK d ([((m.at_.toNat:Nat):Int)]) hsi aK cG cF hr3 (gs:=[m.at_.toNat]) rfl hn hab hlo (iI.gN (i:=0) rfl)
      refine kS (k:=4) rfl rfl rfl rfl rfl rfl rfl Be jP (lN.no EE) ?_
      intro w9 M9 ck S9
      subst hC
      exact .inr ⟨by rw[bj];first|decide|assumption,by rw[bj],M9,(Hp.le_refl _).trans ck,S9.pick [] [] (by decide) trivial⟩
    ·have bj:jm d m=8:=by unfold jm;rw[if_pos xW,if_neg (by rw[py];exact Bool.false_ne_true)]
     refine kS (k:=1) rfl rfl rfl rfl rfl rfl rfl dI cW (ia 8 cW.aD) ?_
     intro w9 M9 ck S9
     subst hC
     exact .inr ⟨by rw[bj];first|decide|assumption,by rw[bj],M9,(Hp.le_refl _).trans ck,S9.pick [] [] (by decide) trivial⟩
 ·have bj:jm d m=3:=by unfold jm;rw[if_neg xW]
  refine kS (k:=4) rfl rfl rfl rfl rfl rfl rfl dI S2 (ia 3 S2.aD) ?_
  intro w9 M9 ck S9
  subst hC
  exact .inr ⟨by rw[bj];first|decide|assumption,by rw[bj],M9,(Hp.le_refl _).trans ck,S9.pick [] [] (by decide) trivial⟩
end Go.Proofs.YthppkofceancjaaGreat
namespace Go.Proofs.YthppkofceancjaaGreat
open Go.ChangeShapes Go.WideShapes Go.ChangeAt Go.RowKit
section
variable {P : Program} {o : Oper} {L : List (Nat × Value)} {w : World} {x y : Operand} {t t' src dst : TypeId} {a b : Int} {k k2 : IntKind}
theorem ahs{bo:BinOp}{v:Value}(ho:o.op=.binOp bo t x y t')(hx:oev L x=some (.int k a))(hy:oev L y=some (.int k2 b))(h:∀w,(binOp bo t (.int k a) (.int k2 b)).run P w=.ok v w):Run P o L w v w:=by
 intro n c hc
 unfold execOp
 simp only[ho,hc.eval hx,hc.eval hy]
 have:∀w,(eqGuard bo t x y (.int k a) (.int k2 b)).run P w=.ok () w:=by
  intro w
  unfold eqGuard
  split<;>simp
 simp[this,h]
theorem z7(ho:o.op=.binOp .and t x y t')(hx:oev L x=some (.int k a))(hy:oev L y=some (.int k b)):Run P o L w (.int k (k.wrap ((BitVec.ofInt k.bits a &&& BitVec.ofInt k.bits b).toNat:Nat))) w:=
 ahs ho hx hy fun w=>by simp[binOp,Op.intBits]
end
end Go.Proofs.YthppkofceancjaaGreat
namespace Go.Proofs.YthppkofceancjaaGreat
open Go.ChangeShapes Go.WideShapes Go.ChangeAt Go.RowKit
def di(b0 b1 a0 a1:Int)(p:Bool):Cr:=if p=true then⟨b0,a1,b1,a0,true⟩else⟨b0,a0,b1,a1,false⟩
noncomputable def Qv:=Tryz.f113.body.getD .skip
def Zux:=cL Qv
def Qu:=cR Qv
def Zuz:=cL Qu
def Qt:=cR Qu
def Qs:=cL Qt
def Qr:=cR Qt
def Zv3:=cL Qs
def Qq:=cR Qs
def Zv5:=cL Qq
def Zv6:=cR Qq
def Zv7:=cL Qr
def Zv8:=cR Qr
set_option maxRecDepth 10000 in
theorem aco{w:World}{M:Hp}{X:Fr}(b0 b1:Int)(a0 a1:Int)(p:Bool)(S:SH w M X []):Cq Tryz.prog 113 [.agg [.int .i64 b0,.int .i64 b1].toArray,.agg [.int .i64 a0,.int .i64 a1].toArray,.bool p] w M X (fun u=>u=.agg (lD (di b0 b1 a0 a1 p)).toArray):=by
 unfold Cq
 refine Up (b:=Qv) Tryz.func113 rfl Tryz.ntmps113 rfl (fun C hC=>(bq [(0,_),(1,_),(2,_)] ⟨rfl,rfl,rfl,trivial⟩ (U2 Zux Qu rfl rfl rfl (U0 rfl (ak 0 1 rfl rfl rfl (bA (l:=[_,_]) rfl rfl rfl rfl rfl S ?_))))))
 intro aI w1 S1;clear S
 refine ak 1 2 rfl rfl rfl (bA (l:=[_,_]) rfl rfl rfl rfl rfl S1 ?_)
 intro aQ w2 S2;clear S1
 refine ak 2 3 rfl rfl rfl (Uh (l:=[_,_,_,_,_]) rfl rfl rfl kz rfl S2 ?_)
 intro bE w3 S3;clear S2
 refine U5 rfl (ah [2,3,4,6] rfl (U3 (U2 Zuz Qt rfl rfl rfl (U0 rfl (af 0 rfl (gJ (e:=0) (k:=1) rfl rfl rfl eA aY (by first|rfl|omega) (by first|omega|(simp only[ls];omega))) ?_)))))
 refine af 1 rfl (U4 rfl rfl av rfl (S3.ar (i:=2) rfl rfl)) (af 2 rfl (gJ (e:=1) (k:=1) rfl rfl rfl eA aY (by first|rfl|omega) (by first|omega|(simp only[ls];omega))) ?_)
 refine af 3 rfl (U4 rfl rfl av rfl (S3.ar (i:=2) rfl rfl)) (af 4 rfl (gJ (e:=0) (k:=1) rfl rfl rfl eA aY (by first|rfl|omega) (by first|omega|(simp only[ls];omega))) ?_)
 refine af 5 rfl (U4 rfl rfl av rfl (S3.ar (i:=1) rfl rfl)) (af 6 rfl (gJ (e:=1) (k:=1) rfl rfl rfl eA aY (by first|rfl|omega) (by first|omega|(simp only[ls];omega))) ?_)
 refine af 7 rfl (U4 rfl rfl av rfl (S3.ar (i:=1) rfl rfl)) (ag 8 1 rfl rfl (af 9 rfl (run_build (l:=[_,_,_,_,_]) rfl rfl lW rfl rfl) (ak 10 11 rfl rfl rfl (Uh (l:=[_,_,_,_,_]) rfl rfl rfl kz rfl S3 ?_))))
 intro gY w4 S4;clear S3
 refine ak 11 12 rfl rfl rfl (U7 (i:=0) (us:=[_,_,_,_,_]) (l':=[_,_,_,_,_]) (H':=[_,_,_,_]) rfl rfl S4 rfl rfl rfl rfl bT rfl rfl rfl rfl ?_)
 intro w5 S5;clear S4
 refine U5 rfl (ah [2,4,6,7] rfl (U3 (U2 Qs Qr rfl rfl rfl (U2 Zv3 Qq rfl rfl rfl (U0 rfl (ag 0 1 rfl rfl (U5 rfl (ah [4,6,7,18] rfl ?_))))))))
 refine U3 ?_
 refine cS Zv5 Zv6 rfl rfl rfl rfl (fun l5=>?_) (fun l5=>?_)
 ·have S6:=S5.pick [0,1,2,3] [_,_,_,_] (by decide) ⟨rfl,rfl,rfl,rfl,trivial⟩;clear S5
  refine ki [_] [_,_,_] rfl (by kernel_rfl) S6 8 rfl ?_
  clear S6
  change WA _ _ _ _ _ _ _ _ _ _ _ _ [_,_,_,_]
  refine aj 0 7 rfl (by kernel_rfl) (fun _ _ _ hz Sz=>.inl (gJ (e:=1) (k:=1) rfl rfl rfl eA aY (by first|rfl|omega) (by first|omega|(simp only[ls];omega)))) ?_
  refine aj 1 6 rfl (by kernel_rfl) (fun _ _ _ hz Sz=>.inl (U4 rfl rfl av rfl (Sz.suf.ar (i:=1) rfl rfl))) ?_
  refine aj 2 5 rfl (by kernel_rfl) (fun _ _ _ hz Sz=>.inl (gJ (e:=0) (k:=1) rfl rfl rfl eA aY (by first|rfl|omega) (by first|omega|(simp only[ls];omega)))) ?_
  refine aj 3 4 rfl (by kernel_rfl) (fun _ _ _ hz Sz=>.inl (U4 rfl rfl av rfl (Sz.suf.ar (i:=1) rfl rfl))) ?_
  refine ai 4 3 rfl (by kernel_rfl) (fun _=>U1 rfl rfl aT rfl (aB) (aA)) ?_
  refine Un (i:=5) 2 rfl (by kernel_rfl) rfl rfl (fun mb bZ=>?_)
  refine(U7 (i:=0) (us:=[_]) (l':=[_,_,_,_,_]) (H':=[_,_,_,_]) rfl rfl bZ rfl rfl rfl rfl aY rfl rfl rfl rfl ?_)
  intro lB bN;clear bZ
  refine aN.grow [_] (Hp.le_refl _) bN ?_;clear bN
  change WA _ _ _ _ _ _ _ _ _ _ _ _ [_,_,_,_]
  refine ai 6 1 rfl (by kernel_rfl) (fun _=>U1 rfl rfl aT rfl (aB) (aA)) ?_
  refine Un (i:=7) 0 rfl (by kernel_rfl) rfl rfl (fun ma bI=>?_)
  refine(U7 (i:=0) (us:=[_]) (l':=[_,_,_,_,_]) (H':=[_,_,_,_]) rfl rfl bI rfl rfl rfl rfl aY rfl rfl rfl rfl ?_)
  intro lv bY;clear bI
  refine aN.grow [_] (Hp.le_refl _) bY ?_;clear bY
  change WA _ _ _ _ _ _ _ _ _ _ _ _ [_,_,_,_]
  refine Uu (by kernel_rfl) (fun rC dC=>?_)
  refine ah [6,7] rfl (U3 (U2 Zv7 Zv8 rfl rfl rfl (U0 rfl (af 0 rfl (U8 (us:=[_,_,_,_,_]) rfl rfl aT rfl bT (dC.ax (i:=0) rfl ⟨rfl,rfl,rfl,rfl,rfl,trivial⟩)) (ak 1 2 rfl rfl rfl (U7 (i:=1) (us:=[_,_,_,_,_]) (l':=[_,_,_,_,_]) (H':=[_,_,_,_]) rfl rfl dC rfl rfl rfl rfl bT rfl rfl rfl rfl ?_))))))
  intro oq dB;clear dC
  refine U5 rfl (ah [6] rfl (U3 (Uj hC [_] rfl rfl ⟨⟨_,rfl,Um (us:=[_,_,_,_,_]) aT rfl bT (dB.ax (i:=1) rfl ⟨rfl,rfl,rfl,rfl,rfl,trivial⟩)⟩,trivial⟩ ?_)))
  exact⟨_,rfl,(dB.pick [] [] (by decide) trivial),(by subst l5;rfl)⟩
 ·refine Uf rfl (ah [6,7] rfl (U3 (U2 Zv7 Zv8 rfl rfl rfl (U0 rfl (af 0 rfl (U8 (us:=[_,_,_,_,_]) rfl rfl aT rfl bT (S5.ax (i:=0) rfl ⟨rfl,rfl,rfl,rfl,rfl,trivial⟩)) (ak 1 2 rfl rfl rfl (U7 (i:=1) (us:=[_,_,_,_,_]) (l':=[_,_,_,_,_]) (H':=[_,_,_,_]) rfl rfl S5 rfl rfl rfl rfl bT rfl rfl rfl rfl ?_)))))))
  intro tS dt;clear S5
  refine U5 rfl (ah [6] rfl (U3 (Uj hC [_] rfl rfl ⟨⟨_,rfl,Um (us:=[_,_,_,_,_]) aT rfl bT (dt.ax (i:=1) rfl ⟨rfl,rfl,rfl,rfl,rfl,trivial⟩)⟩,trivial⟩ ?_)))
  exact⟨_,rfl,(dt.pick [] [] (by decide) trivial),(by subst l5;rfl)⟩
theorem Ah{b:Int}(h:0<=b/\b<=3):IntKind.i64.wrap (((BitVec.ofInt 64 b &&& BitVec.ofInt 64 2).toNat:Nat):Int)≠0<->2<=b:=by
 have:=aiO h
 injection this with h1
 exact decide_eq_decide.1 h1
def fh(f0 f1 s0 s1 b:Int):Cr:=if 2<=b then di s0 s1 f0 f1 (decide (b%2=1))else di f0 f1 s0 s1 (decide (b%2=1))
def dP(d:Dg)(m:Mv):Int:=if(1<=m.at_/\m.at_<=2*(d.ae.length:Int)\/m.at_=0/\0<d.loops)/\0<=m.aJ/\m.aJ<=3 then(if(d.ae.length:Int)<16 then 0 else 2)else 3
def lh(d:Dg)(m:Mv):Dg:=if m.at_=0 then⟨d.ae++[fh (2*(d.ae.length:Int)+1) (2*(d.ae.length:Int)+2) (2*(d.ae.length:Int)+2) (2*(d.ae.length:Int)+1) m.aJ],d.loops-1⟩else⟨bg d.ae (Ud d m.at_ false).1 (Ud d m.at_ false).2 (2*(d.ae.length:Int)+2)++[fh m.at_ (2*(d.ae.length:Int)+1) (2*(d.ae.length:Int)+1) (2*(d.ae.length:Int)+2) m.aJ],d.loops⟩
noncomputable def Qp:=Tryz.f67.body.getD .skip
def Zva:=cL Qp
def Qo:=cR Qp
def Zvc:=cL Qo
def Qn:=cR Qo
def Zve:=cL Qn
def DL:=cR Qn
def Zvg:=cL DL
def DK:=cR DL
def Zvi:=cL DK
def DJ:=cR DK
def Zvk:=cL DJ
def DI:=cR DJ
def DG:=cL DI
def DF:=cR DI
def Zvo:=cL DG
def DC:=cR DG
def Qm:=cL DC
def Zvr:=cR DC
def Zvs:=cL Qm
def Zvt:=cR Qm
def DB:=cL DF
def Zvv:=cR DF
def Zvw:=cL DB
def DA:=cR DB
def Zvy:=cL DA
def Zvz:=cR DA
set_option maxHeartbeats 1000000 in
set_option maxRecDepth 10000 in
theorem ajS{w:World}{M:Hp}{X:Fr}(d:Dg){bu ggs:Nat}{bz:Value}{iA oA fA:Option Addr}{ic oc fc:Nat}{fv:List eT}(m:Mv)(hsi:aF bp M iA ic (aw d false (4*d.ae.length)))(aK:aF bp M oA oc (aw d true (4*d.ae.length)))(cG:aF (cB 141) M fA fc fv)(cF:ez bW M fv (U6 d))(hn:d.ae.length<=16)(hab:aX d=true)(hlo:0<=d.loops/\d.loops<=16)(S:SH w M X [Rs.aW [Rs.box bu 67 [.pointer (some ⟨ggs,0,none⟩),.slice fA fv.length fc],Rs.box ggs 70 [bz,.int .i64 d.loops,.slice iA (aw d false (4*d.ae.length)).length ic,.slice oA (aw d true (4*d.ae.length)).length oc],Rs.row aG bz d.ae]]):Cm 67 [.pointer (some ⟨bu,0,none⟩),.agg [.int .i64 m.kd,.int .i64 m.at_,.int .i64 m.aJ,.int .i64 m.ua,.bool m.ub,.int .i64 m.va,.bool m.vb,.bool m.ov].toArray] w M X (dP d m) (uz bu ggs (.slice fA fv.length fc) (.slice iA (aw d false (4*d.ae.length)).length ic) (.slice oA (aw d true (4*d.ae.length)).length oc) (lh d m)):=by
 unfold Cm
 replace S:=S.jT
 obtain⟨cA,cc,cQ,_⟩:=S.sl (i:=2) rfl
 refine Up (b:=Qp) Tryz.func67 rfl Tryz.ntmps67 rfl (fun C hC=>(bq [(0,_),(1,_)] ⟨rfl,rfl,trivial⟩ (U2 Zva Qo rfl rfl rfl (U0 rfl (ak 0 1 rfl rfl rfl (bA (l:=[_,_,_,_,_,_,_,_]) rfl rfl rfl rfl rfl S ?_))))))
 intro aI w1 S1;clear S
 refine U5 rfl (ah [0,3] rfl (U3 (U2 Zvc Qn rfl rfl rfl (U0 rfl (af 0 rfl (U1 rfl rfl aR rfl (aB) (aA)) (af 1 rfl (U4 rfl rfl av rfl (S1.ar (i:=0) rfl rfl)) (af 2 rfl (bP rfl rfl rfl) (ag 3 1 rfl rfl ?_))))))))
 refine Ut (t:=12) rfl (fun GU=>?_) (fun GU=>?_)
 ·refine ag 4 1 rfl rfl (aH 5 6 rfl rfl rfl rfl rfl rfl rfl rfl (Ub rfl rfl (U9 rfl rfl) (aH 6 7 rfl rfl rfl rfl rfl rfl rfl rfl (Ub rfl rfl (U1 rfl rfl cz rfl (cP) (cO)) (aH 7 8 rfl rfl rfl rfl rfl rfl rfl rfl (Ub rfl rfl (U4 rfl rfl cE rfl (S1.ar (i:=1) rfl rfl)) (aH 8 9 rfl rfl rfl rfl rfl rfl rfl rfl (Ub rfl rfl (U9 rfl rfl) (aH 9 10 rfl rfl rfl rfl rfl rfl rfl rfl (Ub rfl rfl (U1 rfl rfl cU rfl (eF) (eB)) (aH 10 11 rfl rfl rfl rfl rfl rfl rfl rfl (Ub rfl rfl (U1 rfl rfl ay rfl (aB) (aA)) (aH 11 12 rfl rfl rfl rfl rfl rfl rfl rfl (Ub rfl rfl (U4 rfl rfl av rfl (S1.ar (i:=2) rfl rfl)) (aH 12 13 rfl rfl rfl rfl rfl rfl rfl rfl (Ub rfl rfl (oW rfl rfl rfl) ?_))))))))))))))))
  refine ag 13 2 rfl rfl (U5 rfl (ah [0,3,4] rfl (U3 (U2 Zve DL rfl rfl rfl (Ux rfl (by kernel_rfl) S1 21 rfl ?_)))))
  clear S1
  refine ai 0 20 rfl (by kernel_rfl) (fun _=>run_move rfl rfl) ?_
  refine ai 1 19 rfl (by kernel_rfl) (fun _=>U9 rfl rfl) ?_
  refine ai 2 18 rfl (by kernel_rfl) (fun _=>U1 rfl rfl cz rfl (cP) (cO)) ?_
  refine aj 3 17 rfl (by kernel_rfl) (fun _ _ _ hz Sz=>.inl (U4 rfl rfl cE rfl (Sz.suf.ar (i:=1) rfl rfl))) ?_
  refine ai 4 16 rfl (by kernel_rfl) (fun _=>U1 rfl rfl aR rfl (aB) (aA)) ?_
  refine aj 5 15 rfl (by kernel_rfl) (fun _ _ _ hz Sz=>.inl (U4 rfl rfl av rfl (Sz.suf.ar (i:=0) rfl rfl))) ?_
  refine aj 6 14 rfl (by kernel_rfl) (fun _ _ _ hz Sz=>Uq rfl rfl rfl rfl rfl Bh Sz (Ai d m.at_ (SH.eG (i:=2) Sz rfl (by rw[cQ])) (SH.iY (i:=3) Sz rfl cQ (by show _*40<=_;omega)) ((hsi.mono hz).mono (Hp.bR _ _)) ((aK.mono hz).mono (Hp.bR _ _)) (by omega) Sz.aD)) ?_
  refine ai 7 13 rfl (by kernel_rfl) (fun _=>run_move rfl rfl) ?_
  refine kj (t:=30) rfl (fun mM=>?_) (fun mM=>?_)
  ·exfalso;omega
  ·refine ai 8 12 rfl (by kernel_rfl) (fun _=>run_move rfl rfl) ?_
   refine ai 9 11 rfl (by kernel_rfl) (fun _=>iU rfl rfl rfl) ?_
   refine ai 10 10 rfl (by kernel_rfl) (fun _=>run_move rfl rfl) ?_
   refine kj (t:=33) rfl (fun GL=>?_) (fun GL=>?_)
   ·refine ai 11 9 rfl (by kernel_rfl) (fun _=>U1 rfl rfl aR rfl (aB) (aA)) ?_
    refine aj 12 8 rfl (by kernel_rfl) (fun _ _ _ hz Sz=>.inl (U4 rfl rfl av rfl (Sz.suf.ar (i:=0) rfl rfl))) ?_
    refine ai 13 7 rfl (by kernel_rfl) (fun _=>kf rfl rfl rfl) ?_
    refine ai 14 6 rfl (by kernel_rfl) (fun _=>fL rfl rfl rfl) ?_
    refine ai 15 5 rfl (by kernel_rfl) (fun _=>run_move rfl rfl) ?_
    refine kj (t:=38) rfl (fun GK=>?_) (fun GK=>?_)
    ·refine ai 16 4 rfl (by kernel_rfl) (fun _=>U1 rfl rfl aR rfl (aB) (aA)) ?_
     refine aj 17 3 rfl (by kernel_rfl) (fun _ _ _ hz Sz=>.inl (U4 rfl rfl av rfl (Sz.suf.ar (i:=0) rfl rfl))) ?_
     refine ai 18 2 rfl (by kernel_rfl) (fun _=>oI rfl rfl rfl) ?_
     refine ai 19 1 rfl (by kernel_rfl) (fun _=>fL rfl rfl rfl) ?_
     refine kj (t:=42) rfl (fun Gt=>?_) (fun Gt=>?_)
     ·refine aj 20 0 rfl (by kernel_rfl) (fun _ _ _ hz Sz=>Uq rfl rfl rfl rfl rfl dI Sz (lI 3 Sz.aD)) ?_
      refine Uu (by kernel_rfl) (fun De cK=>?_)
      refine ah [0,3,4] rfl (U3 (U2 Zvg DK rfl rfl rfl (U0 rfl (ag 0 1 rfl rfl (af 1 rfl (U9 rfl rfl) (af 2 rfl (U1 rfl rfl cz rfl (cP) (cO)) (af 3 rfl (U4 rfl rfl cE rfl (cK.ar (i:=1) rfl rfl)) (af 4 rfl (U9 rfl rfl) ?_))))))))
      refine af 5 rfl (U1 rfl rfl cU rfl (eF) (eB)) (af 6 rfl (U1 rfl rfl ay rfl (bK) (bJ)) (af 7 rfl (U4 rfl rfl bG rfl (cK.ar (i:=2) rfl rfl)) (af 8 rfl (oJ (C:=aG) (i:=3) rfl rfl rfl rfl rfl rfl b8 cK rfl) (af 9 rfl (bV rfl rfl rfl) ?_))))
      refine Ut (t:=53) rfl (fun sX=>?_) (fun sX=>?_)
      ·refine ak 10 11 rfl rfl rfl (cC rfl rfl rfl rfl rfl rfl rfl dI cK (lI 2 cK.aD) ?_)
       rintro _ vN cv rfl;clear cK
       refine U5 rfl (ah [0,3,4] rfl (U3 (U2 Zvi DJ rfl rfl rfl (Ux rfl (by kernel_rfl) cv 14 rfl ?_))))
       clear cv
       refine ai 0 13 rfl (by kernel_rfl) (fun _=>run_move rfl rfl) ?_
       refine ai 1 12 rfl (by kernel_rfl) (fun _=>U9 rfl rfl) ?_
       refine ai 2 11 rfl (by kernel_rfl) (fun _=>U1 rfl rfl cz rfl (cP) (cO)) ?_
       refine aj 3 10 rfl (by kernel_rfl) (fun _ _ _ hz Sz=>.inl (U4 rfl rfl cE rfl (Sz.suf.ar (i:=1) rfl rfl))) ?_
       refine aj 4 9 rfl (by kernel_rfl) (fun _ _ _ hz Sz=>Uq rfl rfl rfl rfl rfl qO Sz (qD d (SH.eG (i:=2) Sz rfl (by rw[cQ])) (SH.iY (i:=3) Sz rfl cQ (by show _*40<=_;omega)) ((hsi.mono hz).mono (Hp.bR _ _)) ((aK.mono hz).mono (Hp.bR _ _)) (by omega) Sz.aD)) ?_
       refine ai 5 8 rfl (by kernel_rfl) (fun _=>Ug rfl rfl rfl (by first|omega|(simp only[ls];omega))) ?_
       refine ai 6 7 rfl (by kernel_rfl) (fun _=>run_move rfl rfl) ?_
       refine ai 7 6 rfl (by kernel_rfl) (fun _=>U9 rfl rfl) ?_
       refine ai 8 5 rfl (by kernel_rfl) (fun _=>U1 rfl rfl cz rfl (cP) (cO)) ?_
       refine aj 9 4 rfl (by kernel_rfl) (fun _ _ _ hz Sz=>.inl (U4 rfl rfl cE rfl (Sz.suf.ar (i:=1) rfl rfl))) ?_
       refine aj 10 3 rfl (by kernel_rfl) (fun _ _ _ hz Sz=>Uq rfl rfl rfl rfl rfl qO Sz (qD d (SH.eG (i:=2) Sz rfl (by rw[cQ])) (SH.iY (i:=3) Sz rfl cQ (by show _*40<=_;omega)) ((hsi.mono hz).mono (Hp.bR _ _)) ((aK.mono hz).mono (Hp.bR _ _)) (by omega) Sz.aD)) ?_
       refine ai 11 2 rfl (by kernel_rfl) (fun _=>Ug rfl rfl rfl (by first|omega|(simp only[ls];omega))) ?_
       refine ai 12 1 rfl (by kernel_rfl) (fun _=>run_assign rfl rfl) ?_
       refine ai 13 0 rfl (by kernel_rfl) (fun _=>run_assign rfl rfl) ?_
       refine Uu (by kernel_rfl) (fun tM dG=>?_)
       refine ah [0,3,4,5,6] rfl (U3 (U2 Zvk DI rfl rfl rfl (U0 rfl (af 0 rfl (U1 rfl rfl aR rfl (aB) (aA)) (af 1 rfl (U4 rfl rfl av rfl (dG.ar (i:=0) rfl rfl)) (ag 2 1 rfl rfl (af 3 rfl (jf (l:=[_,_]) (pl:=[(0,1),(1,1)]) rfl rfl eA jS aY rfl rfl rfl) (ag 4 2 rfl rfl ?_))))))))
       refine af 6 rfl (jf (l:=[_,_]) (pl:=[(0,1),(1,1)]) rfl rfl eA jS aY rfl rfl rfl) (ak 7 8 rfl rfl rfl (Uh (l:=[_,_]) rfl rfl rfl jS rfl dG ?_))
       intro aQ vI gA;clear dG
       refine ak 8 9 rfl rfl rfl (Uh (l:=[_,_]) rfl rfl rfl jS rfl gA ?_)
       intro bE tL fO;clear gA
       refine ak 9 10 rfl rfl rfl (U7 (i:=1) (us:=[_,_]) (l':=[_,_]) (H':=[_,_,_,_,_,_]) rfl rfl fO rfl rfl rfl rfl fx rfl rfl rfl rfl ?_)
       intro vH lL;clear fO
       refine ak 10 11 rfl rfl rfl (U7 (i:=0) (us:=[_,_]) (l':=[_,_]) (H':=[_,_,_,_,_,_]) rfl rfl lL rfl rfl rfl rfl fx rfl rfl rfl rfl ?_)
       intro yT fN;clear lL
       refine U5 rfl (ah [0,3,4,5,6,7,8] rfl (U3 (U2 DG DF rfl rfl rfl (U2 Zvo DC rfl rfl rfl (U0 rfl (ag 0 1 rfl rfl (U5 rfl (ah [0,3,5,6,7,8,74] rfl ?_))))))))
       refine U3 ?_
       refine Ue Qm Zvr rfl rfl rfl rfl (fun am1=>?_) (fun am1=>?_)
       ·refine U2 Zvs Zvt rfl rfl rfl (U0 rfl (ag 0 2 rfl rfl (af 2 rfl (jf (l:=[_,_]) (pl:=[(0,1),(1,1)]) rfl rfl eA jS aY rfl rfl rfl) (ag 3 2 rfl rfl (af 5 rfl (jf (l:=[_,_]) (pl:=[(0,1),(1,1)]) rfl rfl eA jS aY rfl rfl rfl) (ak 6 7 rfl rfl rfl (U7 (i:=1) (us:=[_,_]) (l':=[_,_]) (H':=[_,_,_,_,_,_]) rfl rfl fN rfl rfl rfl rfl fx rfl rfl rfl rfl ?_)))))))
        intro tK eN;clear fN
        refine ak 7 8 rfl rfl rfl (U7 (i:=0) (us:=[_,_]) (l':=[_,_]) (H':=[_,_,_,_,_,_]) rfl rfl eN rfl rfl rfl rfl fx rfl rfl rfl rfl ?_)
        intro Oj iK;clear eN
        refine U5 rfl (ah [0,3,7,8] rfl (U3 (U0 rfl (ag 0 1 rfl rfl (af 1 rfl (U9 rfl rfl) (af 2 rfl (U1 rfl rfl cz rfl (cP) (cO)) (af 3 rfl (U4 rfl rfl cE rfl (iK.ar (i:=3) rfl rfl)) (af 4 rfl (U9 rfl rfl) ?_))))))))
        refine af 5 rfl (U1 rfl rfl cU rfl (eF) (eB)) (af 6 rfl (U1 rfl rfl ay rfl (aB) (aA)) (af 7 rfl (U4 rfl rfl av rfl (iK.ar (i:=4) rfl rfl)) (af 8 rfl (qw rfl rfl rfl (by first|omega|(simp only[ls];omega))) ?_)))
        refine af 9 rfl (U9 rfl rfl) (af 10 rfl (U1 rfl rfl cU rfl (eF) (eB)) (af 11 rfl (U1 rfl rfl ay rfl (aB) (aA)) (ak 12 13 rfl rfl rfl (U7 (i:=4) (us:=[_]) (l':=[_,_,_,_]) (H':=[_,_,_,_,_,_]) rfl rfl iK rfl rfl rfl rfl aY rfl rfl rfl rfl ?_))))
        intro Oi jQ;clear iK
        refine U5 rfl (ah [0,3,7,8] rfl (U3 (U2 DB Zvv rfl rfl rfl ?_)))
        have hby:0<=m.aJ/\m.aJ<=3:=by omega
        refine mA (fun au aM=>∃(z0:Int) (z1:Int) (z2:Int) (z3:Int),Env 137 [(0,.pointer (some ⟨bu,0,none⟩)),(3,.pointer (some ⟨aI,0,none⟩)),(7,.pointer (some ⟨aQ,0,none⟩)),(8,.pointer (some ⟨bE,0,none⟩))] au/\SH aM M X [Rs.box bE 128 [.int .i64 z2,.int .i64 z3],Rs.box aQ 128 [.int .i64 z0,.int .i64 z1],Rs.box aI 28 [.int .i64 m.kd,.int .i64 m.at_,.int .i64 m.aJ,.int .i64 m.ua,.bool m.ub,.int .i64 m.va,.bool m.vb,.bool m.ov],Rs.box bu 67 [.pointer (some ⟨ggs,0,none⟩),.slice fA fv.length fc],Rs.box ggs 70 [bz,.int .i64 (d.loops-1),.slice iA (aw d false (4*d.ae.length)).length ic,.slice oA (aw d true (4*d.ae.length)).length oc],Rs.row aG bz d.ae]/\di z0 z1 z2 z3 (decide (m.aJ%2=1))=fh ((2*(d.ae.length:Int))+1) ((2*(d.ae.length:Int))+2) ((2*(d.ae.length:Int))+2) ((2*(d.ae.length:Int))+1) m.aJ) ?_ ?_
        ·refine U2 Zvw DA rfl rfl rfl (U0 rfl (af 0 rfl (U1 rfl rfl aR rfl (aB) (aA)) (af 1 rfl (U4 rfl rfl av rfl (jQ.ar (i:=2) rfl rfl)) (af 2 rfl (z7 rfl rfl rfl) (af 3 rfl (iT rfl rfl rfl) (U5 rfl (ah [0,3,7,8,110] rfl (U3 ?_))))))))
         refine Ue Zvy Zvz rfl rfl rfl rfl (fun nB=>?_) (fun nB=>?_)
         ·replace nB:=(Ah hby).1 nB
          refine U0 rfl (af 0 rfl (U8 (us:=[_,_]) rfl rfl eA rfl fx (jQ.ax (i:=0) rfl ⟨rfl,rfl,trivial⟩)) (af 1 rfl (U8 (us:=[_,_]) rfl rfl eA rfl fx (jQ.ax (i:=1) rfl ⟨rfl,rfl,trivial⟩)) (ak 2 3 rfl rfl rfl (U7 (i:=1) (us:=[_,_]) (l':=[_,_]) (H':=[_,_,_,_,_,_]) rfl rfl jQ rfl rfl rfl rfl fx rfl rfl rfl rfl ?_))))
          intro Og iI;clear jQ
          refine ak 3 4 rfl rfl rfl (U7 (i:=0) (us:=[_,_]) (l':=[_,_]) (H':=[_,_,_,_,_,_]) rfl rfl iI rfl rfl rfl rfl fx rfl rfl rfl rfl ?_)
          intro Dd jP;clear iI
          refine U5 rfl (aP ?_)
          intro au aq
          refine⟨(2*(d.ae.length:Int))+2,(2*(d.ae.length:Int))+1,(2*(d.ae.length:Int))+1,(2*(d.ae.length:Int))+2,aq.sub ⟨rfl,rfl,rfl,rfl,trivial⟩,jP.pick [0,1,2,3,4,5] [_,_,_,_,_,_] (by decide) ⟨rfl,rfl,rfl,rfl,rfl,rfl,trivial⟩,?cd⟩
          case cd=>(unfold fh;rw[if_pos (by omega)])
         ·replace nB:=fun h=>nB ((Ah hby).2 h)
          refine Uf rfl (aP ?_)
          intro au aq
          refine⟨(2*(d.ae.length:Int))+1,(2*(d.ae.length:Int))+2,(2*(d.ae.length:Int))+2,(2*(d.ae.length:Int))+1,aq.sub ⟨rfl,rfl,rfl,rfl,trivial⟩,jQ.pick [0,1,2,3,4,5] [_,_,_,_,_,_] (by decide) ⟨rfl,rfl,rfl,rfl,rfl,rfl,trivial⟩,?cu⟩
          case cu=>(unfold fh;rw[if_neg (by omega)])
        ·rintro a1 Oh ⟨z0,z1,z2,z3,bh,iJ,hzz⟩
         clear jQ
         refine mG bh ?_
         clear bh a1
         refine U3 ?_
         have jh:=iJ.pick [5,0,1,2,3,4] [_,_,_,_,_,_] (by decide) ⟨rfl,rfl,rfl,rfl,rfl,rfl,trivial⟩;clear iJ
         refine ki [_] [_,_,_,_,_] rfl (by kernel_rfl) jh 25 rfl ?_
         clear jh
         change WA _ _ _ _ _ _ _ _ _ _ _ _ [_,_,_,_,_,_]
         refine ai 0 24 rfl (by kernel_rfl) (fun _=>run_move rfl rfl) ?_
         refine ai 1 23 rfl (by kernel_rfl) (fun _=>U9 rfl rfl) ?_
         refine ai 2 22 rfl (by kernel_rfl) (fun _=>U1 rfl rfl cz rfl (cP) (cO)) ?_
         refine aj 3 21 rfl (by kernel_rfl) (fun _ _ _ hz Sz=>.inl (U4 rfl rfl cE rfl (Sz.suf.ar (i:=3) rfl rfl))) ?_
         refine ai 4 20 rfl (by kernel_rfl) (fun _=>run_move rfl rfl) ?_
         refine ai 5 19 rfl (by kernel_rfl) (fun _=>U9 rfl rfl) ?_
         refine ai 6 18 rfl (by kernel_rfl) (fun _=>U1 rfl rfl cz rfl (cP) (cO)) ?_
         refine aj 7 17 rfl (by kernel_rfl) (fun _ _ _ hz Sz=>.inl (U4 rfl rfl cE rfl (Sz.suf.ar (i:=3) rfl rfl))) ?_
         refine ai 8 16 rfl (by kernel_rfl) (fun _=>U9 rfl rfl) ?_
         refine ai 9 15 rfl (by kernel_rfl) (fun _=>U1 rfl rfl cU rfl (eF) (eB)) ?_
         refine ai 10 14 rfl (by kernel_rfl) (fun _=>U1 rfl rfl ay rfl (bK) (bJ)) ?_
         refine aj 11 13 rfl (by kernel_rfl) (fun _ _ _ hz Sz=>.inl (U4 rfl rfl bG rfl (Sz.suf.ar (i:=4) rfl rfl))) ?_
         refine aj 12 12 rfl (by kernel_rfl) (fun _ _ _ hz Sz=>.inl (U8 (us:=[_,_]) rfl rfl eA rfl fx (Sz.suf.ax (i:=1) rfl ⟨rfl,rfl,trivial⟩))) ?_
         refine aj 13 11 rfl (by kernel_rfl) (fun _ _ _ hz Sz=>.inl (U8 (us:=[_,_]) rfl rfl eA rfl fx (Sz.suf.ax (i:=0) rfl ⟨rfl,rfl,trivial⟩))) ?_
         refine ai 14 10 rfl (by kernel_rfl) (fun _=>U1 rfl rfl aR rfl (aB) (aA)) ?_
         refine aj 15 9 rfl (by kernel_rfl) (fun _ _ _ hz Sz=>.inl (U4 rfl rfl av rfl (Sz.suf.ar (i:=2) rfl rfl))) ?_
         refine ai 16 8 rfl (by kernel_rfl) (fun _=>z7 rfl rfl rfl) ?_
         refine ai 17 7 rfl (by kernel_rfl) (fun _=>iT rfl rfl rfl) ?_
         refine jz 130 (.bool (decide (m.aJ%2=1))) rfl (ab0 hby) (aj 18 6 rfl (by kernel_rfl) (fun _ _ _ hz Sz=>Uq rfl rfl rfl rfl rfl acV Sz (aco z0 z1 z2 z3 (decide (m.aJ%2=1)) Sz.aD)) ?_)
         refine Un (i:=19) 5 rfl (by kernel_rfl) rfl rfl (fun Db jw=>?_)
         refine(iy (C:=aG) (l:=[_,_,_,_,_]) rfl rfl rfl rfl b8 rfl rfl rfl rfl jw ?_)
         intro gY C9 kT;clear jw
         refine aN.grow [_,_] (Hp.le_refl _) kT ?_;clear kT
         change WA _ _ _ _ _ _ _ _ _ _ _ _ [_,_,_,_,_,_,_]
         refine Un (i:=20) 4 rfl (by kernel_rfl) rfl rfl (fun N5 nV=>?_)
         refine(jg (C:=aG) (i:=1) (q:=0) (⟨(di z0 z1 z2 z3 (decide (m.aJ%2=1))).a,(di z0 z1 z2 z3 (decide (m.aJ%2=1))).b,(di z0 z1 z2 z3 (decide (m.aJ%2=1))).c,(di z0 z1 z2 z3 (decide (m.aJ%2=1))).d,(di z0 z1 z2 z3 (decide (m.aJ%2=1))).plus⟩:Cr) rfl rfl rfl rfl rfl rfl rfl rfl b8 nV rfl rfl rfl (by show(_+1)*40<=_;first|omega|(simp only[ls];omega)) ?_)
         intro al8 w75 rV;clear nV
         have nU:=rV.pick [1,2,3,4,5,6] [_,_,_,_,_,_] (by decide) ⟨rfl,rfl,rfl,rfl,rfl,rfl,trivial⟩;clear rV
         refine aN.grow [_] (Hp.le_refl _) nU ?_;clear nU
         change WA _ _ _ _ _ _ _ _ _ _ _ _ [_,_,_,_,_,_]
         refine ai 21 3 rfl (by kernel_rfl) (fun _=>U9 rfl rfl) ?_
         refine ai 22 2 rfl (by kernel_rfl) (fun _=>U1 rfl rfl cU rfl (eF) (eB)) ?_
         refine ai 23 1 rfl (by kernel_rfl) (fun _=>U1 rfl rfl ay rfl (bK) (bJ)) ?_
         refine Un (i:=24) 0 rfl (by kernel_rfl) rfl rfl (fun w80 jM=>?_)
         refine(U7 (i:=5) (us:=[_]) (l':=[_,_,_,_]) (H':=[_,_,_,_,_,_]) rfl rfl jM rfl rfl rfl (jM.jx (i:=0) rfl) kZ rfl (Uy (jM.one (i:=0) rfl) rfl) rfl rfl ?_)
         intro w81 oM;clear jM
         refine aN.turn (by kernel_rfl) oM ?_;clear oM
         change WA _ _ _ _ _ _ _ _ _ _ _ _ [_,_,_,_,_,_]
         refine Uu (by kernel_rfl) (fun w82 ju=>?_)
         refine gI hC [] rfl trivial ?_
         obtain⟨M63,xJ,qm,⟨A1,c1,e1,hr1⟩⟩:=ju.fZ (i:=0) (H':=[_,_,_,_,_,_]) rfl rfl (by show _*40<=_;first|omega|(simp only[ls];omega))
         clear ju;subst e1
         replace hsi:=hsi.mono xJ
         replace aK:=aK.mono xJ
         replace cG:=cG.mono xJ
         replace cF:=cF.mono xJ
         have bj:dP d m=0:=by unfold dP;rw[if_pos (by omega),if_pos sX]
         refine .inl ⟨bj,_,rfl,_,_,xJ,(qm.pick [4,5] [_,_] (by decide) ⟨rfl,rfl,trivial⟩).aW,?_⟩
         have e8:lh d m=⟨d.ae++[(⟨(di z0 z1 z2 z3 (decide (m.aJ%2=1))).a,(di z0 z1 z2 z3 (decide (m.aJ%2=1))).b,(di z0 z1 z2 z3 (decide (m.aJ%2=1))).c,(di z0 z1 z2 z3 (decide (m.aJ%2=1))).d,(di z0 z1 z2 z3 (decide (m.aJ%2=1))).plus⟩:Cr)],d.loops-1⟩:=by unfold lh;rw[if_pos (by omega),<-hzz]
         rw[e8]
         exact⟨rfl,_,_,rfl,hr1⟩
       ·exfalso;omega
      ·have bj:dP d m=2:=by unfold dP;rw[if_pos (by omega),if_neg sX]
       refine kS (k:=10) rfl rfl rfl rfl rfl rfl rfl dI cK (ia 2 cK.aD) ?_
       intro w9 M9 ck S9
       subst hC
       exact .inr ⟨by rw[bj];first|decide|assumption,by rw[bj],M9,(Hp.le_refl _).trans ck,S9.pick [] [] (by decide) trivial⟩
     ·have bj:dP d m=3:=by unfold dP;rw[if_neg (by omega)]
      refine oK (i:=20) 0 rfl (by kernel_rfl) rfl rfl rfl rfl rfl rfl rfl dI (fun w9 S9=>ia 3 S9.aD) ?_
      intro w9 M9 ck S9
      subst hC
      exact .inr ⟨by rw[bj];first|decide|assumption,by rw[bj],M9,(Hp.le_refl _).trans ck,S9.pick [] [] (by decide) trivial⟩
    ·refine Ur (i:=16) (d:=39) 4 rfl (by kernel_rfl) (by kernel_rfl) (by kernel_rfl) ⟨_,_,_,rfl,rfl,rfl,rfl⟩ rfl rfl ?_
     refine Ur (i:=17) (d:=40) 3 rfl (by kernel_rfl) (by kernel_rfl) (by kernel_rfl) ⟨_,_,_,rfl,rfl,rfl,rfl⟩ rfl rfl ?_
     refine Ur (i:=18) (d:=41) 2 rfl (by kernel_rfl) (by kernel_rfl) (by kernel_rfl) ⟨_,_,_,rfl,rfl,rfl,rfl⟩ rfl rfl ?_
     refine ai 19 1 rfl (by kernel_rfl) (fun _=>iU rfl rfl rfl) ?_
     have bj:dP d m=3:=by unfold dP;rw[if_neg (by omega)]
     refine oK (i:=20) 0 rfl (by kernel_rfl) rfl rfl rfl rfl rfl rfl rfl dI (fun w9 S9=>ia 3 S9.aD) ?_
     intro w9 M9 ck S9
     subst hC
     exact .inr ⟨by rw[bj];first|decide|assumption,by rw[bj],M9,(Hp.le_refl _).trans ck,S9.pick [] [] (by decide) trivial⟩
   ·refine Ur (i:=11) (d:=34) 9 rfl (by kernel_rfl) (by kernel_rfl) (by kernel_rfl) ⟨_,_,_,rfl,rfl,rfl,rfl⟩ rfl rfl ?_
    refine Ur (i:=12) (d:=35) 8 rfl (by kernel_rfl) (by kernel_rfl) (by kernel_rfl) ⟨_,_,_,rfl,rfl,rfl,rfl⟩ rfl rfl ?_
    refine Ur (i:=13) (d:=36) 7 rfl (by kernel_rfl) (by kernel_rfl) (by kernel_rfl) ⟨_,_,_,rfl,rfl,rfl,rfl⟩ rfl rfl ?_
    refine ai 14 6 rfl (by kernel_rfl) (fun _=>iU rfl rfl rfl) ?_
    refine ai 15 5 rfl (by kernel_rfl) (fun _=>run_move rfl rfl) ?_
    refine Ur (i:=16) (d:=39) 4 rfl (by kernel_rfl) (by kernel_rfl) (by kernel_rfl) ⟨_,_,_,rfl,rfl,rfl,rfl⟩ rfl rfl ?_
    refine Ur (i:=17) (d:=40) 3 rfl (by kernel_rfl) (by kernel_rfl) (by kernel_rfl) ⟨_,_,_,rfl,rfl,rfl,rfl⟩ rfl rfl ?_
    refine Ur (i:=18) (d:=41) 2 rfl (by kernel_rfl) (by kernel_rfl) (by kernel_rfl) ⟨_,_,_,rfl,rfl,rfl,rfl⟩ rfl rfl ?_
    refine ai 19 1 rfl (by kernel_rfl) (fun _=>iU rfl rfl rfl) ?_
    have bj:dP d m=3:=by unfold dP;rw[if_neg (by omega)]
    refine oK (i:=20) 0 rfl (by kernel_rfl) rfl rfl rfl rfl rfl rfl rfl dI (fun w9 S9=>ia 3 S9.aD) ?_
    intro w9 M9 ck S9
    subst hC
    exact .inr ⟨by rw[bj];first|decide|assumption,by rw[bj],M9,(Hp.le_refl _).trans ck,S9.pick [] [] (by decide) trivial⟩
 ·refine ag 4 6 rfl rfl (ag 10 5 rfl rfl (U5 rfl (ah [0,3,4] rfl (U3 (U2 Zve DL rfl rfl rfl (Ux rfl (by kernel_rfl) S1 21 rfl ?_))))))
  clear S1
  refine ai 0 20 rfl (by kernel_rfl) (fun _=>run_move rfl rfl) ?_
  refine ai 1 19 rfl (by kernel_rfl) (fun _=>U9 rfl rfl) ?_
  refine ai 2 18 rfl (by kernel_rfl) (fun _=>U1 rfl rfl cz rfl (cP) (cO)) ?_
  refine aj 3 17 rfl (by kernel_rfl) (fun _ _ _ hz Sz=>.inl (U4 rfl rfl cE rfl (Sz.suf.ar (i:=1) rfl rfl))) ?_
  refine ai 4 16 rfl (by kernel_rfl) (fun _=>U1 rfl rfl aR rfl (aB) (aA)) ?_
  refine aj 5 15 rfl (by kernel_rfl) (fun _ _ _ hz Sz=>.inl (U4 rfl rfl av rfl (Sz.suf.ar (i:=0) rfl rfl))) ?_
  refine aj 6 14 rfl (by kernel_rfl) (fun _ _ _ hz Sz=>Uq rfl rfl rfl rfl rfl Bh Sz (Ai d m.at_ (SH.eG (i:=2) Sz rfl (by rw[cQ])) (SH.iY (i:=3) Sz rfl cQ (by show _*40<=_;omega)) ((hsi.mono hz).mono (Hp.bR _ _)) ((aK.mono hz).mono (Hp.bR _ _)) (by omega) Sz.aD)) ?_
  refine ai 7 13 rfl (by kernel_rfl) (fun _=>run_move rfl rfl) ?_
  refine kj (t:=30) rfl (fun mM=>?_) (fun mM=>?_)
  ·refine Ur (i:=8) (d:=31) 12 rfl (by kernel_rfl) (by kernel_rfl) (by kernel_rfl) ⟨_,_,_,rfl,rfl,rfl,rfl⟩ rfl rfl ?_
   refine ai 9 11 rfl (by kernel_rfl) (fun _=>fL rfl rfl rfl) ?_
   refine ai 10 10 rfl (by kernel_rfl) (fun _=>run_move rfl rfl) ?_
   refine ai 11 9 rfl (by kernel_rfl) (fun _=>U1 rfl rfl aR rfl (aB) (aA)) ?_
   refine aj 12 8 rfl (by kernel_rfl) (fun _ _ _ hz Sz=>.inl (U4 rfl rfl av rfl (Sz.suf.ar (i:=0) rfl rfl))) ?_
   refine ai 13 7 rfl (by kernel_rfl) (fun _=>kf rfl rfl rfl) ?_
   refine ai 14 6 rfl (by kernel_rfl) (fun _=>fL rfl rfl rfl) ?_
   refine ai 15 5 rfl (by kernel_rfl) (fun _=>run_move rfl rfl) ?_
   refine kj (t:=38) rfl (fun GK=>?_) (fun GK=>?_)
   ·refine ai 16 4 rfl (by kernel_rfl) (fun _=>U1 rfl rfl aR rfl (aB) (aA)) ?_
    refine aj 17 3 rfl (by kernel_rfl) (fun _ _ _ hz Sz=>.inl (U4 rfl rfl av rfl (Sz.suf.ar (i:=0) rfl rfl))) ?_
    refine ai 18 2 rfl (by kernel_rfl) (fun _=>oI rfl rfl rfl) ?_
    refine ai 19 1 rfl (by kernel_rfl) (fun _=>fL rfl rfl rfl) ?_
    refine kj (t:=42) rfl (fun Gt=>?_) (fun Gt=>?_)
    ·refine aj 20 0 rfl (by kernel_rfl) (fun _ _ _ hz Sz=>Uq rfl rfl rfl rfl rfl dI Sz (lI 3 Sz.aD)) ?_
     refine Uu (by kernel_rfl) (fun ac7 lu=>?_)
     refine ah [0,3,4] rfl (U3 (U2 Zvg DK rfl rfl rfl (U0 rfl (ag 0 1 rfl rfl (af 1 rfl (U9 rfl rfl) (af 2 rfl (U1 rfl rfl cz rfl (cP) (cO)) (af 3 rfl (U4 rfl rfl cE rfl (lu.ar (i:=1) rfl rfl)) (af 4 rfl (U9 rfl rfl) ?_))))))))
     refine af 5 rfl (U1 rfl rfl cU rfl (eF) (eB)) (af 6 rfl (U1 rfl rfl ay rfl (bK) (bJ)) (af 7 rfl (U4 rfl rfl bG rfl (lu.ar (i:=2) rfl rfl)) (af 8 rfl (oJ (C:=aG) (i:=3) rfl rfl rfl rfl rfl rfl b8 lu rfl) (af 9 rfl (bV rfl rfl rfl) ?_))))
     refine Ut (t:=53) rfl (fun sX=>?_) (fun sX=>?_)
     ·refine ak 10 11 rfl rfl rfl (cC rfl rfl rfl rfl rfl rfl rfl dI lu (lI 2 lu.aD) ?_)
      rintro _ ac6 rA rfl;clear lu
      refine U5 rfl (ah [0,3,4] rfl (U3 (U2 Zvi DJ rfl rfl rfl (Ux rfl (by kernel_rfl) rA 14 rfl ?_))))
      clear rA
      refine ai 0 13 rfl (by kernel_rfl) (fun _=>run_move rfl rfl) ?_
      refine ai 1 12 rfl (by kernel_rfl) (fun _=>U9 rfl rfl) ?_
      refine ai 2 11 rfl (by kernel_rfl) (fun _=>U1 rfl rfl cz rfl (cP) (cO)) ?_
      refine aj 3 10 rfl (by kernel_rfl) (fun _ _ _ hz Sz=>.inl (U4 rfl rfl cE rfl (Sz.suf.ar (i:=1) rfl rfl))) ?_
      refine aj 4 9 rfl (by kernel_rfl) (fun _ _ _ hz Sz=>Uq rfl rfl rfl rfl rfl qO Sz (qD d (SH.eG (i:=2) Sz rfl (by rw[cQ])) (SH.iY (i:=3) Sz rfl cQ (by show _*40<=_;omega)) ((hsi.mono hz).mono (Hp.bR _ _)) ((aK.mono hz).mono (Hp.bR _ _)) (by omega) Sz.aD)) ?_
      refine ai 5 8 rfl (by kernel_rfl) (fun _=>Ug rfl rfl rfl (by first|omega|(simp only[ls];omega))) ?_
      refine ai 6 7 rfl (by kernel_rfl) (fun _=>run_move rfl rfl) ?_
      refine ai 7 6 rfl (by kernel_rfl) (fun _=>U9 rfl rfl) ?_
      refine ai 8 5 rfl (by kernel_rfl) (fun _=>U1 rfl rfl cz rfl (cP) (cO)) ?_
      refine aj 9 4 rfl (by kernel_rfl) (fun _ _ _ hz Sz=>.inl (U4 rfl rfl cE rfl (Sz.suf.ar (i:=1) rfl rfl))) ?_
      refine aj 10 3 rfl (by kernel_rfl) (fun _ _ _ hz Sz=>Uq rfl rfl rfl rfl rfl qO Sz (qD d (SH.eG (i:=2) Sz rfl (by rw[cQ])) (SH.iY (i:=3) Sz rfl cQ (by show _*40<=_;omega)) ((hsi.mono hz).mono (Hp.bR _ _)) ((aK.mono hz).mono (Hp.bR _ _)) (by omega) Sz.aD)) ?_
      refine ai 11 2 rfl (by kernel_rfl) (fun _=>Ug rfl rfl rfl (by first|omega|(simp only[ls];omega))) ?_
      refine ai 12 1 rfl (by kernel_rfl) (fun _=>run_assign rfl rfl) ?_
      refine ai 13 0 rfl (by kernel_rfl) (fun _=>run_assign rfl rfl) ?_
      refine Uu (by kernel_rfl) (fun ac5 iE=>?_)
      refine ah [0,3,4,5,6] rfl (U3 (U2 Zvk DI rfl rfl rfl (U0 rfl (af 0 rfl (U1 rfl rfl aR rfl (aB) (aA)) (af 1 rfl (U4 rfl rfl av rfl (iE.ar (i:=0) rfl rfl)) (ag 2 1 rfl rfl (af 3 rfl (jf (l:=[_,_]) (pl:=[(0,1),(1,1)]) rfl rfl eA jS aY rfl rfl rfl) (ag 4 2 rfl rfl ?_))))))))
      refine af 6 rfl (jf (l:=[_,_]) (pl:=[(0,1),(1,1)]) rfl rfl eA jS aY rfl rfl rfl) (ak 7 8 rfl rfl rfl (Uh (l:=[_,_]) rfl rfl rfl jS rfl iE ?_))
      intro iq alX pP;clear iE
      refine ak 8 9 rfl rfl rfl (Uh (l:=[_,_]) rfl rfl rfl jS rfl pP ?_)
      intro rJ avc ry;clear pP
      refine ak 9 10 rfl rfl rfl (U7 (i:=1) (us:=[_,_]) (l':=[_,_]) (H':=[_,_,_,_,_,_]) rfl rfl ry rfl rfl rfl rfl fx rfl rfl rfl rfl ?_)
      intro alW rq;clear ry
      refine ak 10 11 rfl rfl rfl (U7 (i:=0) (us:=[_,_]) (l':=[_,_]) (H':=[_,_,_,_,_,_]) rfl rfl rq rfl rfl rfl rfl fx rfl rfl rfl rfl ?_)
      intro alV C4;clear rq
      refine U5 rfl (ah [0,3,4,5,6,7,8] rfl (U3 (U2 DG DF rfl rfl rfl (U2 Zvo DC rfl rfl rfl (U0 rfl (ag 0 1 rfl rfl (U5 rfl (ah [0,3,5,6,7,8,74] rfl ?_))))))))
      refine U3 (lK Zvr rfl rfl rfl (Ux rfl (by kernel_rfl) C4 14 rfl ?_))
      clear C4
      refine ai 0 13 rfl (by kernel_rfl) (fun _=>run_move rfl rfl) ?_
      refine ai 1 12 rfl (by kernel_rfl) (fun _=>run_move rfl rfl) ?_
      refine ai 2 11 rfl (by kernel_rfl) (fun _=>U9 rfl rfl) ?_
      refine ai 3 10 rfl (by kernel_rfl) (fun _=>U1 rfl rfl cz rfl (cP) (cO)) ?_
      refine aj 4 9 rfl (by kernel_rfl) (fun _ _ _ hz Sz=>.inl (U4 rfl rfl cE rfl (Sz.suf.ar (i:=3) rfl rfl))) ?_
      refine ai 5 8 rfl (by kernel_rfl) (fun _=>U9 rfl rfl) ?_
      refine ai 6 7 rfl (by kernel_rfl) (fun _=>U1 rfl rfl cU rfl (nK) (nD)) ?_
      refine aj 7 6 rfl (by kernel_rfl) (fun _ _ _ hz Sz=>.inl (U4 rfl rfl lT rfl (Sz.suf.ar (i:=4) rfl rfl))) ?_
      refine ai 8 5 rfl (by kernel_rfl) (fun _=>U1 rfl rfl aR rfl (aB) (aA)) ?_
      refine aj 9 4 rfl (by kernel_rfl) (fun _ _ _ hz Sz=>.inl (U4 rfl rfl av rfl (Sz.suf.ar (i:=2) rfl rfl))) ?_
      obtain⟨bh,cx,hge,_⟩:=fe hab (a:=m.at_) (by omega) false
      have hlt:=fK d false (4*d.ae.length)
      refine jz 102 (.int .i64 ((m.at_.toNat:Nat):Int)) rfl (int_eq (by omega)) ?_
      refine aj 10 3 rfl (by kernel_rfl) (fun _ _ _ hz Sz=>.inl (Uk (C:=bp) m.at_.toNat rfl rfl rfl nC (by first|rfl|omega) (hsi.mono hz) (by first|omega|(simp only[ls];omega)))) ?_
      refine aj 11 2 rfl (by kernel_rfl) (fun _ _ _ hz Sz=>.inl (U8 (us:=[_,_]) rfl rfl ct rfl dH ((hsi.mono hz).fq Sz.m (e:=m.at_.toNat) (by first|omega|(simp only[ls];omega)) (j:=0) ⟨rfl,rfl,trivial⟩))) ?_
      refine ai 12 1 rfl (by kernel_rfl) (fun _=>run_move rfl rfl) ?_
      refine Un (i:=13) 0 rfl (by kernel_rfl) rfl rfl (fun alT rf=>?_)
      have ra:=rf.pick [3,4,5,0,1,2] [_,_,_,_,_,_] (by decide) ⟨rfl,rfl,rfl,rfl,rfl,rfl,trivial⟩;clear rf
      have nM:SH _ _ _ (Rs.aW [_,_,_]::[_,_,_]):=SH.iD (A:=[_,_,_]) (B:=[_,_,_]) ra;clear ra
      have q9:SH _ _ _ [_,_,_,_]:=nM.less (i:=0) rfl
      have gL:=Bk d.ae ((ga (aw d false (4*d.ae.length)) m.at_.toNat).1) ((ga (aw d false (4*d.ae.length)) m.at_.toNat).2) ((2*(d.ae.length:Int))+2) (by rw[hge];exact bh) (by rw[hge];exact cx) (nM.gN (i:=0) rfl);clear q9
      refine(jk (i:=0) rfl rfl rfl rfl rfl rfl rfl Bg nM rfl gL ?_)
      intro at2 alS awb aud atW nL jc;clear nM
      obtain⟨kq,gX,kP⟩:=jc
      rw[gX]at nL
      clear gX
      subst kq
      subst kP
      replace nL:SH _ _ _ (Rs.aW [_,_,_]::[_,_,_]):=nL
      have q8:SH _ _ _ [_,_,_,_,_,_]:=SH.je (A:=[_,_,_]) (B:=[_,_,_]) nL;clear nL
      refine aN.turn (by kernel_rfl) q8 ?_;clear q8
      change WA _ _ _ _ _ _ _ _ _ _ _ _ [_,_,_,_,_,_]
      refine Uu (by kernel_rfl) (fun alR lq=>?_)
      refine ah [0,3,7,8] rfl (U3 (U2 DB Zvv rfl rfl rfl ?_))
      have hby:0<=m.aJ/\m.aJ<=3:=by omega
      have qV:bg d.ae ((ga (aw d false (4*d.ae.length)) m.at_.toNat).1) ((ga (aw d false (4*d.ae.length)) m.at_.toNat).2) ((2*(d.ae.length:Int))+2)=bg d.ae (Ud d m.at_ false).1 (Ud d m.at_ false).2 (2*(d.ae.length:Int)+2):=by rw[hge]
      rw[qV]at lq;clear qV
      have hsl:=iw d.ae (Ud d m.at_ false).1 (Ud d m.at_ false).2 (2*(d.ae.length:Int)+2)
      refine mA (fun au aM=>∃(z0:Int) (z1:Int) (z2:Int) (z3:Int),Env 137 [(0,.pointer (some ⟨bu,0,none⟩)),(3,.pointer (some ⟨aI,0,none⟩)),(7,.pointer (some ⟨iq,0,none⟩)),(8,.pointer (some ⟨rJ,0,none⟩))] au/\SH aM M X [Rs.box bu 67 [.pointer (some ⟨ggs,0,none⟩),.slice fA fv.length fc],Rs.box ggs 70 [bz,.int .i64 d.loops,.slice iA (aw d false (4*d.ae.length)).length ic,.slice oA (aw d true (4*d.ae.length)).length oc],Rs.row aG bz (bg d.ae (Ud d m.at_ false).1 (Ud d m.at_ false).2 (2*(d.ae.length:Int)+2)),Rs.box rJ 128 [.int .i64 z2,.int .i64 z3],Rs.box iq 128 [.int .i64 z0,.int .i64 z1],Rs.box aI 28 [.int .i64 m.kd,.int .i64 m.at_,.int .i64 m.aJ,.int .i64 m.ua,.bool m.ub,.int .i64 m.va,.bool m.vb,.bool m.ov]]/\di z0 z1 z2 z3 (decide (m.aJ%2=1))=fh m.at_ ((2*(d.ae.length:Int))+1) ((2*(d.ae.length:Int))+1) ((2*(d.ae.length:Int))+2) m.aJ) ?_ ?_
      ·refine U2 Zvw DA rfl rfl rfl (U0 rfl (af 0 rfl (U1 rfl rfl aR rfl (aB) (aA)) (af 1 rfl (U4 rfl rfl av rfl (lq.ar (i:=5) rfl rfl)) (af 2 rfl (z7 rfl rfl rfl) (af 3 rfl (iT rfl rfl rfl) (U5 rfl (ah [0,3,7,8,110] rfl (U3 ?_))))))))
       refine Ue Zvy Zvz rfl rfl rfl rfl (fun nB=>?_) (fun nB=>?_)
       ·replace nB:=(Ah hby).1 nB
        refine U0 rfl (af 0 rfl (U8 (us:=[_,_]) rfl rfl eA rfl fx (lq.ax (i:=3) rfl ⟨rfl,rfl,trivial⟩)) (af 1 rfl (U8 (us:=[_,_]) rfl rfl eA rfl fx (lq.ax (i:=4) rfl ⟨rfl,rfl,trivial⟩)) (ak 2 3 rfl rfl rfl (U7 (i:=4) (us:=[_,_]) (l':=[_,_]) (H':=[_,_,_,_,_,_]) rfl rfl lq rfl rfl rfl rfl fx rfl rfl rfl rfl ?_))))
        intro alQ yI;clear lq
        refine ak 3 4 rfl rfl rfl (U7 (i:=3) (us:=[_,_]) (l':=[_,_]) (H':=[_,_,_,_,_,_]) rfl rfl yI rfl rfl rfl rfl fx rfl rfl rfl rfl ?_)
        intro alP CY;clear yI
        refine U5 rfl (aP ?_)
        intro au aq
        refine⟨(2*(d.ae.length:Int))+1,(2*(d.ae.length:Int))+2,m.at_,(2*(d.ae.length:Int))+1,aq.sub ⟨rfl,rfl,rfl,rfl,trivial⟩,CY.pick [0,1,2,3,4,5] [_,_,_,_,_,_] (by decide) ⟨rfl,rfl,rfl,rfl,rfl,rfl,trivial⟩,?dO⟩
        case dO=>(unfold fh;rw[if_pos (by omega)])
       ·replace nB:=fun h=>nB ((Ah hby).2 h)
        refine Uf rfl (aP ?_)
        intro au aq
        refine⟨m.at_,(2*(d.ae.length:Int))+1,(2*(d.ae.length:Int))+1,(2*(d.ae.length:Int))+2,aq.sub ⟨rfl,rfl,rfl,rfl,trivial⟩,lq.pick [0,1,2,3,4,5] [_,_,_,_,_,_] (by decide) ⟨rfl,rfl,rfl,rfl,rfl,rfl,trivial⟩,?eU⟩
        case eU=>(unfold fh;rw[if_neg (by omega)])
      ·rintro a2 au2 ⟨z0,z1,z2,z3,cx,CZ,hzz⟩
       clear lq
       refine mG cx ?_
       clear cx a2
       refine U3 ?_
       have afK:=CZ.pick [2,0,1,3,4,5] [_,_,_,_,_,_] (by decide) ⟨rfl,rfl,rfl,rfl,rfl,rfl,trivial⟩;clear CZ
       refine ki [_] [_,_,_,_,_] rfl (by kernel_rfl) afK 25 rfl ?_
       clear afK
       change WA _ _ _ _ _ _ _ _ _ _ _ _ [_,_,_,_,_,_]
       refine ai 0 24 rfl (by kernel_rfl) (fun _=>run_move rfl rfl) ?_
       refine ai 1 23 rfl (by kernel_rfl) (fun _=>U9 rfl rfl) ?_
       refine ai 2 22 rfl (by kernel_rfl) (fun _=>U1 rfl rfl cz rfl (cP) (cO)) ?_
       refine aj 3 21 rfl (by kernel_rfl) (fun _ _ _ hz Sz=>.inl (U4 rfl rfl cE rfl (Sz.suf.ar (i:=0) rfl rfl))) ?_
       refine ai 4 20 rfl (by kernel_rfl) (fun _=>run_move rfl rfl) ?_
       refine ai 5 19 rfl (by kernel_rfl) (fun _=>U9 rfl rfl) ?_
       refine ai 6 18 rfl (by kernel_rfl) (fun _=>U1 rfl rfl cz rfl (cP) (cO)) ?_
       refine aj 7 17 rfl (by kernel_rfl) (fun _ _ _ hz Sz=>.inl (U4 rfl rfl cE rfl (Sz.suf.ar (i:=0) rfl rfl))) ?_
       refine ai 8 16 rfl (by kernel_rfl) (fun _=>U9 rfl rfl) ?_
       refine ai 9 15 rfl (by kernel_rfl) (fun _=>U1 rfl rfl cU rfl (eF) (eB)) ?_
       refine ai 10 14 rfl (by kernel_rfl) (fun _=>U1 rfl rfl ay rfl (bK) (bJ)) ?_
       refine aj 11 13 rfl (by kernel_rfl) (fun _ _ _ hz Sz=>.inl (U4 rfl rfl bG rfl (Sz.suf.ar (i:=1) rfl rfl))) ?_
       refine aj 12 12 rfl (by kernel_rfl) (fun _ _ _ hz Sz=>.inl (U8 (us:=[_,_]) rfl rfl eA rfl fx (Sz.suf.ax (i:=3) rfl ⟨rfl,rfl,trivial⟩))) ?_
       refine aj 13 11 rfl (by kernel_rfl) (fun _ _ _ hz Sz=>.inl (U8 (us:=[_,_]) rfl rfl eA rfl fx (Sz.suf.ax (i:=2) rfl ⟨rfl,rfl,trivial⟩))) ?_
       refine ai 14 10 rfl (by kernel_rfl) (fun _=>U1 rfl rfl aR rfl (aB) (aA)) ?_
       refine aj 15 9 rfl (by kernel_rfl) (fun _ _ _ hz Sz=>.inl (U4 rfl rfl av rfl (Sz.suf.ar (i:=4) rfl rfl))) ?_
       refine ai 16 8 rfl (by kernel_rfl) (fun _=>z7 rfl rfl rfl) ?_
       refine ai 17 7 rfl (by kernel_rfl) (fun _=>iT rfl rfl rfl) ?_
       refine jz 130 (.bool (decide (m.aJ%2=1))) rfl (ab0 hby) (aj 18 6 rfl (by kernel_rfl) (fun _ _ _ hz Sz=>Uq rfl rfl rfl rfl rfl acV Sz (aco z0 z1 z2 z3 (decide (m.aJ%2=1)) Sz.aD)) ?_)
       refine Un (i:=19) 5 rfl (by kernel_rfl) rfl rfl (fun auV q7=>?_)
       refine(iy (C:=aG) (l:=[_,_,_,_,_]) rfl rfl rfl rfl b8 rfl rfl rfl rfl q7 ?_)
       intro rI auU yH;clear q7
       refine aN.grow [_,_] (Hp.le_refl _) yH ?_;clear yH
       change WA _ _ _ _ _ _ _ _ _ _ _ _ [_,_,_,_,_,_,_]
       refine Un (i:=20) 4 rfl (by kernel_rfl) rfl rfl (fun auT yG=>?_)
       refine(jg (C:=aG) (i:=1) (q:=0) (⟨(di z0 z1 z2 z3 (decide (m.aJ%2=1))).a,(di z0 z1 z2 z3 (decide (m.aJ%2=1))).b,(di z0 z1 z2 z3 (decide (m.aJ%2=1))).c,(di z0 z1 z2 z3 (decide (m.aJ%2=1))).d,(di z0 z1 z2 z3 (decide (m.aJ%2=1))).plus⟩:Cr) rfl rfl rfl rfl rfl rfl rfl rfl b8 yG rfl rfl rfl (by show(_+1)*40<=_;first|omega|(simp only[ls];omega)) ?_)
       intro al7 ac3 yF;clear yG
       have afG:=yF.pick [1,2,3,4,5,6] [_,_,_,_,_,_] (by decide) ⟨rfl,rfl,rfl,rfl,rfl,rfl,trivial⟩;clear yF
       refine aN.grow [_] (Hp.le_refl _) afG ?_;clear afG
       change WA _ _ _ _ _ _ _ _ _ _ _ _ [_,_,_,_,_,_]
       refine ai 21 3 rfl (by kernel_rfl) (fun _=>U9 rfl rfl) ?_
       refine ai 22 2 rfl (by kernel_rfl) (fun _=>U1 rfl rfl cU rfl (eF) (eB)) ?_
       refine ai 23 1 rfl (by kernel_rfl) (fun _=>U1 rfl rfl ay rfl (bK) (bJ)) ?_
       refine Un (i:=24) 0 rfl (by kernel_rfl) rfl rfl (fun auP tG=>?_)
       refine(U7 (i:=2) (us:=[_]) (l':=[_,_,_,_]) (H':=[_,_,_,_,_,_]) rfl rfl tG rfl rfl rfl (tG.jx (i:=0) rfl) kZ rfl (Uy (tG.one (i:=0) rfl) rfl) rfl rfl ?_)
       intro alO CX;clear tG
       refine aN.turn (by kernel_rfl) CX ?_;clear CX
       change WA _ _ _ _ _ _ _ _ _ _ _ _ [_,_,_,_,_,_]
       refine Uu (by kernel_rfl) (fun alN yE=>?_)
       refine gI hC [] rfl trivial ?_
       obtain⟨av7,xo,atF,⟨A2,c2,e2,hr2⟩⟩:=yE.fZ (i:=0) (H':=[_,_,_,_,_,_]) rfl rfl (by show _*40<=_;first|omega|(simp only[ls];omega))
       clear yE;subst e2
       replace hsi:=hsi.mono xo
       replace aK:=aK.mono xo
       replace cG:=cG.mono xo
       replace cF:=cF.mono xo
       have bj:dP d m=0:=by unfold dP;rw[if_pos (by omega),if_pos sX]
       refine .inl ⟨bj,_,rfl,_,_,xo,(atF.pick [1,2] [_,_] (by decide) ⟨rfl,rfl,trivial⟩).aW,?_⟩
       have e8:lh d m=⟨(bg d.ae (Ud d m.at_ false).1 (Ud d m.at_ false).2 (2*(d.ae.length:Int)+2))++[(⟨(di z0 z1 z2 z3 (decide (m.aJ%2=1))).a,(di z0 z1 z2 z3 (decide (m.aJ%2=1))).b,(di z0 z1 z2 z3 (decide (m.aJ%2=1))).c,(di z0 z1 z2 z3 (decide (m.aJ%2=1))).d,(di z0 z1 z2 z3 (decide (m.aJ%2=1))).plus⟩:Cr)],d.loops⟩:=by unfold lh;rw[if_neg (by omega),<-hzz]
       rw[e8]
       exact⟨rfl,_,_,rfl,hr2⟩
     ·have bj:dP d m=2:=by unfold dP;rw[if_pos (by omega),if_neg sX]
      refine kS (k:=10) rfl rfl rfl rfl rfl rfl rfl dI lu (ia 2 lu.aD) ?_
      intro w9 M9 ck S9
      subst hC
      exact .inr ⟨by rw[bj];first|decide|assumption,by rw[bj],M9,(Hp.le_refl _).trans ck,S9.pick [] [] (by decide) trivial⟩
    ·have bj:dP d m=3:=by unfold dP;rw[if_neg (by omega)]
     refine oK (i:=20) 0 rfl (by kernel_rfl) rfl rfl rfl rfl rfl rfl rfl dI (fun w9 S9=>ia 3 S9.aD) ?_
     intro w9 M9 ck S9
     subst hC
     exact .inr ⟨by rw[bj];first|decide|assumption,by rw[bj],M9,(Hp.le_refl _).trans ck,S9.pick [] [] (by decide) trivial⟩
   ·refine Ur (i:=16) (d:=39) 4 rfl (by kernel_rfl) (by kernel_rfl) (by kernel_rfl) ⟨_,_,_,rfl,rfl,rfl,rfl⟩ rfl rfl ?_
    refine Ur (i:=17) (d:=40) 3 rfl (by kernel_rfl) (by kernel_rfl) (by kernel_rfl) ⟨_,_,_,rfl,rfl,rfl,rfl⟩ rfl rfl ?_
    refine Ur (i:=18) (d:=41) 2 rfl (by kernel_rfl) (by kernel_rfl) (by kernel_rfl) ⟨_,_,_,rfl,rfl,rfl,rfl⟩ rfl rfl ?_
    refine ai 19 1 rfl (by kernel_rfl) (fun _=>iU rfl rfl rfl) ?_
    have bj:dP d m=3:=by unfold dP;rw[if_neg (by omega)]
    refine oK (i:=20) 0 rfl (by kernel_rfl) rfl rfl rfl rfl rfl rfl rfl dI (fun w9 S9=>ia 3 S9.aD) ?_
    intro w9 M9 ck S9
    subst hC
    exact .inr ⟨by rw[bj];first|decide|assumption,by rw[bj],M9,(Hp.le_refl _).trans ck,S9.pick [] [] (by decide) trivial⟩
  ·refine ai 8 12 rfl (by kernel_rfl) (fun _=>run_move rfl rfl) ?_
   refine ai 9 11 rfl (by kernel_rfl) (fun _=>iU rfl rfl rfl) ?_
   refine ai 10 10 rfl (by kernel_rfl) (fun _=>run_move rfl rfl) ?_
   refine Ur (i:=11) (d:=34) 9 rfl (by kernel_rfl) (by kernel_rfl) (by kernel_rfl) ⟨_,_,_,rfl,rfl,rfl,rfl⟩ rfl rfl ?_
   refine Ur (i:=12) (d:=35) 8 rfl (by kernel_rfl) (by kernel_rfl) (by kernel_rfl) ⟨_,_,_,rfl,rfl,rfl,rfl⟩ rfl rfl ?_
   refine Ur (i:=13) (d:=36) 7 rfl (by kernel_rfl) (by kernel_rfl) (by kernel_rfl) ⟨_,_,_,rfl,rfl,rfl,rfl⟩ rfl rfl ?_
   refine ai 14 6 rfl (by kernel_rfl) (fun _=>iU rfl rfl rfl) ?_
   refine ai 15 5 rfl (by kernel_rfl) (fun _=>run_move rfl rfl) ?_
   refine Ur (i:=16) (d:=39) 4 rfl (by kernel_rfl) (by kernel_rfl) (by kernel_rfl) ⟨_,_,_,rfl,rfl,rfl,rfl⟩ rfl rfl ?_
   refine Ur (i:=17) (d:=40) 3 rfl (by kernel_rfl) (by kernel_rfl) (by kernel_rfl) ⟨_,_,_,rfl,rfl,rfl,rfl⟩ rfl rfl ?_
   refine Ur (i:=18) (d:=41) 2 rfl (by kernel_rfl) (by kernel_rfl) (by kernel_rfl) ⟨_,_,_,rfl,rfl,rfl,rfl⟩ rfl rfl ?_
   refine ai 19 1 rfl (by kernel_rfl) (fun _=>iU rfl rfl rfl) ?_
   have bj:dP d m=3:=by unfold dP;rw[if_neg (by omega)]
   refine oK (i:=20) 0 rfl (by kernel_rfl) rfl rfl rfl rfl rfl rfl rfl dI (fun w9 S9=>ia 3 S9.aD) ?_
   intro w9 M9 ck S9
   subst hC
   exact .inr ⟨by rw[bj];first|decide|assumption,by rw[bj],M9,(Hp.le_refl _).trans ck,S9.pick [] [] (by decide) trivial⟩
end Go.Proofs.YthppkofceancjaaGreat
namespace Go.Proofs.YthppkofceancjaaGreat
open Go.ChangeShapes Go.WideShapes Go.ChangeAt Go.RowKit
def upd{α:Type}(h:Nat->α)(e:Nat)(v:α)(k:Nat):α:=if k=e then v else h k
theorem aio{e:Nat}(f:Nat->Value)(h:e<4):nth [f 0,f 1,f 2,f 3] (0+e*1)=some (f e):=by
 have:e=0\/e=1\/e=2\/e=3:=by omega
 rcases this with rfl|rfl|rfl|rfl<;>rfl
end Go.Proofs.YthppkofceancjaaGreat
namespace Go.Proofs.YthppkofceancjaaGreat
open Go.ChangeShapes Go.WideShapes Go.ChangeAt Go.RowKit
def ek(b:Bool)(f o:Nat):Nat:=if b=true then o else f
def aO(x:Da)(n:Int)(k:Nat):Int:=ga (if x.b=true then[n+1,n,x.a]else[x.a,n,n+1]) k
def kR(F:Nat->Int)(b a:Nat):Cr:=⟨F (b%4),F ((b+1)%4),F ((b+2)%4),F ((b+3)%4),decide ((a:Int)=(((b+3)%4:Nat):Int))⟩
def nR(x y:Da):Bool:=decide (x.a=y.a/\x.b=y.b)
def rvI(p:Nat)(a c:Int):Int:=if p=0 then a else c
noncomputable def Ql:=Tryz.f122.body.getD .skip
def Zw1:=cL Ql
def Qk:=cR Ql
def Qj:=cL Qk
def Qi:=cR Qk
def Zw5:=cL Qj
def Qh:=cR Qj
def Qg:=cL Qh
def Zw8:=cR Qh
def Zw9:=cL Qg
def Zwa:=cR Qg
def Zwb:=cL Qi
def Zwc:=cR Qi
set_option maxRecDepth 10000 in
theorem Ew{w:World}{M:Hp}{X:Fr}(b:Bool)(f:Nat)(o:Nat)(S:SH w M X []):Cq Tryz.prog 122 [.bool b,.int .i64 (f:Int),.int .i64 (o:Int)] w M X (fun u=>u=.int .i64 (ek b f o:Int)):=by
 unfold Cq
 refine Up (b:=Ql) Tryz.func122 rfl Tryz.ntmps122 rfl (fun C hC=>(bq [(0,_),(1,_),(2,_)] ⟨rfl,rfl,rfl,trivial⟩ (U2 Zw1 Qk rfl rfl rfl (U0 rfl (ag 0 1 rfl rfl (U5 rfl (ah [0,1,2] rfl (U3 (U2 Qj Qi rfl rfl rfl ?_)))))))))
 refine U2 Zw5 Qh rfl rfl rfl (U0 rfl (ag 0 1 rfl rfl (U5 rfl (ah [1,2,7] rfl (U3 ?_)))))
 refine cS Qg Zw8 rfl rfl rfl rfl (fun OS=>?_) (fun OS=>?_)
 ·refine U2 Zw9 Zwa rfl rfl rfl (U0 rfl (ag 0 2 rfl rfl (U5 rfl (ah [6] rfl (U3 (Uj hC [_] rfl rfl ⟨rfl,trivial⟩ ?_))))))
  exact⟨_,rfl,(S.pick [] [] (by decide) trivial),(by show Value.int _ _=_;unfold ek;first|rw[if_pos (by assumption)]|rw[if_neg (by simp[*])])⟩
 ·refine Uf rfl (ah [1] rfl (U3 (U2 Zwb Zwc rfl rfl rfl (U0 rfl (ag 0 2 rfl rfl (U5 rfl (ah [6] rfl (U3 ?_))))))))
  refine Uj hC [_] rfl rfl ⟨rfl,trivial⟩ ?_
  exact⟨_,rfl,(S.pick [] [] (by decide) trivial),(by show Value.int _ _=_;unfold ek;first|rw[if_pos (by assumption)]|rw[if_neg (by simp[*])])⟩
noncomputable def Qf:=Tryz.f168.body.getD .skip
def Zwe:=cL Qf
def Zwf:=cR Qf
def Zwg:=cL Zwf
def Qe:=cL Zwg
def Qd:=cL Qe
def Qc:=cR Qe
def Zwk:=cL Qd
def Qb:=cR Qd
def Zwm:=cL Qb
def Zwn:=cR Qb
def Zwo:=cL Qc
def Zwp:=cR Qc
def Zwq:=cL Zwo
set_option maxRecDepth 10000 in
theorem ajN{w:World}{M:Hp}{X:Fr}{gb:Nat}(a b c:Int)(S:SH w M X [Rs.aW [Rs.box gb 150 [.int .i64 a,.int .i64 b,.int .i64 c]]]):C1 Tryz.prog 168 [.slice (some ⟨gb,0,none⟩) 3 3] w M X (fun u M' r'=>u=.tuple [].toArray/\M'=M/\r'=Rs.aW [Rs.box gb 150 [.int .i64 c,.int .i64 b,.int .i64 a]]):=by
 unfold C1
 replace S:=S.jT
 refine Up (b:=Qf) Tryz.func168 rfl Tryz.ntmps168 rfl (fun C hC=>(bq [(0,_)] ⟨rfl,trivial⟩ (U2 Zwe Zwf rfl rfl rfl (U0 rfl (ag 0 1 rfl rfl (af 1 rfl (cI rfl rfl rfl rfl rfl rfl dD) (af 2 rfl (qw rfl rfl rfl (by first|omega|(simp only[ls];omega))) ?_)))))))
 refine ag 3 2 rfl rfl (U5 rfl (ah [0,2,3] rfl (U3 (Uc Zwg 0 rfl rfl rfl ?_))))
 refine Uz (fun aS au aM=>∃(p:Nat),aS=2-p/\Env 28 [(0,.slice (some ⟨gb,0,none⟩) 3 3),(2,.int .i64 (p:Int)),(3,.int .i64 ((2-p:Nat):Int))] au/\SH aM M X [Rs.box gb 150 [.int .i64 (rvI p a c),.int .i64 b,.int .i64 (rvI p c a)]]/\p<=1) rfl ?_ ?_
 ·intro au aq
  refine⟨_,⟨0,rfl,aq.sub ⟨rfl,rfl,rfl,trivial⟩,S.pick [0] [_] (by decide) ⟨rfl,trivial⟩,?cd⟩⟩
  case cd=>omega
 ·rintro m1 a1 w1 ⟨p,rfl,bh,S1,hp⟩
  clear S
  refine b7 bh (c:=Qe) rfl ?_
  clear bh a1
  refine U2 Qd Qc rfl rfl rfl (U2 Zwk Qb rfl rfl rfl (U0 rfl (ag 0 2 rfl rfl (af 2 rfl (bV rfl rfl rfl) (U5 rfl (ah [0,2,3,9] rfl (U3 ?_)))))))
  refine Ue Zwm Zwn rfl rfl rfl rfl (fun jb=>?_) (fun jb=>?_)
  ·obtain rfl:p=0:=by omega
   refine Uf rfl (ah [0,2,3] rfl (U3 (U2 Zwo Zwp rfl rfl rfl (Uc Zwq 1 rfl rfl rfl ?_))))
   have S2:=S1.pick [0] [_] (by decide) ⟨rfl,trivial⟩;clear S1
   refine ki [_] [] rfl (by kernel_rfl) S2 16 rfl ?_
   clear S2
   change WA _ _ _ _ _ _ _ _ _ _ _ _ [_]
   refine ai 0 15 rfl (by kernel_rfl) (fun _=>run_move rfl rfl) ?_
   refine ai 1 14 rfl (by kernel_rfl) (fun _=>run_move rfl rfl) ?_
   refine ai 2 13 rfl (by kernel_rfl) (fun _=>run_move rfl rfl) ?_
   refine ai 3 12 rfl (by kernel_rfl) (fun _=>run_move rfl rfl) ?_
   refine ai 4 11 rfl (by kernel_rfl) (fun _=>run_move rfl rfl) ?_
   refine ai 5 10 rfl (by kernel_rfl) (fun _=>run_move rfl rfl) ?_
   refine aj 6 9 rfl (by kernel_rfl) (fun _ _ _ hz Sz=>.inl (mZ (e:=2) (k:=1) rfl rfl rfl dD aY (by first|rfl|omega) (by decide) rfl)) ?_
   refine ai 8 8 rfl (by kernel_rfl) (fun _=>run_move rfl rfl) ?_
   refine ai 9 7 rfl (by kernel_rfl) (fun _=>run_move rfl rfl) ?_
   refine aj 10 6 rfl (by kernel_rfl) (fun _ _ _ hz Sz=>.inl (mZ (e:=0) (k:=1) rfl rfl rfl dD aY (by first|rfl|omega) (by decide) rfl)) ?_
   refine rZ (i:=7) (j:=11) 5 rfl rfl (by kernel_rfl) rfl rfl rfl rfl (fun lv bY=>?_) (fun lv bY=>?_)
   ·refine(Ub rfl rfl (U4 rfl rfl av rfl (bY.ar (i:=0) rfl rfl)) ?_)
    refine aN.grow [_] (Hp.le_refl _) bY ?_;clear bY
    change WA _ _ _ _ _ _ _ _ _ _ _ _ [_]
    refine Un (i:=11) 4 rfl (by kernel_rfl) rfl rfl (fun oq dB=>?_)
    refine(Ub rfl rfl (U4 rfl rfl av rfl (dB.ar (i:=0) rfl rfl)) ?_)
    refine aN.grow [_] (Hp.le_refl _) dB ?_;clear dB
    change WA _ _ _ _ _ _ _ _ _ _ _ _ [_]
    refine aj 12 3 rfl (by kernel_rfl) (fun _ _ _ hz Sz=>.inl (mZ (e:=0) (k:=1) rfl rfl rfl dD aY (by first|rfl|omega) (by decide) rfl)) ?_
    refine Un (i:=13) 2 rfl (by kernel_rfl) rfl rfl (fun vO cW=>?_)
    refine(U7 (i:=0) (us:=[_]) (l':=[_,_,_]) (H':=[_]) rfl rfl cW rfl rfl rfl rfl aY rfl rfl rfl rfl ?_)
    intro rB cK;clear cW
    refine aN.grow [_] (Hp.le_refl _) cK ?_;clear cK
    change WA _ _ _ _ _ _ _ _ _ _ _ _ [_]
    refine aj 14 1 rfl (by kernel_rfl) (fun _ _ _ hz Sz=>.inl (mZ (e:=2) (k:=1) rfl rfl rfl dD aY (by first|rfl|omega) (by decide) rfl)) ?_
    refine Un (i:=15) 0 rfl (by kernel_rfl) rfl rfl (fun vM ey=>?_)
    refine(U7 (i:=0) (us:=[_]) (l':=[_,_,_]) (H':=[_]) rfl rfl ey rfl rfl rfl rfl aY rfl rfl rfl rfl ?_)
    intro yU cy;clear ey
    refine aN.grow [_] (Hp.le_refl _) cy ?_;clear cy
    change WA _ _ _ _ _ _ _ _ _ _ _ _ [_]
    refine Uu (by kernel_rfl) (fun l9 dL=>?_)
    refine bk (ah [0,2,3] rfl (U3 (U0 rfl (ag 0 1 rfl rfl (af 1 rfl (Ug rfl rfl rfl (by first|omega|(simp only[ls];omega))) ?_)))))
    refine ag 2 1 rfl rfl (af 3 rfl (qw rfl rfl rfl (by first|omega|(simp only[ls];omega))) ?_)
    refine ag 4 2 rfl rfl (U5 rfl (aP ?_))
    intro au aq
    refine⟨_,?dJ,⟨0+1,rfl,aq.sub ⟨rfl,rfl,rfl,trivial⟩,dL.pick [0] [_] (by decide) ⟨rfl,trivial⟩,?cu⟩⟩
    case cu=>omega
    case dJ=>omega
   ·refine(Ub rfl rfl (U4 rfl rfl av rfl (bY.ar (i:=0) rfl rfl)) ?_)
    refine aN.grow [_] (Hp.le_refl _) bY ?_;clear bY
    change WA _ _ _ _ _ _ _ _ _ _ _ _ [_]
    refine Un (i:=7) 4 rfl (by kernel_rfl) rfl rfl (fun tP fu=>?_)
    refine(Ub rfl rfl (U4 rfl rfl av rfl (fu.ar (i:=0) rfl rfl)) ?_)
    refine aN.grow [_] (Hp.le_refl _) fu ?_;clear fu
    change WA _ _ _ _ _ _ _ _ _ _ _ _ [_]
    refine aj 12 3 rfl (by kernel_rfl) (fun _ _ _ hz Sz=>.inl (mZ (e:=0) (k:=1) rfl rfl rfl dD aY (by first|rfl|omega) (by decide) rfl)) ?_
    refine Un (i:=13) 2 rfl (by kernel_rfl) rfl rfl (fun tO dm=>?_)
    refine(U7 (i:=0) (us:=[_]) (l':=[_,_,_]) (H':=[_]) rfl rfl dm rfl rfl rfl rfl aY rfl rfl rfl rfl ?_)
    intro oo ib;clear dm
    refine aN.grow [_] (Hp.le_refl _) ib ?_;clear ib
    change WA _ _ _ _ _ _ _ _ _ _ _ _ [_]
    refine aj 14 1 rfl (by kernel_rfl) (fun _ _ _ hz Sz=>.inl (mZ (e:=2) (k:=1) rfl rfl rfl dD aY (by first|rfl|omega) (by decide) rfl)) ?_
    refine Un (i:=15) 0 rfl (by kernel_rfl) rfl rfl (fun Om uy=>?_)
    refine(U7 (i:=0) (us:=[_]) (l':=[_,_,_]) (H':=[_]) rfl rfl uy rfl rfl rfl rfl aY rfl rfl rfl rfl ?_)
    intro Ol kV;clear uy
    refine aN.grow [_] (Hp.le_refl _) kV ?_;clear kV
    change WA _ _ _ _ _ _ _ _ _ _ _ _ [_]
    refine Uu (by kernel_rfl) (fun vJ dG=>?_)
    refine bk (ah [0,2,3] rfl (U3 (U0 rfl (ag 0 1 rfl rfl (af 1 rfl (Ug rfl rfl rfl (by first|omega|(simp only[ls];omega))) ?_)))))
    refine ag 2 1 rfl rfl (af 3 rfl (qw rfl rfl rfl (by first|omega|(simp only[ls];omega))) ?_)
    refine ag 4 2 rfl rfl (U5 rfl (aP ?_))
    intro au aq
    refine⟨_,?kC,⟨0+1,rfl,aq.sub ⟨rfl,rfl,rfl,trivial⟩,dG.pick [0] [_] (by decide) ⟨rfl,trivial⟩,?dO⟩⟩
    case dO=>omega
    case kC=>omega
  ·obtain rfl:p=1:=by omega
   refine bS rfl rfl (gI hC [] rfl trivial ?_)
   refine⟨_,rfl,_,_,Hp.le_refl _,(S1.pick [0] [_] (by decide) ⟨rfl,trivial⟩).aW,?_⟩
   exact⟨rfl,rfl,rfl⟩
noncomputable def Qa:=Tryz.f120.body.getD .skip
def Zws:=cL Qa
def P9:=cR Qa
def Zwu:=cL P9
def P8:=cR P9
def P7:=cL P8
def P6:=cR P8
def Zwy:=cL P7
def P5:=cR P7
def Zx0:=cL P5
def Zx1:=cR P5
def Zx2:=cL P6
def Zx3:=cR P6
set_option maxRecDepth 10000 in
theorem acN{w:World}{M:Hp}{X:Fr}(x:Da)(n:Int)(hn:0<=n/\n<=1000)(S:SH w M X []):Cq Tryz.prog 120 [.agg [.int .i64 x.a,.bool x.b].toArray,.int .i64 n] w M X (fun u=>u=.agg [.int .i64 (aO x n 0),.int .i64 (aO x n 1),.int .i64 (aO x n 2)].toArray):=by
 unfold Cq
 refine Up (b:=Qa) Tryz.func120 rfl Tryz.ntmps120 rfl (fun C hC=>(bq [(0,_),(1,_)] ⟨rfl,rfl,trivial⟩ (U2 Zws P9 rfl rfl rfl (U0 rfl (ak 0 1 rfl rfl rfl (bA (l:=[_,_]) rfl rfl rfl rfl rfl S ?_))))))
 intro aI w1 S1;clear S
 refine ak 1 2 rfl rfl rfl (Uh (l:=[_,_,_]) rfl rfl rfl qE rfl S1 ?_)
 intro aQ w2 S2;clear S1
 refine U5 rfl (ah [1,2,4] rfl (U3 (U2 Zwu P8 rfl rfl rfl (U0 rfl (af 0 rfl (U1 rfl rfl aZ rfl (aB) (aA)) (af 1 rfl (U4 rfl rfl av rfl (S2.ar (i:=1) rfl rfl)) (ag 2 2 rfl rfl (af 4 rfl (Ug rfl rfl rfl (by first|omega|(simp only[ls];omega))) ?_))))))))
 refine af 5 rfl (jf (l:=[_,_,_]) (pl:=[(0,1),(1,1),(2,1)]) rfl rfl iW qE aY rfl rfl rfl) (ak 6 7 rfl rfl rfl (Uh (l:=[_,_,_]) rfl rfl rfl qE rfl S2 ?_))
 intro bE w3 S3;clear S2
 refine ak 7 8 rfl rfl rfl (U7 (i:=0) (us:=[_,_,_]) (l':=[_,_,_]) (H':=[_,_,_]) rfl rfl S3 rfl rfl rfl rfl nt rfl rfl rfl rfl ?_)
 intro w4 S4;clear S3
 refine U5 rfl (ah [2,4,5] rfl (U3 (U2 P7 P6 rfl rfl rfl (U2 Zwy P5 rfl rfl rfl (U0 rfl (af 0 rfl (U1 rfl rfl aZ rfl (fI) (fH)) (af 1 rfl (U4 rfl rfl dh rfl (S4.ar (i:=2) rfl rfl)) (U5 rfl ?_))))))))
 refine ah [4,5,13] rfl (U3 ?_)
 refine cS Zx0 Zx1 rfl rfl rfl rfl (fun G6=>?_) (fun G6=>?_)
 ·refine U0 rfl (af 0 rfl (af1 rfl rfl iW aY (by decide)) ?_)
  have S5:=S4.pick [0,1,2] [_,_,_] (by decide) ⟨rfl,rfl,rfl,trivial⟩;clear S4
  have S6:SH _ _ _ (Rs.aW [_]::[_,_]):=SH.iD (A:=[_]) (B:=[_,_]) S5;clear S5
  have S7:SH _ _ _ [_,_,_]:=S6.less (i:=0) rfl
  have gL:=ajN x.a n (n+1) (S6.gN (i:=0) rfl);clear S7
  refine ak 1 2 rfl rfl rfl (jk (i:=0) rfl rfl rfl rfl rfl rfl rfl alj S6 rfl gL ?_)
  intro Ot w5 M1 rw5 aL S8 jc;clear S6
  obtain⟨kq,gX,kP⟩:=jc
  rw[gX]at S8
  clear gX
  subst kq
  subst kP
  replace S8:SH _ _ _ (Rs.aW [_]::[_,_]):=S8
  have S9:SH _ _ _ [_,_,_]:=SH.je (A:=[_]) (B:=[_,_]) S8;clear S8
  refine U5 rfl (ah [4,5] rfl (U3 (U2 Zx2 Zx3 rfl rfl rfl (U0 rfl (af 0 rfl (U8 (us:=[_,_,_]) rfl rfl iW rfl nt (S9.ax (i:=0) rfl ⟨rfl,rfl,rfl,trivial⟩)) (ak 1 2 rfl rfl rfl (U7 (i:=1) (us:=[_,_,_]) (l':=[_,_,_]) (H':=[_,_,_]) rfl rfl S9 rfl rfl rfl rfl nt rfl rfl rfl rfl ?_)))))))
  intro w6 bF;clear S9
  refine U5 rfl (ah [4] rfl (U3 (Uj hC [_] rfl rfl ⟨⟨_,rfl,Um (us:=[_,_,_]) iW rfl nt (bF.ax (i:=1) rfl ⟨rfl,rfl,rfl,trivial⟩)⟩,trivial⟩ ?_)))
  exact⟨_,rfl,(bF.pick [] [] (by decide) trivial),(by show Value.agg [_,_,_].toArray=_;unfold aO;first|(rw[if_pos (by assumption)];rfl)|(rw[if_neg (by simp[*])];rfl))⟩
 ·refine Uf rfl (ah [4,5] rfl (U3 (U2 Zx2 Zx3 rfl rfl rfl (U0 rfl (af 0 rfl (U8 (us:=[_,_,_]) rfl rfl iW rfl nt (S4.ax (i:=0) rfl ⟨rfl,rfl,rfl,trivial⟩)) (ak 1 2 rfl rfl rfl (U7 (i:=1) (us:=[_,_,_]) (l':=[_,_,_]) (H':=[_,_,_]) rfl rfl S4 rfl rfl rfl rfl nt rfl rfl rfl rfl ?_)))))))
  intro w7 bQ;clear S4
  refine U5 rfl (ah [4] rfl (U3 (Uj hC [_] rfl rfl ⟨⟨_,rfl,Um (us:=[_,_,_]) iW rfl nt (bQ.ax (i:=1) rfl ⟨rfl,rfl,rfl,trivial⟩)⟩,trivial⟩ ?_)))
  exact⟨_,rfl,(bQ.pick [] [] (by decide) trivial),(by show Value.agg [_,_,_].toArray=_;unfold aO;first|(rw[if_pos (by assumption)];rfl)|(rw[if_neg (by simp[*])];rfl))⟩
noncomputable def P4:=Tryz.f169.body.getD .skip
def Zx5:=cL P4
def PZ:=cR P4
def Zx7:=cL PZ
def Zx8:=cR PZ
set_option maxRecDepth 10000 in
theorem zU{w:World}{M:Hp}{X:Fr}(i:Nat)(F:Nat->Int){gr:Nat}(b:Nat){gl:Nat}(hbr:cM (M.un X.h) gr 208 [.int .i64 (F 0),.int .i64 (F 1),.int .i64 (F 2),.int .i64 (F 3)])(hbl:cM (M.un X.h) gl 3 [.int .i64 (b:Int)])(hb4:b<4)(hi4:i<4)(S:SH w M X []):Cq Tryz.prog 169 [.int .i64 (i:Int),.pointer (some ⟨gr,0,none⟩),.pointer (some ⟨gl,0,none⟩)] w M X (fun u=>u=.int .i64 (F ((b+i)%4))):=by
 unfold Cq
 refine Up (b:=P4) Tryz.func169 rfl Tryz.ntmps169 rfl (fun C hC=>(bq [(0,_),(1,_),(2,_)] ⟨rfl,rfl,rfl,trivial⟩ (U2 Zx5 PZ rfl rfl rfl (U0 rfl (ag 0 1 rfl rfl (U5 rfl (ah [0,1,2] rfl (U3 (U2 Zx7 Zx8 rfl rfl rfl ?_)))))))))
 refine U0 rfl (af 0 rfl (U4 rfl rfl av rfl (hbl.cell S.um rfl)) (ag 1 1 rfl rfl (af 2 rfl (Ug rfl rfl rfl (by first|omega|(simp only[ls];omega))) ?_)))
 refine af 3 rfl (jq rfl rfl rfl (by first|omega|(simp only[ls];omega))) ?_
 refine b6 8 (.int .i64 (((b+i)%4:Nat):Int)) rfl (int_eq (by omega)) ?_
 refine af 4 rfl (gJ (e:=(b+i)%4) (k:=1) rfl rfl rfl sx aY (by first|rfl|omega) (by first|omega|(simp only[ls];omega))) ?_
 refine af 5 rfl (U4 rfl rfl av rfl (hbr.cell S.um (aio (fun k=>Value.int .i64 (F k)) (by first|omega|(simp only[ls];omega))))) ?_
 refine ag 6 1 rfl rfl (U5 rfl (ah [4] rfl (U3 (Uj hC [_] rfl rfl ⟨rfl,trivial⟩ ?_))))
 exact⟨_,rfl,(S.pick [] [] (by decide) trivial),rfl⟩
noncomputable def PY:=Tryz.f123.body.getD .skip
def Zxa:=cL PY
def PX:=cR PY
def Zxc:=cL PX
def PW:=cR PX
def Zxe:=cL PW
def Zxf:=cR PW
set_option maxRecDepth 10000 in
theorem aaz{w:World}{M:Hp}{X:Fr}(F:Nat->Int)(b:Nat)(a:Nat)(hb4:b<4)(S:SH w M X []):Cq Tryz.prog 123 [.agg [.int .i64 (F 0),.int .i64 (F 1),.int .i64 (F 2),.int .i64 (F 3)].toArray,.int .i64 (b:Int),.int .i64 (a:Int)] w M X (fun u=>u=.agg (lD (kR F b a)).toArray):=by
 unfold Cq
 refine Up (b:=PY) Tryz.func123 rfl Tryz.ntmps123 rfl (fun C hC=>(bq [(0,_),(1,_),(2,_)] ⟨rfl,rfl,rfl,trivial⟩ (U2 Zxa PX rfl rfl rfl (U0 rfl (ak 0 1 rfl rfl rfl (bA (l:=[_,_,_,_]) rfl rfl rfl rfl rfl S ?_))))))
 intro aI w1 S1;clear S
 refine ak 1 2 rfl rfl rfl (bA (l:=[_]) rfl rfl rfl rfl rfl S1 ?_)
 intro aQ w2 S2;clear S1
 refine ak 2 3 rfl rfl rfl (Uh (l:=[_,_,_,_,_]) rfl rfl rfl kz rfl S2 ?_)
 intro bE w3 S3;clear S2
 refine U5 rfl (ah [2,3,4,6] rfl (U3 (U2 Zxc PW rfl rfl rfl (U0 rfl (af 0 rfl (uu (vs:=[_,_]) rfl rfl rfl rfl) (ag 1 1 rfl rfl (U5 rfl (ah [2,4,6,7] rfl ?_))))))))
 refine U3 (U2 Zxe Zxf rfl rfl rfl (Ux rfl (by kernel_rfl) S3 15 rfl ?_))
 clear S3
 refine ai 0 14 rfl (by kernel_rfl) (fun _=>run_move rfl rfl) ?_
 refine aj 1 13 rfl (by kernel_rfl) (fun _ _ _ hz Sz=>rR rfl rfl rfl rfl rfl Ba Sz (zU 0 F b (SH.jE (i:=2) Sz rfl) (SH.jE (i:=1) Sz rfl) (by omega) (by omega) Sz.aD)) ?_
 refine ai 2 12 rfl (by kernel_rfl) (fun _=>run_move rfl rfl) ?_
 refine aj 3 11 rfl (by kernel_rfl) (fun _ _ _ hz Sz=>rR rfl rfl rfl rfl rfl Ba Sz (zU 1 F b (SH.jE (i:=2) Sz rfl) (SH.jE (i:=1) Sz rfl) (by omega) (by omega) Sz.aD)) ?_
 refine ai 4 10 rfl (by kernel_rfl) (fun _=>run_move rfl rfl) ?_
 refine aj 5 9 rfl (by kernel_rfl) (fun _ _ _ hz Sz=>rR rfl rfl rfl rfl rfl Ba Sz (zU 2 F b (SH.jE (i:=2) Sz rfl) (SH.jE (i:=1) Sz rfl) (by omega) (by omega) Sz.aD)) ?_
 refine ai 6 8 rfl (by kernel_rfl) (fun _=>run_move rfl rfl) ?_
 refine aj 7 7 rfl (by kernel_rfl) (fun _ _ _ hz Sz=>rR rfl rfl rfl rfl rfl Ba Sz (zU 3 F b (SH.jE (i:=2) Sz rfl) (SH.jE (i:=1) Sz rfl) (by omega) (by omega) Sz.aD)) ?_
 refine ai 8 6 rfl (by kernel_rfl) (fun _=>run_move rfl rfl) ?_
 refine aj 9 5 rfl (by kernel_rfl) (fun _ _ _ hz Sz=>.inl (U4 rfl rfl av rfl (Sz.suf.ar (i:=1) rfl rfl))) ?_
 refine ai 10 4 rfl (by kernel_rfl) (fun _=>Ug rfl rfl rfl (by first|omega|(simp only[ls];omega))) ?_
 refine ai 11 3 rfl (by kernel_rfl) (fun _=>jq rfl rfl rfl (by first|omega|(simp only[ls];omega))) ?_
 refine jz 20 (.int .i64 (((b+3)%4:Nat):Int)) rfl (int_eq (by omega)) ?_
 refine ai 12 2 rfl (by kernel_rfl) (fun _=>bP rfl rfl rfl) ?_
 refine aj 13 1 rfl (by kernel_rfl) (fun _ _ _ hz Sz=>.inl (run_build (l:=[_,_,_,_,_]) rfl rfl lW rfl rfl)) ?_
 refine Un (i:=14) 0 rfl (by kernel_rfl) rfl rfl (fun oq dC=>?_)
 refine(U7 (i:=0) (us:=[_,_,_,_,_]) (l':=[_,_,_,_,_]) (H':=[_,_,_]) rfl rfl dC rfl rfl rfl rfl bT rfl rfl rfl rfl ?_)
 intro tS dB;clear dC
 refine aN.turn (by kernel_rfl) dB ?_;clear dB
 change WA _ _ _ _ _ _ _ _ _ _ _ _ [_,_,_]
 refine Uu (by kernel_rfl) (fun tQ dt=>?_)
 refine ah [6] rfl (U3 (Uj hC [_] rfl rfl ⟨⟨_,rfl,Um (us:=[_,_,_,_,_]) aT rfl bT (dt.ax (i:=0) rfl ⟨rfl,rfl,rfl,rfl,rfl,trivial⟩)⟩,trivial⟩ ?_))
 exact⟨_,rfl,(dt.pick [] [] (by decide) trivial),(by rfl)⟩
noncomputable def PV:=Tryz.f167.body.getD .skip
def Zxh:=cL PV
def PU:=cR PV
def PT:=cL PU
def PS:=cR PU
def Zxl:=cL PT
def Zxm:=cR PT
def Zxn:=cL Zxm
def PR:=cL Zxn
def Zxp:=cL PR
def PQ:=cR PR
def PO:=cL PQ
def PN:=cR PQ
def Zxt:=cL PO
def Zxu:=cR PO
def Zxv:=cL PN
def Zxw:=cR PN
def PL:=cL Zxv
def Zxy:=cL PL
def PK:=cR PL
def Zy0:=cL PK
def PJ:=cR PK
def PI:=cL PJ
def Zy3:=cR PJ
def Zy4:=cL PI
def Zy5:=cR PI
def Zy6:=cL PS
def Zy7:=cR PS
set_option maxRecDepth 10000 in
theorem ag9{w:World}{M:Hp}{X:Fr}(s:List Da){sA:Option Addr}{sc:Nat}(v:Da)(hs:aF bW (M.un X.h) sA sc s)(S:SH w M X []):Cq Tryz.prog 167 [.slice sA s.length sc,.agg [.int .i64 v.a,.bool v.b].toArray] w M X (fun u=>u=.int .i64 (px (nR v) s)):=by
 unfold Cq
 have sU:s.length*16<=140737488355328:=hs.room
 refine Up (b:=PV) Tryz.func167 rfl Tryz.ntmps167 rfl (fun C hC=>(bq [(0,_),(1,_)] ⟨rfl,rfl,trivial⟩ (U2 Zxh PU rfl rfl rfl (U0 rfl (ak 0 1 rfl rfl rfl (bA (l:=[_,_]) rfl rfl rfl rfl rfl S ?_))))))
 intro aI w1 S1;clear S
 refine ag 1 1 rfl rfl (U5 rfl (ah [0,3] rfl (U3 (U2 PT PS rfl rfl rfl (U2 Zxl Zxm rfl rfl rfl (U0 rfl (ag 0 1 rfl rfl (af 1 rfl (cI rfl rfl rfl rfl rfl rfl ig) ?_))))))))
 refine ag 2 1 rfl rfl (U5 rfl (ah [0,3,7,8] rfl (U3 (Uc Zxn 0 rfl rfl rfl ?_))))
 refine Uz (fun aS au aM=>∃(i:Nat),aS=s.length-i/\Env 19 [(0,.slice sA s.length sc),(3,.pointer (some ⟨aI,0,none⟩)),(7,.int .i64 (s.length:Int)),(8,.int .i64 (i:Int))] au/\SH aM M X [Rs.box aI 26 [.int .i64 v.a,.bool v.b]]/\i<=s.length/\(∀j,j<i->nR v (ga s j)=false)) rfl ?_ ?_
 ·intro au aq
  refine⟨_,⟨0,rfl,aq.sub ⟨rfl,rfl,rfl,rfl,trivial⟩,S1.pick [0] [_] (by decide) ⟨rfl,trivial⟩,?cd,?cT⟩⟩
  case cd=>omega
  case cT=>(intro j hj;omega)
 ·rintro m1 a1 w2 ⟨i,rfl,bh,S2,hi,hq⟩
  clear S1
  refine b7 bh (c:=PR) rfl ?_
  clear bh a1
  refine U2 Zxp PQ rfl rfl rfl (U0 rfl (af 0 rfl (bV rfl rfl rfl) (U5 rfl (U3 (U2 PO PN rfl rfl rfl ?_)))))
  refine Ue Zxt Zxu rfl rfl rfl rfl (fun jb=>?_) (fun jb=>?_)
  ·refine Uf rfl (ah [0,3,7,8] rfl (U3 (U2 Zxv Zxw rfl rfl rfl (Uc PL 1 rfl rfl rfl (U2 Zxy PK rfl rfl rfl (U0 rfl (ag 0 2 rfl rfl (U5 rfl ?_))))))))
   refine ah [0,3,7,8,5] rfl (U3 (U2 Zy0 PJ rfl rfl rfl (Ux rfl (by kernel_rfl) S2 6 rfl ?_)))
   clear S2
   refine aj 0 5 rfl (by kernel_rfl) (fun _ _ _ hz Sz=>.inl (U8 (us:=[_,_]) rfl rfl aZ rfl cg (Sz.suf.ax (i:=0) rfl ⟨rfl,rfl,trivial⟩))) ?_
   refine ai 1 4 rfl (by kernel_rfl) (fun _=>run_move rfl rfl) ?_
   refine ai 2 3 rfl (by kernel_rfl) (fun _=>run_move rfl rfl) ?_
   refine aj 3 2 rfl (by kernel_rfl) (fun _ _ _ hz Sz=>.inl (Uk (C:=bW) i rfl rfl rfl gM (by first|rfl|omega) (hs.mono (Hp.Ua hz Sz.mx)) (by first|omega|(simp only[ls];omega)))) ?_
   refine aj 4 1 rfl (by kernel_rfl) (fun _ _ _ hz Sz=>.inl (U8 (us:=[_,_]) rfl rfl aZ rfl cg ((hs.mono (Hp.Ua hz Sz.mx)).fq Sz.um (e:=i) (by first|omega|(simp only[ls];omega)) (j:=0) ⟨rfl,rfl,trivial⟩))) ?_
   refine ai 5 0 rfl (by kernel_rfl) (fun _=>z6 (Q:=v.a=((ga s i).a)/\v.b=((ga s i).b)) rfl rfl rfl xR ⟨_,_,_,_,rfl,rfl,⟨_,_,rfl,rfl,rfl⟩,rfl⟩) ?_
   refine Uu (by kernel_rfl) (fun w9 S9=>?_)
   refine ah [0,3,7,8,5,16] rfl (U3 ?_)
   refine Ue PI Zy3 rfl rfl rfl rfl (fun l6=>?_) (fun l6=>?_)
   ·refine U2 Zy4 Zy5 rfl rfl rfl (U0 rfl (ag 0 2 rfl rfl (U5 rfl (ah [4] rfl (U3 (Uj hC [_] rfl rfl ⟨rfl,trivial⟩ ?_))))))
    exact⟨_,rfl,(S9.pick [] [] (by decide) trivial),(by rw[Es (p:=nR v) (k:=i) (by omega) (decide_eq_true l6) hq];rfl)⟩
   ·refine Uf rfl (bk (ah [0,3,7,8] rfl (U3 (U0 rfl (af 0 rfl (Ug rfl rfl rfl (by first|omega|(simp only[ls];omega))) ?_)))))
    refine ag 1 1 rfl rfl (U5 rfl (aP ?_))
    intro au aq
    refine⟨_,?dJ,⟨i+1,rfl,aq.sub ⟨rfl,rfl,rfl,rfl,trivial⟩,S9.pick [0] [_] (by decide) ⟨rfl,trivial⟩,?cu,?cY⟩⟩
    case cu=>omega
    case cY=>(intro j hj;by_cases e:j=i;(subst e;exact decide_eq_false l6);exact hq j (by omega))
    case dJ=>omega
  ·refine bS rfl rfl (bL [] trivial (U3 (U2 Zy6 Zy7 rfl rfl rfl (U0 rfl (ag 0 1 rfl rfl (U5 rfl (U3 (Uj hC [_] rfl rfl ⟨rfl,trivial⟩ ?_))))))))
   exact⟨_,rfl,(S2.pick [] [] (by decide) trivial),(by rw[Eg (p:=nR v) (fun j hj=>hq j (by omega))];rfl)⟩
noncomputable def PH:=Tryz.f119.body.getD .skip
def Zy9:=cL PH
def PG:=cR PH
def Zyb:=cL PG
def Zyc:=cR PG
set_option maxRecDepth 10000 in
theorem aah{w:World}{M:Hp}{X:Fr}(s:List Da){sA:Option Addr}{sc:Nat}(v:Da)(hs:aF bW (M.un X.h) sA sc s)(S:SH w M X []):Cq Tryz.prog 119 [.slice sA s.length sc,.agg [.int .i64 v.a,.bool v.b].toArray] w M X (fun u=>u=.bool (s.any (nR v))):=by
 unfold Cq
 have sU:s.length*16<=140737488355328:=hs.room
 refine Up (b:=PH) Tryz.func119 rfl Tryz.ntmps119 rfl (fun C hC=>(bq [(0,_),(1,_)] ⟨rfl,rfl,trivial⟩ (U2 Zy9 PG rfl rfl rfl (U0 rfl (ak 0 1 rfl rfl rfl (bA (l:=[_,_]) rfl rfl rfl rfl rfl S ?_))))))
 intro aI w1 S1;clear S
 refine ag 1 1 rfl rfl (U5 rfl (ah [0,3] rfl (U3 (U2 Zyb Zyc rfl rfl rfl (U0 rfl (ag 0 1 rfl rfl (af 1 rfl (U8 (us:=[_,_]) rfl rfl aZ rfl cg (S1.ax (i:=0) rfl ⟨rfl,rfl,trivial⟩)) (ak 2 3 rfl rfl rfl (cC rfl rfl rfl rfl rfl rfl rfl alk S1 (ag9 s v (hs.mono S1.Uw) S1.aD) ?_)))))))))
 rintro _ w2 S2 rfl;clear S1
 refine af 3 rfl (kf rfl rfl rfl) (ag 4 1 rfl rfl (U5 rfl (ah [4] rfl (U3 (Uj hC [_] rfl rfl ⟨rfl,trivial⟩ ?_)))))
 exact⟨_,rfl,(S2.pick [] [] (by decide) trivial),(by show Value.bool _=_;rw[Et])⟩
noncomputable def PF:=Tryz.f166.body.getD .skip
def Zye:=cL PF
def PE:=cR PF
def PD:=cL PE
def PB:=cR PE
def Zyi:=cL PD
def Zyj:=cR PD
def Zyk:=cL Zyj
def PA:=cL Zyk
def Zym:=cL PA
def Pz:=cR PA
def Py:=cL Pz
def Px:=cR Pz
def Zyq:=cL Py
def Zyr:=cR Py
def Zys:=cL Px
def Zyt:=cR Px
def Pw:=cL Zys
def Zyv:=cL Pw
def Pv:=cR Pw
def Zyx:=cL Pv
def Pt:=cR Pv
def Ps:=cL Pt
def Zz0:=cR Pt
def Zz1:=cL Ps
def Zz2:=cR Ps
def Zz3:=cL PB
def Zz4:=cR PB
set_option maxRecDepth 10000 in
theorem af6{w:World}{M:Hp}{X:Fr}(s:List (List Da)){sA:Option Addr}{sc:Nat}{sv:List eT}(fv:FuncId)(cap:List Value)(p:List Da->Bool)(hs:aF (cB 141) (M.un X.h) sA sc sv)(hds:ez bW (M.un X.h) sv s)(hen:∀args w,(callFunc fv args).run Tryz.prog w=.ok (.enter fv args) w)(hf:∀(w:World) (Y:Fr),(M.un X.h).le (M.un Y.h)->SH w M Y []->∀(A:Option Addr) (c:Nat) (x:List Da),x∈s->aF bW (M.un Y.h) A c x->Cq Tryz.prog fv ([.slice A x.length c]++cap) w M Y (fun u=>u=.bool (p x)))(S:SH w M X []):Cq Tryz.prog 166 [.slice sA sv.length sc,.func (.func fv) #[] cap.toArray] w M X (fun u=>u=.int .i64 (px p s)):=by
 unfold Cq
 have sU:sv.length*24<=140737488355328:=hs.room
 refine Up (b:=PF) Tryz.func166 rfl Tryz.ntmps166 rfl (fun C hC=>(bq [(0,_),(1,_)] ⟨rfl,rfl,trivial⟩ (U2 Zye PE rfl rfl rfl (U0 rfl (ag 0 1 rfl rfl (U5 rfl (ah [0,1] rfl (U3 (U2 PD PB rfl rfl rfl ?_)))))))))
 refine U2 Zyi Zyj rfl rfl rfl (U0 rfl (ag 0 1 rfl rfl (af 1 rfl (cI rfl rfl rfl rfl rfl rfl kY) (ag 2 1 rfl rfl (U5 rfl (ah [0,1,7,8] rfl (U3 (Uc Zyk 0 rfl rfl rfl ?_))))))))
 refine Uz (fun aS au aM=>∃(k:Nat),aS=s.length-k/\Env 19 [(0,.slice sA sv.length sc),(1,.func (.func fv) #[] cap.toArray),(7,.int .i64 (sv.length:Int)),(8,.int .i64 (k:Int))] au/\SH aM M X []/\k<=s.length/\(∀j,j<k->p (ga s j)=false)) rfl ?_ ?_
 ·intro au aq
  refine⟨_,⟨0,rfl,aq.sub ⟨rfl,rfl,rfl,rfl,trivial⟩,S.pick [] [] (by decide) trivial,?cd,?cT⟩⟩
  case cd=>(have:=hds.1;omega)
  case cT=>(intro j hj;omega)
 ·rintro m1 a1 w1 ⟨k,rfl,bh,S1,hk,hno⟩
  clear S
  refine b7 bh (c:=PA) rfl ?_
  clear bh a1
  have hsl:=hds.1
  refine U2 Zym Pz rfl rfl rfl (U0 rfl (af 0 rfl (bV rfl rfl rfl) (U5 rfl (U3 (U2 Py Px rfl rfl rfl ?_)))))
  refine Ue Zyq Zyr rfl rfl rfl rfl (fun jb=>?_) (fun jb=>?_)
  ·refine Uf rfl (ah [0,1,7,8] rfl (U3 (U2 Zys Zyt rfl rfl rfl (Uc Pw 1 rfl rfl rfl (U2 Zyv Pv rfl rfl rfl (U0 rfl (ag 0 2 rfl rfl (U5 rfl ?_))))))))
   refine ah [0,1,7,8,5] rfl (U3 (U2 Zyx Pt rfl rfl rfl (U0 rfl (ag 0 3 rfl rfl (af 3 rfl (Uk (C:=(cB 141)) k rfl rfl rfl jF (by first|rfl|omega) hs (by first|omega|(simp only[ls];omega))) ?_)))))
   obtain⟨kN,hr1⟩:=hds.2 k (by first|omega|(simp only[ls];omega))
   have akd:(ga s k).length*16<=140737488355328:=hr1.room
   refine af 4 rfl (U4 rfl rfl ig rfl (hs.cell S1.um (i:=k) (by first|omega|(simp only[ls];omega)) 0 rfl (congrArg (fun n=>some (Value.slice _ n _)) kN))) ?_
   refine ak 5 6 rfl rfl rfl (ai0 rfl rfl rfl rfl rfl rfl rfl hen S1 (hf _ _ S1.Uw S1.aD _ _ _ (gZ (by omega)) (hr1.mono S1.Uw)) ?_)
   rintro _ w2 S2 rfl;clear S1
   refine U5 rfl (ah [0,1,7,8,5,16] rfl (U3 ?_))
   refine cS Ps Zz0 rfl rfl rfl rfl (fun l6=>?_) (fun l6=>?_)
   ·refine U2 Zz1 Zz2 rfl rfl rfl (U0 rfl (ag 0 2 rfl rfl (U5 rfl (ah [4] rfl (U3 (Uj hC [_] rfl rfl ⟨rfl,trivial⟩ ?_))))))
    exact⟨_,rfl,(S2.pick [] [] (by decide) trivial),(by rw[Es (by omega) l6 hno];rfl)⟩
   ·refine Uf rfl (bk (ah [0,1,7,8] rfl (U3 (U0 rfl (af 0 rfl (Ug rfl rfl rfl (by first|omega|(simp only[ls];omega))) ?_)))))
    refine ag 1 1 rfl rfl (U5 rfl (aP ?_))
    intro au aq
    refine⟨_,?dJ,⟨k+1,rfl,aq.sub ⟨rfl,rfl,rfl,rfl,trivial⟩,S2.pick [] [] (by decide) trivial,?cu,?cY⟩⟩
    case cu=>omega
    case cY=>(intro j hj;by_cases h:j=k;(subst h;exact l6);exact hno j (by omega))
    case dJ=>omega
  ·refine bS rfl rfl (bL [] trivial (U3 (U2 Zz3 Zz4 rfl rfl rfl (U0 rfl (ag 0 1 rfl rfl (U5 rfl (U3 (Uj hC [_] rfl rfl ⟨rfl,trivial⟩ ?_))))))))
   exact⟨_,rfl,(S1.pick [] [] (by decide) trivial),(by rw[Eg (fun j hj=>hno j (by omega))];rfl)⟩
noncomputable def Pr:=Tryz.f117.body.getD .skip
def Zz6:=cL Pr
def Pq:=cR Pr
def Zz8:=cL Pq
def Zz9:=cR Pq
set_option maxRecDepth 10000 in
theorem aac{w:World}{M:Hp}{X:Fr}(s:List (List Da)){sA:Option Addr}{sc:Nat}{sv:List eT}(fv:FuncId)(cap:List Value)(p:List Da->Bool)(hs:aF (cB 141) (M.un X.h) sA sc sv)(hds:ez bW (M.un X.h) sv s)(hen:∀args w,(callFunc fv args).run Tryz.prog w=.ok (.enter fv args) w)(hf:∀(w:World) (Y:Fr),(M.un X.h).le (M.un Y.h)->SH w M Y []->∀(A:Option Addr) (c:Nat) (x:List Da),x∈s->aF bW (M.un Y.h) A c x->Cq Tryz.prog fv ([.slice A x.length c]++cap) w M Y (fun u=>u=.bool (p x)))(S:SH w M X []):Cq Tryz.prog 117 [.slice sA sv.length sc,.func (.func fv) #[] cap.toArray] w M X (fun u=>u=.bool (s.any p)):=by
 unfold Cq
 have sU:sv.length*24<=140737488355328:=hs.room
 refine Up (b:=Pr) Tryz.func117 rfl Tryz.ntmps117 rfl (fun C hC=>(bq [(0,_),(1,_)] ⟨rfl,rfl,trivial⟩ (U2 Zz6 Pq rfl rfl rfl (U0 rfl (ag 0 1 rfl rfl (U5 rfl (ah [0,1] rfl (U3 (U2 Zz8 Zz9 rfl rfl rfl ?_)))))))))
 refine U0 rfl (ag 0 2 rfl rfl (ak 2 3 rfl rfl rfl (cC rfl rfl rfl rfl rfl rfl rfl alm S (af6 s fv cap p (hs.mono S.Uw) (hds.mono S.Uw) hen (fun w Y hl S9=>hf w Y (S.Uw.trans hl) S9) S.aD) ?_)))
 rintro _ w1 S1 rfl;clear S
 refine af 3 rfl (kf rfl rfl rfl) (ag 4 1 rfl rfl (U5 rfl (ah [4] rfl (U3 (Uj hC [_] rfl rfl ⟨rfl,trivial⟩ ?_)))))
 exact⟨_,rfl,(S1.pick [] [] (by decide) trivial),(by show Value.bool _=_;rw[<-Et])⟩
end Go.Proofs.YthppkofceancjaaGreat
