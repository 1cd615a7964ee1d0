/- Part 8 of the proof of the law MovesTake: the walks through its functions and the plain laws that they need. -/
import Derived.Test.YthppkofceancjaaGreatMtZ7
set_option linter.unusedSimpArgs false
set_option linter.unusedVariables false
noncomputable section
namespace Go.Proofs.YthppkofceancjaaGreat
open Go.ChangeShapes Go.WideShapes Go.ChangeAt Go.RowKit
def wq(gb gs:Nat)(fV iV oV:Value)(D:Dg)(u:Value)(N:Hp)(r:Rs):Prop:=u=.tuple [].toArray/\∃A c,r=Rs.aX [Rs.box gb 67 [.pointer (some ⟨gs,0,none⟩),fV],Rs.box gs 70 [.slice A D.ae.length c,.int .i64 D.loops,iV,oV]]/\aG aF N A c D.ae
def lI(d:Dg)(gs:List Nat):Int:=if(bB d (bh gs)).loops<=16 then 0 else 2
def jx(x:Cr):Nat->Bool
 |0=>false
 |k+1=>jx x k||decide (cK x k=cK x ((k+1)%4))
def jr(d:Dg)(m:Mv):Int:=if 0<=m.at_/\m.at_<(d.ae.length:Int)then(if jx (ga d.ae m.at_.toNat) 4=true then lI d [m.at_.toNat]else 8)else 3
def xg(d:Dg)(m:Mv):Dg:=bB d (bh [m.at_.toNat])
theorem akv{b:Int}(h:0<=b/\b<=3):Value.bool (decide (IntKind.i64.wrap (((BitVec.ofInt 64 b &&& BitVec.ofInt 64 2).toNat:Nat):Int)≠0))=.bool (decide (2<=b)):=by
 obtain rfl|rfl|rfl|rfl:b=0\/b=1\/b=2\/b=3:=by omega
 all_goals rfl
theorem acq{b:Int}(h:0<=b/\b<=3):Value.bool (decide (IntKind.i64.wrap (((BitVec.ofInt 64 b &&& BitVec.ofInt 64 1).toNat:Nat):Int)≠0))=.bool (decide (b%2=1)):=by
 obtain rfl|rfl|rfl|rfl:b=0\/b=1\/b=2\/b=3:=by omega
 all_goals rfl
noncomputable def T9:=Tryz.f116.body.getD .skip
def Zu0:=cL T9
def T8:=cR T9
def Zu2:=cL T8
def Zu3:=cR T8
set_option maxHeartbeats 1000000 in
set_option maxRecDepth 10000 in
theorem CT{w:World}{M:Hp}{X:Fr}(d:Dg){bC ggs:Nat}{bD:Value}{iA oA fA:Option Addr}{ic oc fc:Nat}{fv:List fO}(gone:List Int){jq:Option Addr}{jo:Nat}(hsi:aG br M iA ic (ax d false (4*d.ae.length)))(aK:aG br M oA oc (ax d true (4*d.ae.length)))(cZ:aG (di 141) M fA fc fv)(cY:fy cu M fv (U7 d))(iH:aG Uv (M.un X.h) jq jo gone){gs:List Nat}(pU:gone=gs.map fun x:Nat=>(x:Int))(hn:d.ae.length<=16)(hab:aN d=true)(hlo:0<=d.loops/\d.loops<=16)(S:SH w M X [Rs.aX [Rs.box bC 67 [.pointer (some ⟨ggs,0,none⟩),.slice fA fv.length fc],Rs.box ggs 70 [bD,.int .i64 d.loops,.slice iA (ax d false (4*d.ae.length)).length ic,.slice oA (ax d true (4*d.ae.length)).length oc],Rs.row aF bD d.ae]]):Cm 116 [.pointer (some ⟨bC,0,none⟩),.slice jq gone.length jo] w M X (lI d gs) (wq bC ggs (.slice fA fv.length fc) (.slice iA (ax d false (4*d.ae.length)).length ic) (.slice oA (ax d true (4*d.ae.length)).length oc) (bB d (bh gs))):=by
 unfold Cm
 replace S:=S.kM
 have abR:gone.length*8<=140737488355328:=iH.room
 obtain⟨cA,cc,dM,_⟩:=S.sl (i:=2) rfl
 refine Up (b:=T9) Tryz.func116 rfl Tryz.ntmps116 rfl (fun C hC=>(bq [(0,_),(1,_)] ⟨rfl,rfl,trivial⟩ (U2 Zu0 T8 rfl rfl rfl (U0 rfl (ag 0 1 rfl rfl (af 1 rfl (U9 rfl rfl) (af 2 rfl (U1 rfl rfl cV rfl (dK) (dJ)) (af 3 rfl (U4 rfl rfl dt rfl (S.ar (i:=0) rfl rfl)) (ag 4 1 rfl rfl ?_)))))))))
 refine ak 5 6 rfl rfl rfl (eZ rfl rfl rfl rfl rfl rfl rfl aph S (ahN d gone (SH.fF (N:=[]) (i:=1) S rfl (by rw[dM])) (SH.jD (N:=[]) (i:=2) S rfl dM (by show _*40<=_;omega)) (hsi.mono (Hp.bY _ _)) (aK.mono (Hp.bY _ _)) (iH.mono S.Uy) pU hn hab (by omega) S.aD) ?_)
 intro vw1 w1 M1 aL S1 apd;clear S
 replace hsi:=hsi.mono aL
 replace aK:=aK.mono aL
 replace cZ:=cZ.mono aL
 replace cY:=cY.mono aL
 replace iH:=iH.mono (Hp.Ua aL S1.mx)
 obtain⟨A1,c1,rfl,hr1⟩:=apd
 refine ak 6 7 rfl rfl rfl (Uh (l:=[_,_]) rfl rfl rfl fR rfl S1 ?_)
 intro aI w2 S2;clear S1
 refine ak 7 8 rfl rfl rfl (U6 (i:=0) (us:=[_,_]) (l':=[_,_]) (H':=[_,_,_,_]) rfl rfl S2 rfl rfl rfl rfl aA rfl rfl rfl rfl ?_)
 intro w3 S3;clear S2
 refine U5 rfl (ah [0,4] rfl (U3 (U2 Zu2 Zu3 rfl rfl rfl (U0 rfl (af 0 rfl (U1 rfl rfl ay rfl (aC) (aB)) (af 1 rfl (U4 rfl rfl av rfl (S3.ar (i:=0) rfl rfl)) (af 2 rfl (od rfl rfl rfl) ?_)))))))
 refine Uw (t:=13) rfl (fun I3=>?_) (fun I3=>?_)
 ·refine ak 3 4 rfl rfl rfl (cS rfl rfl rfl rfl rfl rfl rfl eD S3 (mQ 2 S3.aD) ?_)
  rintro _ w4 S4 rfl;clear S3
  refine U5 rfl (ah [0,4] rfl (U3 (bM rfl (by kernel_rfl) S4 8 rfl ?_)))
  clear S4
  refine ai 0 7 rfl (by kernel_rfl) (fun _=>run_move rfl rfl) ?_
  refine ai 1 6 rfl (by kernel_rfl) (fun _=>U9 rfl rfl) ?_
  refine ai 2 5 rfl (by kernel_rfl) (fun _=>U1 rfl rfl cV rfl (dK) (dJ)) ?_
  refine aj 3 4 rfl (by kernel_rfl) (fun _ _ _ hz Sz=>.inl (U4 rfl rfl dt rfl (Sz.suf.ar (i:=1) rfl rfl))) ?_
  refine aj 4 3 rfl (by kernel_rfl) (fun _ _ _ hz Sz=>.inl (U8 (us:=[_,_]) rfl rfl ay rfl aA (Sz.suf.aw (i:=0) rfl ⟨rfl,rfl,trivial⟩))) ?_
  refine ai 5 2 rfl (by kernel_rfl) (fun _=>U9 rfl rfl) ?_
  refine ai 6 1 rfl (by kernel_rfl) (fun _=>U1 rfl rfl dR rfl (fE) (fD)) ?_
  refine Un (i:=7) 0 rfl (by kernel_rfl) rfl rfl (fun kz bZ=>?_)
  refine(U6 (i:=2) (us:=[_,_]) (l':=[_,_,_,_]) (H':=[_,_,_,_]) rfl rfl bZ rfl rfl rfl rfl aA rfl rfl rfl rfl ?_)
  intro jG bI;clear bZ
  refine aP.turn (by kernel_rfl) bI ?_;clear bI
  change WA _ _ _ _ _ _ _ _ _ _ _ _ [_,_,_,_]
  refine Uu (by kernel_rfl) (fun nW bO=>?_)
  refine iC hC [] rfl trivial ?_
  have bn:lI d gs=0:=by unfold lI;rw[if_pos I3]
  refine .inl ⟨bn,_,rfl,_,_,aL,(bO.pick [1,2] [_,_] (by decide) ⟨rfl,rfl,trivial⟩).aX,?_⟩
  exact⟨rfl,_,_,rfl,hr1⟩
 ·have bn:lI d gs=2:=by unfold lI;rw[if_neg I3]
  refine l9 (k:=3) rfl rfl rfl rfl rfl rfl rfl eD S3 (iN 2 S3.aD) ?_
  intro w9 M9 ct S9
  subst hC
  exact .inr ⟨by rw[bn];first|decide|assumption,by rw[bn],M9,(aL).trans ct,S9.pick [] [] (by decide) trivial⟩
noncomputable def T7:=Tryz.f68.body.getD .skip
def Zu5:=cL T7
def T6:=cR T7
def Zu7:=cL T6
def T5:=cR T6
def Zu9:=cL T5
def T4:=cR T5
def Zub:=cL T4
def T3:=cR T4
def TY:=cL T3
def TX:=cR T3
def Zuf:=cL TY
def Zug:=cR TY
def Zuh:=cL Zug
def TW:=cL Zuh
def Zuj:=cL TW
def TV:=cR TW
def TU:=cL TV
def TT:=cR TV
def Zun:=cL TU
def Zuo:=cR TU
def Zup:=cL TT
def Zuq:=cR TT
def TS:=cL Zup
def Zus:=cL TS
def Zut:=cR TS
def Zuu:=cL TX
def Zuv:=cR TX
set_option maxHeartbeats 1000000 in
set_option maxRecDepth 10000 in
theorem ajp{w:World}{M:Hp}{X:Fr}(d:Dg){bC ggs:Nat}{bD:Value}{iA oA fA:Option Addr}{ic oc fc:Nat}{fv:List fO}(m:Mv)(hsi:aG br M iA ic (ax d false (4*d.ae.length)))(aK:aG br M oA oc (ax d true (4*d.ae.length)))(cZ:aG (di 141) M fA fc fv)(cY:fy cu M fv (U7 d))(hn:d.ae.length<=16)(hab:aN d=true)(hlo:0<=d.loops/\d.loops<=16)(S:SH w M X [Rs.aX [Rs.box bC 67 [.pointer (some ⟨ggs,0,none⟩),.slice fA fv.length fc],Rs.box ggs 70 [bD,.int .i64 d.loops,.slice iA (ax d false (4*d.ae.length)).length ic,.slice oA (ax d true (4*d.ae.length)).length oc],Rs.row aF bD d.ae]]):Cm 68 [.pointer (some ⟨bC,0,none⟩),.agg [.int .i64 m.kd,.int .i64 m.at_,.int .i64 m.aJ,.int .i64 m.ua,.bool m.ub,.int .i64 m.va,.bool m.vb,.bool m.ov].toArray] w M X (jr d m) (wq bC ggs (.slice fA fv.length fc) (.slice iA (ax d false (4*d.ae.length)).length ic) (.slice oA (ax d true (4*d.ae.length)).length oc) (xg d m)):=by
 unfold Cm
 replace S:=S.kM
 obtain⟨cA,cc,dM,_⟩:=S.sl (i:=2) rfl
 refine Up (b:=T7) Tryz.func68 rfl Tryz.ntmps68 rfl (fun C hC=>(bq [(0,_),(1,_)] ⟨rfl,rfl,trivial⟩ (U2 Zu5 T6 rfl rfl rfl (U0 rfl (ak 0 1 rfl rfl rfl (bE (l:=[_,_,_,_,_,_,_,_]) rfl rfl rfl rfl rfl S ?_))))))
 intro aI w1 S1;clear S
 refine U5 rfl (ah [0,3] rfl (U3 (U2 Zu7 T5 rfl rfl rfl (U0 rfl (ag 0 1 rfl rfl (af 1 rfl (U1 rfl rfl aT rfl (aC) (aB)) (af 2 rfl (U4 rfl rfl av rfl (S1.ar (i:=0) rfl rfl)) (ak 3 4 rfl rfl rfl (cS rfl rfl rfl rfl rfl rfl rfl IG S1 (Gf d m.at_ (SH.fF (N:=[]) (i:=1) S1 rfl rfl) (SH.fF (N:=[]) (i:=2) S1 rfl (by rw[dM])) (SH.jD (N:=[]) (i:=3) S1 rfl dM (by show _*40<=_;omega)) (hsi.mono (Hp.bY _ _)) (aK.mono (Hp.bY _ _)) (by omega) S1.aD) ?_)))))))))
 rintro _ w2 S2 rfl;clear S1
 refine Uw (t:=10) rfl (fun zI=>?_) (fun zI=>?_)
 ·refine ak 4 5 rfl rfl rfl (cS rfl rfl rfl rfl rfl rfl rfl eD S2 (mQ 3 S2.aD) ?_)
  rintro _ w3 S3 rfl;clear S2
  refine U5 rfl (ah [0,3] rfl (U3 (U2 Zu9 T4 rfl rfl rfl (bM rfl (by kernel_rfl) S3 14 rfl ?_))))
  clear S3
  refine ai 0 13 rfl (by kernel_rfl) (fun _=>run_move rfl rfl) ?_
  refine ai 1 12 rfl (by kernel_rfl) (fun _=>U9 rfl rfl) ?_
  refine ai 2 11 rfl (by kernel_rfl) (fun _=>U1 rfl rfl cV rfl (dK) (dJ)) ?_
  refine aj 3 10 rfl (by kernel_rfl) (fun _ _ _ hz Sz=>.inl (U4 rfl rfl dt rfl (Sz.suf.ar (i:=1) rfl rfl))) ?_
  refine ai 4 9 rfl (by kernel_rfl) (fun _=>U9 rfl rfl) ?_
  refine ai 5 8 rfl (by kernel_rfl) (fun _=>U1 rfl rfl dR rfl (fE) (fD)) ?_
  refine ai 6 7 rfl (by kernel_rfl) (fun _=>U1 rfl rfl ay rfl (bK) (bJ)) ?_
  refine aj 7 6 rfl (by kernel_rfl) (fun _ _ _ hz Sz=>.inl (U4 rfl rfl bt rfl (Sz.suf.ar (i:=2) rfl rfl))) ?_
  refine ai 8 5 rfl (by kernel_rfl) (fun _=>U1 rfl rfl aT rfl (aC) (aB)) ?_
  refine aj 9 4 rfl (by kernel_rfl) (fun _ _ _ hz Sz=>.inl (U4 rfl rfl av rfl (Sz.suf.ar (i:=0) rfl rfl))) ?_
  refine kg 21 (.int .i64 ((m.at_.toNat:Nat):Int)) rfl (int_eq (by omega)) ?_
  refine aj 10 3 rfl (by kernel_rfl) (fun _ _ _ hz Sz=>.inl (Uj (C:=aF) (i:=3) m.at_.toNat rfl rfl rfl cD Sz.suf rfl (by first|rfl|omega) (by first|omega|(simp only[ls];omega)))) ?_
  refine aj 11 2 rfl (by kernel_rfl) (fun _ _ _ hz Sz=>.inl (U8 (us:=[_,_,_,_,_]) rfl rfl aW rfl cg (Sz.suf.CZ (i:=3) (e:=m.at_.toNat) (j:=0) rfl (by first|omega|(simp only[ls];omega)) ⟨rfl,rfl,rfl,rfl,rfl,trivial⟩))) ?_
  refine Un (i:=12) 1 rfl (by kernel_rfl) rfl rfl (fun kU bF=>?_)
  refine(Uh (l:=[_,_,_,_,_]) rfl rfl rfl lG rfl bF ?_)
  intro aQ tA bU;clear bF
  refine aP.grow [_] (Hp.le_refl _) bU ?_;clear bU
  change WA _ _ _ _ _ _ _ _ _ _ _ _ [_,_,_,_,_]
  refine Un (i:=13) 0 rfl (by kernel_rfl) rfl rfl (fun q9 cN=>?_)
  refine(U6 (i:=0) (us:=[_,_,_,_,_]) (l':=[_,_,_,_,_]) (H':=[_,_,_,_,_]) rfl rfl cN rfl rfl rfl rfl cg rfl rfl rfl rfl ?_)
  intro tv cM;clear cN
  refine aP.grow [_] (Hp.le_refl _) cM ?_;clear cM
  change WA _ _ _ _ _ _ _ _ _ _ _ _ [_,_,_,_,_]
  refine Uu (by kernel_rfl) (fun vA dz=>?_)
  refine ah [0,3,4] rfl (U3 (U2 Zub T3 rfl rfl rfl (U0 rfl (ag 0 1 rfl rfl (U5 rfl (U3 (U2 TY TX rfl rfl rfl (U2 Zuf Zug rfl rfl rfl ?_))))))))
  refine U0 rfl (ag 0 1 rfl rfl (U5 rfl (U3 (Uc Zuh 0 rfl rfl rfl ?_))))
  refine Ux (fun aS au aM=>∃(s9:Nat),aS=4-s9/\Env 47 [(0,.pointer (some ⟨bC,0,none⟩)),(3,.pointer (some ⟨aI,0,none⟩)),(4,.pointer (some ⟨aQ,0,none⟩)),(5,.bool (jx (ga d.ae m.at_.toNat) s9)),(24,.int .i64 (s9:Int))] au/\SH aM M X [Rs.box aQ 77 [.int .i64 ((ga d.ae m.at_.toNat).a),.int .i64 ((ga d.ae m.at_.toNat).b),.int .i64 ((ga d.ae m.at_.toNat).c),.int .i64 ((ga d.ae m.at_.toNat).d),.bool ((ga d.ae m.at_.toNat).plus)],Rs.box aI 28 [.int .i64 m.kd,.int .i64 m.at_,.int .i64 m.aJ,.int .i64 m.ua,.bool m.ub,.int .i64 m.va,.bool m.vb,.bool m.ov],Rs.box bC 67 [.pointer (some ⟨ggs,0,none⟩),.slice fA fv.length fc],Rs.box ggs 70 [bD,.int .i64 d.loops,.slice iA (ax d false (4*d.ae.length)).length ic,.slice oA (ax d true (4*d.ae.length)).length oc],Rs.row aF bD d.ae]/\s9<=4) rfl ?_ ?_
  ·intro au aq
   refine⟨_,⟨0,rfl,aq.sub ⟨rfl,rfl,rfl,rfl,rfl,trivial⟩,dz.pick [0,1,2,3,4] [_,_,_,_,_] (by decide) ⟨rfl,rfl,rfl,rfl,rfl,trivial⟩,?cd⟩⟩
   case cd=>omega
  ·rintro m1 a1 q8 ⟨s9,rfl,aY,dE,hs9⟩
   clear dz
   refine bX aY (c:=TW) rfl ?_
   clear aY a1
   refine U2 Zuj TV rfl rfl rfl (U0 rfl (af 0 rfl (bS rfl rfl rfl) (U5 rfl (U3 (U2 TU TT rfl rfl rfl ?_)))))
   refine Uf Zun Zuo rfl rfl rfl rfl (fun uX=>?_) (fun uX=>?_)
   ·refine Ue rfl (ah [0,3,4,5,24] rfl (U3 (U2 Zup Zuq rfl rfl rfl (Uc TS 1 rfl rfl rfl (U2 Zus Zut rfl rfl rfl (U0 rfl (ag 0 2 rfl rfl (U5 rfl ?_))))))))
    refine ah [0,3,4,5,24,6] rfl (U3 (bM rfl (by kernel_rfl) dE 13 rfl ?_))
    clear dE
    refine ai 0 12 rfl (by kernel_rfl) (fun _=>run_move rfl rfl) ?_
    refine ai 1 11 rfl (by kernel_rfl) (fun _=>run_move rfl rfl) ?_
    refine yH (t:=28) rfl (fun Jg=>?_) (fun Jg=>?_)
    ·refine Us (i:=2) (d:=29) 10 rfl (by kernel_rfl) (by kernel_rfl) (by kernel_rfl) ⟨_,_,_,rfl,rfl,rfl,rfl⟩ rfl rfl ?_
     refine Us (i:=3) (d:=30) 9 rfl (by kernel_rfl) (by kernel_rfl) (by kernel_rfl) ⟨_,_,_,rfl,rfl,rfl,rfl⟩ rfl rfl ?_
     refine Us (i:=4) (d:=31) 8 rfl (by kernel_rfl) (by kernel_rfl) (by kernel_rfl) ⟨_,_,_,rfl,rfl,rfl,rfl⟩ rfl rfl ?_
     refine Us (i:=5) (d:=32) 7 rfl (by kernel_rfl) (by kernel_rfl) (by kernel_rfl) ⟨_,_,_,rfl,rfl,rfl,rfl⟩ rfl rfl ?_
     refine Us (i:=6) (d:=33) 6 rfl (by kernel_rfl) (by kernel_rfl) (by kernel_rfl) ⟨_,_,_,rfl,rfl,rfl,rfl⟩ rfl rfl ?_
     refine Us (i:=7) (d:=34) 5 rfl (by kernel_rfl) (by kernel_rfl) (by kernel_rfl) ⟨_,_,_,rfl,rfl,rfl,rfl⟩ rfl rfl ?_
     refine Us (i:=8) (d:=35) 4 rfl (by kernel_rfl) (by kernel_rfl) (by kernel_rfl) ⟨_,_,_,rfl,rfl,rfl,rfl⟩ rfl rfl ?_
     refine Us (i:=9) (d:=36) 3 rfl (by kernel_rfl) (by kernel_rfl) (by kernel_rfl) ⟨_,_,_,rfl,rfl,rfl,rfl⟩ rfl rfl ?_
     refine Us (i:=10) (d:=37) 2 rfl (by kernel_rfl) (by kernel_rfl) (by kernel_rfl) ⟨_,_,_,rfl,rfl,rfl,rfl⟩ rfl rfl ?_
     refine ai 11 1 rfl (by kernel_rfl) (fun _=>gK rfl rfl rfl) ?_
     refine ai 12 0 rfl (by kernel_rfl) (fun _=>run_assign rfl rfl) ?_
     refine Uu (by kernel_rfl) (fun ng dB=>?_)
     refine bj (ah [0,3,4,5,24] rfl (U3 (kf 5 (.bool (jx (ga d.ae m.at_.toNat) (s9+1))) rfl (by show Value.bool _=Value.bool (jx _ s9||_);rw[Jg];rfl) ?_)))
     refine U0 rfl (af 0 rfl (Ug rfl rfl rfl (by first|omega|(simp only[ls];omega))) ?_)
     refine ag 1 1 rfl rfl (U5 rfl (aO ?_))
     intro au aq
     refine⟨_,?dQ,⟨s9+1,rfl,aq.sub ⟨rfl,rfl,rfl,rfl,rfl,trivial⟩,dB.pick [0,1,2,3,4] [_,_,_,_,_] (by decide) ⟨rfl,rfl,rfl,rfl,rfl,trivial⟩,?cx⟩⟩
     case cx=>omega
     case dQ=>omega
    ·refine aj 2 10 rfl (by kernel_rfl) (fun _ _ _ hz Sz=>.inl (U8 (us:=[_,_,_,_,_]) rfl rfl aW rfl cg (Sz.suf.aw (i:=0) rfl ⟨rfl,rfl,rfl,rfl,rfl,trivial⟩))) ?_
     refine ai 3 9 rfl (by kernel_rfl) (fun _=>run_move rfl rfl) ?_
     refine aj 4 8 rfl (by kernel_rfl) (fun _ _ _ hz Sz=>Ur rfl rfl rfl rfl rfl Df Sz (Dn (ga d.ae m.at_.toNat) s9 (by omega) Sz.aD)) ?_
     refine aj 5 7 rfl (by kernel_rfl) (fun _ _ _ hz Sz=>.inl (U8 (us:=[_,_,_,_,_]) rfl rfl aW rfl cg (Sz.suf.aw (i:=0) rfl ⟨rfl,rfl,rfl,rfl,rfl,trivial⟩))) ?_
     refine ai 6 6 rfl (by kernel_rfl) (fun _=>run_move rfl rfl) ?_
     refine ai 7 5 rfl (by kernel_rfl) (fun _=>Ug rfl rfl rfl (by first|omega|(simp only[ls];omega))) ?_
     refine ai 8 4 rfl (by kernel_rfl) (fun _=>jY rfl rfl rfl (by first|omega|(simp only[ls];omega))) ?_
     refine kg 35 (.int .i64 (((s9+1)%4:Nat):Int)) rfl (int_eq (by omega)) ?_
     refine aj 9 3 rfl (by kernel_rfl) (fun _ _ _ hz Sz=>Ur rfl rfl rfl rfl rfl Df Sz (Dn (ga d.ae m.at_.toNat) ((s9+1)%4) (by omega) Sz.aD)) ?_
     refine ai 10 2 rfl (by kernel_rfl) (fun _=>bR rfl rfl rfl) ?_
     refine ai 11 1 rfl (by kernel_rfl) (fun _=>jy rfl rfl rfl) ?_
     refine ai 12 0 rfl (by kernel_rfl) (fun _=>run_assign rfl rfl) ?_
     refine Uu (by kernel_rfl) (fun xR dV=>?_)
     refine bj (ah [0,3,4,5,24] rfl (U3 (kf 5 (.bool (jx (ga d.ae m.at_.toNat) (s9+1))) rfl (by show Value.bool _=Value.bool (jx _ s9||_);rw[Jg];rfl) ?_)))
     refine U0 rfl (af 0 rfl (Ug rfl rfl rfl (by first|omega|(simp only[ls];omega))) ?_)
     refine ag 1 1 rfl rfl (U5 rfl (aO ?_))
     intro au aq
     refine⟨_,?lM,⟨s9+1,rfl,aq.sub ⟨rfl,rfl,rfl,rfl,rfl,trivial⟩,dV.pick [0,1,2,3,4] [_,_,_,_,_] (by decide) ⟨rfl,rfl,rfl,rfl,rfl,trivial⟩,?eB⟩⟩
     case eB=>omega
     case lM=>omega
   ·refine bP rfl rfl (ah [0,3,5] rfl (U3 (U2 Zuu Zuv rfl rfl rfl ?_)))
    obtain rfl:s9=4:=by omega
    refine U0 rfl (ag 0 1 rfl rfl ?_)
    refine mR (t:=40) rfl (fun qC=>?_) (fun qC=>?_)
    ·refine ak 1 2 rfl rfl rfl (cS rfl rfl rfl rfl rfl rfl rfl eD dE (mQ 8 dE.aD) ?_)
     rintro _ xQ il rfl;clear dE
     refine U5 rfl (ah [0,3] rfl (U3 (U0 rfl (ag 0 1 rfl rfl (af 1 rfl (U1 rfl rfl aT rfl (aC) (aB)) (af 2 rfl (U4 rfl rfl av rfl (il.ar (i:=1) rfl rfl)) (cy 44 (.int .i64 ((m.at_.toNat:Nat):Int)) rfl (int_eq (by omega)) ?_)))))))
     refine ak 3 4 rfl rfl rfl (ij (C:=Uv) (l:=[_]) rfl rfl rfl rfl bA rfl rfl rfl rfl il ?_)
     intro bz xP jA;clear il
     by_cases GJ:lI d [m.at_.toNat]=0
     ·have pJ:=jA.pick [3,4,5,0,1,2] [_,_,_,_,_,_] (by decide) ⟨rfl,rfl,rfl,rfl,rfl,rfl,trivial⟩;clear jA
      have ik:SH _ _ _ (Rs.aX [_,_,_]::[_,_,_]):=SH.jd (A:=[_,_,_]) (B:=[_,_,_]) pJ;clear pJ
      have fW:SH _ _ _ [_,_,_,_]:=ik.less (i:=0) rfl
      have hr1:=fW.Cz (C:=Uv) (z:=((m.at_.toNat:Nat):Int)) (i:=1) rfl rfl (by decide)
      have iE:=CT d ([((m.at_.toNat:Nat):Int)]) hsi aK cZ cY hr1 (gs:=[m.at_.toNat]) rfl hn hab hlo (ik.iG (i:=0) rfl)
      clear fW
      refine ak 4 5 rfl rfl rfl (jP (i:=0) rfl rfl rfl rfl rfl rfl rfl De ik rfl (iE.ok GJ) ?_)
      intro ax7 AE M30 ayl zw jm jJ;clear ik
      obtain⟨rfl,A1,c1,rfl,hr2⟩:=jJ
      replace hsi:=hsi.mono zw
      replace aK:=aK.mono zw
      replace cZ:=cZ.mono zw
      replace cY:=cY.mono zw
      replace jm:SH _ _ _ (Rs.aX [_,_]::[_,_,_]):=jm
      have kI:SH _ _ _ [_,_,_,_,_]:=SH.jK (A:=[_,_]) (B:=[_,_,_]) jm;clear jm
      refine U5 rfl (iC hC [] rfl trivial ?_)
      have bn:jr d m=0:=by unfold jr;rw[if_pos zI,if_pos qC];exact GJ
      refine .inl ⟨bn,_,rfl,_,_,zw,(kI.pick [0,1] [_,_] (by decide) ⟨rfl,rfl,trivial⟩).aX,?_⟩
      exact⟨rfl,_,_,rfl,hr2⟩
     ·have bn:jr d m=lI d [m.at_.toNat]:=by unfold jr;rw[if_pos zI,if_pos qC]
      have jl:=jA.pick [3,4,5,0,1,2] [_,_,_,_,_,_] (by decide) ⟨rfl,rfl,rfl,rfl,rfl,rfl,trivial⟩;clear jA
      have jk:SH _ _ _ (Rs.aX [_,_,_]::[_,_,_]):=SH.jd (A:=[_,_,_]) (B:=[_,_,_]) jl;clear jl
      have kH:SH _ _ _ [_,_,_,_]:=jk.less (i:=0) rfl
      have hr3:=kH.Cz (C:=Uv) (z:=((m.at_.toNat:Nat):Int)) (i:=1) rfl rfl (by decide)
      have lv:=CT d ([((m.at_.toNat:Nat):Int)]) hsi aK cZ cY hr3 (gs:=[m.at_.toNat]) rfl hn hab hlo (jk.iG (i:=0) rfl)
      refine l9 (k:=4) rfl rfl rfl rfl rfl rfl rfl De kH (lv.no GJ) ?_
      intro w9 M9 ct S9
      subst hC
      exact .inr ⟨by rw[bn];first|decide|assumption,by rw[bn],M9,(Hp.le_refl _).trans ct,S9.pick [] [] (by decide) trivial⟩
    ·have bn:jr d m=8:=by unfold jr;rw[if_pos zI,if_neg (by rw[qC];exact Bool.false_ne_true)]
     refine l9 (k:=1) rfl rfl rfl rfl rfl rfl rfl eD dE (iN 8 dE.aD) ?_
     intro w9 M9 ct S9
     subst hC
     exact .inr ⟨by rw[bn];first|decide|assumption,by rw[bn],M9,(Hp.le_refl _).trans ct,S9.pick [] [] (by decide) trivial⟩
 ·have bn:jr d m=3:=by unfold jr;rw[if_neg zI]
  refine l9 (k:=4) rfl rfl rfl rfl rfl rfl rfl eD S2 (iN 3 S2.aD) ?_
  intro w9 M9 ct S9
  subst hC
  exact .inr ⟨by rw[bn];first|decide|assumption,by rw[bn],M9,(Hp.le_refl _).trans ct,S9.pick [] [] (by decide) trivial⟩
end Go.Proofs.YthppkofceancjaaGreat
namespace Go.Proofs.YthppkofceancjaaGreat
open Go.ChangeShapes Go.WideShapes Go.ChangeAt Go.RowKit
section
variable {P : Program} {o : Oper} {L : List (Nat × Value)} {w : World} {x y : Operand} {t t' src dst : TypeId} {a b : Int} {k k2 : IntKind}
theorem aiS{bo:BinOp}{v:Value}(ho:o.op=.binOp bo t x y t')(hx:oev L x=some (.int k a))(hy:oev L y=some (.int k2 b))(h:∀w,(binOp bo t (.int k a) (.int k2 b)).run P w=.ok v w):Run P o L w v w:=by
 intro n c hc
 unfold execOp
 simp only[ho,hc.eval hx,hc.eval hy]
 have:∀w,(eqGuard bo t x y (.int k a) (.int k2 b)).run P w=.ok () w:=by
  intro w
  unfold eqGuard
  split<;>simp
 simp[this,h]
theorem BZ(ho:o.op=.binOp .and t x y t')(hx:oev L x=some (.int k a))(hy:oev L y=some (.int k b)):Run P o L w (.int k (k.wrap ((BitVec.ofInt k.bits a &&& BitVec.ofInt k.bits b).toNat:Nat))) w:=
 aiS ho hx hy fun w=>by simp[binOp,Op.intBits]
end
end Go.Proofs.YthppkofceancjaaGreat
namespace Go.Proofs.YthppkofceancjaaGreat
open Go.ChangeShapes Go.WideShapes Go.ChangeAt Go.RowKit
def dU(b0 b1 a0 a1:Int)(p:Bool):Cr:=if p=true then⟨b0,a1,b1,a0,true⟩else⟨b0,a0,b1,a1,false⟩
noncomputable def TR:=Tryz.f113.body.getD .skip
def Zux:=cL TR
def TQ:=cR TR
def Zuz:=cL TQ
def TP:=cR TQ
def TN:=cL TP
def TM:=cR TP
def Zv3:=cL TN
def TL:=cR TN
def Zv5:=cL TL
def Zv6:=cR TL
def Zv7:=cL TM
def Zv8:=cR TM
set_option maxRecDepth 10000 in
theorem ac0{w:World}{M:Hp}{X:Fr}(b0 b1:Int)(a0 a1:Int)(p:Bool)(S:SH w M X []):Cq Tryz.prog 113 [.agg [.int .i64 b0,.int .i64 b1].toArray,.agg [.int .i64 a0,.int .i64 a1].toArray,.bool p] w M X (fun u=>u=.agg (mM (dU b0 b1 a0 a1 p)).toArray):=by
 unfold Cq
 refine Up (b:=TR) Tryz.func113 rfl Tryz.ntmps113 rfl (fun C hC=>(bq [(0,_),(1,_),(2,_)] ⟨rfl,rfl,rfl,trivial⟩ (U2 Zux TQ rfl rfl rfl (U0 rfl (ak 0 1 rfl rfl rfl (bE (l:=[_,_]) rfl rfl rfl rfl rfl S ?_))))))
 intro aI w1 S1;clear S
 refine ak 1 2 rfl rfl rfl (bE (l:=[_,_]) rfl rfl rfl rfl rfl S1 ?_)
 intro aQ w2 S2;clear S1
 refine ak 2 3 rfl rfl rfl (Uh (l:=[_,_,_,_,_]) rfl rfl rfl lG rfl S2 ?_)
 intro bz w3 S3;clear S2
 refine U5 rfl (ah [2,3,4,6] rfl (U3 (U2 Zuz TP rfl rfl rfl (U0 rfl (af 0 rfl (iD (e:=0) (k:=1) rfl rfl rfl fB bg (by first|rfl|omega) (by first|omega|(simp only[ls];omega))) ?_)))))
 refine af 1 rfl (U4 rfl rfl av rfl (S3.ar (i:=2) rfl rfl)) (af 2 rfl (iD (e:=1) (k:=1) rfl rfl rfl fB bg (by first|rfl|omega) (by first|omega|(simp only[ls];omega))) ?_)
 refine af 3 rfl (U4 rfl rfl av rfl (S3.ar (i:=2) rfl rfl)) (af 4 rfl (iD (e:=0) (k:=1) rfl rfl rfl fB bg (by first|rfl|omega) (by first|omega|(simp only[ls];omega))) ?_)
 refine af 5 rfl (U4 rfl rfl av rfl (S3.ar (i:=1) rfl rfl)) (af 6 rfl (iD (e:=1) (k:=1) rfl rfl rfl fB bg (by first|rfl|omega) (by first|omega|(simp only[ls];omega))) ?_)
 refine af 7 rfl (U4 rfl rfl av rfl (S3.ar (i:=1) rfl rfl)) (ag 8 1 rfl rfl (af 9 rfl (run_build (l:=[_,_,_,_,_]) rfl rfl mY rfl rfl) (ak 10 11 rfl rfl rfl (Uh (l:=[_,_,_,_,_]) rfl rfl rfl lG rfl S3 ?_))))
 intro gZ w4 S4;clear S3
 refine ak 11 12 rfl rfl rfl (U6 (i:=0) (us:=[_,_,_,_,_]) (l':=[_,_,_,_,_]) (H':=[_,_,_,_]) rfl rfl S4 rfl rfl rfl rfl cg rfl rfl rfl rfl ?_)
 intro w5 S5;clear S4
 refine U5 rfl (ah [2,4,6,7] rfl (U3 (U2 TN TM rfl rfl rfl (U2 Zv3 TL rfl rfl rfl (U0 rfl (ag 0 1 rfl rfl (U5 rfl (ah [4,6,7,18] rfl ?_))))))))
 refine U3 ?_
 refine dN Zv5 Zv6 rfl rfl rfl rfl (fun lN=>?_) (fun lN=>?_)
 ·have S6:=S5.pick [0,1,2,3] [_,_,_,_] (by decide) ⟨rfl,rfl,rfl,rfl,trivial⟩;clear S5
  refine jM [_] [_,_,_] rfl (by kernel_rfl) S6 8 rfl ?_
  clear S6
  change WA _ _ _ _ _ _ _ _ _ _ _ _ [_,_,_,_]
  refine aj 0 7 rfl (by kernel_rfl) (fun _ _ _ hz Sz=>.inl (iD (e:=1) (k:=1) rfl rfl rfl fB bg (by first|rfl|omega) (by first|omega|(simp only[ls];omega)))) ?_
  refine aj 1 6 rfl (by kernel_rfl) (fun _ _ _ hz Sz=>.inl (U4 rfl rfl av rfl (Sz.suf.ar (i:=1) rfl rfl))) ?_
  refine aj 2 5 rfl (by kernel_rfl) (fun _ _ _ hz Sz=>.inl (iD (e:=0) (k:=1) rfl rfl rfl fB bg (by first|rfl|omega) (by first|omega|(simp only[ls];omega)))) ?_
  refine aj 3 4 rfl (by kernel_rfl) (fun _ _ _ hz Sz=>.inl (U4 rfl rfl av rfl (Sz.suf.ar (i:=1) rfl rfl))) ?_
  refine ai 4 3 rfl (by kernel_rfl) (fun _=>U1 rfl rfl aW rfl (aC) (aB)) ?_
  refine Un (i:=5) 2 rfl (by kernel_rfl) rfl rfl (fun lU bZ=>?_)
  refine(U6 (i:=0) (us:=[_]) (l':=[_,_,_,_,_]) (H':=[_,_,_,_]) rfl rfl bZ rfl rfl rfl rfl bg rfl rfl rfl rfl ?_)
  intro kz bI;clear bZ
  refine aP.grow [_] (Hp.le_refl _) bI ?_;clear bI
  change WA _ _ _ _ _ _ _ _ _ _ _ _ [_,_,_,_]
  refine ai 6 1 rfl (by kernel_rfl) (fun _=>U1 rfl rfl aW rfl (aC) (aB)) ?_
  refine Un (i:=7) 0 rfl (by kernel_rfl) rfl rfl (fun ni bF=>?_)
  refine(U6 (i:=0) (us:=[_]) (l':=[_,_,_,_,_]) (H':=[_,_,_,_]) rfl rfl bF rfl rfl rfl rfl bg rfl rfl rfl rfl ?_)
  intro kU bU;clear bF
  refine aP.grow [_] (Hp.le_refl _) bU ?_;clear bU
  change WA _ _ _ _ _ _ _ _ _ _ _ _ [_,_,_,_]
  refine Uu (by kernel_rfl) (fun tA dP=>?_)
  refine ah [6,7] rfl (U3 (U2 Zv7 Zv8 rfl rfl rfl (U0 rfl (af 0 rfl (U8 (us:=[_,_,_,_,_]) rfl rfl aW rfl cg (dP.aw (i:=0) rfl ⟨rfl,rfl,rfl,rfl,rfl,trivial⟩)) (ak 1 2 rfl rfl rfl (U6 (i:=1) (us:=[_,_,_,_,_]) (l':=[_,_,_,_,_]) (H':=[_,_,_,_]) rfl rfl dP rfl rfl rfl rfl cg rfl rfl rfl rfl ?_))))))
  intro oZ cN;clear dP
  refine U5 rfl (ah [6] rfl (U3 (Uk hC [_] rfl rfl ⟨⟨_,rfl,Um (us:=[_,_,_,_,_]) aW rfl cg (cN.aw (i:=1) rfl ⟨rfl,rfl,rfl,rfl,rfl,trivial⟩)⟩,trivial⟩ ?_)))
  exact⟨_,rfl,(cN.pick [] [] (by decide) trivial),(by subst lN;rfl)⟩
 ·refine Ue rfl (ah [6,7] rfl (U3 (U2 Zv7 Zv8 rfl rfl rfl (U0 rfl (af 0 rfl (U8 (us:=[_,_,_,_,_]) rfl rfl aW rfl cg (S5.aw (i:=0) rfl ⟨rfl,rfl,rfl,rfl,rfl,trivial⟩)) (ak 1 2 rfl rfl rfl (U6 (i:=1) (us:=[_,_,_,_,_]) (l':=[_,_,_,_,_]) (H':=[_,_,_,_]) rfl rfl S5 rfl rfl rfl rfl cg rfl rfl rfl rfl ?_)))))))
  intro q9 cM;clear S5
  refine U5 rfl (ah [6] rfl (U3 (Uk hC [_] rfl rfl ⟨⟨_,rfl,Um (us:=[_,_,_,_,_]) aW rfl cg (cM.aw (i:=1) rfl ⟨rfl,rfl,rfl,rfl,rfl,trivial⟩)⟩,trivial⟩ ?_)))
  exact⟨_,rfl,(cM.pick [] [] (by decide) trivial),(by subst lN;rfl)⟩
theorem Cl{b:Int}(h:0<=b/\b<=3):IntKind.i64.wrap (((BitVec.ofInt 64 b &&& BitVec.ofInt 64 2).toNat:Nat):Int)≠0<->2<=b:=by
 have:=akv h
 injection this with h1
 exact decide_eq_decide.1 h1
def fT(f0 f1 s0 s1 b:Int):Cr:=if 2<=b then dU s0 s1 f0 f1 (decide (b%2=1))else dU f0 f1 s0 s1 (decide (b%2=1))
def eH(d:Dg)(m:Mv):Int:=if(1<=m.at_/\m.at_<=2*(d.ae.length:Int)\/m.at_=0/\0<d.loops)/\0<=m.aJ/\m.aJ<=3 then(if(d.ae.length:Int)<16 then 0 else 2)else 3
def mD(d:Dg)(m:Mv):Dg:=if m.at_=0 then⟨d.ae++[fT (2*(d.ae.length:Int)+1) (2*(d.ae.length:Int)+2) (2*(d.ae.length:Int)+2) (2*(d.ae.length:Int)+1) m.aJ],d.loops-1⟩else⟨bk d.ae (Ud d m.at_ false).1 (Ud d m.at_ false).2 (2*(d.ae.length:Int)+2)++[fT m.at_ (2*(d.ae.length:Int)+1) (2*(d.ae.length:Int)+1) (2*(d.ae.length:Int)+2) m.aJ],d.loops⟩
noncomputable def TK:=Tryz.f67.body.getD .skip
def Zva:=cL TK
def TJ:=cR TK
def Zvc:=cL TJ
def TI:=cR TJ
def Zve:=cL TI
def FJ:=cR TI
def Zvg:=cL FJ
def FI:=cR FJ
def Zvi:=cL FI
def FH:=cR FI
def Zvk:=cL FH
def FF:=cR FH
def FD:=cL FF
def FC:=cR FF
def Zvo:=cL FD
def FB:=cR FD
def TH:=cL FB
def Zvr:=cR FB
def Zvs:=cL TH
def Zvt:=cR TH
def FA:=cL FC
def Zvv:=cR FC
def Zvw:=cL FA
def Fz:=cR FA
def Zvy:=cL Fz
def Zvz:=cR Fz
set_option maxHeartbeats 1000000 in
set_option maxRecDepth 10000 in
theorem alM{w:World}{M:Hp}{X:Fr}(d:Dg){bC ggs:Nat}{bD:Value}{iA oA fA:Option Addr}{ic oc fc:Nat}{fv:List fO}(m:Mv)(hsi:aG br M iA ic (ax d false (4*d.ae.length)))(aK:aG br M oA oc (ax d true (4*d.ae.length)))(cZ:aG (di 141) M fA fc fv)(cY:fy cu M fv (U7 d))(hn:d.ae.length<=16)(hab:aN d=true)(hlo:0<=d.loops/\d.loops<=16)(S:SH w M X [Rs.aX [Rs.box bC 67 [.pointer (some ⟨ggs,0,none⟩),.slice fA fv.length fc],Rs.box ggs 70 [bD,.int .i64 d.loops,.slice iA (ax d false (4*d.ae.length)).length ic,.slice oA (ax d true (4*d.ae.length)).length oc],Rs.row aF bD d.ae]]):Cm 67 [.pointer (some ⟨bC,0,none⟩),.agg [.int .i64 m.kd,.int .i64 m.at_,.int .i64 m.aJ,.int .i64 m.ua,.bool m.ub,.int .i64 m.va,.bool m.vb,.bool m.ov].toArray] w M X (eH d m) (wq bC ggs (.slice fA fv.length fc) (.slice iA (ax d false (4*d.ae.length)).length ic) (.slice oA (ax d true (4*d.ae.length)).length oc) (mD d m)):=by
 unfold Cm
 replace S:=S.kM
 obtain⟨cA,cc,dM,_⟩:=S.sl (i:=2) rfl
 refine Up (b:=TK) Tryz.func67 rfl Tryz.ntmps67 rfl (fun C hC=>(bq [(0,_),(1,_)] ⟨rfl,rfl,trivial⟩ (U2 Zva TJ rfl rfl rfl (U0 rfl (ak 0 1 rfl rfl rfl (bE (l:=[_,_,_,_,_,_,_,_]) rfl rfl rfl rfl rfl S ?_))))))
 intro aI w1 S1;clear S
 refine U5 rfl (ah [0,3] rfl (U3 (U2 Zvc TI rfl rfl rfl (U0 rfl (af 0 rfl (U1 rfl rfl aT rfl (aC) (aB)) (af 1 rfl (U4 rfl rfl av rfl (S1.ar (i:=0) rfl rfl)) (af 2 rfl (bR rfl rfl rfl) (ag 3 1 rfl rfl ?_))))))))
 refine Uw (t:=12) rfl (fun Jk=>?_) (fun Jk=>?_)
 ·refine ag 4 1 rfl rfl (aH 5 6 rfl rfl rfl rfl rfl rfl rfl rfl (Ub rfl rfl (U9 rfl rfl) (aH 6 7 rfl rfl rfl rfl rfl rfl rfl rfl (Ub rfl rfl (U1 rfl rfl cV rfl (dK) (dJ)) (aH 7 8 rfl rfl rfl rfl rfl rfl rfl rfl (Ub rfl rfl (U4 rfl rfl dt rfl (S1.ar (i:=1) rfl rfl)) (aH 8 9 rfl rfl rfl rfl rfl rfl rfl rfl (Ub rfl rfl (U9 rfl rfl) (aH 9 10 rfl rfl rfl rfl rfl rfl rfl rfl (Ub rfl rfl (U1 rfl rfl dR rfl (fE) (fD)) (aH 10 11 rfl rfl rfl rfl rfl rfl rfl rfl (Ub rfl rfl (U1 rfl rfl ay rfl (aC) (aB)) (aH 11 12 rfl rfl rfl rfl rfl rfl rfl rfl (Ub rfl rfl (U4 rfl rfl av rfl (S1.ar (i:=2) rfl rfl)) (aH 12 13 rfl rfl rfl rfl rfl rfl rfl rfl (Ub rfl rfl (tV rfl rfl rfl) ?_))))))))))))))))
  refine ag 13 2 rfl rfl (U5 rfl (ah [0,3,4] rfl (U3 (U2 Zve FJ rfl rfl rfl (bM rfl (by kernel_rfl) S1 21 rfl ?_)))))
  clear S1
  refine ai 0 20 rfl (by kernel_rfl) (fun _=>run_move rfl rfl) ?_
  refine ai 1 19 rfl (by kernel_rfl) (fun _=>U9 rfl rfl) ?_
  refine ai 2 18 rfl (by kernel_rfl) (fun _=>U1 rfl rfl cV rfl (dK) (dJ)) ?_
  refine aj 3 17 rfl (by kernel_rfl) (fun _ _ _ hz Sz=>.inl (U4 rfl rfl dt rfl (Sz.suf.ar (i:=1) rfl rfl))) ?_
  refine ai 4 16 rfl (by kernel_rfl) (fun _=>U1 rfl rfl aT rfl (aC) (aB)) ?_
  refine aj 5 15 rfl (by kernel_rfl) (fun _ _ _ hz Sz=>.inl (U4 rfl rfl av rfl (Sz.suf.ar (i:=0) rfl rfl))) ?_
  refine aj 6 14 rfl (by kernel_rfl) (fun _ _ _ hz Sz=>Ur rfl rfl rfl rfl rfl Di Sz (Cn d m.at_ (SH.fF (i:=2) Sz rfl (by rw[dM])) (SH.jD (i:=3) Sz rfl dM (by show _*40<=_;omega)) ((hsi.mono hz).mono (Hp.bY _ _)) ((aK.mono hz).mono (Hp.bY _ _)) (by omega) Sz.aD)) ?_
  refine ai 7 13 rfl (by kernel_rfl) (fun _=>run_move rfl rfl) ?_
  refine lj (t:=30) rfl (fun qD=>?_) (fun qD=>?_)
  ·exfalso;omega
  ·refine ai 8 12 rfl (by kernel_rfl) (fun _=>run_move rfl rfl) ?_
   refine ai 9 11 rfl (by kernel_rfl) (fun _=>jy rfl rfl rfl) ?_
   refine ai 10 10 rfl (by kernel_rfl) (fun _=>run_move rfl rfl) ?_
   refine lj (t:=33) rfl (fun xo=>?_) (fun xo=>?_)
   ·refine ai 11 9 rfl (by kernel_rfl) (fun _=>U1 rfl rfl aT rfl (aC) (aB)) ?_
    refine aj 12 8 rfl (by kernel_rfl) (fun _ _ _ hz Sz=>.inl (U4 rfl rfl av rfl (Sz.suf.ar (i:=0) rfl rfl))) ?_
    refine ai 13 7 rfl (by kernel_rfl) (fun _=>lg rfl rfl rfl) ?_
    refine ai 14 6 rfl (by kernel_rfl) (fun _=>gK rfl rfl rfl) ?_
    refine ai 15 5 rfl (by kernel_rfl) (fun _=>run_move rfl rfl) ?_
    refine lj (t:=38) rfl (fun Je=>?_) (fun Je=>?_)
    ·refine ai 16 4 rfl (by kernel_rfl) (fun _=>U1 rfl rfl aT rfl (aC) (aB)) ?_
     refine aj 17 3 rfl (by kernel_rfl) (fun _ _ _ hz Sz=>.inl (U4 rfl rfl av rfl (Sz.suf.ar (i:=0) rfl rfl))) ?_
     refine ai 18 2 rfl (by kernel_rfl) (fun _=>od rfl rfl rfl) ?_
     refine ai 19 1 rfl (by kernel_rfl) (fun _=>gK rfl rfl rfl) ?_
     refine lj (t:=42) rfl (fun I2=>?_) (fun I2=>?_)
     ·refine aj 20 0 rfl (by kernel_rfl) (fun _ _ _ hz Sz=>Ur rfl rfl rfl rfl rfl eD Sz (mQ 3 Sz.aD)) ?_
      refine Uu (by kernel_rfl) (fun AH cI=>?_)
      refine ah [0,3,4] rfl (U3 (U2 Zvg FI rfl rfl rfl (U0 rfl (ag 0 1 rfl rfl (af 1 rfl (U9 rfl rfl) (af 2 rfl (U1 rfl rfl cV rfl (dK) (dJ)) (af 3 rfl (U4 rfl rfl dt rfl (cI.ar (i:=1) rfl rfl)) (af 4 rfl (U9 rfl rfl) ?_))))))))
      refine af 5 rfl (U1 rfl rfl dR rfl (fE) (fD)) (af 6 rfl (U1 rfl rfl ay rfl (bK) (bJ)) (af 7 rfl (U4 rfl rfl bt rfl (cI.ar (i:=2) rfl rfl)) (af 8 rfl (qa (C:=aF) (i:=3) rfl rfl rfl rfl rfl rfl cD cI rfl) (af 9 rfl (bS rfl rfl rfl) ?_))))
      refine Uw (t:=53) rfl (fun uN=>?_) (fun uN=>?_)
      ·refine ak 10 11 rfl rfl rfl (cS rfl rfl rfl rfl rfl rfl rfl eD cI (mQ 2 cI.aD) ?_)
       rintro _ vz cH rfl;clear cI
       refine U5 rfl (ah [0,3,4] rfl (U3 (U2 Zvi FH rfl rfl rfl (bM rfl (by kernel_rfl) cH 14 rfl ?_))))
       clear cH
       refine ai 0 13 rfl (by kernel_rfl) (fun _=>run_move rfl rfl) ?_
       refine ai 1 12 rfl (by kernel_rfl) (fun _=>U9 rfl rfl) ?_
       refine ai 2 11 rfl (by kernel_rfl) (fun _=>U1 rfl rfl cV rfl (dK) (dJ)) ?_
       refine aj 3 10 rfl (by kernel_rfl) (fun _ _ _ hz Sz=>.inl (U4 rfl rfl dt rfl (Sz.suf.ar (i:=1) rfl rfl))) ?_
       refine aj 4 9 rfl (by kernel_rfl) (fun _ _ _ hz Sz=>Ur rfl rfl rfl rfl rfl sG Sz (r8 d (SH.fF (i:=2) Sz rfl (by rw[dM])) (SH.jD (i:=3) Sz rfl dM (by show _*40<=_;omega)) ((hsi.mono hz).mono (Hp.bY _ _)) ((aK.mono hz).mono (Hp.bY _ _)) (by omega) Sz.aD)) ?_
       refine ai 5 8 rfl (by kernel_rfl) (fun _=>Ug rfl rfl rfl (by first|omega|(simp only[ls];omega))) ?_
       refine ai 6 7 rfl (by kernel_rfl) (fun _=>run_move rfl rfl) ?_
       refine ai 7 6 rfl (by kernel_rfl) (fun _=>U9 rfl rfl) ?_
       refine ai 8 5 rfl (by kernel_rfl) (fun _=>U1 rfl rfl cV rfl (dK) (dJ)) ?_
       refine aj 9 4 rfl (by kernel_rfl) (fun _ _ _ hz Sz=>.inl (U4 rfl rfl dt rfl (Sz.suf.ar (i:=1) rfl rfl))) ?_
       refine aj 10 3 rfl (by kernel_rfl) (fun _ _ _ hz Sz=>Ur rfl rfl rfl rfl rfl sG Sz (r8 d (SH.fF (i:=2) Sz rfl (by rw[dM])) (SH.jD (i:=3) Sz rfl dM (by show _*40<=_;omega)) ((hsi.mono hz).mono (Hp.bY _ _)) ((aK.mono hz).mono (Hp.bY _ _)) (by omega) Sz.aD)) ?_
       refine ai 11 2 rfl (by kernel_rfl) (fun _=>Ug rfl rfl rfl (by first|omega|(simp only[ls];omega))) ?_
       refine ai 12 1 rfl (by kernel_rfl) (fun _=>run_assign rfl rfl) ?_
       refine ai 13 0 rfl (by kernel_rfl) (fun _=>run_assign rfl rfl) ?_
       refine Uu (by kernel_rfl) (fun xR dV=>?_)
       refine ah [0,3,4,5,6] rfl (U3 (U2 Zvk FF rfl rfl rfl (U0 rfl (af 0 rfl (U1 rfl rfl aT rfl (aC) (aB)) (af 1 rfl (U4 rfl rfl av rfl (dV.ar (i:=0) rfl rfl)) (ag 2 1 rfl rfl (af 3 rfl (jN (l:=[_,_]) (pl:=[(0,1),(1,1)]) rfl rfl fB kL bg rfl rfl rfl) (ag 4 2 rfl rfl ?_))))))))
       refine af 6 rfl (jN (l:=[_,_]) (pl:=[(0,1),(1,1)]) rfl rfl fB kL bg rfl rfl rfl) (ak 7 8 rfl rfl rfl (Uh (l:=[_,_]) rfl rfl rfl kL rfl dV ?_))
       intro aQ xQ il;clear dV
       refine ak 8 9 rfl rfl rfl (Uh (l:=[_,_]) rfl rfl rfl kL rfl il ?_)
       intro bz xP jA;clear il
       refine ak 9 10 rfl rfl rfl (U6 (i:=1) (us:=[_,_]) (l':=[_,_]) (H':=[_,_,_,_,_,_]) rfl rfl jA rfl rfl rfl rfl gh rfl rfl rfl rfl ?_)
       intro AE pJ;clear jA
       refine ak 10 11 rfl rfl rfl (U6 (i:=0) (us:=[_,_]) (l':=[_,_]) (H':=[_,_,_,_,_,_]) rfl rfl pJ rfl rfl rfl rfl gh rfl rfl rfl rfl ?_)
       intro E5 ik;clear pJ
       refine U5 rfl (ah [0,3,4,5,6,7,8] rfl (U3 (U2 FD FC rfl rfl rfl (U2 Zvo FB rfl rfl rfl (U0 rfl (ag 0 1 rfl rfl (U5 rfl (ah [0,3,5,6,7,8,74] rfl ?_))))))))
       refine U3 ?_
       refine Uf TH Zvr rfl rfl rfl rfl (fun aoW=>?_) (fun aoW=>?_)
       ·refine U2 Zvs Zvt rfl rfl rfl (U0 rfl (ag 0 2 rfl rfl (af 2 rfl (jN (l:=[_,_]) (pl:=[(0,1),(1,1)]) rfl rfl fB kL bg rfl rfl rfl) (ag 3 2 rfl rfl (af 5 rfl (jN (l:=[_,_]) (pl:=[(0,1),(1,1)]) rfl rfl fB kL bg rfl rfl rfl) (ak 6 7 rfl rfl rfl (U6 (i:=1) (us:=[_,_]) (l':=[_,_]) (H':=[_,_,_,_,_,_]) rfl rfl ik rfl rfl rfl rfl gh rfl rfl rfl rfl ?_)))))))
        intro xO fW;clear ik
        refine ak 7 8 rfl rfl rfl (U6 (i:=0) (us:=[_,_]) (l':=[_,_]) (H':=[_,_,_,_,_,_]) rfl rfl fW rfl rfl rfl rfl gh rfl rfl rfl rfl ?_)
        intro Rj jm;clear fW
        refine U5 rfl (ah [0,3,7,8] rfl (U3 (U0 rfl (ag 0 1 rfl rfl (af 1 rfl (U9 rfl rfl) (af 2 rfl (U1 rfl rfl cV rfl (dK) (dJ)) (af 3 rfl (U4 rfl rfl dt rfl (jm.ar (i:=3) rfl rfl)) (af 4 rfl (U9 rfl rfl) ?_))))))))
        refine af 5 rfl (U1 rfl rfl dR rfl (fE) (fD)) (af 6 rfl (U1 rfl rfl ay rfl (aC) (aB)) (af 7 rfl (U4 rfl rfl av rfl (jm.ar (i:=4) rfl rfl)) (af 8 rfl (rR rfl rfl rfl (by first|omega|(simp only[ls];omega))) ?_)))
        refine af 9 rfl (U9 rfl rfl) (af 10 rfl (U1 rfl rfl dR rfl (fE) (fD)) (af 11 rfl (U1 rfl rfl ay rfl (aC) (aB)) (ak 12 13 rfl rfl rfl (U6 (i:=4) (us:=[_]) (l':=[_,_,_,_]) (H':=[_,_,_,_,_,_]) rfl rfl jm rfl rfl rfl rfl bg rfl rfl rfl rfl ?_))))
        intro Ri kI;clear jm
        refine U5 rfl (ah [0,3,7,8] rfl (U3 (U2 FA Zvv rfl rfl rfl ?_)))
        have hby:0<=m.aJ/\m.aJ<=3:=by omega
        refine nE (fun au aM=>∃(z0:Int) (z1:Int) (z2:Int) (z3:Int),Env 137 [(0,.pointer (some ⟨bC,0,none⟩)),(3,.pointer (some ⟨aI,0,none⟩)),(7,.pointer (some ⟨aQ,0,none⟩)),(8,.pointer (some ⟨bz,0,none⟩))] au/\SH aM M X [Rs.box bz 128 [.int .i64 z2,.int .i64 z3],Rs.box aQ 128 [.int .i64 z0,.int .i64 z1],Rs.box aI 28 [.int .i64 m.kd,.int .i64 m.at_,.int .i64 m.aJ,.int .i64 m.ua,.bool m.ub,.int .i64 m.va,.bool m.vb,.bool m.ov],Rs.box bC 67 [.pointer (some ⟨ggs,0,none⟩),.slice fA fv.length fc],Rs.box ggs 70 [bD,.int .i64 (d.loops-1),.slice iA (ax d false (4*d.ae.length)).length ic,.slice oA (ax d true (4*d.ae.length)).length oc],Rs.row aF bD d.ae]/\dU z0 z1 z2 z3 (decide (m.aJ%2=1))=fT ((2*(d.ae.length:Int))+1) ((2*(d.ae.length:Int))+2) ((2*(d.ae.length:Int))+2) ((2*(d.ae.length:Int))+1) m.aJ) ?_ ?_
        ·refine U2 Zvw Fz rfl rfl rfl (U0 rfl (af 0 rfl (U1 rfl rfl aT rfl (aC) (aB)) (af 1 rfl (U4 rfl rfl av rfl (kI.ar (i:=2) rfl rfl)) (af 2 rfl (BZ rfl rfl rfl) (af 3 rfl (jL rfl rfl rfl) (U5 rfl (ah [0,3,7,8,110] rfl (U3 ?_))))))))
         refine Uf Zvy Zvz rfl rfl rfl rfl (fun oI=>?_) (fun oI=>?_)
         ·replace oI:=(Cl hby).1 oI
          refine U0 rfl (af 0 rfl (U8 (us:=[_,_]) rfl rfl fB rfl gh (kI.aw (i:=0) rfl ⟨rfl,rfl,trivial⟩)) (af 1 rfl (U8 (us:=[_,_]) rfl rfl fB rfl gh (kI.aw (i:=1) rfl ⟨rfl,rfl,trivial⟩)) (ak 2 3 rfl rfl rfl (U6 (i:=1) (us:=[_,_]) (l':=[_,_]) (H':=[_,_,_,_,_,_]) rfl rfl kI rfl rfl rfl rfl gh rfl rfl rfl rfl ?_))))
          intro Rg jk;clear kI
          refine ak 3 4 rfl rfl rfl (U6 (i:=0) (us:=[_,_]) (l':=[_,_]) (H':=[_,_,_,_,_,_]) rfl rfl jk rfl rfl rfl rfl gh rfl rfl rfl rfl ?_)
          intro E4 kH;clear jk
          refine U5 rfl (aO ?_)
          intro au aq
          refine⟨(2*(d.ae.length:Int))+2,(2*(d.ae.length:Int))+1,(2*(d.ae.length:Int))+1,(2*(d.ae.length:Int))+2,aq.sub ⟨rfl,rfl,rfl,rfl,trivial⟩,kH.pick [0,1,2,3,4,5] [_,_,_,_,_,_] (by decide) ⟨rfl,rfl,rfl,rfl,rfl,rfl,trivial⟩,?cd⟩
          case cd=>(unfold fT;rw[if_pos (by omega)])
         ·replace oI:=fun h=>oI ((Cl hby).2 h)
          refine Ue rfl (aO ?_)
          intro au aq
          refine⟨(2*(d.ae.length:Int))+1,(2*(d.ae.length:Int))+2,(2*(d.ae.length:Int))+2,(2*(d.ae.length:Int))+1,aq.sub ⟨rfl,rfl,rfl,rfl,trivial⟩,kI.pick [0,1,2,3,4,5] [_,_,_,_,_,_] (by decide) ⟨rfl,rfl,rfl,rfl,rfl,rfl,trivial⟩,?cx⟩
          case cx=>(unfold fT;rw[if_neg (by omega)])
        ·rintro a1 Rh ⟨z0,z1,z2,z3,aY,jl,hzz⟩
         clear kI
         refine nM aY ?_
         clear aY a1
         refine U3 ?_
         have jO:=jl.pick [5,0,1,2,3,4] [_,_,_,_,_,_] (by decide) ⟨rfl,rfl,rfl,rfl,rfl,rfl,trivial⟩;clear jl
         refine jM [_] [_,_,_,_,_] rfl (by kernel_rfl) jO 25 rfl ?_
         clear jO
         change WA _ _ _ _ _ _ _ _ _ _ _ _ [_,_,_,_,_,_]
         refine ai 0 24 rfl (by kernel_rfl) (fun _=>run_move rfl rfl) ?_
         refine ai 1 23 rfl (by kernel_rfl) (fun _=>U9 rfl rfl) ?_
         refine ai 2 22 rfl (by kernel_rfl) (fun _=>U1 rfl rfl cV rfl (dK) (dJ)) ?_
         refine aj 3 21 rfl (by kernel_rfl) (fun _ _ _ hz Sz=>.inl (U4 rfl rfl dt rfl (Sz.suf.ar (i:=3) rfl rfl))) ?_
         refine ai 4 20 rfl (by kernel_rfl) (fun _=>run_move rfl rfl) ?_
         refine ai 5 19 rfl (by kernel_rfl) (fun _=>U9 rfl rfl) ?_
         refine ai 6 18 rfl (by kernel_rfl) (fun _=>U1 rfl rfl cV rfl (dK) (dJ)) ?_
         refine aj 7 17 rfl (by kernel_rfl) (fun _ _ _ hz Sz=>.inl (U4 rfl rfl dt rfl (Sz.suf.ar (i:=3) rfl rfl))) ?_
         refine ai 8 16 rfl (by kernel_rfl) (fun _=>U9 rfl rfl) ?_
         refine ai 9 15 rfl (by kernel_rfl) (fun _=>U1 rfl rfl dR rfl (fE) (fD)) ?_
         refine ai 10 14 rfl (by kernel_rfl) (fun _=>U1 rfl rfl ay rfl (bK) (bJ)) ?_
         refine aj 11 13 rfl (by kernel_rfl) (fun _ _ _ hz Sz=>.inl (U4 rfl rfl bt rfl (Sz.suf.ar (i:=4) rfl rfl))) ?_
         refine aj 12 12 rfl (by kernel_rfl) (fun _ _ _ hz Sz=>.inl (U8 (us:=[_,_]) rfl rfl fB rfl gh (Sz.suf.aw (i:=1) rfl ⟨rfl,rfl,trivial⟩))) ?_
         refine aj 13 11 rfl (by kernel_rfl) (fun _ _ _ hz Sz=>.inl (U8 (us:=[_,_]) rfl rfl fB rfl gh (Sz.suf.aw (i:=0) rfl ⟨rfl,rfl,trivial⟩))) ?_
         refine ai 14 10 rfl (by kernel_rfl) (fun _=>U1 rfl rfl aT rfl (aC) (aB)) ?_
         refine aj 15 9 rfl (by kernel_rfl) (fun _ _ _ hz Sz=>.inl (U4 rfl rfl av rfl (Sz.suf.ar (i:=2) rfl rfl))) ?_
         refine ai 16 8 rfl (by kernel_rfl) (fun _=>BZ rfl rfl rfl) ?_
         refine ai 17 7 rfl (by kernel_rfl) (fun _=>jL rfl rfl rfl) ?_
         refine kg 130 (.bool (decide (m.aJ%2=1))) rfl (acq hby) (aj 18 6 rfl (by kernel_rfl) (fun _ _ _ hz Sz=>Ur rfl rfl rfl rfl rfl adH Sz (ac0 z0 z1 z2 z3 (decide (m.aJ%2=1)) Sz.aD)) ?_)
         refine Un (i:=19) 5 rfl (by kernel_rfl) rfl rfl (fun E2 j6=>?_)
         refine(ij (C:=aF) (l:=[_,_,_,_,_]) rfl rfl rfl rfl cD rfl rfl rfl rfl j6 ?_)
         intro gZ EZ mb;clear j6
         refine aP.grow [_,_] (Hp.le_refl _) mb ?_;clear mb
         change WA _ _ _ _ _ _ _ _ _ _ _ _ [_,_,_,_,_,_,_]
         refine Un (i:=20) 4 rfl (by kernel_rfl) rfl rfl (fun Q5 pG=>?_)
         refine(ji (C:=aF) (i:=1) (q:=0) (⟨(dU z0 z1 z2 z3 (decide (m.aJ%2=1))).a,(dU z0 z1 z2 z3 (decide (m.aJ%2=1))).b,(dU z0 z1 z2 z3 (decide (m.aJ%2=1))).c,(dU z0 z1 z2 z3 (decide (m.aJ%2=1))).d,(dU z0 z1 z2 z3 (decide (m.aJ%2=1))).plus⟩:Cr) rfl rfl rfl rfl rfl rfl rfl rfl cD pG rfl rfl rfl (by show(_+1)*40<=_;first|omega|(simp only[ls];omega)) ?_)
         intro an4 w75 tQ;clear pG
         have pF:=tQ.pick [1,2,3,4,5,6] [_,_,_,_,_,_] (by decide) ⟨rfl,rfl,rfl,rfl,rfl,rfl,trivial⟩;clear tQ
         refine aP.grow [_] (Hp.le_refl _) pF ?_;clear pF
         change WA _ _ _ _ _ _ _ _ _ _ _ _ [_,_,_,_,_,_]
         refine ai 21 3 rfl (by kernel_rfl) (fun _=>U9 rfl rfl) ?_
         refine ai 22 2 rfl (by kernel_rfl) (fun _=>U1 rfl rfl dR rfl (fE) (fD)) ?_
         refine ai 23 1 rfl (by kernel_rfl) (fun _=>U1 rfl rfl ay rfl (bK) (bJ)) ?_
         refine Un (i:=24) 0 rfl (by kernel_rfl) rfl rfl (fun w80 kE=>?_)
         refine(U6 (i:=5) (us:=[_]) (l':=[_,_,_,_]) (H':=[_,_,_,_,_,_]) rfl rfl kE rfl rfl rfl (kE.ke (i:=0) rfl) mv rfl (dD (kE.one (i:=0) rfl) rfl) rfl rfl ?_)
         intro w81 qd;clear kE
         refine aP.turn (by kernel_rfl) qd ?_;clear qd
         change WA _ _ _ _ _ _ _ _ _ _ _ _ [_,_,_,_,_,_]
         refine Uu (by kernel_rfl) (fun w82 j0=>?_)
         refine iC hC [] rfl trivial ?_
         obtain⟨M63,zu,rL,⟨A1,c1,e1,hr1⟩⟩:=j0.fZ (i:=0) (H':=[_,_,_,_,_,_]) rfl rfl (by show _*40<=_;first|omega|(simp only[ls];omega))
         clear j0;subst e1
         replace hsi:=hsi.mono zu
         replace aK:=aK.mono zu
         replace cZ:=cZ.mono zu
         replace cY:=cY.mono zu
         have bn:eH d m=0:=by unfold eH;rw[if_pos (by omega),if_pos uN]
         refine .inl ⟨bn,_,rfl,_,_,zu,(rL.pick [4,5] [_,_] (by decide) ⟨rfl,rfl,trivial⟩).aX,?_⟩
         have e8:mD d m=⟨d.ae++[(⟨(dU z0 z1 z2 z3 (decide (m.aJ%2=1))).a,(dU z0 z1 z2 z3 (decide (m.aJ%2=1))).b,(dU z0 z1 z2 z3 (decide (m.aJ%2=1))).c,(dU z0 z1 z2 z3 (decide (m.aJ%2=1))).d,(dU z0 z1 z2 z3 (decide (m.aJ%2=1))).plus⟩:Cr)],d.loops-1⟩:=by unfold mD;rw[if_pos (by omega),<-hzz]
         rw[e8]
         exact⟨rfl,_,_,rfl,hr1⟩
       ·exfalso;omega
      ·have bn:eH d m=2:=by unfold eH;rw[if_pos (by omega),if_neg uN]
       refine l9 (k:=10) rfl rfl rfl rfl rfl rfl rfl eD cI (iN 2 cI.aD) ?_
       intro w9 M9 ct S9
       subst hC
       exact .inr ⟨by rw[bn];first|decide|assumption,by rw[bn],M9,(Hp.le_refl _).trans ct,S9.pick [] [] (by decide) trivial⟩
     ·have bn:eH d m=3:=by unfold eH;rw[if_neg (by omega)]
      refine qb (i:=20) 0 rfl (by kernel_rfl) rfl rfl rfl rfl rfl rfl rfl eD (fun w9 S9=>iN 3 S9.aD) ?_
      intro w9 M9 ct S9
      subst hC
      exact .inr ⟨by rw[bn];first|decide|assumption,by rw[bn],M9,(Hp.le_refl _).trans ct,S9.pick [] [] (by decide) trivial⟩
    ·refine Us (i:=16) (d:=39) 4 rfl (by kernel_rfl) (by kernel_rfl) (by kernel_rfl) ⟨_,_,_,rfl,rfl,rfl,rfl⟩ rfl rfl ?_
     refine Us (i:=17) (d:=40) 3 rfl (by kernel_rfl) (by kernel_rfl) (by kernel_rfl) ⟨_,_,_,rfl,rfl,rfl,rfl⟩ rfl rfl ?_
     refine Us (i:=18) (d:=41) 2 rfl (by kernel_rfl) (by kernel_rfl) (by kernel_rfl) ⟨_,_,_,rfl,rfl,rfl,rfl⟩ rfl rfl ?_
     refine ai 19 1 rfl (by kernel_rfl) (fun _=>jy rfl rfl rfl) ?_
     have bn:eH d m=3:=by unfold eH;rw[if_neg (by omega)]
     refine qb (i:=20) 0 rfl (by kernel_rfl) rfl rfl rfl rfl rfl rfl rfl eD (fun w9 S9=>iN 3 S9.aD) ?_
     intro w9 M9 ct S9
     subst hC
     exact .inr ⟨by rw[bn];first|decide|assumption,by rw[bn],M9,(Hp.le_refl _).trans ct,S9.pick [] [] (by decide) trivial⟩
   ·refine Us (i:=11) (d:=34) 9 rfl (by kernel_rfl) (by kernel_rfl) (by kernel_rfl) ⟨_,_,_,rfl,rfl,rfl,rfl⟩ rfl rfl ?_
    refine Us (i:=12) (d:=35) 8 rfl (by kernel_rfl) (by kernel_rfl) (by kernel_rfl) ⟨_,_,_,rfl,rfl,rfl,rfl⟩ rfl rfl ?_
    refine Us (i:=13) (d:=36) 7 rfl (by kernel_rfl) (by kernel_rfl) (by kernel_rfl) ⟨_,_,_,rfl,rfl,rfl,rfl⟩ rfl rfl ?_
    refine ai 14 6 rfl (by kernel_rfl) (fun _=>jy rfl rfl rfl) ?_
    refine ai 15 5 rfl (by kernel_rfl) (fun _=>run_move rfl rfl) ?_
    refine Us (i:=16) (d:=39) 4 rfl (by kernel_rfl) (by kernel_rfl) (by kernel_rfl) ⟨_,_,_,rfl,rfl,rfl,rfl⟩ rfl rfl ?_
    refine Us (i:=17) (d:=40) 3 rfl (by kernel_rfl) (by kernel_rfl) (by kernel_rfl) ⟨_,_,_,rfl,rfl,rfl,rfl⟩ rfl rfl ?_
    refine Us (i:=18) (d:=41) 2 rfl (by kernel_rfl) (by kernel_rfl) (by kernel_rfl) ⟨_,_,_,rfl,rfl,rfl,rfl⟩ rfl rfl ?_
    refine ai 19 1 rfl (by kernel_rfl) (fun _=>jy rfl rfl rfl) ?_
    have bn:eH d m=3:=by unfold eH;rw[if_neg (by omega)]
    refine qb (i:=20) 0 rfl (by kernel_rfl) rfl rfl rfl rfl rfl rfl rfl eD (fun w9 S9=>iN 3 S9.aD) ?_
    intro w9 M9 ct S9
    subst hC
    exact .inr ⟨by rw[bn];first|decide|assumption,by rw[bn],M9,(Hp.le_refl _).trans ct,S9.pick [] [] (by decide) trivial⟩
 ·refine ag 4 6 rfl rfl (ag 10 5 rfl rfl (U5 rfl (ah [0,3,4] rfl (U3 (U2 Zve FJ rfl rfl rfl (bM rfl (by kernel_rfl) S1 21 rfl ?_))))))
  clear S1
  refine ai 0 20 rfl (by kernel_rfl) (fun _=>run_move rfl rfl) ?_
  refine ai 1 19 rfl (by kernel_rfl) (fun _=>U9 rfl rfl) ?_
  refine ai 2 18 rfl (by kernel_rfl) (fun _=>U1 rfl rfl cV rfl (dK) (dJ)) ?_
  refine aj 3 17 rfl (by kernel_rfl) (fun _ _ _ hz Sz=>.inl (U4 rfl rfl dt rfl (Sz.suf.ar (i:=1) rfl rfl))) ?_
  refine ai 4 16 rfl (by kernel_rfl) (fun _=>U1 rfl rfl aT rfl (aC) (aB)) ?_
  refine aj 5 15 rfl (by kernel_rfl) (fun _ _ _ hz Sz=>.inl (U4 rfl rfl av rfl (Sz.suf.ar (i:=0) rfl rfl))) ?_
  refine aj 6 14 rfl (by kernel_rfl) (fun _ _ _ hz Sz=>Ur rfl rfl rfl rfl rfl Di Sz (Cn d m.at_ (SH.fF (i:=2) Sz rfl (by rw[dM])) (SH.jD (i:=3) Sz rfl dM (by show _*40<=_;omega)) ((hsi.mono hz).mono (Hp.bY _ _)) ((aK.mono hz).mono (Hp.bY _ _)) (by omega) Sz.aD)) ?_
  refine ai 7 13 rfl (by kernel_rfl) (fun _=>run_move rfl rfl) ?_
  refine lj (t:=30) rfl (fun qD=>?_) (fun qD=>?_)
  ·refine Us (i:=8) (d:=31) 12 rfl (by kernel_rfl) (by kernel_rfl) (by kernel_rfl) ⟨_,_,_,rfl,rfl,rfl,rfl⟩ rfl rfl ?_
   refine ai 9 11 rfl (by kernel_rfl) (fun _=>gK rfl rfl rfl) ?_
   refine ai 10 10 rfl (by kernel_rfl) (fun _=>run_move rfl rfl) ?_
   refine ai 11 9 rfl (by kernel_rfl) (fun _=>U1 rfl rfl aT rfl (aC) (aB)) ?_
   refine aj 12 8 rfl (by kernel_rfl) (fun _ _ _ hz Sz=>.inl (U4 rfl rfl av rfl (Sz.suf.ar (i:=0) rfl rfl))) ?_
   refine ai 13 7 rfl (by kernel_rfl) (fun _=>lg rfl rfl rfl) ?_
   refine ai 14 6 rfl (by kernel_rfl) (fun _=>gK rfl rfl rfl) ?_
   refine ai 15 5 rfl (by kernel_rfl) (fun _=>run_move rfl rfl) ?_
   refine lj (t:=38) rfl (fun Je=>?_) (fun Je=>?_)
   ·refine ai 16 4 rfl (by kernel_rfl) (fun _=>U1 rfl rfl aT rfl (aC) (aB)) ?_
    refine aj 17 3 rfl (by kernel_rfl) (fun _ _ _ hz Sz=>.inl (U4 rfl rfl av rfl (Sz.suf.ar (i:=0) rfl rfl))) ?_
    refine ai 18 2 rfl (by kernel_rfl) (fun _=>od rfl rfl rfl) ?_
    refine ai 19 1 rfl (by kernel_rfl) (fun _=>gK rfl rfl rfl) ?_
    refine lj (t:=42) rfl (fun I2=>?_) (fun I2=>?_)
    ·refine aj 20 0 rfl (by kernel_rfl) (fun _ _ _ hz Sz=>Ur rfl rfl rfl rfl rfl eD Sz (mQ 3 Sz.aD)) ?_
     refine Uu (by kernel_rfl) (fun adU mI=>?_)
     refine ah [0,3,4] rfl (U3 (U2 Zvg FI rfl rfl rfl (U0 rfl (ag 0 1 rfl rfl (af 1 rfl (U9 rfl rfl) (af 2 rfl (U1 rfl rfl cV rfl (dK) (dJ)) (af 3 rfl (U4 rfl rfl dt rfl (mI.ar (i:=1) rfl rfl)) (af 4 rfl (U9 rfl rfl) ?_))))))))
     refine af 5 rfl (U1 rfl rfl dR rfl (fE) (fD)) (af 6 rfl (U1 rfl rfl ay rfl (bK) (bJ)) (af 7 rfl (U4 rfl rfl bt rfl (mI.ar (i:=2) rfl rfl)) (af 8 rfl (qa (C:=aF) (i:=3) rfl rfl rfl rfl rfl rfl cD mI rfl) (af 9 rfl (bS rfl rfl rfl) ?_))))
     refine Uw (t:=53) rfl (fun uN=>?_) (fun uN=>?_)
     ·refine ak 10 11 rfl rfl rfl (cS rfl rfl rfl rfl rfl rfl rfl eD mI (mQ 2 mI.aD) ?_)
      rintro _ adT tj rfl;clear mI
      refine U5 rfl (ah [0,3,4] rfl (U3 (U2 Zvi FH rfl rfl rfl (bM rfl (by kernel_rfl) tj 14 rfl ?_))))
      clear tj
      refine ai 0 13 rfl (by kernel_rfl) (fun _=>run_move rfl rfl) ?_
      refine ai 1 12 rfl (by kernel_rfl) (fun _=>U9 rfl rfl) ?_
      refine ai 2 11 rfl (by kernel_rfl) (fun _=>U1 rfl rfl cV rfl (dK) (dJ)) ?_
      refine aj 3 10 rfl (by kernel_rfl) (fun _ _ _ hz Sz=>.inl (U4 rfl rfl dt rfl (Sz.suf.ar (i:=1) rfl rfl))) ?_
      refine aj 4 9 rfl (by kernel_rfl) (fun _ _ _ hz Sz=>Ur rfl rfl rfl rfl rfl sG Sz (r8 d (SH.fF (i:=2) Sz rfl (by rw[dM])) (SH.jD (i:=3) Sz rfl dM (by show _*40<=_;omega)) ((hsi.mono hz).mono (Hp.bY _ _)) ((aK.mono hz).mono (Hp.bY _ _)) (by omega) Sz.aD)) ?_
      refine ai 5 8 rfl (by kernel_rfl) (fun _=>Ug rfl rfl rfl (by first|omega|(simp only[ls];omega))) ?_
      refine ai 6 7 rfl (by kernel_rfl) (fun _=>run_move rfl rfl) ?_
      refine ai 7 6 rfl (by kernel_rfl) (fun _=>U9 rfl rfl) ?_
      refine ai 8 5 rfl (by kernel_rfl) (fun _=>U1 rfl rfl cV rfl (dK) (dJ)) ?_
      refine aj 9 4 rfl (by kernel_rfl) (fun _ _ _ hz Sz=>.inl (U4 rfl rfl dt rfl (Sz.suf.ar (i:=1) rfl rfl))) ?_
      refine aj 10 3 rfl (by kernel_rfl) (fun _ _ _ hz Sz=>Ur rfl rfl rfl rfl rfl sG Sz (r8 d (SH.fF (i:=2) Sz rfl (by rw[dM])) (SH.jD (i:=3) Sz rfl dM (by show _*40<=_;omega)) ((hsi.mono hz).mono (Hp.bY _ _)) ((aK.mono hz).mono (Hp.bY _ _)) (by omega) Sz.aD)) ?_
      refine ai 11 2 rfl (by kernel_rfl) (fun _=>Ug rfl rfl rfl (by first|omega|(simp only[ls];omega))) ?_
      refine ai 12 1 rfl (by kernel_rfl) (fun _=>run_assign rfl rfl) ?_
      refine ai 13 0 rfl (by kernel_rfl) (fun _=>run_assign rfl rfl) ?_
      refine Uu (by kernel_rfl) (fun adS je=>?_)
      refine ah [0,3,4,5,6] rfl (U3 (U2 Zvk FF rfl rfl rfl (U0 rfl (af 0 rfl (U1 rfl rfl aT rfl (aC) (aB)) (af 1 rfl (U4 rfl rfl av rfl (je.ar (i:=0) rfl rfl)) (ag 2 1 rfl rfl (af 3 rfl (jN (l:=[_,_]) (pl:=[(0,1),(1,1)]) rfl rfl fB kL bg rfl rfl rfl) (ag 4 2 rfl rfl ?_))))))))
      refine af 6 rfl (jN (l:=[_,_]) (pl:=[(0,1),(1,1)]) rfl rfl fB kL bg rfl rfl rfl) (ak 7 8 rfl rfl rfl (Uh (l:=[_,_]) rfl rfl rfl kL rfl je ?_))
      intro iy anT qR;clear je
      refine ak 8 9 rfl rfl rfl (Uh (l:=[_,_]) rfl rfl rfl kL rfl qR ?_)
      intro pZ axS s8;clear qR
      refine ak 9 10 rfl rfl rfl (U6 (i:=1) (us:=[_,_]) (l':=[_,_]) (H':=[_,_,_,_,_,_]) rfl rfl s8 rfl rfl rfl rfl gh rfl rfl rfl rfl ?_)
      intro anS s7;clear s8
      refine ak 10 11 rfl rfl rfl (U6 (i:=0) (us:=[_,_]) (l':=[_,_]) (H':=[_,_,_,_,_,_]) rfl rfl s7 rfl rfl rfl rfl gh rfl rfl rfl rfl ?_)
      intro anR ET;clear s7
      refine U5 rfl (ah [0,3,4,5,6,7,8] rfl (U3 (U2 FD FC rfl rfl rfl (U2 Zvo FB rfl rfl rfl (U0 rfl (ag 0 1 rfl rfl (U5 rfl (ah [0,3,5,6,7,8,74] rfl ?_))))))))
      refine U3 (jz Zvr rfl rfl rfl (bM rfl (by kernel_rfl) ET 14 rfl ?_))
      clear ET
      refine ai 0 13 rfl (by kernel_rfl) (fun _=>run_move rfl rfl) ?_
      refine ai 1 12 rfl (by kernel_rfl) (fun _=>run_move rfl rfl) ?_
      refine ai 2 11 rfl (by kernel_rfl) (fun _=>U9 rfl rfl) ?_
      refine ai 3 10 rfl (by kernel_rfl) (fun _=>U1 rfl rfl cV rfl (dK) (dJ)) ?_
      refine aj 4 9 rfl (by kernel_rfl) (fun _ _ _ hz Sz=>.inl (U4 rfl rfl dt rfl (Sz.suf.ar (i:=3) rfl rfl))) ?_
      refine ai 5 8 rfl (by kernel_rfl) (fun _=>U9 rfl rfl) ?_
      refine ai 6 7 rfl (by kernel_rfl) (fun _=>U1 rfl rfl dR rfl (oW) (oL)) ?_
      refine aj 7 6 rfl (by kernel_rfl) (fun _ _ _ hz Sz=>.inl (U4 rfl rfl mX rfl (Sz.suf.ar (i:=4) rfl rfl))) ?_
      refine ai 8 5 rfl (by kernel_rfl) (fun _=>U1 rfl rfl aT rfl (aC) (aB)) ?_
      refine aj 9 4 rfl (by kernel_rfl) (fun _ _ _ hz Sz=>.inl (U4 rfl rfl av rfl (Sz.suf.ar (i:=2) rfl rfl))) ?_
      obtain⟨aY,cB,hge,_⟩:=eF hab (a:=m.at_) (by omega) false
      have hlt:=gJ d false (4*d.ae.length)
      refine kg 102 (.int .i64 ((m.at_.toNat:Nat):Int)) rfl (int_eq (by omega)) ?_
      refine aj 10 3 rfl (by kernel_rfl) (fun _ _ _ hz Sz=>.inl (Ul (C:=br) m.at_.toNat rfl rfl rfl oK (by first|rfl|omega) (hsi.mono hz) (by first|omega|(simp only[ls];omega)))) ?_
      refine aj 11 2 rfl (by kernel_rfl) (fun _ _ _ hz Sz=>.inl (U8 (us:=[_,_]) rfl rfl cO rfl eA ((hsi.mono hz).fU Sz.m (e:=m.at_.toNat) (by first|omega|(simp only[ls];omega)) (j:=0) ⟨rfl,rfl,trivial⟩))) ?_
      refine ai 12 1 rfl (by kernel_rfl) (fun _=>run_move rfl rfl) ?_
      refine Un (i:=13) 0 rfl (by kernel_rfl) rfl rfl (fun anP sZ=>?_)
      have sY:=sZ.pick [3,4,5,0,1,2] [_,_,_,_,_,_] (by decide) ⟨rfl,rfl,rfl,rfl,rfl,rfl,trivial⟩;clear sZ
      have oY:SH _ _ _ (Rs.aX [_,_,_]::[_,_,_]):=SH.jd (A:=[_,_,_]) (B:=[_,_,_]) sY;clear sY
      have sX:SH _ _ _ [_,_,_,_]:=oY.less (i:=0) rfl
      have iE:=Dl d.ae ((ga (ax d false (4*d.ae.length)) m.at_.toNat).1) ((ga (ax d false (4*d.ae.length)) m.at_.toNat).2) ((2*(d.ae.length:Int))+2) (by rw[hge];exact aY) (by rw[hge];exact cB) (oY.iG (i:=0) rfl);clear sX
      refine(jP (i:=0) rfl rfl rfl rfl rfl rfl rfl Dh oY rfl iE ?_)
      intro awK anO ayR awU awE oX jJ;clear oY
      obtain⟨lu,iK,l6⟩:=jJ
      rw[iK]at oX
      clear iK
      subst lu
      subst l6
      replace oX:SH _ _ _ (Rs.aX [_,_,_]::[_,_,_]):=oX
      have sW:SH _ _ _ [_,_,_,_,_,_]:=SH.jK (A:=[_,_,_]) (B:=[_,_,_]) oX;clear oX
      refine aP.turn (by kernel_rfl) sW ?_;clear sW
      change WA _ _ _ _ _ _ _ _ _ _ _ _ [_,_,_,_,_,_]
      refine Uu (by kernel_rfl) (fun anN mH=>?_)
      refine ah [0,3,7,8] rfl (U3 (U2 FA Zvv rfl rfl rfl ?_))
      have hby:0<=m.aJ/\m.aJ<=3:=by omega
      have sN:bk d.ae ((ga (ax d false (4*d.ae.length)) m.at_.toNat).1) ((ga (ax d false (4*d.ae.length)) m.at_.toNat).2) ((2*(d.ae.length:Int))+2)=bk d.ae (Ud d m.at_ false).1 (Ud d m.at_ false).2 (2*(d.ae.length:Int)+2):=by rw[hge]
      rw[sN]at mH;clear sN
      have hsl:=iU d.ae (Ud d m.at_ false).1 (Ud d m.at_ false).2 (2*(d.ae.length:Int)+2)
      refine nE (fun au aM=>∃(z0:Int) (z1:Int) (z2:Int) (z3:Int),Env 137 [(0,.pointer (some ⟨bC,0,none⟩)),(3,.pointer (some ⟨aI,0,none⟩)),(7,.pointer (some ⟨iy,0,none⟩)),(8,.pointer (some ⟨pZ,0,none⟩))] au/\SH aM M X [Rs.box bC 67 [.pointer (some ⟨ggs,0,none⟩),.slice fA fv.length fc],Rs.box ggs 70 [bD,.int .i64 d.loops,.slice iA (ax d false (4*d.ae.length)).length ic,.slice oA (ax d true (4*d.ae.length)).length oc],Rs.row aF bD (bk d.ae (Ud d m.at_ false).1 (Ud d m.at_ false).2 (2*(d.ae.length:Int)+2)),Rs.box pZ 128 [.int .i64 z2,.int .i64 z3],Rs.box iy 128 [.int .i64 z0,.int .i64 z1],Rs.box aI 28 [.int .i64 m.kd,.int .i64 m.at_,.int .i64 m.aJ,.int .i64 m.ua,.bool m.ub,.int .i64 m.va,.bool m.vb,.bool m.ov]]/\dU z0 z1 z2 z3 (decide (m.aJ%2=1))=fT m.at_ ((2*(d.ae.length:Int))+1) ((2*(d.ae.length:Int))+1) ((2*(d.ae.length:Int))+2) m.aJ) ?_ ?_
      ·refine U2 Zvw Fz rfl rfl rfl (U0 rfl (af 0 rfl (U1 rfl rfl aT rfl (aC) (aB)) (af 1 rfl (U4 rfl rfl av rfl (mH.ar (i:=5) rfl rfl)) (af 2 rfl (BZ rfl rfl rfl) (af 3 rfl (jL rfl rfl rfl) (U5 rfl (ah [0,3,7,8,110] rfl (U3 ?_))))))))
       refine Uf Zvy Zvz rfl rfl rfl rfl (fun oI=>?_) (fun oI=>?_)
       ·replace oI:=(Cl hby).1 oI
        refine U0 rfl (af 0 rfl (U8 (us:=[_,_]) rfl rfl fB rfl gh (mH.aw (i:=3) rfl ⟨rfl,rfl,trivial⟩)) (af 1 rfl (U8 (us:=[_,_]) rfl rfl fB rfl gh (mH.aw (i:=4) rfl ⟨rfl,rfl,trivial⟩)) (ak 2 3 rfl rfl rfl (U6 (i:=4) (us:=[_,_]) (l':=[_,_]) (H':=[_,_,_,_,_,_]) rfl rfl mH rfl rfl rfl rfl gh rfl rfl rfl rfl ?_))))
        intro anM Ao;clear mH
        refine ak 3 4 rfl rfl rfl (U6 (i:=3) (us:=[_,_]) (l':=[_,_]) (H':=[_,_,_,_,_,_]) rfl rfl Ao rfl rfl rfl rfl gh rfl rfl rfl rfl ?_)
        intro anL EO;clear Ao
        refine U5 rfl (aO ?_)
        intro au aq
        refine⟨(2*(d.ae.length:Int))+1,(2*(d.ae.length:Int))+2,m.at_,(2*(d.ae.length:Int))+1,aq.sub ⟨rfl,rfl,rfl,rfl,trivial⟩,EO.pick [0,1,2,3,4,5] [_,_,_,_,_,_] (by decide) ⟨rfl,rfl,rfl,rfl,rfl,rfl,trivial⟩,?eB⟩
        case eB=>(unfold fT;rw[if_pos (by omega)])
       ·replace oI:=fun h=>oI ((Cl hby).2 h)
        refine Ue rfl (aO ?_)
        intro au aq
        refine⟨m.at_,(2*(d.ae.length:Int))+1,(2*(d.ae.length:Int))+1,(2*(d.ae.length:Int))+2,aq.sub ⟨rfl,rfl,rfl,rfl,trivial⟩,mH.pick [0,1,2,3,4,5] [_,_,_,_,_,_] (by decide) ⟨rfl,rfl,rfl,rfl,rfl,rfl,trivial⟩,?eW⟩
        case eW=>(unfold fT;rw[if_neg (by omega)])
      ·rintro a2 axI ⟨z0,z1,z2,z3,cB,EP,hzz⟩
       clear mH
       refine nM cB ?_
       clear cB a2
       refine U3 ?_
       have agT:=EP.pick [2,0,1,3,4,5] [_,_,_,_,_,_] (by decide) ⟨rfl,rfl,rfl,rfl,rfl,rfl,trivial⟩;clear EP
       refine jM [_] [_,_,_,_,_] rfl (by kernel_rfl) agT 25 rfl ?_
       clear agT
       change WA _ _ _ _ _ _ _ _ _ _ _ _ [_,_,_,_,_,_]
       refine ai 0 24 rfl (by kernel_rfl) (fun _=>run_move rfl rfl) ?_
       refine ai 1 23 rfl (by kernel_rfl) (fun _=>U9 rfl rfl) ?_
       refine ai 2 22 rfl (by kernel_rfl) (fun _=>U1 rfl rfl cV rfl (dK) (dJ)) ?_
       refine aj 3 21 rfl (by kernel_rfl) (fun _ _ _ hz Sz=>.inl (U4 rfl rfl dt rfl (Sz.suf.ar (i:=0) rfl rfl))) ?_
       refine ai 4 20 rfl (by kernel_rfl) (fun _=>run_move rfl rfl) ?_
       refine ai 5 19 rfl (by kernel_rfl) (fun _=>U9 rfl rfl) ?_
       refine ai 6 18 rfl (by kernel_rfl) (fun _=>U1 rfl rfl cV rfl (dK) (dJ)) ?_
       refine aj 7 17 rfl (by kernel_rfl) (fun _ _ _ hz Sz=>.inl (U4 rfl rfl dt rfl (Sz.suf.ar (i:=0) rfl rfl))) ?_
       refine ai 8 16 rfl (by kernel_rfl) (fun _=>U9 rfl rfl) ?_
       refine ai 9 15 rfl (by kernel_rfl) (fun _=>U1 rfl rfl dR rfl (fE) (fD)) ?_
       refine ai 10 14 rfl (by kernel_rfl) (fun _=>U1 rfl rfl ay rfl (bK) (bJ)) ?_
       refine aj 11 13 rfl (by kernel_rfl) (fun _ _ _ hz Sz=>.inl (U4 rfl rfl bt rfl (Sz.suf.ar (i:=1) rfl rfl))) ?_
       refine aj 12 12 rfl (by kernel_rfl) (fun _ _ _ hz Sz=>.inl (U8 (us:=[_,_]) rfl rfl fB rfl gh (Sz.suf.aw (i:=3) rfl ⟨rfl,rfl,trivial⟩))) ?_
       refine aj 13 11 rfl (by kernel_rfl) (fun _ _ _ hz Sz=>.inl (U8 (us:=[_,_]) rfl rfl fB rfl gh (Sz.suf.aw (i:=2) rfl ⟨rfl,rfl,trivial⟩))) ?_
       refine ai 14 10 rfl (by kernel_rfl) (fun _=>U1 rfl rfl aT rfl (aC) (aB)) ?_
       refine aj 15 9 rfl (by kernel_rfl) (fun _ _ _ hz Sz=>.inl (U4 rfl rfl av rfl (Sz.suf.ar (i:=4) rfl rfl))) ?_
       refine ai 16 8 rfl (by kernel_rfl) (fun _=>BZ rfl rfl rfl) ?_
       refine ai 17 7 rfl (by kernel_rfl) (fun _=>jL rfl rfl rfl) ?_
       refine kg 130 (.bool (decide (m.aJ%2=1))) rfl (acq hby) (aj 18 6 rfl (by kernel_rfl) (fun _ _ _ hz Sz=>Ur rfl rfl rfl rfl rfl adH Sz (ac0 z0 z1 z2 z3 (decide (m.aJ%2=1)) Sz.aD)) ?_)
       refine Un (i:=19) 5 rfl (by kernel_rfl) rfl rfl (fun axB sV=>?_)
       refine(ij (C:=aF) (l:=[_,_,_,_,_]) rfl rfl rfl rfl cD rfl rfl rfl rfl sV ?_)
       intro pY axA Am;clear sV
       refine aP.grow [_,_] (Hp.le_refl _) Am ?_;clear Am
       change WA _ _ _ _ _ _ _ _ _ _ _ _ [_,_,_,_,_,_,_]
       refine Un (i:=20) 4 rfl (by kernel_rfl) rfl rfl (fun axz Al=>?_)
       refine(ji (C:=aF) (i:=1) (q:=0) (⟨(dU z0 z1 z2 z3 (decide (m.aJ%2=1))).a,(dU z0 z1 z2 z3 (decide (m.aJ%2=1))).b,(dU z0 z1 z2 z3 (decide (m.aJ%2=1))).c,(dU z0 z1 z2 z3 (decide (m.aJ%2=1))).d,(dU z0 z1 z2 z3 (decide (m.aJ%2=1))).plus⟩:Cr) rfl rfl rfl rfl rfl rfl rfl rfl cD Al rfl rfl rfl (by show(_+1)*40<=_;first|omega|(simp only[ls];omega)) ?_)
       intro an3 adQ Ak;clear Al
       have agP:=Ak.pick [1,2,3,4,5,6] [_,_,_,_,_,_] (by decide) ⟨rfl,rfl,rfl,rfl,rfl,rfl,trivial⟩;clear Ak
       refine aP.grow [_] (Hp.le_refl _) agP ?_;clear agP
       change WA _ _ _ _ _ _ _ _ _ _ _ _ [_,_,_,_,_,_]
       refine ai 21 3 rfl (by kernel_rfl) (fun _=>U9 rfl rfl) ?_
       refine ai 22 2 rfl (by kernel_rfl) (fun _=>U1 rfl rfl dR rfl (fE) (fD)) ?_
       refine ai 23 1 rfl (by kernel_rfl) (fun _=>U1 rfl rfl ay rfl (bK) (bJ)) ?_
       refine Un (i:=24) 0 rfl (by kernel_rfl) rfl rfl (fun axv u7=>?_)
       refine(U6 (i:=2) (us:=[_]) (l':=[_,_,_,_]) (H':=[_,_,_,_,_,_]) rfl rfl u7 rfl rfl rfl (u7.ke (i:=0) rfl) mv rfl (dD (u7.one (i:=0) rfl) rfl) rfl rfl ?_)
       intro anK EN;clear u7
       refine aP.turn (by kernel_rfl) EN ?_;clear EN
       change WA _ _ _ _ _ _ _ _ _ _ _ _ [_,_,_,_,_,_]
       refine Uu (by kernel_rfl) (fun anJ Aj=>?_)
       refine iC hC [] rfl trivial ?_
       obtain⟨ayN,zg,awq,⟨A2,c2,e2,hr2⟩⟩:=Aj.fZ (i:=0) (H':=[_,_,_,_,_,_]) rfl rfl (by show _*40<=_;first|omega|(simp only[ls];omega))
       clear Aj;subst e2
       replace hsi:=hsi.mono zg
       replace aK:=aK.mono zg
       replace cZ:=cZ.mono zg
       replace cY:=cY.mono zg
       have bn:eH d m=0:=by unfold eH;rw[if_pos (by omega),if_pos uN]
       refine .inl ⟨bn,_,rfl,_,_,zg,(awq.pick [1,2] [_,_] (by decide) ⟨rfl,rfl,trivial⟩).aX,?_⟩
       have e8:mD d m=⟨(bk d.ae (Ud d m.at_ false).1 (Ud d m.at_ false).2 (2*(d.ae.length:Int)+2))++[(⟨(dU z0 z1 z2 z3 (decide (m.aJ%2=1))).a,(dU z0 z1 z2 z3 (decide (m.aJ%2=1))).b,(dU z0 z1 z2 z3 (decide (m.aJ%2=1))).c,(dU z0 z1 z2 z3 (decide (m.aJ%2=1))).d,(dU z0 z1 z2 z3 (decide (m.aJ%2=1))).plus⟩:Cr)],d.loops⟩:=by unfold mD;rw[if_neg (by omega),<-hzz]
       rw[e8]
       exact⟨rfl,_,_,rfl,hr2⟩
     ·have bn:eH d m=2:=by unfold eH;rw[if_pos (by omega),if_neg uN]
      refine l9 (k:=10) rfl rfl rfl rfl rfl rfl rfl eD mI (iN 2 mI.aD) ?_
      intro w9 M9 ct S9
      subst hC
      exact .inr ⟨by rw[bn];first|decide|assumption,by rw[bn],M9,(Hp.le_refl _).trans ct,S9.pick [] [] (by decide) trivial⟩
    ·have bn:eH d m=3:=by unfold eH;rw[if_neg (by omega)]
     refine qb (i:=20) 0 rfl (by kernel_rfl) rfl rfl rfl rfl rfl rfl rfl eD (fun w9 S9=>iN 3 S9.aD) ?_
     intro w9 M9 ct S9
     subst hC
     exact .inr ⟨by rw[bn];first|decide|assumption,by rw[bn],M9,(Hp.le_refl _).trans ct,S9.pick [] [] (by decide) trivial⟩
   ·refine Us (i:=16) (d:=39) 4 rfl (by kernel_rfl) (by kernel_rfl) (by kernel_rfl) ⟨_,_,_,rfl,rfl,rfl,rfl⟩ rfl rfl ?_
    refine Us (i:=17) (d:=40) 3 rfl (by kernel_rfl) (by kernel_rfl) (by kernel_rfl) ⟨_,_,_,rfl,rfl,rfl,rfl⟩ rfl rfl ?_
    refine Us (i:=18) (d:=41) 2 rfl (by kernel_rfl) (by kernel_rfl) (by kernel_rfl) ⟨_,_,_,rfl,rfl,rfl,rfl⟩ rfl rfl ?_
    refine ai 19 1 rfl (by kernel_rfl) (fun _=>jy rfl rfl rfl) ?_
    have bn:eH d m=3:=by unfold eH;rw[if_neg (by omega)]
    refine qb (i:=20) 0 rfl (by kernel_rfl) rfl rfl rfl rfl rfl rfl rfl eD (fun w9 S9=>iN 3 S9.aD) ?_
    intro w9 M9 ct S9
    subst hC
    exact .inr ⟨by rw[bn];first|decide|assumption,by rw[bn],M9,(Hp.le_refl _).trans ct,S9.pick [] [] (by decide) trivial⟩
  ·refine ai 8 12 rfl (by kernel_rfl) (fun _=>run_move rfl rfl) ?_
   refine ai 9 11 rfl (by kernel_rfl) (fun _=>jy rfl rfl rfl) ?_
   refine ai 10 10 rfl (by kernel_rfl) (fun _=>run_move rfl rfl) ?_
   refine Us (i:=11) (d:=34) 9 rfl (by kernel_rfl) (by kernel_rfl) (by kernel_rfl) ⟨_,_,_,rfl,rfl,rfl,rfl⟩ rfl rfl ?_
   refine Us (i:=12) (d:=35) 8 rfl (by kernel_rfl) (by kernel_rfl) (by kernel_rfl) ⟨_,_,_,rfl,rfl,rfl,rfl⟩ rfl rfl ?_
   refine Us (i:=13) (d:=36) 7 rfl (by kernel_rfl) (by kernel_rfl) (by kernel_rfl) ⟨_,_,_,rfl,rfl,rfl,rfl⟩ rfl rfl ?_
   refine ai 14 6 rfl (by kernel_rfl) (fun _=>jy rfl rfl rfl) ?_
   refine ai 15 5 rfl (by kernel_rfl) (fun _=>run_move rfl rfl) ?_
   refine Us (i:=16) (d:=39) 4 rfl (by kernel_rfl) (by kernel_rfl) (by kernel_rfl) ⟨_,_,_,rfl,rfl,rfl,rfl⟩ rfl rfl ?_
   refine Us (i:=17) (d:=40) 3 rfl (by kernel_rfl) (by kernel_rfl) (by kernel_rfl) ⟨_,_,_,rfl,rfl,rfl,rfl⟩ rfl rfl ?_
   refine Us (i:=18) (d:=41) 2 rfl (by kernel_rfl) (by kernel_rfl) (by kernel_rfl) ⟨_,_,_,rfl,rfl,rfl,rfl⟩ rfl rfl ?_
   refine ai 19 1 rfl (by kernel_rfl) (fun _=>jy rfl rfl rfl) ?_
   have bn:eH d m=3:=by unfold eH;rw[if_neg (by omega)]
   refine qb (i:=20) 0 rfl (by kernel_rfl) rfl rfl rfl rfl rfl rfl rfl eD (fun w9 S9=>iN 3 S9.aD) ?_
   intro w9 M9 ct S9
   subst hC
   exact .inr ⟨by rw[bn];first|decide|assumption,by rw[bn],M9,(Hp.le_refl _).trans ct,S9.pick [] [] (by decide) trivial⟩
end Go.Proofs.YthppkofceancjaaGreat
namespace Go.Proofs.YthppkofceancjaaGreat
open Go.ChangeShapes Go.WideShapes Go.ChangeAt Go.RowKit
def upd{α:Type}(h:Nat->α)(e:Nat)(v:α)(k:Nat):α:=if k=e then v else h k
theorem aj1{e:Nat}(f:Nat->Value)(h:e<4):nth [f 0,f 1,f 2,f 3] (0+e*1)=some (f e):=by
 have:e=0\/e=1\/e=2\/e=3:=by omega
 rcases this with rfl|rfl|rfl|rfl<;>rfl
end Go.Proofs.YthppkofceancjaaGreat
namespace Go.Proofs.YthppkofceancjaaGreat
open Go.ChangeShapes Go.WideShapes Go.ChangeAt Go.RowKit
def fw(b:Bool)(f o:Nat):Nat:=if b=true then o else f
def aR(x:Da)(n:Int)(k:Nat):Int:=ga (if x.b=true then[n+1,n,x.a]else[x.a,n,n+1]) k
def l8(F:Nat->Int)(b a:Nat):Cr:=⟨F (b%4),F ((b+1)%4),F ((b+2)%4),F ((b+3)%4),decide ((a:Int)=(((b+3)%4:Nat):Int))⟩
def pn(x y:Da):Bool:=decide (x.a=y.a/\x.b=y.b)
def rvI(p:Nat)(a c:Int):Int:=if p=0 then a else c
noncomputable def TG:=Tryz.f122.body.getD .skip
def Zw1:=cL TG
def TF:=cR TG
def TE:=cL TF
def TD:=cR TF
def Zw5:=cL TE
def TC:=cR TE
def TB:=cL TC
def Zw8:=cR TC
def Zw9:=cL TB
def Zwa:=cR TB
def Zwb:=cL TD
def Zwc:=cR TD
set_option maxRecDepth 10000 in
theorem Gu{w:World}{M:Hp}{X:Fr}(b:Bool)(f:Nat)(o:Nat)(S:SH w M X []):Cq Tryz.prog 122 [.bool b,.int .i64 (f:Int),.int .i64 (o:Int)] w M X (fun u=>u=.int .i64 (fw b f o:Int)):=by
 unfold Cq
 refine Up (b:=TG) Tryz.func122 rfl Tryz.ntmps122 rfl (fun C hC=>(bq [(0,_),(1,_),(2,_)] ⟨rfl,rfl,rfl,trivial⟩ (U2 Zw1 TF rfl rfl rfl (U0 rfl (ag 0 1 rfl rfl (U5 rfl (ah [0,1,2] rfl (U3 (U2 TE TD rfl rfl rfl ?_)))))))))
 refine U2 Zw5 TC rfl rfl rfl (U0 rfl (ag 0 1 rfl rfl (U5 rfl (ah [1,2,7] rfl (U3 ?_)))))
 refine dN TB Zw8 rfl rfl rfl rfl (fun RN=>?_) (fun RN=>?_)
 ·refine U2 Zw9 Zwa rfl rfl rfl (U0 rfl (ag 0 2 rfl rfl (U5 rfl (ah [6] rfl (U3 (Uk hC [_] rfl rfl ⟨rfl,trivial⟩ ?_))))))
  exact⟨_,rfl,(S.pick [] [] (by decide) trivial),(by show Value.int _ _=_;unfold fw;first|rw[if_pos (by assumption)]|rw[if_neg (by simp[*])])⟩
 ·refine Ue rfl (ah [1] rfl (U3 (U2 Zwb Zwc rfl rfl rfl (U0 rfl (ag 0 2 rfl rfl (U5 rfl (ah [6] rfl (U3 ?_))))))))
  refine Uk hC [_] rfl rfl ⟨rfl,trivial⟩ ?_
  exact⟨_,rfl,(S.pick [] [] (by decide) trivial),(by show Value.int _ _=_;unfold fw;first|rw[if_pos (by assumption)]|rw[if_neg (by simp[*])])⟩
noncomputable def TA:=Tryz.f168.body.getD .skip
def Zwe:=cL TA
def Zwf:=cR TA
def Zwg:=cL Zwf
def Tz:=cL Zwg
def Ty:=cL Tz
def Tx:=cR Tz
def Zwk:=cL Ty
def Tw:=cR Ty
def Zwm:=cL Tw
def Zwn:=cR Tw
def Zwo:=cL Tx
def Zwp:=cR Tx
def Zwq:=cL Zwo
set_option maxRecDepth 10000 in
theorem alH{w:World}{M:Hp}{X:Fr}{gb:Nat}(a b c:Int)(S:SH w M X [Rs.aX [Rs.box gb 150 [.int .i64 a,.int .i64 b,.int .i64 c]]]):C1 Tryz.prog 168 [.slice (some ⟨gb,0,none⟩) 3 3] w M X (fun u M' r'=>u=.tuple [].toArray/\M'=M/\r'=Rs.aX [Rs.box gb 150 [.int .i64 c,.int .i64 b,.int .i64 a]]):=by
 unfold C1
 replace S:=S.kM
 refine Up (b:=TA) Tryz.func168 rfl Tryz.ntmps168 rfl (fun C hC=>(bq [(0,_)] ⟨rfl,trivial⟩ (U2 Zwe Zwf rfl rfl rfl (U0 rfl (ag 0 1 rfl rfl (af 1 rfl (cU rfl rfl rfl rfl rfl rfl dY) (af 2 rfl (rR rfl rfl rfl (by first|omega|(simp only[ls];omega))) ?_)))))))
 refine ag 3 2 rfl rfl (U5 rfl (ah [0,2,3] rfl (U3 (Uc Zwg 0 rfl rfl rfl ?_))))
 refine Ux (fun aS au aM=>∃(p:Nat),aS=2-p/\Env 28 [(0,.slice (some ⟨gb,0,none⟩) 3 3),(2,.int .i64 (p:Int)),(3,.int .i64 ((2-p:Nat):Int))] au/\SH aM M X [Rs.box gb 150 [.int .i64 (rvI p a c),.int .i64 b,.int .i64 (rvI p c a)]]/\p<=1) rfl ?_ ?_
 ·intro au aq
  refine⟨_,⟨0,rfl,aq.sub ⟨rfl,rfl,rfl,trivial⟩,S.pick [0] [_] (by decide) ⟨rfl,trivial⟩,?cd⟩⟩
  case cd=>omega
 ·rintro m1 a1 w1 ⟨p,rfl,aY,S1,hp⟩
  clear S
  refine bX aY (c:=Tz) rfl ?_
  clear aY a1
  refine U2 Ty Tx rfl rfl rfl (U2 Zwk Tw rfl rfl rfl (U0 rfl (ag 0 2 rfl rfl (af 2 rfl (bS rfl rfl rfl) (U5 rfl (ah [0,2,3,9] rfl (U3 ?_)))))))
  refine Uf Zwm Zwn rfl rfl rfl rfl (fun jI=>?_) (fun jI=>?_)
  ·obtain rfl:p=0:=by omega
   refine Ue rfl (ah [0,2,3] rfl (U3 (U2 Zwo Zwp rfl rfl rfl (Uc Zwq 1 rfl rfl rfl ?_))))
   have S2:=S1.pick [0] [_] (by decide) ⟨rfl,trivial⟩;clear S1
   refine jM [_] [] rfl (by kernel_rfl) S2 16 rfl ?_
   clear S2
   change WA _ _ _ _ _ _ _ _ _ _ _ _ [_]
   refine ai 0 15 rfl (by kernel_rfl) (fun _=>run_move rfl rfl) ?_
   refine ai 1 14 rfl (by kernel_rfl) (fun _=>run_move rfl rfl) ?_
   refine ai 2 13 rfl (by kernel_rfl) (fun _=>run_move rfl rfl) ?_
   refine ai 3 12 rfl (by kernel_rfl) (fun _=>run_move rfl rfl) ?_
   refine ai 4 11 rfl (by kernel_rfl) (fun _=>run_move rfl rfl) ?_
   refine ai 5 10 rfl (by kernel_rfl) (fun _=>run_move rfl rfl) ?_
   refine aj 6 9 rfl (by kernel_rfl) (fun _ _ _ hz Sz=>.inl (oo (e:=2) (k:=1) rfl rfl rfl dY bg (by first|rfl|omega) (by decide) rfl)) ?_
   refine ai 8 8 rfl (by kernel_rfl) (fun _=>run_move rfl rfl) ?_
   refine ai 9 7 rfl (by kernel_rfl) (fun _=>run_move rfl rfl) ?_
   refine aj 10 6 rfl (by kernel_rfl) (fun _ _ _ hz Sz=>.inl (oo (e:=0) (k:=1) rfl rfl rfl dY bg (by first|rfl|omega) (by decide) rfl)) ?_
   refine wK (i:=7) (j:=11) 5 rfl rfl (by kernel_rfl) rfl rfl rfl rfl (fun kU bU=>?_) (fun kU bU=>?_)
   ·refine(Ub rfl rfl (U4 rfl rfl av rfl (bU.ar (i:=0) rfl rfl)) ?_)
    refine aP.grow [_] (Hp.le_refl _) bU ?_;clear bU
    change WA _ _ _ _ _ _ _ _ _ _ _ _ [_]
    refine Un (i:=11) 4 rfl (by kernel_rfl) rfl rfl (fun oZ cN=>?_)
    refine(Ub rfl rfl (U4 rfl rfl av rfl (cN.ar (i:=0) rfl rfl)) ?_)
    refine aP.grow [_] (Hp.le_refl _) cN ?_;clear cN
    change WA _ _ _ _ _ _ _ _ _ _ _ _ [_]
    refine aj 12 3 rfl (by kernel_rfl) (fun _ _ _ hz Sz=>.inl (oo (e:=0) (k:=1) rfl rfl rfl dY bg (by first|rfl|omega) (by decide) rfl)) ?_
    refine Un (i:=13) 2 rfl (by kernel_rfl) rfl rfl (fun vA dE=>?_)
    refine(U6 (i:=0) (us:=[_]) (l':=[_,_,_]) (H':=[_]) rfl rfl dE rfl rfl rfl rfl bg rfl rfl rfl rfl ?_)
    intro q8 cI;clear dE
    refine aP.grow [_] (Hp.le_refl _) cI ?_;clear cI
    change WA _ _ _ _ _ _ _ _ _ _ _ _ [_]
    refine aj 14 1 rfl (by kernel_rfl) (fun _ _ _ hz Sz=>.inl (oo (e:=2) (k:=1) rfl rfl rfl dY bg (by first|rfl|omega) (by decide) rfl)) ?_
    refine Un (i:=15) 0 rfl (by kernel_rfl) rfl rfl (fun vw eG=>?_)
    refine(U6 (i:=0) (us:=[_]) (l':=[_,_,_]) (H':=[_]) rfl rfl eG rfl rfl rfl rfl bg rfl rfl rfl rfl ?_)
    intro AG dB;clear eG
    refine aP.grow [_] (Hp.le_refl _) dB ?_;clear dB
    change WA _ _ _ _ _ _ _ _ _ _ _ _ [_]
    refine Uu (by kernel_rfl) (fun ng eV=>?_)
    refine bj (ah [0,2,3] rfl (U3 (U0 rfl (ag 0 1 rfl rfl (af 1 rfl (Ug rfl rfl rfl (by first|omega|(simp only[ls];omega))) ?_)))))
    refine ag 2 1 rfl rfl (af 3 rfl (rR rfl rfl rfl (by first|omega|(simp only[ls];omega))) ?_)
    refine ag 4 2 rfl rfl (U5 rfl (aO ?_))
    intro au aq
    refine⟨_,?dQ,⟨0+1,rfl,aq.sub ⟨rfl,rfl,rfl,trivial⟩,eV.pick [0] [_] (by decide) ⟨rfl,trivial⟩,?cx⟩⟩
    case cx=>omega
    case dQ=>omega
   ·refine(Ub rfl rfl (U4 rfl rfl av rfl (bU.ar (i:=0) rfl rfl)) ?_)
    refine aP.grow [_] (Hp.le_refl _) bU ?_;clear bU
    change WA _ _ _ _ _ _ _ _ _ _ _ _ [_]
    refine Un (i:=7) 4 rfl (by kernel_rfl) rfl rfl (fun vt fX=>?_)
    refine(Ub rfl rfl (U4 rfl rfl av rfl (fX.ar (i:=0) rfl rfl)) ?_)
    refine aP.grow [_] (Hp.le_refl _) fX ?_;clear fX
    change WA _ _ _ _ _ _ _ _ _ _ _ _ [_]
    refine aj 12 3 rfl (by kernel_rfl) (fun _ _ _ hz Sz=>.inl (oo (e:=0) (k:=1) rfl rfl rfl dY bg (by first|rfl|omega) (by decide) rfl)) ?_
    refine Un (i:=13) 2 rfl (by kernel_rfl) rfl rfl (fun vp dX=>?_)
    refine(U6 (i:=0) (us:=[_]) (l':=[_,_,_]) (H':=[_]) rfl rfl dX rfl rfl rfl rfl bg rfl rfl rfl rfl ?_)
    intro pS fQ;clear dX
    refine aP.grow [_] (Hp.le_refl _) fQ ?_;clear fQ
    change WA _ _ _ _ _ _ _ _ _ _ _ _ [_]
    refine aj 14 1 rfl (by kernel_rfl) (fun _ _ _ hz Sz=>.inl (oo (e:=2) (k:=1) rfl rfl rfl dY bg (by first|rfl|omega) (by decide) rfl)) ?_
    refine Un (i:=15) 0 rfl (by kernel_rfl) rfl rfl (fun E7 mS=>?_)
    refine(U6 (i:=0) (us:=[_]) (l':=[_,_,_]) (H':=[_]) rfl rfl mS rfl rfl rfl rfl bg rfl rfl rfl rfl ?_)
    intro E6 mh;clear mS
    refine aP.grow [_] (Hp.le_refl _) mh ?_;clear mh
    change WA _ _ _ _ _ _ _ _ _ _ _ _ [_]
    refine Uu (by kernel_rfl) (fun AF dV=>?_)
    refine bj (ah [0,2,3] rfl (U3 (U0 rfl (ag 0 1 rfl rfl (af 1 rfl (Ug rfl rfl rfl (by first|omega|(simp only[ls];omega))) ?_)))))
    refine ag 2 1 rfl rfl (af 3 rfl (rR rfl rfl rfl (by first|omega|(simp only[ls];omega))) ?_)
    refine ag 4 2 rfl rfl (U5 rfl (aO ?_))
    intro au aq
    refine⟨_,?lM,⟨0+1,rfl,aq.sub ⟨rfl,rfl,rfl,trivial⟩,dV.pick [0] [_] (by decide) ⟨rfl,trivial⟩,?eB⟩⟩
    case eB=>omega
    case lM=>omega
  ·obtain rfl:p=1:=by omega
   refine bP rfl rfl (iC hC [] rfl trivial ?_)
   refine⟨_,rfl,_,_,Hp.le_refl _,(S1.pick [0] [_] (by decide) ⟨rfl,trivial⟩).aX,?_⟩
   exact⟨rfl,rfl,rfl⟩
noncomputable def Tv:=Tryz.f120.body.getD .skip
def Zws:=cL Tv
def Tt:=cR Tv
def Zwu:=cL Tt
def Tq:=cR Tt
def Tp:=cL Tq
def Tn:=cR Tq
def Zwy:=cL Tp
def Tk:=cR Tp
def Zx0:=cL Tk
def Zx1:=cR Tk
def Zx2:=cL Tn
def Zx3:=cR Tn
set_option maxRecDepth 10000 in
theorem adx{w:World}{M:Hp}{X:Fr}(x:Da)(n:Int)(hn:0<=n/\n<=1000)(S:SH w M X []):Cq Tryz.prog 120 [.agg [.int .i64 x.a,.bool x.b].toArray,.int .i64 n] w M X (fun u=>u=.agg [.int .i64 (aR x n 0),.int .i64 (aR x n 1),.int .i64 (aR x n 2)].toArray):=by
 unfold Cq
 refine Up (b:=Tv) Tryz.func120 rfl Tryz.ntmps120 rfl (fun C hC=>(bq [(0,_),(1,_)] ⟨rfl,rfl,trivial⟩ (U2 Zws Tt rfl rfl rfl (U0 rfl (ak 0 1 rfl rfl rfl (bE (l:=[_,_]) rfl rfl rfl rfl rfl S ?_))))))
 intro aI w1 S1;clear S
 refine ak 1 2 rfl rfl rfl (Uh (l:=[_,_,_]) rfl rfl rfl r9 rfl S1 ?_)
 intro aQ w2 S2;clear S1
 refine U5 rfl (ah [1,2,4] rfl (U3 (U2 Zwu Tq rfl rfl rfl (U0 rfl (af 0 rfl (U1 rfl rfl aZ rfl (aC) (aB)) (af 1 rfl (U4 rfl rfl av rfl (S2.ar (i:=1) rfl rfl)) (ag 2 2 rfl rfl (af 4 rfl (Ug rfl rfl rfl (by first|omega|(simp only[ls];omega))) ?_))))))))
 refine af 5 rfl (jN (l:=[_,_,_]) (pl:=[(0,1),(1,1),(2,1)]) rfl rfl jB r9 bg rfl rfl rfl) (ak 6 7 rfl rfl rfl (Uh (l:=[_,_,_]) rfl rfl rfl r9 rfl S2 ?_))
 intro bz w3 S3;clear S2
 refine ak 7 8 rfl rfl rfl (U6 (i:=0) (us:=[_,_,_]) (l':=[_,_,_]) (H':=[_,_,_]) rfl rfl S3 rfl rfl rfl rfl oD rfl rfl rfl rfl ?_)
 intro w4 S4;clear S3
 refine U5 rfl (ah [2,4,5] rfl (U3 (U2 Tp Tn rfl rfl rfl (U2 Zwy Tk rfl rfl rfl (U0 rfl (af 0 rfl (U1 rfl rfl aZ rfl (gI) (gH)) (af 1 rfl (U4 rfl rfl dL rfl (S4.ar (i:=2) rfl rfl)) (U5 rfl ?_))))))))
 refine ah [4,5,13] rfl (U3 ?_)
 refine dN Zx0 Zx1 rfl rfl rfl rfl (fun Jv=>?_) (fun Jv=>?_)
 ·refine U0 rfl (af 0 rfl (ahb rfl rfl jB bg (by decide)) ?_)
  have S5:=S4.pick [0,1,2] [_,_,_] (by decide) ⟨rfl,rfl,rfl,trivial⟩;clear S4
  have S6:SH _ _ _ (Rs.aX [_]::[_,_]):=SH.jd (A:=[_]) (B:=[_,_]) S5;clear S5
  have S7:SH _ _ _ [_,_,_]:=S6.less (i:=0) rfl
  have iE:=alH x.a n (n+1) (S6.iG (i:=0) rfl);clear S7
  refine ak 1 2 rfl rfl rfl (jP (i:=0) rfl rfl rfl rfl rfl rfl rfl anh S6 rfl iE ?_)
  intro Rn w5 M1 rw5 aL S8 jJ;clear S6
  obtain⟨lu,iK,l6⟩:=jJ
  rw[iK]at S8
  clear iK
  subst lu
  subst l6
  replace S8:SH _ _ _ (Rs.aX [_]::[_,_]):=S8
  have S9:SH _ _ _ [_,_,_]:=SH.jK (A:=[_]) (B:=[_,_]) S8;clear S8
  refine U5 rfl (ah [4,5] rfl (U3 (U2 Zx2 Zx3 rfl rfl rfl (U0 rfl (af 0 rfl (U8 (us:=[_,_,_]) rfl rfl jB rfl oD (S9.aw (i:=0) rfl ⟨rfl,rfl,rfl,trivial⟩)) (ak 1 2 rfl rfl rfl (U6 (i:=1) (us:=[_,_,_]) (l':=[_,_,_]) (H':=[_,_,_]) rfl rfl S9 rfl rfl rfl rfl oD rfl rfl rfl rfl ?_)))))))
  intro w6 bw;clear S9
  refine U5 rfl (ah [4] rfl (U3 (Uk hC [_] rfl rfl ⟨⟨_,rfl,Um (us:=[_,_,_]) jB rfl oD (bw.aw (i:=1) rfl ⟨rfl,rfl,rfl,trivial⟩)⟩,trivial⟩ ?_)))
  exact⟨_,rfl,(bw.pick [] [] (by decide) trivial),(by show Value.agg [_,_,_].toArray=_;unfold aR;first|(rw[if_pos (by assumption)];rfl)|(rw[if_neg (by simp[*])];rfl))⟩
 ·refine Ue rfl (ah [4,5] rfl (U3 (U2 Zx2 Zx3 rfl rfl rfl (U0 rfl (af 0 rfl (U8 (us:=[_,_,_]) rfl rfl jB rfl oD (S4.aw (i:=0) rfl ⟨rfl,rfl,rfl,trivial⟩)) (ak 1 2 rfl rfl rfl (U6 (i:=1) (us:=[_,_,_]) (l':=[_,_,_]) (H':=[_,_,_]) rfl rfl S4 rfl rfl rfl rfl oD rfl rfl rfl rfl ?_)))))))
  intro w7 bW;clear S4
  refine U5 rfl (ah [4] rfl (U3 (Uk hC [_] rfl rfl ⟨⟨_,rfl,Um (us:=[_,_,_]) jB rfl oD (bW.aw (i:=1) rfl ⟨rfl,rfl,rfl,trivial⟩)⟩,trivial⟩ ?_)))
  exact⟨_,rfl,(bW.pick [] [] (by decide) trivial),(by show Value.agg [_,_,_].toArray=_;unfold aR;first|(rw[if_pos (by assumption)];rfl)|(rw[if_neg (by simp[*])];rfl))⟩
noncomputable def Tj:=Tryz.f169.body.getD .skip
def Zx5:=cL Tj
def Ti:=cR Tj
def Zx7:=cL Ti
def Zx8:=cR Ti
set_option maxRecDepth 10000 in
theorem BP{w:World}{M:Hp}{X:Fr}(i:Nat)(F:Nat->Int){gr:Nat}(b:Nat){gl:Nat}(hbr:dG (M.un X.h) gr 208 [.int .i64 (F 0),.int .i64 (F 1),.int .i64 (F 2),.int .i64 (F 3)])(hbl:dG (M.un X.h) gl 3 [.int .i64 (b:Int)])(hb4:b<4)(hi4:i<4)(S:SH w M X []):Cq Tryz.prog 169 [.int .i64 (i:Int),.pointer (some ⟨gr,0,none⟩),.pointer (some ⟨gl,0,none⟩)] w M X (fun u=>u=.int .i64 (F ((b+i)%4))):=by
 unfold Cq
 refine Up (b:=Tj) Tryz.func169 rfl Tryz.ntmps169 rfl (fun C hC=>(bq [(0,_),(1,_),(2,_)] ⟨rfl,rfl,rfl,trivial⟩ (U2 Zx5 Ti rfl rfl rfl (U0 rfl (ag 0 1 rfl rfl (U5 rfl (ah [0,1,2] rfl (U3 (U2 Zx7 Zx8 rfl rfl rfl ?_)))))))))
 refine U0 rfl (af 0 rfl (U4 rfl rfl av rfl (hbl.cell S.um rfl)) (ag 1 1 rfl rfl (af 2 rfl (Ug rfl rfl rfl (by first|omega|(simp only[ls];omega))) ?_)))
 refine af 3 rfl (jY rfl rfl rfl (by first|omega|(simp only[ls];omega))) ?_
 refine cy 8 (.int .i64 (((b+i)%4:Nat):Int)) rfl (int_eq (by omega)) ?_
 refine af 4 rfl (iD (e:=(b+i)%4) (k:=1) rfl rfl rfl uo bg (by first|rfl|omega) (by first|omega|(simp only[ls];omega))) ?_
 refine af 5 rfl (U4 rfl rfl av rfl (hbr.cell S.um (aj1 (fun k=>Value.int .i64 (F k)) (by first|omega|(simp only[ls];omega))))) ?_
 refine ag 6 1 rfl rfl (U5 rfl (ah [4] rfl (U3 (Uk hC [_] rfl rfl ⟨rfl,trivial⟩ ?_))))
 exact⟨_,rfl,(S.pick [] [] (by decide) trivial),rfl⟩
noncomputable def Tg:=Tryz.f123.body.getD .skip
def Zxa:=cL Tg
def Tf:=cR Tg
def Zxc:=cL Tf
def Te:=cR Tf
def Zxe:=cL Te
def Zxf:=cR Te
set_option maxRecDepth 10000 in
theorem aaB{w:World}{M:Hp}{X:Fr}(F:Nat->Int)(b:Nat)(a:Nat)(hb4:b<4)(S:SH w M X []):Cq Tryz.prog 123 [.agg [.int .i64 (F 0),.int .i64 (F 1),.int .i64 (F 2),.int .i64 (F 3)].toArray,.int .i64 (b:Int),.int .i64 (a:Int)] w M X (fun u=>u=.agg (mM (l8 F b a)).toArray):=by
 unfold Cq
 refine Up (b:=Tg) Tryz.func123 rfl Tryz.ntmps123 rfl (fun C hC=>(bq [(0,_),(1,_),(2,_)] ⟨rfl,rfl,rfl,trivial⟩ (U2 Zxa Tf rfl rfl rfl (U0 rfl (ak 0 1 rfl rfl rfl (bE (l:=[_,_,_,_]) rfl rfl rfl rfl rfl S ?_))))))
 intro aI w1 S1;clear S
 refine ak 1 2 rfl rfl rfl (bE (l:=[_]) rfl rfl rfl rfl rfl S1 ?_)
 intro aQ w2 S2;clear S1
 refine ak 2 3 rfl rfl rfl (Uh (l:=[_,_,_,_,_]) rfl rfl rfl lG rfl S2 ?_)
 intro bz w3 S3;clear S2
 refine U5 rfl (ah [2,3,4,6] rfl (U3 (U2 Zxc Te rfl rfl rfl (U0 rfl (af 0 rfl (vZ (vs:=[_,_]) rfl rfl rfl rfl) (ag 1 1 rfl rfl (U5 rfl (ah [2,4,6,7] rfl ?_))))))))
 refine U3 (U2 Zxe Zxf rfl rfl rfl (bM rfl (by kernel_rfl) S3 15 rfl ?_))
 clear S3
 refine ai 0 14 rfl (by kernel_rfl) (fun _=>run_move rfl rfl) ?_
 refine aj 1 13 rfl (by kernel_rfl) (fun _ _ _ hz Sz=>tO rfl rfl rfl rfl rfl C9 Sz (BP 0 F b (SH.kq (i:=2) Sz rfl) (SH.kq (i:=1) Sz rfl) (by omega) (by omega) Sz.aD)) ?_
 refine ai 2 12 rfl (by kernel_rfl) (fun _=>run_move rfl rfl) ?_
 refine aj 3 11 rfl (by kernel_rfl) (fun _ _ _ hz Sz=>tO rfl rfl rfl rfl rfl C9 Sz (BP 1 F b (SH.kq (i:=2) Sz rfl) (SH.kq (i:=1) Sz rfl) (by omega) (by omega) Sz.aD)) ?_
 refine ai 4 10 rfl (by kernel_rfl) (fun _=>run_move rfl rfl) ?_
 refine aj 5 9 rfl (by kernel_rfl) (fun _ _ _ hz Sz=>tO rfl rfl rfl rfl rfl C9 Sz (BP 2 F b (SH.kq (i:=2) Sz rfl) (SH.kq (i:=1) Sz rfl) (by omega) (by omega) Sz.aD)) ?_
 refine ai 6 8 rfl (by kernel_rfl) (fun _=>run_move rfl rfl) ?_
 refine aj 7 7 rfl (by kernel_rfl) (fun _ _ _ hz Sz=>tO rfl rfl rfl rfl rfl C9 Sz (BP 3 F b (SH.kq (i:=2) Sz rfl) (SH.kq (i:=1) Sz rfl) (by omega) (by omega) Sz.aD)) ?_
 refine ai 8 6 rfl (by kernel_rfl) (fun _=>run_move rfl rfl) ?_
 refine aj 9 5 rfl (by kernel_rfl) (fun _ _ _ hz Sz=>.inl (U4 rfl rfl av rfl (Sz.suf.ar (i:=1) rfl rfl))) ?_
 refine ai 10 4 rfl (by kernel_rfl) (fun _=>Ug rfl rfl rfl (by first|omega|(simp only[ls];omega))) ?_
 refine ai 11 3 rfl (by kernel_rfl) (fun _=>jY rfl rfl rfl (by first|omega|(simp only[ls];omega))) ?_
 refine kg 20 (.int .i64 (((b+3)%4:Nat):Int)) rfl (int_eq (by omega)) ?_
 refine ai 12 2 rfl (by kernel_rfl) (fun _=>bR rfl rfl rfl) ?_
 refine aj 13 1 rfl (by kernel_rfl) (fun _ _ _ hz Sz=>.inl (run_build (l:=[_,_,_,_,_]) rfl rfl mY rfl rfl)) ?_
 refine Un (i:=14) 0 rfl (by kernel_rfl) rfl rfl (fun oZ dP=>?_)
 refine(U6 (i:=0) (us:=[_,_,_,_,_]) (l':=[_,_,_,_,_]) (H':=[_,_,_]) rfl rfl dP rfl rfl rfl rfl cg rfl rfl rfl rfl ?_)
 intro q9 cN;clear dP
 refine aP.turn (by kernel_rfl) cN ?_;clear cN
 change WA _ _ _ _ _ _ _ _ _ _ _ _ [_,_,_]
 refine Uu (by kernel_rfl) (fun tv cM=>?_)
 refine ah [6] rfl (U3 (Uk hC [_] rfl rfl ⟨⟨_,rfl,Um (us:=[_,_,_,_,_]) aW rfl cg (cM.aw (i:=0) rfl ⟨rfl,rfl,rfl,rfl,rfl,trivial⟩)⟩,trivial⟩ ?_))
 exact⟨_,rfl,(cM.pick [] [] (by decide) trivial),(by rfl)⟩
noncomputable def Td:=Tryz.f167.body.getD .skip
def Zxh:=cL Td
def Tc:=cR Td
def Tb:=cL Tc
def Ta:=cR Tc
def Zxl:=cL Tb
def Zxm:=cR Tb
def Zxn:=cL Zxm
def SZ:=cL Zxn
def Zxp:=cL SZ
def SY:=cR SZ
def SX:=cL SY
def SV:=cR SY
def Zxt:=cL SX
def Zxu:=cR SX
def Zxv:=cL SV
def Zxw:=cR SV
def SU:=cL Zxv
def Zxy:=cL SU
def SS:=cR SU
def Zy0:=cL SS
def SR:=cR SS
def SQ:=cL SR
def Zy3:=cR SR
def Zy4:=cL SQ
def Zy5:=cR SQ
def Zy6:=cL Ta
def Zy7:=cR Ta
set_option maxRecDepth 10000 in
theorem ait{w:World}{M:Hp}{X:Fr}(s:List Da){sA:Option Addr}{sc:Nat}(v:Da)(hs:aG cu (M.un X.h) sA sc s)(S:SH w M X []):Cq Tryz.prog 167 [.slice sA s.length sc,.agg [.int .i64 v.a,.bool v.b].toArray] w M X (fun u=>u=.int .i64 (qB (pn v) s)):=by
 unfold Cq
 have uJ:s.length*16<=140737488355328:=hs.room
 refine Up (b:=Td) Tryz.func167 rfl Tryz.ntmps167 rfl (fun C hC=>(bq [(0,_),(1,_)] ⟨rfl,rfl,trivial⟩ (U2 Zxh Tc rfl rfl rfl (U0 rfl (ak 0 1 rfl rfl rfl (bE (l:=[_,_]) rfl rfl rfl rfl rfl S ?_))))))
 intro aI w1 S1;clear S
 refine ag 1 1 rfl rfl (U5 rfl (ah [0,3] rfl (U3 (U2 Tb Ta rfl rfl rfl (U2 Zxl Zxm rfl rfl rfl (U0 rfl (ag 0 1 rfl rfl (af 1 rfl (cU rfl rfl rfl rfl rfl rfl iO) ?_))))))))
 refine ag 2 1 rfl rfl (U5 rfl (ah [0,3,7,8] rfl (U3 (Uc Zxn 0 rfl rfl rfl ?_))))
 refine Ux (fun aS au aM=>∃(i:Nat),aS=s.length-i/\Env 19 [(0,.slice sA s.length sc),(3,.pointer (some ⟨aI,0,none⟩)),(7,.int .i64 (s.length:Int)),(8,.int .i64 (i:Int))] au/\SH aM M X [Rs.box aI 26 [.int .i64 v.a,.bool v.b]]/\i<=s.length/\(∀j,j<i->pn v (ga s j)=false)) rfl ?_ ?_
 ·intro au aq
  refine⟨_,⟨0,rfl,aq.sub ⟨rfl,rfl,rfl,rfl,trivial⟩,S1.pick [0] [_] (by decide) ⟨rfl,trivial⟩,?cd,?dm⟩⟩
  case cd=>omega
  case dm=>(intro j hj;omega)
 ·rintro m1 a1 w2 ⟨i,rfl,aY,S2,hi,hq⟩
  clear S1
  refine bX aY (c:=SZ) rfl ?_
  clear aY a1
  refine U2 Zxp SY rfl rfl rfl (U0 rfl (af 0 rfl (bS rfl rfl rfl) (U5 rfl (U3 (U2 SX SV rfl rfl rfl ?_)))))
  refine Uf Zxt Zxu rfl rfl rfl rfl (fun jI=>?_) (fun jI=>?_)
  ·refine Ue rfl (ah [0,3,7,8] rfl (U3 (U2 Zxv Zxw rfl rfl rfl (Uc SU 1 rfl rfl rfl (U2 Zxy SS rfl rfl rfl (U0 rfl (ag 0 2 rfl rfl (U5 rfl ?_))))))))
   refine ah [0,3,7,8,5] rfl (U3 (U2 Zy0 SR rfl rfl rfl (bM rfl (by kernel_rfl) S2 6 rfl ?_)))
   clear S2
   refine aj 0 5 rfl (by kernel_rfl) (fun _ _ _ hz Sz=>.inl (U8 (us:=[_,_]) rfl rfl aZ rfl cC (Sz.suf.aw (i:=0) rfl ⟨rfl,rfl,trivial⟩))) ?_
   refine ai 1 4 rfl (by kernel_rfl) (fun _=>run_move rfl rfl) ?_
   refine ai 2 3 rfl (by kernel_rfl) (fun _=>run_move rfl rfl) ?_
   refine aj 3 2 rfl (by kernel_rfl) (fun _ _ _ hz Sz=>.inl (Ul (C:=cu) i rfl rfl rfl iF (by first|rfl|omega) (hs.mono (Hp.Ua hz Sz.mx)) (by first|omega|(simp only[ls];omega)))) ?_
   refine aj 4 1 rfl (by kernel_rfl) (fun _ _ _ hz Sz=>.inl (U8 (us:=[_,_]) rfl rfl aZ rfl cC ((hs.mono (Hp.Ua hz Sz.mx)).fU Sz.um (e:=i) (by first|omega|(simp only[ls];omega)) (j:=0) ⟨rfl,rfl,trivial⟩))) ?_
   refine ai 5 0 rfl (by kernel_rfl) (fun _=>BX (Q:=v.a=((ga s i).a)/\v.b=((ga s i).b)) rfl rfl rfl zE ⟨_,_,_,_,rfl,rfl,⟨_,_,rfl,rfl,rfl⟩,rfl⟩) ?_
   refine Uu (by kernel_rfl) (fun w9 S9=>?_)
   refine ah [0,3,7,8,5,16] rfl (U3 ?_)
   refine Uf SQ Zy3 rfl rfl rfl rfl (fun mZ=>?_) (fun mZ=>?_)
   ·refine U2 Zy4 Zy5 rfl rfl rfl (U0 rfl (ag 0 2 rfl rfl (U5 rfl (ah [4] rfl (U3 (Uk hC [_] rfl rfl ⟨rfl,trivial⟩ ?_))))))
    exact⟨_,rfl,(S9.pick [] [] (by decide) trivial),(by rw[Gq (p:=pn v) (k:=i) (by omega) (decide_eq_true mZ) hq];rfl)⟩
   ·refine Ue rfl (bj (ah [0,3,7,8] rfl (U3 (U0 rfl (af 0 rfl (Ug rfl rfl rfl (by first|omega|(simp only[ls];omega))) ?_)))))
    refine ag 1 1 rfl rfl (U5 rfl (aO ?_))
    intro au aq
    refine⟨_,?dQ,⟨i+1,rfl,aq.sub ⟨rfl,rfl,rfl,rfl,trivial⟩,S9.pick [0] [_] (by decide) ⟨rfl,trivial⟩,?cx,?dC⟩⟩
    case cx=>omega
    case dC=>(intro j hj;by_cases e:j=i;(subst e;exact decide_eq_false mZ);exact hq j (by omega))
    case dQ=>omega
  ·refine bP rfl rfl (bN [] trivial (U3 (U2 Zy6 Zy7 rfl rfl rfl (U0 rfl (ag 0 1 rfl rfl (U5 rfl (U3 (Uk hC [_] rfl rfl ⟨rfl,trivial⟩ ?_))))))))
   exact⟨_,rfl,(S2.pick [] [] (by decide) trivial),(by rw[Gg (p:=pn v) (fun j hj=>hq j (by omega))];rfl)⟩
noncomputable def SP:=Tryz.f119.body.getD .skip
def Zy9:=cL SP
def SN:=cR SP
def Zyb:=cL SN
def Zyc:=cR SN
set_option maxRecDepth 10000 in
theorem aah{w:World}{M:Hp}{X:Fr}(s:List Da){sA:Option Addr}{sc:Nat}(v:Da)(hs:aG cu (M.un X.h) sA sc s)(S:SH w M X []):Cq Tryz.prog 119 [.slice sA s.length sc,.agg [.int .i64 v.a,.bool v.b].toArray] w M X (fun u=>u=.bool (s.any (pn v))):=by
 unfold Cq
 have uJ:s.length*16<=140737488355328:=hs.room
 refine Up (b:=SP) Tryz.func119 rfl Tryz.ntmps119 rfl (fun C hC=>(bq [(0,_),(1,_)] ⟨rfl,rfl,trivial⟩ (U2 Zy9 SN rfl rfl rfl (U0 rfl (ak 0 1 rfl rfl rfl (bE (l:=[_,_]) rfl rfl rfl rfl rfl S ?_))))))
 intro aI w1 S1;clear S
 refine ag 1 1 rfl rfl (U5 rfl (ah [0,3] rfl (U3 (U2 Zyb Zyc rfl rfl rfl (U0 rfl (ag 0 1 rfl rfl (af 1 rfl (U8 (us:=[_,_]) rfl rfl aZ rfl cC (S1.aw (i:=0) rfl ⟨rfl,rfl,trivial⟩)) (ak 2 3 rfl rfl rfl (cS rfl rfl rfl rfl rfl rfl rfl ani S1 (ait s v (hs.mono S1.Uy) S1.aD) ?_)))))))))
 rintro _ w2 S2 rfl;clear S1
 refine af 3 rfl (lg rfl rfl rfl) (ag 4 1 rfl rfl (U5 rfl (ah [4] rfl (U3 (Uk hC [_] rfl rfl ⟨rfl,trivial⟩ ?_)))))
 exact⟨_,rfl,(S2.pick [] [] (by decide) trivial),(by show Value.bool _=_;rw[Gs])⟩
noncomputable def SM:=Tryz.f166.body.getD .skip
def Zye:=cL SM
def SL:=cR SM
def SK:=cL SL
def SJ:=cR SL
def Zyi:=cL SK
def Zyj:=cR SK
def Zyk:=cL Zyj
def SI:=cL Zyk
def Zym:=cL SI
def SG:=cR SI
def SF:=cL SG
def SE:=cR SG
def Zyq:=cL SF
def Zyr:=cR SF
def Zys:=cL SE
def Zyt:=cR SE
def SD:=cL Zys
def Zyv:=cL SD
def SC:=cR SD
def Zyx:=cL SC
def SA:=cR SC
def Sy:=cL SA
def Zz0:=cR SA
def Zz1:=cL Sy
def Zz2:=cR Sy
def Zz3:=cL SJ
def Zz4:=cR SJ
set_option maxRecDepth 10000 in
theorem ahf{w:World}{M:Hp}{X:Fr}(s:List (List Da)){sA:Option Addr}{sc:Nat}{sv:List fO}(fv:FuncId)(cap:List Value)(p:List Da->Bool)(hs:aG (di 141) (M.un X.h) sA sc sv)(hds:fy cu (M.un X.h) sv s)(hen:∀args w,(callFunc fv args).run Tryz.prog w=.ok (.enter fv args) w)(hf:∀(w:World) (Y:Fr),(M.un X.h).le (M.un Y.h)->SH w M Y []->∀(A:Option Addr) (c:Nat) (x:List Da),x∈s->aG cu (M.un Y.h) A c x->Cq Tryz.prog fv ([.slice A x.length c]++cap) w M Y (fun u=>u=.bool (p x)))(S:SH w M X []):Cq Tryz.prog 166 [.slice sA sv.length sc,.func (.func fv) #[] cap.toArray] w M X (fun u=>u=.int .i64 (qB p s)):=by
 unfold Cq
 have uJ:sv.length*24<=140737488355328:=hs.room
 refine Up (b:=SM) Tryz.func166 rfl Tryz.ntmps166 rfl (fun C hC=>(bq [(0,_),(1,_)] ⟨rfl,rfl,trivial⟩ (U2 Zye SL rfl rfl rfl (U0 rfl (ag 0 1 rfl rfl (U5 rfl (ah [0,1] rfl (U3 (U2 SK SJ rfl rfl rfl ?_)))))))))
 refine U2 Zyi Zyj rfl rfl rfl (U0 rfl (ag 0 1 rfl rfl (af 1 rfl (cU rfl rfl rfl rfl rfl rfl mr) (ag 2 1 rfl rfl (U5 rfl (ah [0,1,7,8] rfl (U3 (Uc Zyk 0 rfl rfl rfl ?_))))))))
 refine Ux (fun aS au aM=>∃(k:Nat),aS=s.length-k/\Env 19 [(0,.slice sA sv.length sc),(1,.func (.func fv) #[] cap.toArray),(7,.int .i64 (sv.length:Int)),(8,.int .i64 (k:Int))] au/\SH aM M X []/\k<=s.length/\(∀j,j<k->p (ga s j)=false)) rfl ?_ ?_
 ·intro au aq
  refine⟨_,⟨0,rfl,aq.sub ⟨rfl,rfl,rfl,rfl,trivial⟩,S.pick [] [] (by decide) trivial,?cd,?dm⟩⟩
  case cd=>(have:=hds.1;omega)
  case dm=>(intro j hj;omega)
 ·rintro m1 a1 w1 ⟨k,rfl,aY,S1,hk,hno⟩
  clear S
  refine bX aY (c:=SI) rfl ?_
  clear aY a1
  have hsl:=hds.1
  refine U2 Zym SG rfl rfl rfl (U0 rfl (af 0 rfl (bS rfl rfl rfl) (U5 rfl (U3 (U2 SF SE rfl rfl rfl ?_)))))
  refine Uf Zyq Zyr rfl rfl rfl rfl (fun jI=>?_) (fun jI=>?_)
  ·refine Ue rfl (ah [0,1,7,8] rfl (U3 (U2 Zys Zyt rfl rfl rfl (Uc SD 1 rfl rfl rfl (U2 Zyv SC rfl rfl rfl (U0 rfl (ag 0 2 rfl rfl (U5 rfl ?_))))))))
   refine ah [0,1,7,8,5] rfl (U3 (U2 Zyx SA rfl rfl rfl (U0 rfl (ag 0 3 rfl rfl (af 3 rfl (Ul (C:=(di 141)) k rfl rfl rfl kr (by first|rfl|omega) hs (by first|omega|(simp only[ls];omega))) ?_)))))
   obtain⟨lY,hr1⟩:=hds.2 k (by first|omega|(simp only[ls];omega))
   have al9:(ga s k).length*16<=140737488355328:=hr1.room
   refine af 4 rfl (U4 rfl rfl iO rfl (hs.cell S1.um (i:=k) (by first|omega|(simp only[ls];omega)) 0 rfl (congrArg (fun n=>some (Value.slice _ n _)) lY))) ?_
   refine ak 5 6 rfl rfl rfl (akH rfl rfl rfl rfl rfl rfl rfl hen S1 (hf _ _ S1.Uy S1.aD _ _ _ (iB (by omega)) (hr1.mono S1.Uy)) ?_)
   rintro _ w2 S2 rfl;clear S1
   refine U5 rfl (ah [0,1,7,8,5,16] rfl (U3 ?_))
   refine dN Sy Zz0 rfl rfl rfl rfl (fun mZ=>?_) (fun mZ=>?_)
   ·refine U2 Zz1 Zz2 rfl rfl rfl (U0 rfl (ag 0 2 rfl rfl (U5 rfl (ah [4] rfl (U3 (Uk hC [_] rfl rfl ⟨rfl,trivial⟩ ?_))))))
    exact⟨_,rfl,(S2.pick [] [] (by decide) trivial),(by rw[Gq (by omega) mZ hno];rfl)⟩
   ·refine Ue rfl (bj (ah [0,1,7,8] rfl (U3 (U0 rfl (af 0 rfl (Ug rfl rfl rfl (by first|omega|(simp only[ls];omega))) ?_)))))
    refine ag 1 1 rfl rfl (U5 rfl (aO ?_))
    intro au aq
    refine⟨_,?dQ,⟨k+1,rfl,aq.sub ⟨rfl,rfl,rfl,rfl,trivial⟩,S2.pick [] [] (by decide) trivial,?cx,?dC⟩⟩
    case cx=>omega
    case dC=>(intro j hj;by_cases h:j=k;(subst h;exact mZ);exact hno j (by omega))
    case dQ=>omega
  ·refine bP rfl rfl (bN [] trivial (U3 (U2 Zz3 Zz4 rfl rfl rfl (U0 rfl (ag 0 1 rfl rfl (U5 rfl (U3 (Uk hC [_] rfl rfl ⟨rfl,trivial⟩ ?_))))))))
   exact⟨_,rfl,(S1.pick [] [] (by decide) trivial),(by rw[Gg (fun j hj=>hno j (by omega))];rfl)⟩
noncomputable def Sw:=Tryz.f117.body.getD .skip
def Zz6:=cL Sw
def Sv:=cR Sw
def Zz8:=cL Sv
def Zz9:=cR Sv
set_option maxRecDepth 10000 in
theorem aac{w:World}{M:Hp}{X:Fr}(s:List (List Da)){sA:Option Addr}{sc:Nat}{sv:List fO}(fv:FuncId)(cap:List Value)(p:List Da->Bool)(hs:aG (di 141) (M.un X.h) sA sc sv)(hds:fy cu (M.un X.h) sv s)(hen:∀args w,(callFunc fv args).run Tryz.prog w=.ok (.enter fv args) w)(hf:∀(w:World) (Y:Fr),(M.un X.h).le (M.un Y.h)->SH w M Y []->∀(A:Option Addr) (c:Nat) (x:List Da),x∈s->aG cu (M.un Y.h) A c x->Cq Tryz.prog fv ([.slice A x.length c]++cap) w M Y (fun u=>u=.bool (p x)))(S:SH w M X []):Cq Tryz.prog 117 [.slice sA sv.length sc,.func (.func fv) #[] cap.toArray] w M X (fun u=>u=.bool (s.any p)):=by
 unfold Cq
 have uJ:sv.length*24<=140737488355328:=hs.room
 refine Up (b:=Sw) Tryz.func117 rfl Tryz.ntmps117 rfl (fun C hC=>(bq [(0,_),(1,_)] ⟨rfl,rfl,trivial⟩ (U2 Zz6 Sv rfl rfl rfl (U0 rfl (ag 0 1 rfl rfl (U5 rfl (ah [0,1] rfl (U3 (U2 Zz8 Zz9 rfl rfl rfl ?_)))))))))
 refine U0 rfl (ag 0 2 rfl rfl (ak 2 3 rfl rfl rfl (cS rfl rfl rfl rfl rfl rfl rfl anj S (ahf s fv cap p (hs.mono S.Uy) (hds.mono S.Uy) hen (fun w Y hl S9=>hf w Y (S.Uy.trans hl) S9) S.aD) ?_)))
 rintro _ w1 S1 rfl;clear S
 refine af 3 rfl (lg rfl rfl rfl) (ag 4 1 rfl rfl (U5 rfl (ah [4] rfl (U3 (Uk hC [_] rfl rfl ⟨rfl,trivial⟩ ?_)))))
 exact⟨_,rfl,(S1.pick [] [] (by decide) trivial),(by show Value.bool _=_;rw[<-Gs])⟩
end Go.Proofs.YthppkofceancjaaGreat
