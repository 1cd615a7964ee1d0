/- Part 14 of the proof of the law MovesRows: the walks through its functions and the plain laws that they need. -/
import Derived.Test.YthppkofceancjaaGreatMxZ13
import Derived.Lib.SmallJoins
import Derived.Deep.Slices
import Derived.Deep.Fields
import Derived.ChangeSame
set_option linter.unusedSimpArgs false
set_option linter.unusedVariables false
noncomputable section
namespace Go.Proofs.YthppkofceancjaaGreat
open Go.ChangeShapes Go.WideShapes Go.ChangeAt Go.RowKit
theorem agw{k:Int}(h1:¬k=1)(h2:¬k=2)(h3:¬k=3)(h4:¬k=4)(h5:¬k=5):lQ k=none:=by
 unfold lQ uK
 simp only[mg]
 rw[if_neg h1,if_neg h2,if_neg h3,if_neg h4,if_neg h5]
 rfl
theorem xM{d:Dg}{m:Mv}(hop:gq d=true){f:Nat}(hk:lQ m.kd=some f):dK d m=kL (gu d m) (gG d m):=by
 unfold dK kL
 rw[if_neg (by rw[hop];decide),if_neg (by rw[hk];exact Option.some_ne_none _)]
theorem acd{d:Dg}(h1:gW d=true)(h2:qy d=true):gq d=true:=by
 unfold gq
 rw[h1,<-aat (sW h1).2.1,h2]
 rfl
theorem Am{d:Dg}(h1:gW d=true)(h2:qy d=false):gq d=false:=by
 unfold gq
 rw[h1,<-aat (sW h1).2.1,h2]
 rfl
theorem alg{d:Dg}{m:Mv}(hop:gq d=true)(h:m.kd=1):dK d m=kL (dP d m) (lh d m):=by
 rw[xM hop (f:=67) (by rw[h];rfl)]
 rw[show gu d m=dP d m from by unfold gu;rw[h];rfl,show gG d m=lh d m from by unfold gG;rw[h];rfl]
theorem A8{d:Dg}{m:Mv}(hop:gq d=true)(h:m.kd=2):dK d m=kL (jm d m) (xO d m):=by
 rw[xM hop (f:=68) (by rw[h];rfl)]
 rw[show gu d m=jm d m from by unfold gu;rw[h];rfl,show gG d m=xO d m from by unfold gG;rw[h];rfl]
theorem alf{d:Dg}{m:Mv}(hop:gq d=true)(h:m.kd=3):dK d m=kL (fT d m) (tU d m):=by
 rw[xM hop (f:=69) (by rw[h];rfl)]
 rw[show gu d m=fT d m from by unfold gu;rw[h];rfl,show gG d m=tU d m from by unfold gG;rw[h];rfl]
theorem sL{d:Dg}{m:Mv}(hop:gq d=true)(h:m.kd=4):dK d m=kL (gp d m) (y8 d m):=by
 rw[xM hop (f:=70) (by rw[h];rfl)]
 rw[show gu d m=gp d m from by unfold gu;rw[h];rfl,show gG d m=y8 d m from by unfold gG;rw[h];rfl]
theorem ale{d:Dg}{m:Mv}(hop:gq d=true)(h:m.kd=5):dK d m=kL (gF d m) (p6 d m):=by
 rw[xM hop (f:=71) (by rw[h];rfl)]
 rw[show gu d m=gF d m from by unfold gu;rw[h];rfl,show gG d m=p6 d m from by unfold gG;rw[h];rfl]
noncomputable def I7:=Tryz.f10.body.getD .skip
def ao1:=cL I7
def I6:=cR I7
def I5:=cL I6
def I4:=cR I6
def ao0:=cL I5
def I3:=cR I5
def BV:=cL I3
def aoZ:=cR I3
def aeq:=cL BV
def aep:=cR BV
def aoY:=cL I4
def I2:=cR I4
def I0:=cL I2
def IZ:=cR I2
def aoX:=cL I0
def aeo:=cR I0
def IY:=cL aeo
def aoW:=cL IY
def IX:=cR IY
def IW:=cL IX
def IV:=cR IX
def aoV:=cL IW
def aoU:=cR IW
def aoT:=cL IV
def IU:=cR IV
def IQ:=cL IU
def IP:=cR IU
def IL:=cL IQ
def IK:=cR IQ
def aoS:=cL IL
def IJ:=cR IL
def BU:=cL IJ
def aoR:=cR IJ
def aen:=cL BU
def aem:=cR BU
def II:=cL IK
def IG:=cR IK
def aoQ:=cL II
def IE:=cR II
def IC:=cL IE
def aoP:=cR IE
def aoO:=cL IC
def aoN:=cR IC
def aoM:=cL IG
def aoL:=cR IG
def aoK:=cL IP
def IB:=cR IP
def IA:=cL IB
def Iz:=cR IB
def aoJ:=cL IA
def aoI:=cR IA
def aoH:=cL Iz
def Iy:=cR Iz
def Iw:=cL Iy
def Iu:=cR Iy
def Ir:=cL Iw
def Iq:=cR Iw
def aoG:=cL Ir
def Ip:=cR Ir
def tF:=cL Ip
def aoF:=cR Ip
def yw:=cL tF
def yu:=cR tF
def Io:=cL Iq
def Im:=cR Iq
def aoE:=cL Io
def Il:=cR Io
def Ik:=cL Il
def aoD:=cR Il
def aoC:=cL Ik
def aoB:=cR Ik
def aoA:=cL Im
def aoz:=cR Im
def aoy:=cL Iu
def Ij:=cR Iu
def Ii:=cL Ij
def aox:=cR Ij
def aow:=cL Ii
def aov:=cR Ii
def aou:=cL IZ
def aot:=cR IZ
set_option maxHeartbeats 2000000 in
set_option maxRecDepth 10000 in
theorem abt{w:World}{M:Hp}{X:Fr}(d:Dg){aV:Option Addr}{aU:Nat}(m:Mv)(aC:aF aG (M.un X.h) aV aU d.ae)(S:SH w M X []):Ct Tryz.prog 10 [.agg [.slice aV d.ae.length aU,.int .i64 d.loops].toArray,.agg [.int .i64 m.kd,.int .i64 m.at_,.int .i64 m.aJ,.int .i64 m.ua,.bool m.ub,.int .i64 m.va,.bool m.vb,.bool m.ov].toArray] w M X (qq (dK d m)):=by
 unfold Ct
 have gK:d.ae.length*40<=140737488355328:=aC.room
 refine Up (b:=I7) Tryz.func10 rfl Tryz.ntmps10 rfl (fun C hC=>(bq [(0,_),(1,_)] ⟨rfl,rfl,trivial⟩ (U2 ao1 I6 rfl rfl rfl (U0 rfl (ak 0 1 rfl rfl rfl (bA (l:=[_,_]) rfl rfl rfl rfl rfl S ?_))))))
 intro aI w1 S1;clear S
 refine ak 1 2 rfl rfl rfl (bA (l:=[_,_,_,_,_,_,_,_]) rfl rfl rfl rfl rfl S1 ?_)
 intro aQ w2 S2;clear S1
 refine ak 2 3 rfl rfl rfl (Uh (l:=[_,_]) rfl rfl rfl fQ rfl S2 ?_)
 intro bE w3 S3;clear S2
 refine ag 3 1 rfl rfl (U5 rfl (ah [2,3,4] rfl (U3 (U2 I5 I4 rfl rfl rfl (U2 ao0 I3 rfl rfl rfl (U0 rfl (af 0 rfl (U8 (us:=[_,_]) rfl rfl ay rfl az (S3.ax (i:=2) rfl ⟨rfl,rfl,trivial⟩)) (ak 1 2 rfl rfl rfl (cC rfl rfl rfl rfl rfl rfl rfl ad3 S3 (aag d (aC.mono S3.Uw) S3.aD) ?_)))))))))
 rintro _ w4 S4 rfl;clear S3
 refine af 2 rfl (dE rfl rfl) (ag 3 1 rfl rfl ?_)
 refine mX (t:=10) rfl (fun pE=>?_) (fun pE=>?_)
 ·simp only[Bool.and_eq_true,Bool.or_eq_true,Bool.and_eq_false_iff,Bool.or_eq_false_iff,decide_eq_true_eq,decide_eq_false_iff_not,Bool.not_eq_true',Bool.not_eq_false']at pE
  refine ag 4 4 rfl rfl (U5 rfl (ah [2,3,4,14] rfl (U3 (fM BV rfl rfl rfl (U2 aeq aep rfl rfl rfl (U0 rfl (af 0 rfl (run_build (l:=[_,_]) rfl rfl cJ rfl rfl) (ak 1 2 rfl rfl rfl (U7 (i:=0) (us:=[_,_]) (l':=[_,_]) (H':=[_,_,_]) rfl rfl S4 rfl rfl rfl rfl az rfl rfl rfl rfl ?_)))))))))
  intro w5 S5;clear S4
  refine ag 2 1 rfl rfl (U5 rfl (ah [4,5] rfl (U3 (Uj hC [_,_] rfl rfl ⟨⟨_,rfl,Um (us:=[_,_]) ay rfl az (S5.ax (i:=0) rfl ⟨rfl,rfl,trivial⟩)⟩,rfl,trivial⟩ ?_))))
  refine⟨_,rfl,_,Hp.le_refl _,(S5.pick [] [] (by decide) trivial),?_⟩
  rw[show dK d m=(⟨[],0⟩,7)from by unfold dK;rw[if_pos (by first|exact Am pE gD|(unfold gq;rw[pE];rfl))]]
  exact dU 7
 ·simp only[Bool.and_eq_true,Bool.or_eq_true,Bool.and_eq_false_iff,Bool.or_eq_false_iff,decide_eq_true_eq,decide_eq_false_iff_not,Bool.not_eq_true',Bool.not_eq_false']at pE
  obtain⟨hn,hab,Gv,adr⟩:=sW pE
  have hlo:0<=d.loops/\d.loops<=16:=⟨Gv,adr⟩
  refine aH 4 5 rfl rfl rfl rfl rfl rfl rfl rfl (Ub rfl rfl (U8 (us:=[_,_]) rfl rfl ay rfl az (S4.ax (i:=2) rfl ⟨rfl,rfl,trivial⟩)) (aH 5 6 rfl rfl rfl rfl rfl rfl rfl rfl (fp rfl rfl rfl rfl rfl rfl rfl ad2 S4 (aaA d (aC.mono S4.Uw) (hn) (hab) S4.aD) ?_)))
  intro vw6 w6 M1 aL S6 G8;clear S4
  replace aC:=aC.mono (Hp.Ua aL S6.mx)
  obtain rfl:=G8
  refine aH 6 7 rfl rfl rfl rfl rfl rfl rfl rfl (Ub rfl rfl (dE rfl rfl) (ag 7 1 rfl rfl (U5 rfl (ah [2,3,4,14] rfl (U3 ?_)))))
  refine cS BV aoZ rfl rfl rfl rfl (fun gD=>?_) (fun gD=>?_)
  ·simp only[Bool.and_eq_true,Bool.or_eq_true,Bool.and_eq_false_iff,Bool.or_eq_false_iff,decide_eq_true_eq,decide_eq_false_iff_not,Bool.not_eq_true',Bool.not_eq_false']at gD
   refine U2 aeq aep rfl rfl rfl (U0 rfl (af 0 rfl (run_build (l:=[_,_]) rfl rfl cJ rfl rfl) (ak 1 2 rfl rfl rfl (U7 (i:=0) (us:=[_,_]) (l':=[_,_]) (H':=[_,_,_]) rfl rfl S6 rfl rfl rfl rfl az rfl rfl rfl rfl ?_))))
   intro w7 S7;clear S6
   refine ag 2 1 rfl rfl (U5 rfl (ah [4,5] rfl (U3 (Uj hC [_,_] rfl rfl ⟨⟨_,rfl,Um (us:=[_,_]) ay rfl az (S7.ax (i:=0) rfl ⟨rfl,rfl,trivial⟩)⟩,rfl,trivial⟩ ?_))))
   refine⟨_,rfl,_,aL,(S7.pick [] [] (by decide) trivial),?_⟩
   rw[show dK d m=(⟨[],0⟩,7)from by unfold dK;rw[if_pos (by first|exact Am pE gD|(unfold gq;rw[pE];rfl))]]
   exact dU 7
  ·simp only[Bool.and_eq_true,Bool.or_eq_true,Bool.and_eq_false_iff,Bool.or_eq_false_iff,decide_eq_true_eq,decide_eq_false_iff_not,Bool.not_eq_true',Bool.not_eq_false']at gD
   have hop:gq d=true:=acd pE (by simpa using gD)
   refine Uf rfl (ah [2,3,4] rfl (U3 (U2 aoY I2 rfl rfl rfl (U0 rfl (af 0 rfl (U1 rfl rfl ay rfl (bK) (bJ)) (af 1 rfl (U4 rfl rfl bG rfl (S6.ar (i:=2) rfl rfl)) (af 2 rfl (cI rfl rfl rfl rfl rfl rfl bG) (ag 3 1 rfl rfl ?_))))))))
   refine U5 rfl (ah [2,3,4,6] rfl (U3 (U2 I0 IZ rfl rfl rfl (U2 aoX aeo rfl rfl rfl (U0 rfl (af 0 rfl (U1 rfl rfl aR rfl (aB) (aA)) (af 1 rfl (U4 rfl rfl av rfl (S6.ar (i:=1) rfl rfl)) (U5 rfl ?_))))))))
   refine ah [2,3,4,6,20] rfl (U3 (Uc IY 0 rfl rfl rfl (U2 aoW IX rfl rfl rfl (U0 rfl (af 0 rfl (bP rfl rfl rfl) (ag 1 1 rfl rfl (U5 rfl (ah [2,3,4,6,20,21] rfl ?_))))))))
   refine U3 ?_
   refine Ue IW IV rfl rfl rfl rfl (fun yg=>?_) (fun yg=>?_)
   ·refine U2 aoV aoU rfl rfl rfl (U0 rfl (af 0 rfl (U8 (us:=[_,_]) rfl rfl ay rfl az (S6.ax (i:=2) rfl ⟨rfl,rfl,trivial⟩)) (af 1 rfl (U8 (us:=[_,_,_,_,_,_,_,_]) rfl rfl aR rfl sS (S6.ax (i:=1) rfl ⟨rfl,rfl,rfl,rfl,rfl,rfl,rfl,rfl,trivial⟩)) (ak 2 3 rfl rfl rfl (fp rfl rfl rfl rfl rfl rfl rfl anE S6 (ahO d m (aC.mono S6.Uw) hn hab hlo S6.aD) ?_)))))
    intro vw8 w8 M2 hle2 S8 ani;clear S6
    replace aC:=aC.mono (Hp.Ua hle2 S8.mx)
    obtain⟨A1,c1,rfl,hr1⟩:=ani
    refine af 3 rfl (Ul rfl rfl rfl) (af 4 rfl (Ul rfl rfl rfl) (ak 5 6 rfl rfl rfl (U7 (i:=0) (us:=[_,_]) (l':=[_,_]) (H':=[_,_,_]) rfl rfl S8 rfl rfl rfl rfl az rfl rfl rfl rfl ?_)))
    intro w9 S9;clear S8
    refine ag 6 1 rfl rfl (U5 rfl (ah [4,5] rfl (U3 (Uj hC [_,_] rfl rfl ⟨⟨_,rfl,Um (us:=[_,_]) ay rfl az (S9.ax (i:=0) rfl ⟨rfl,rfl,trivial⟩)⟩,rfl,trivial⟩ ?_))))
    refine⟨_,rfl,_,aL.trans hle2,(S9.pick [] [] (by decide) trivial),?_⟩
    rw[alg hop yg]
    exact⟨_,_,rfl,hr1⟩
   ·refine U2 aoT IU rfl rfl rfl (U0 rfl (af 0 rfl (bP rfl rfl rfl) (ag 1 1 rfl rfl (U5 rfl (ah [2,3,4,6,20,28] rfl (U3 ?_))))))
    refine Ue IQ IP rfl rfl rfl rfl (fun oh=>?_) (fun oh=>?_)
    ·refine U2 IL IK rfl rfl rfl (U2 aoS IJ rfl rfl rfl (U0 rfl (af 0 rfl (U1 rfl rfl aR rfl (aB) (aA)) (af 1 rfl (U4 rfl rfl av rfl (S6.ar (i:=1) rfl rfl)) (af 2 rfl (bV rfl rfl rfl) (ag 3 1 rfl rfl ?_))))))
     refine Ut (t:=33) rfl (fun GL=>?_) (fun GL=>?_)
     ·refine ag 4 5 rfl rfl (U5 rfl (ah [2,3,4,38] rfl (U3 (fM BU rfl rfl rfl (U2 aen aem rfl rfl rfl (U0 rfl (af 0 rfl (run_build (l:=[_,_]) rfl rfl cJ rfl rfl) (ak 1 2 rfl rfl rfl (U7 (i:=0) (us:=[_,_]) (l':=[_,_]) (H':=[_,_,_]) rfl rfl S6 rfl rfl rfl rfl az rfl rfl rfl rfl ?_)))))))))
      intro jZ bF;clear S6
      refine ag 2 1 rfl rfl (U5 rfl (ah [4,5] rfl (U3 (Uj hC [_,_] rfl rfl ⟨⟨_,rfl,Um (us:=[_,_]) ay rfl az (bF.ax (i:=0) rfl ⟨rfl,rfl,trivial⟩)⟩,rfl,trivial⟩ ?_))))
      refine⟨_,rfl,_,aL,(bF.pick [] [] (by decide) trivial),?_⟩
      rw[A8 hop oh]
      rw[eH (c:=3) (by unfold jm;rw[if_neg (by omega)]) (by decide)]
      exact dU 3
     ·refine aH 4 5 rfl rfl rfl rfl rfl rfl rfl rfl (Ub rfl rfl (U1 rfl rfl aR rfl (aB) (aA)) (aH 5 6 rfl rfl rfl rfl rfl rfl rfl rfl (Ub rfl rfl (U4 rfl rfl av rfl (S6.ar (i:=1) rfl rfl)) (ag 6 1 rfl rfl (aH 7 8 rfl rfl rfl rfl rfl rfl rfl rfl (Ub rfl rfl (kf rfl rfl rfl) (ag 8 1 rfl rfl (U5 rfl (ah [2,3,4,38] rfl (U3 ?_))))))))))
      refine Ue BU aoR rfl rfl rfl rfl (fun tq=>?_) (fun tq=>?_)
      ·refine U2 aen aem rfl rfl rfl (U0 rfl (af 0 rfl (run_build (l:=[_,_]) rfl rfl cJ rfl rfl) (ak 1 2 rfl rfl rfl (U7 (i:=0) (us:=[_,_]) (l':=[_,_]) (H':=[_,_,_]) rfl rfl S6 rfl rfl rfl rfl az rfl rfl rfl rfl ?_))))
       intro kH bQ;clear S6
       refine ag 2 1 rfl rfl (U5 rfl (ah [4,5] rfl (U3 (Uj hC [_,_] rfl rfl ⟨⟨_,rfl,Um (us:=[_,_]) ay rfl az (bQ.ax (i:=0) rfl ⟨rfl,rfl,trivial⟩)⟩,rfl,trivial⟩ ?_))))
       refine⟨_,rfl,_,aL,(bQ.pick [] [] (by decide) trivial),?_⟩
       rw[A8 hop oh]
       rw[eH (c:=3) (by unfold jm;rw[if_neg (by omega)]) (by decide)]
       exact dU 3
      ·refine Uf rfl (ah [2,3,4] rfl (U3 (U2 II IG rfl rfl rfl (U2 aoQ IE rfl rfl rfl (U0 rfl (af 0 rfl (U8 (us:=[_,_]) rfl rfl ay rfl az (S6.ax (i:=2) rfl ⟨rfl,rfl,trivial⟩)) (af 1 rfl (U1 rfl rfl aR rfl (aB) (aA)) (af 2 rfl (U4 rfl rfl av rfl (S6.ar (i:=1) rfl rfl)) ?_))))))))
       refine b6 42 (.int .i64 ((m.at_.toNat:Nat):Int)) rfl (int_eq (by omega)) ?_
       refine ak 3 4 rfl rfl rfl (cC rfl rfl rfl rfl rfl rfl rfl anD S6 (ahQ d m.at_.toNat (aC.mono S6.Uw) (by omega) S6.aD) ?_)
       rintro _ mb cw rfl;clear S6
       refine af 4 rfl (dE rfl rfl) (U5 rfl (ah [2,3,4,44] rfl (U3 ?_)))
       refine cS IC aoP rfl rfl rfl rfl (fun s8=>?_) (fun s8=>?_)
       ·simp only[Bool.and_eq_true,Bool.or_eq_true,Bool.and_eq_false_iff,Bool.or_eq_false_iff,decide_eq_true_eq,decide_eq_false_iff_not,Bool.not_eq_true',Bool.not_eq_false']at s8
        refine U2 aoO aoN rfl rfl rfl (U0 rfl (af 0 rfl (run_build (l:=[_,_]) rfl rfl cJ rfl rfl) (ak 1 2 rfl rfl rfl (U7 (i:=0) (us:=[_,_]) (l':=[_,_]) (H':=[_,_,_]) rfl rfl cw rfl rfl rfl rfl az rfl rfl rfl rfl ?_))))
        intro lB bZ;clear cw
        refine ag 2 1 rfl rfl (U5 rfl (ah [4,5] rfl (U3 (Uj hC [_,_] rfl rfl ⟨⟨_,rfl,Um (us:=[_,_]) ay rfl az (bZ.ax (i:=0) rfl ⟨rfl,rfl,trivial⟩)⟩,rfl,trivial⟩ ?_))))
        refine⟨_,rfl,_,aL,(bZ.pick [] [] (by decide) trivial),?_⟩
        rw[A8 hop oh]
        rw[eH (c:=8) (by unfold jm;rw[if_pos (by omega),if_neg (by rw[s8];exact Bool.false_ne_true)]) (by decide)]
        exact dU 8
       ·simp only[Bool.and_eq_true,Bool.or_eq_true,Bool.and_eq_false_iff,Bool.or_eq_false_iff,decide_eq_true_eq,decide_eq_false_iff_not,Bool.not_eq_true',Bool.not_eq_false']at s8
        refine Uf rfl (ah [2,3,4] rfl (U3 (U2 aoM aoL rfl rfl rfl (U0 rfl (af 0 rfl (U8 (us:=[_,_]) rfl rfl ay rfl az (cw.ax (i:=2) rfl ⟨rfl,rfl,trivial⟩)) (af 1 rfl (U1 rfl rfl aR rfl (aB) (aA)) (af 2 rfl (U4 rfl rfl av rfl (cw.ar (i:=1) rfl rfl)) (b6 48 (.int .i64 ((m.at_.toNat:Nat):Int)) rfl (int_eq (by omega)) ?_))))))))
        refine ak 3 4 rfl rfl rfl (iy (C:=Uv) (l:=[_]) rfl rfl rfl rfl bw rfl rfl rfl rfl cw ?_)
        intro gY jY bN;clear cw
        have hr2:=bN.EC (C:=Uv) (z:=((m.at_.toNat:Nat):Int)) (i:=0) rfl rfl (by decide)
        have gL:=aan d ([((m.at_.toNat:Nat):Int)]) (aC.mono bN.Uw) hr2 (gs:=[m.at_.toNat]) rfl (by intro x hx;simp at hx;omega) hn hab (by omega) bN.aD
        refine ak 4 5 rfl rfl rfl (fp rfl rfl rfl rfl rfl rfl rfl ad0 bN (gL) ?_)
        intro al2 ot M3 dw bX ak7;clear bN
        replace aC:=aC.mono (Hp.Ua dw bX.mx)
        obtain⟨A2,c2,rfl,hr3⟩:=ak7
        refine ak 5 6 rfl rfl rfl (fp rfl rfl rfl rfl rfl rfl rfl ad1 bX (aav (jo d (bD [m.at_.toNat])) hr3 bX.aD) ?_)
        intro al1 ma M4 dM bM ak6;clear bX
        replace aC:=aC.mono (Hp.Ua dM bM.mx)
        replace hr3:=hr3.mono dM
        obtain⟨A3,c3,rfl,hr4⟩:=ak6
        refine af 6 rfl (Ul rfl rfl rfl) (af 7 rfl (Ul rfl rfl rfl) (ak 8 9 rfl rfl rfl (U7 (i:=1) (us:=[_,_]) (l':=[_,_]) (H':=[_,_,_,_]) rfl rfl bM rfl rfl rfl rfl az rfl rfl rfl rfl ?_)))
        intro lv bI;clear bM
        refine ag 9 1 rfl rfl (U5 rfl (ah [4,5] rfl (U3 (Uj hC [_,_] rfl rfl ⟨⟨_,rfl,Um (us:=[_,_]) ay rfl az (bI.ax (i:=1) rfl ⟨rfl,rfl,trivial⟩)⟩,rfl,trivial⟩ ?_))))
        refine⟨_,rfl,_,(aL.trans dw).trans dM,(bI.pick [] [] (by decide) trivial),?_⟩
        rw[A8 hop oh]
        rw[show jm d m=(if(jo d (bD [m.at_.toNat])).loops<=16 then 0 else 2)from by unfold jm lU;rw[if_pos (by omega),if_pos (by simpa using s8)]]
        exact⟨_,_,rfl,hr4⟩
    ·refine U2 aoK IB rfl rfl rfl (U0 rfl (af 0 rfl (bP rfl rfl rfl) (ag 1 1 rfl rfl (U5 rfl (ah [2,3,4,6,20,54] rfl (U3 ?_))))))
     refine Ue IA Iz rfl rfl rfl rfl (fun s7=>?_) (fun s7=>?_)
     ·refine U2 aoJ aoI rfl rfl rfl (U0 rfl (af 0 rfl (U8 (us:=[_,_]) rfl rfl ay rfl az (S6.ax (i:=2) rfl ⟨rfl,rfl,trivial⟩)) (af 1 rfl (U8 (us:=[_,_,_,_,_,_,_,_]) rfl rfl aR rfl sS (S6.ax (i:=1) rfl ⟨rfl,rfl,rfl,rfl,rfl,rfl,rfl,rfl,trivial⟩)) (ak 2 3 rfl rfl rfl (fp rfl rfl rfl rfl rfl rfl rfl anC S6 (ahu d m (aC.mono S6.Uw) hn hab hlo S6.aD) ?_)))))
      intro avx rC M5 nE bY ak4;clear S6
      replace aC:=aC.mono (Hp.Ua nE bY.mx)
      obtain⟨A4,c4,rfl,p9⟩:=ak4
      refine af 3 rfl (Ul rfl rfl rfl) (af 4 rfl (Ul rfl rfl rfl) (ak 5 6 rfl rfl rfl (U7 (i:=0) (us:=[_,_]) (l':=[_,_]) (H':=[_,_,_]) rfl rfl bY rfl rfl rfl rfl az rfl rfl rfl rfl ?_)))
      intro oq dC;clear bY
      refine ag 6 1 rfl rfl (U5 rfl (ah [4,5] rfl (U3 (Uj hC [_,_] rfl rfl ⟨⟨_,rfl,Um (us:=[_,_]) ay rfl az (dC.ax (i:=0) rfl ⟨rfl,rfl,trivial⟩)⟩,rfl,trivial⟩ ?_))))
      refine⟨_,rfl,_,aL.trans nE,(dC.pick [] [] (by decide) trivial),?_⟩
      rw[alf hop s7]
      exact⟨_,_,rfl,p9⟩
     ·refine U2 aoH Iy rfl rfl rfl (U0 rfl (af 0 rfl (bP rfl rfl rfl) (ag 1 1 rfl rfl (U5 rfl (ah [2,3,4,6,20,61] rfl (U3 ?_))))))
      refine Ue Iw Iu rfl rfl rfl rfl (fun pG=>?_) (fun pG=>?_)
      ·refine U2 Ir Iq rfl rfl rfl (U2 aoG Ip rfl rfl rfl (U0 rfl (af 0 rfl (U1 rfl rfl aR rfl (aB) (aA)) (af 1 rfl (U4 rfl rfl av rfl (S6.ar (i:=1) rfl rfl)) (af 2 rfl (bV rfl rfl rfl) (ag 3 1 rfl rfl ?_))))))
       refine Ut (t:=66) rfl (fun x4=>?_) (fun x4=>?_)
       ·refine ag 4 6 rfl rfl (ag 10 6 rfl rfl (ag 16 6 rfl rfl (ag 22 5 rfl rfl (U5 rfl (ah [2,3,4,89] rfl (U3 (fM tF rfl rfl rfl (U2 yw yu rfl rfl rfl ?_))))))))
        refine U0 rfl (af 0 rfl (run_build (l:=[_,_]) rfl rfl cJ rfl rfl) (ak 1 2 rfl rfl rfl (U7 (i:=0) (us:=[_,_]) (l':=[_,_]) (H':=[_,_,_]) rfl rfl S6 rfl rfl rfl rfl az rfl rfl rfl rfl ?_)))
        intro tS dB;clear S6
        refine ag 2 1 rfl rfl (U5 rfl (ah [4,5] rfl (U3 (Uj hC [_,_] rfl rfl ⟨⟨_,rfl,Um (us:=[_,_]) ay rfl az (dB.ax (i:=0) rfl ⟨rfl,rfl,trivial⟩)⟩,rfl,trivial⟩ ?_))))
        refine⟨_,rfl,_,aL,(dB.pick [] [] (by decide) trivial),?_⟩
        rw[sL hop pG]
        rw[eH (c:=3) (by unfold gp;rw[if_neg (by omega)]) (by decide)]
        exact dU 3
       ·refine aH 4 5 rfl rfl rfl rfl rfl rfl rfl rfl (Ub rfl rfl (U1 rfl rfl aR rfl (aB) (aA)) (aH 5 6 rfl rfl rfl rfl rfl rfl rfl rfl (Ub rfl rfl (U4 rfl rfl av rfl (S6.ar (i:=1) rfl rfl)) (ag 6 1 rfl rfl (aH 7 8 rfl rfl rfl rfl rfl rfl rfl rfl (Ub rfl rfl (kf rfl rfl rfl) (ag 8 2 rfl rfl ?_)))))))
        refine Ut (t:=72) rfl (fun amQ=>?_) (fun amQ=>?_)
        ·refine ag 10 6 rfl rfl (ag 16 6 rfl rfl (ag 22 5 rfl rfl (U5 rfl (ah [2,3,4,89] rfl (U3 (fM tF rfl rfl rfl (U2 yw yu rfl rfl rfl (U0 rfl ?_))))))))
         refine af 0 rfl (run_build (l:=[_,_]) rfl rfl cJ rfl rfl) (ak 1 2 rfl rfl rfl (U7 (i:=0) (us:=[_,_]) (l':=[_,_]) (H':=[_,_,_]) rfl rfl S6 rfl rfl rfl rfl az rfl rfl rfl rfl ?_))
         intro tQ dt;clear S6
         refine ag 2 1 rfl rfl (U5 rfl (ah [4,5] rfl (U3 (Uj hC [_,_] rfl rfl ⟨⟨_,rfl,Um (us:=[_,_]) ay rfl az (dt.ax (i:=0) rfl ⟨rfl,rfl,trivial⟩)⟩,rfl,trivial⟩ ?_))))
         refine⟨_,rfl,_,aL,(dt.pick [] [] (by decide) trivial),?_⟩
         rw[sL hop pG]
         rw[eH (c:=3) (by unfold gp;rw[if_neg (by omega)]) (by decide)]
         exact dU 3
        ·refine aH 10 11 rfl rfl rfl rfl rfl rfl rfl rfl (Ub rfl rfl (U1 rfl rfl aR rfl (aB) (aA)) (aH 11 12 rfl rfl rfl rfl rfl rfl rfl rfl (Ub rfl rfl (U4 rfl rfl av rfl (S6.ar (i:=1) rfl rfl)) (aH 12 13 rfl rfl rfl rfl rfl rfl rfl rfl (Ub rfl rfl (bV rfl rfl rfl) (ag 13 2 rfl rfl ?_))))))
         refine Ut (t:=77) rfl (fun xY=>?_) (fun xY=>?_)
         ·refine ag 15 6 rfl rfl (ag 21 6 rfl rfl (U5 rfl (ah [2,3,4,89] rfl (U3 (fM tF rfl rfl rfl (U2 yw yu rfl rfl rfl (U0 rfl (af 0 rfl (run_build (l:=[_,_]) rfl rfl cJ rfl rfl) ?_))))))))
          refine ak 1 2 rfl rfl rfl (U7 (i:=0) (us:=[_,_]) (l':=[_,_]) (H':=[_,_,_]) rfl rfl S6 rfl rfl rfl rfl az rfl rfl rfl rfl ?_)
          intro vO dz;clear S6
          refine ag 2 1 rfl rfl (U5 rfl (ah [4,5] rfl (U3 (Uj hC [_,_] rfl rfl ⟨⟨_,rfl,Um (us:=[_,_]) ay rfl az (dz.ax (i:=0) rfl ⟨rfl,rfl,trivial⟩)⟩,rfl,trivial⟩ ?_))))
          refine⟨_,rfl,_,aL,(dz.pick [] [] (by decide) trivial),?_⟩
          rw[sL hop pG]
          rw[eH (c:=3) (by unfold gp;rw[if_neg (by omega)]) (by decide)]
          exact dU 3
         ·refine aH 15 16 rfl rfl rfl rfl rfl rfl rfl rfl (Ub rfl rfl (U1 rfl rfl aR rfl (aB) (aA)) (aH 16 17 rfl rfl rfl rfl rfl rfl rfl rfl (Ub rfl rfl (U4 rfl rfl av rfl (S6.ar (i:=1) rfl rfl)) (ag 17 1 rfl rfl (aH 18 19 rfl rfl rfl rfl rfl rfl rfl rfl (Ub rfl rfl (kf rfl rfl rfl) (ag 19 2 rfl rfl ?_)))))))
          refine Ut (t:=83) rfl (fun amO=>?_) (fun amO=>?_)
          ·refine ag 21 6 rfl rfl (U5 rfl (ah [2,3,4,89] rfl (U3 (fM tF rfl rfl rfl (U2 yw yu rfl rfl rfl (U0 rfl (af 0 rfl (run_build (l:=[_,_]) rfl rfl cJ rfl rfl) (ak 1 2 rfl rfl rfl (U7 (i:=0) (us:=[_,_]) (l':=[_,_]) (H':=[_,_,_]) rfl rfl S6 rfl rfl rfl rfl az rfl rfl rfl rfl ?_)))))))))
           intro rB cW;clear S6
           refine ag 2 1 rfl rfl (U5 rfl (ah [4,5] rfl (U3 (Uj hC [_,_] rfl rfl ⟨⟨_,rfl,Um (us:=[_,_]) ay rfl az (cW.ax (i:=0) rfl ⟨rfl,rfl,trivial⟩)⟩,rfl,trivial⟩ ?_))))
           refine⟨_,rfl,_,aL,(cW.pick [] [] (by decide) trivial),?_⟩
           rw[sL hop pG]
           rw[eH (c:=3) (by unfold gp;rw[if_neg (by omega)]) (by decide)]
           exact dU 3
          ·refine aH 21 22 rfl rfl rfl rfl rfl rfl rfl rfl (Ub rfl rfl (U1 rfl rfl aR rfl (aB) (aA)) (aH 22 23 rfl rfl rfl rfl rfl rfl rfl rfl (Ub rfl rfl (U4 rfl rfl av rfl (S6.ar (i:=1) rfl rfl)) (aH 23 24 rfl rfl rfl rfl rfl rfl rfl rfl (Ub rfl rfl (U1 rfl rfl aR rfl (aB) (aA)) (aH 24 25 rfl rfl rfl rfl rfl rfl rfl rfl (Ub rfl rfl (U4 rfl rfl av rfl (S6.ar (i:=1) rfl rfl)) (aH 25 26 rfl rfl rfl rfl rfl rfl rfl rfl (Ub rfl rfl (bP rfl rfl rfl) (ag 26 1 rfl rfl (U5 rfl (ah [2,3,4,89] rfl (U3 ?_)))))))))))))
           refine Ue tF aoF rfl rfl rfl rfl (fun pF=>?_) (fun pF=>?_)
           ·refine U2 yw yu rfl rfl rfl (U0 rfl (af 0 rfl (run_build (l:=[_,_]) rfl rfl cJ rfl rfl) (ak 1 2 rfl rfl rfl (U7 (i:=0) (us:=[_,_]) (l':=[_,_]) (H':=[_,_,_]) rfl rfl S6 rfl rfl rfl rfl az rfl rfl rfl rfl ?_))))
            intro De cK;clear S6
            refine ag 2 1 rfl rfl (U5 rfl (ah [4,5] rfl (U3 (Uj hC [_,_] rfl rfl ⟨⟨_,rfl,Um (us:=[_,_]) ay rfl az (cK.ax (i:=0) rfl ⟨rfl,rfl,trivial⟩)⟩,rfl,trivial⟩ ?_))))
            refine⟨_,rfl,_,aL,(cK.pick [] [] (by decide) trivial),?_⟩
            rw[sL hop pG]
            rw[eH (c:=3) (by unfold gp;rw[if_neg (by omega)]) (by decide)]
            exact dU 3
           ·refine Uf rfl (ah [2,3,4] rfl (U3 (U2 Io Im rfl rfl rfl (U2 aoE Il rfl rfl rfl (U0 rfl (af 0 rfl (U8 (us:=[_,_]) rfl rfl ay rfl az (S6.ax (i:=2) rfl ⟨rfl,rfl,trivial⟩)) (af 1 rfl (U1 rfl rfl aR rfl (aB) (aA)) (af 2 rfl (U4 rfl rfl av rfl (S6.ar (i:=1) rfl rfl)) ?_))))))))
            refine af 3 rfl (U1 rfl rfl aR rfl (aB) (aA)) (af 4 rfl (U4 rfl rfl av rfl (S6.ar (i:=1) rfl rfl)) (ak 5 6 rfl rfl rfl (fp rfl rfl rfl rfl rfl rfl rfl anB S6 (ags d m.at_ m.aJ (aC.mono S6.Uw) hn hab S6.aD) ?_)))
            intro avw vN M6 Gy cv ak3;clear S6
            replace aC:=aC.mono (Hp.Ua Gy cv.mx)
            obtain rfl:=ak3
            refine af 6 rfl (dE rfl rfl) (U5 rfl (ah [2,3,4,97] rfl (U3 ?_)))
            refine cS Ik aoD rfl rfl rfl rfl (fun yb=>?_) (fun yb=>?_)
            ·simp only[Bool.and_eq_true,Bool.or_eq_true,Bool.and_eq_false_iff,Bool.or_eq_false_iff,decide_eq_true_eq,decide_eq_false_iff_not,Bool.not_eq_true',Bool.not_eq_false']at yb
             refine U2 aoC aoB rfl rfl rfl (U0 rfl (af 0 rfl (run_build (l:=[_,_]) rfl rfl cJ rfl rfl) (ak 1 2 rfl rfl rfl (U7 (i:=0) (us:=[_,_]) (l':=[_,_]) (H':=[_,_,_]) rfl rfl cv rfl rfl rfl rfl az rfl rfl rfl rfl ?_))))
             intro vM fw;clear cv
             refine ag 2 1 rfl rfl (U5 rfl (ah [4,5] rfl (U3 (Uj hC [_,_] rfl rfl ⟨⟨_,rfl,Um (us:=[_,_]) ay rfl az (fw.ax (i:=0) rfl ⟨rfl,rfl,trivial⟩)⟩,rfl,trivial⟩ ?_))))
             refine⟨_,rfl,_,aL.trans Gy,(fw.pick [] [] (by decide) trivial),?_⟩
             rw[sL hop pG]
             rw[eH (c:=8) (by unfold gp;rw[if_pos (by omega),if_neg (by rw[yb];exact Bool.false_ne_true)]) (by decide)]
             exact dU 8
            ·simp only[Bool.and_eq_true,Bool.or_eq_true,Bool.and_eq_false_iff,Bool.or_eq_false_iff,decide_eq_true_eq,decide_eq_false_iff_not,Bool.not_eq_true',Bool.not_eq_false']at yb
             refine Uf rfl (ah [2,3,4] rfl (U3 (U2 aoA aoz rfl rfl rfl (U0 rfl (af 0 rfl (U8 (us:=[_,_]) rfl rfl ay rfl az (cv.ax (i:=2) rfl ⟨rfl,rfl,trivial⟩)) (af 1 rfl (U1 rfl rfl aR rfl (aB) (aA)) (af 2 rfl (U4 rfl rfl av rfl (cv.ar (i:=1) rfl rfl)) (af 3 rfl (U1 rfl rfl aR rfl (aB) (aA)) ?_))))))))
             refine af 4 rfl (U4 rfl rfl av rfl (cv.ar (i:=1) rfl rfl)) (b6 101 (.int .i64 ((m.at_.toNat:Nat):Int)) rfl (int_eq (by omega)) ?_)
             refine b6 103 (.int .i64 ((m.aJ.toNat:Nat):Int)) rfl (int_eq (by omega)) ?_
             refine ak 5 6 rfl rfl rfl (wC (C:=Uv) (l:=[_,_]) (pl:=[(0,1),(1,1)]) rfl rfl rfl rfl bw rfl rfl rfl rfl rfl cv ?_)
             intro iq l9 cy;clear cv
             have hr6:=cy.Ep (C:=Uv) (zs:=[((m.at_.toNat:Nat):Int),((m.aJ.toNat:Nat):Int)]) (i:=0) rfl rfl (by show 2*_<=_;decide)
             have lN:=aan d ([((m.at_.toNat:Nat):Int),((m.aJ.toNat:Nat):Int)]) (aC.mono cy.Uw) hr6 (gs:=[m.at_.toNat,m.aJ.toNat]) rfl (by intro x hx;simp at hx;omega) hn hab (by omega) cy.aD
             refine ak 6 7 rfl rfl rfl (fp rfl rfl rfl rfl rfl rfl rfl ad0 cy (lN) ?_)
             intro al0 pX M7 Bw dL ak2;clear cy
             replace aC:=aC.mono (Hp.Ua Bw dL.mx)
             obtain⟨A5,c5,rfl,OG⟩:=ak2
             refine ak 7 8 rfl rfl rfl (fp rfl rfl rfl rfl rfl rfl rfl ad1 dL (aav (jo d (bD [m.at_.toNat,m.aJ.toNat])) OG dL.aD) ?_)
             intro avv tP M8 Gx kW ak1;clear dL
             replace aC:=aC.mono (Hp.Ua Gx kW.mx)
             replace OG:=OG.mono Gx
             obtain⟨A6,c6,rfl,hr8⟩:=ak1
             refine af 8 rfl (Ul rfl rfl rfl) (af 9 rfl (Ul rfl rfl rfl) (ak 10 11 rfl rfl rfl (U7 (i:=1) (us:=[_,_]) (l':=[_,_]) (H':=[_,_,_,_]) rfl rfl kW rfl rfl rfl rfl az rfl rfl rfl rfl ?_)))
             intro vL fu;clear kW
             refine ag 11 1 rfl rfl (U5 rfl (ah [4,5] rfl (U3 (Uj hC [_,_] rfl rfl ⟨⟨_,rfl,Um (us:=[_,_]) ay rfl az (fu.ax (i:=1) rfl ⟨rfl,rfl,trivial⟩)⟩,rfl,trivial⟩ ?_))))
             refine⟨_,rfl,_,((aL.trans Gy).trans Bw).trans Gx,(fu.pick [] [] (by decide) trivial),?_⟩
             rw[sL hop pG]
             rw[show gp d m=(if(jo d (bD [m.at_.toNat,m.aJ.toNat])).loops<=16 then 0 else 2)from by unfold gp lU;rw[if_pos (by omega),if_pos (by simpa using yb)]]
             exact⟨_,_,rfl,hr8⟩
      ·refine U2 aoy Ij rfl rfl rfl (U0 rfl (af 0 rfl (bP rfl rfl rfl) (ag 1 1 rfl rfl (U5 rfl (ah [2,3,4,109] rfl (U3 ?_))))))
       refine Ue Ii aox rfl rfl rfl rfl (fun FZ=>?_) (fun FZ=>?_)
       ·refine U2 aow aov rfl rfl rfl (U0 rfl (af 0 rfl (U8 (us:=[_,_]) rfl rfl ay rfl az (S6.ax (i:=2) rfl ⟨rfl,rfl,trivial⟩)) (af 1 rfl (U1 rfl rfl aR rfl (aB) (aA)) (af 2 rfl (U4 rfl rfl av rfl (S6.ar (i:=1) rfl rfl)) (ak 3 4 rfl rfl rfl (fp rfl rfl rfl rfl rfl rfl rfl anA S6 (agJ d m (aC.mono S6.Uw) hn hab S6.aD) ?_))))))
        intro avt Oo M9 ck nj ak0;clear S6
        replace aC:=aC.mono (Hp.Ua ck nj.mx)
        obtain⟨A7,c7,rfl,ze⟩:=ak0
        refine af 4 rfl (Ul rfl rfl rfl) (af 5 rfl (Ul rfl rfl rfl) (ak 6 7 rfl rfl rfl (U7 (i:=0) (us:=[_,_]) (l':=[_,_]) (H':=[_,_,_]) rfl rfl nj rfl rfl rfl rfl az rfl rfl rfl rfl ?_)))
        intro tO gB;clear nj
        refine ag 7 1 rfl rfl (U5 rfl (ah [4,5] rfl (U3 (Uj hC [_,_] rfl rfl ⟨⟨_,rfl,Um (us:=[_,_]) ay rfl az (gB.ax (i:=0) rfl ⟨rfl,rfl,trivial⟩)⟩,rfl,trivial⟩ ?_))))
        refine⟨_,rfl,_,aL.trans ck,(gB.pick [] [] (by decide) trivial),?_⟩
        rw[ale hop FZ]
        exact⟨_,_,rfl,ze⟩
       ·refine Uf rfl (bk (ah [4] rfl (U3 (U2 aou aot rfl rfl rfl (U0 rfl (af 0 rfl (run_build (l:=[_,_]) rfl rfl cJ rfl rfl) (ak 1 2 rfl rfl rfl (U7 (i:=0) (us:=[_,_]) (l':=[_,_]) (H':=[_,_,_]) rfl rfl S6 rfl rfl rfl rfl az rfl rfl rfl rfl ?_))))))))
        intro oo dm;clear S6
        refine ag 2 1 rfl rfl (U5 rfl (ah [4,5] rfl (U3 (Uj hC [_,_] rfl rfl ⟨⟨_,rfl,Um (us:=[_,_]) ay rfl az (dm.ax (i:=0) rfl ⟨rfl,rfl,trivial⟩)⟩,rfl,trivial⟩ ?_))))
        refine⟨_,rfl,_,aL,(dm.pick [] [] (by decide) trivial),?_⟩
        rw[show dK d m=(⟨[],0⟩,6)from by unfold dK;rw[if_neg (by rw[hop];decide),if_pos (agw yg oh s7 pG FZ)]]
        exact dU 6
end Go.Proofs.YthppkofceancjaaGreat
namespace Go.Proofs.YthppkofceancjaaGreat
open Go.ChangeShapes Go.WideShapes Go.ChangeAt Go.RowKit
instance :Inhabited Mv:=⟨⟨0,0,0,0,false,0,false,false⟩⟩
def mvF(m:Mv):List Value:=[.int .i64 m.kd,.int .i64 m.at_,.int .i64 m.aJ,.int .i64 m.ua,.bool m.ub,.int .i64 m.va,.bool m.vb,.bool m.ov]
def mN:Cd Mv:=⟨mvF,8,64,28,⟨0,0,0,0,false,0,false,false⟩,fun _=>rfl,by
 intro x u hu
 simp[mvF]at hu
 rcases hu with rfl|rfl|rfl|rfl|rfl|rfl|rfl|rfl<;>rfl⟩
noncomputable def kK(l:List Mv):Nat->Nat->Dg->Dg×Nat×Int
 |0,i,d=>(d,i,0)
 |f+1,i,d=>if(dK d (ga l i)).2=0 then kK l f (i+1) (dK d (ga l i)).1 else(d,i,(dK d (ga l i)).2)
noncomputable def gU(d:Dg)(l:List Mv):Dg×Nat×Int:=if gq d=false then(⟨[],0⟩,0,7)else if 200<l.length then(⟨[],0⟩,0,2)else kK l l.length 0 d
theorem EN{l:List Mv}{i:Nat}{d:Dg}(hi:i<l.length)(h:(dK d (ga l i)).2=0):kK l (l.length-i) i d=kK l (l.length-(i+1)) (i+1) (dK d (ga l i)).1:=by
 rw[show l.length-i=(l.length-(i+1))+1 from by omega]
 show(if _ then _ else _)=_
 rw[if_pos h]
theorem EO{l:List Mv}{i:Nat}{d:Dg}(hi:i<l.length)(h:¬(dK d (ga l i)).2=0):kK l (l.length-i) i d=(d,i,(dK d (ga l i)).2):=by
 rw[show l.length-i=(l.length-(i+1))+1 from by omega]
 show(if _ then _ else _)=_
 rw[if_neg h]
theorem abA{l:List Mv}{d:Dg}:kK l (l.length-l.length) l.length d=(d,l.length,0):=by rw[Nat.sub_self];rfl
def RwR(p:Dg×Nat×Int)(u:Value)(M:Hp):Prop:=∃A c,u=tup [.agg [.slice A p.1.ae.length c,.int .i64 p.1.loops].toArray,.int .i64 (p.2.1:Nat),.int .i64 p.2.2]/\aF aG M A c p.1.ae
theorem xy(c:Int){M:Hp}:RwR (⟨[],0⟩,0,c) (tup [.agg [.slice none 0 0,.int .i64 0].toArray,.int .i64 0,.int .i64 c]) M:=⟨none,0,rfl,aF.dW⟩
theorem Gj:jI Tryz.prog 35 mN:=⟨.agg [.int .i64 0,.int .i64 0,.int .i64 0,.int .i64 0,.bool false,.int .i64 0,.bool false,.bool false].toArray,qR,by kernel_rfl,rfl,by decide,by decide⟩
end Go.Proofs.YthppkofceancjaaGreat
namespace Go.Proofs.YthppkofceancjaaGreat
open Go.ChangeShapes Go.WideShapes Go.ChangeAt Go.RowKit
noncomputable def Ih:=Tryz.f13.body.getD .skip
def aos:=cL Ih
def Ig:=cR Ih
def Ie:=cL Ig
def Ic:=cR Ig
def aor:=cL Ie
def Ib:=cR Ie
def BS:=cL Ib
def aoq:=cR Ib
def ael:=cL BS
def aek:=cR BS
def Ia:=cL Ic
def H9:=cR Ic
def aop:=cL Ia
def H8:=cR Ia
def H7:=cL H8
def aoo:=cR H8
def aon:=cL H7
def aom:=cR H7
def H6:=cL H9
def H5:=cR H9
def aol:=cL H6
def aej:=cR H6
def aei:=cL aej
def H3:=cL aei
def H0:=cL H3
def HV:=cR H3
def aok:=cL H0
def HT:=cR H0
def aoj:=cL HT
def aoi:=cR HT
def aeh:=cL HV
def aoh:=cR HV
def HR:=cL aeh
def aog:=cL HR
def HQ:=cR HR
def BR:=cL HQ
def aeg:=cR HQ
def aef:=cL BR
def BQ:=cR BR
def BP:=cL BQ
def aee:=cR BQ
def aed:=cL BP
def aec:=cR BP
def aof:=cL H5
def aoe:=cR H5
set_option maxHeartbeats 2000000 in
set_option maxRecDepth 10000 in
theorem aiS{w:World}{M:Hp}{X:Fr}(d:Dg){aV:Option Addr}{aU:Nat}(l:List Mv){lA:Option Addr}{lc:Nat}(aC:aF aG M aV aU d.ae)(hl:aF mN (M.un X.h) lA lc l)(S:SH w M X []):Ct Tryz.prog 13 [.agg [.slice aV d.ae.length aU,.int .i64 d.loops].toArray,.slice lA l.length lc] w M X (RwR (gU d l)):=by
 unfold Ct
 have gK:d.ae.length*40<=140737488355328:=aC.room
 have Gk:l.length*64<=140737488355328:=hl.room
 refine Up (b:=Ih) Tryz.func13 rfl Tryz.ntmps13 rfl (fun C hC=>(bq [(0,_),(1,_)] ⟨rfl,rfl,trivial⟩ (U2 aos Ig rfl rfl rfl (U0 rfl (ak 0 1 rfl rfl rfl (bA (l:=[_,_]) rfl rfl rfl rfl rfl S ?_))))))
 intro aI w1 S1;clear S
 refine ak 1 2 rfl rfl rfl (Uh (l:=[_,_]) rfl rfl rfl fQ rfl S1 ?_)
 intro aQ w2 S2;clear S1
 refine ag 2 2 rfl rfl (U5 rfl (ah [1,2,4] rfl (U3 (U2 Ie Ic rfl rfl rfl (U2 aor Ib rfl rfl rfl (U0 rfl (af 0 rfl (U8 (us:=[_,_]) rfl rfl ay rfl az (S2.ax (i:=1) rfl ⟨rfl,rfl,trivial⟩)) (ak 1 2 rfl rfl rfl (cC rfl rfl rfl rfl rfl rfl rfl ad3 S2 (aag d (aC.mono (Hp.bR _ _)) S2.aD) ?_)))))))))
 rintro _ w3 S3 rfl;clear S2
 refine af 2 rfl (dE rfl rfl) (ag 3 1 rfl rfl ?_)
 refine mX (t:=13) rfl (fun pz=>?_) (fun pz=>?_)
 ·simp only[Bool.and_eq_true,Bool.or_eq_true,Bool.and_eq_false_iff,Bool.or_eq_false_iff,decide_eq_true_eq,decide_eq_false_iff_not,Bool.not_eq_true',Bool.not_eq_false']at pz
  refine ag 4 4 rfl rfl (U5 rfl (ah [1,2,4,17] rfl (U3 (fM BS rfl rfl rfl (U2 ael aek rfl rfl rfl (U0 rfl (af 0 rfl (run_build (l:=[_,_]) rfl rfl cJ rfl rfl) (ak 1 2 rfl rfl rfl (U7 (i:=0) (us:=[_,_]) (l':=[_,_]) (H':=[_,_]) rfl rfl S3 rfl rfl rfl rfl az rfl rfl rfl rfl ?_)))))))))
  intro w4 S4;clear S3
  refine ag 2 2 rfl rfl (U5 rfl (ah [4,5,6] rfl (U3 (Uj hC [_,_,_] rfl rfl ⟨⟨_,rfl,Um (us:=[_,_]) ay rfl az (S4.ax (i:=0) rfl ⟨rfl,rfl,trivial⟩)⟩,rfl,rfl,trivial⟩ ?_))))
  refine⟨_,rfl,_,Hp.le_refl _,(S4.pick [] [] (by decide) trivial),?_⟩
  rw[show gU d l=(⟨[],0⟩,0,7)from by unfold gU;rw[if_pos (by first|exact Am pz ij|(unfold gq;rw[pz];rfl))]]
  exact xy 7
 ·simp only[Bool.and_eq_true,Bool.or_eq_true,Bool.and_eq_false_iff,Bool.or_eq_false_iff,decide_eq_true_eq,decide_eq_false_iff_not,Bool.not_eq_true',Bool.not_eq_false']at pz
  obtain⟨hn,hab,Gv,adr⟩:=sW pz
  refine aH 4 5 rfl rfl rfl rfl rfl rfl rfl rfl (Ub rfl rfl (U8 (us:=[_,_]) rfl rfl ay rfl az (S3.ax (i:=1) rfl ⟨rfl,rfl,trivial⟩)) (aH 5 6 rfl rfl rfl rfl rfl rfl rfl rfl (fp rfl rfl rfl rfl rfl rfl rfl ad2 S3 (aaA d (aC.mono (Hp.bR _ _)) (hn) (hab) S3.aD) ?_)))
  intro Ot w5 M1 aL S5 yl;clear S3
  replace aC:=aC.mono aL
  replace hl:=hl.mono (Hp.Ua aL S5.mx)
  obtain rfl:=yl
  refine aH 6 7 rfl rfl rfl rfl rfl rfl rfl rfl (Ub rfl rfl (dE rfl rfl) (ag 7 1 rfl rfl (U5 rfl (ah [1,2,4,17] rfl (U3 ?_)))))
  refine cS BS aoq rfl rfl rfl rfl (fun ij=>?_) (fun ij=>?_)
  ·simp only[Bool.and_eq_true,Bool.or_eq_true,Bool.and_eq_false_iff,Bool.or_eq_false_iff,decide_eq_true_eq,decide_eq_false_iff_not,Bool.not_eq_true',Bool.not_eq_false']at ij
   refine U2 ael aek rfl rfl rfl (U0 rfl (af 0 rfl (run_build (l:=[_,_]) rfl rfl cJ rfl rfl) (ak 1 2 rfl rfl rfl (U7 (i:=0) (us:=[_,_]) (l':=[_,_]) (H':=[_,_]) rfl rfl S5 rfl rfl rfl rfl az rfl rfl rfl rfl ?_))))
   intro w6 S6;clear S5
   refine ag 2 2 rfl rfl (U5 rfl (ah [4,5,6] rfl (U3 (Uj hC [_,_,_] rfl rfl ⟨⟨_,rfl,Um (us:=[_,_]) ay rfl az (S6.ax (i:=0) rfl ⟨rfl,rfl,trivial⟩)⟩,rfl,rfl,trivial⟩ ?_))))
   refine⟨_,rfl,_,aL,(S6.pick [] [] (by decide) trivial),?_⟩
   rw[show gU d l=(⟨[],0⟩,0,7)from by unfold gU;rw[if_pos (by first|exact Am pz ij|(unfold gq;rw[pz];rfl))]]
   exact xy 7
  ·simp only[Bool.and_eq_true,Bool.or_eq_true,Bool.and_eq_false_iff,Bool.or_eq_false_iff,decide_eq_true_eq,decide_eq_false_iff_not,Bool.not_eq_true',Bool.not_eq_false']at ij
   have hop:gq d=true:=acd pz (by simpa using ij)
   refine Uf rfl (ah [1,2,4] rfl (U3 (U2 Ia H9 rfl rfl rfl (U2 aop H8 rfl rfl rfl (U0 rfl (ag 0 1 rfl rfl (af 1 rfl (cI rfl rfl rfl rfl rfl rfl qR) (af 2 rfl (oW rfl rfl rfl) ?_))))))))
   refine U5 rfl (ah [1,2,4,21] rfl (U3 ?_))
   refine Ue H7 aoo rfl rfl rfl rfl (fun yg=>?_) (fun yg=>?_)
   ·refine U2 aon aom rfl rfl rfl (U0 rfl (af 0 rfl (run_build (l:=[_,_]) rfl rfl cJ rfl rfl) (ak 1 2 rfl rfl rfl (U7 (i:=0) (us:=[_,_]) (l':=[_,_]) (H':=[_,_]) rfl rfl S5 rfl rfl rfl rfl az rfl rfl rfl rfl ?_))))
    intro w7 S7;clear S5
    refine ag 2 2 rfl rfl (U5 rfl (ah [4,5,6] rfl (U3 (Uj hC [_,_,_] rfl rfl ⟨⟨_,rfl,Um (us:=[_,_]) ay rfl az (S7.ax (i:=0) rfl ⟨rfl,rfl,trivial⟩)⟩,rfl,rfl,trivial⟩ ?_))))
    refine⟨_,rfl,_,aL,(S7.pick [] [] (by decide) trivial),?_⟩
    rw[show gU d l=(⟨[],0⟩,0,2)from by unfold gU;rw[if_neg (by rw[hop];decide),if_pos (by omega)]]
    exact xy 2
   ·refine Uf rfl (ah [1,2,4] rfl (U3 (U2 H6 H5 rfl rfl rfl (U2 aol aej rfl rfl rfl (U0 rfl (ag 0 1 rfl rfl (U5 rfl (U3 ?_))))))))
    refine Uc aei 0 rfl rfl rfl ?_
    refine Uz (fun aS au aM=>∃(i:Nat) (D:Dg) (nA:Option Addr) (nc:Nat) (M2:Hp),M1.le M2/\aS=l.length-i/\Env 47 [(1,.slice lA l.length lc),(2,.pointer (some ⟨aI,0,none⟩)),(4,.pointer (some ⟨aQ,0,none⟩)),(7,.int .i64 (i:Int))] au/\SH aM M2 X [Rs.box aQ 24 [.slice none 0 0,.int .i64 0],Rs.box aI 24 [.slice nA D.ae.length nc,.int .i64 D.loops]]/\i<=l.length/\kK l l.length 0 d=kK l (l.length-i) i D/\aF aG M2 nA nc D.ae) rfl ?_ ?_
    ·intro au aq
     refine⟨_,⟨0,d,_,_,_,Hp.le_refl _,rfl,aq.sub ⟨rfl,rfl,rfl,rfl,trivial⟩,S5.pick [0,1] [_,_] (by decide) ⟨rfl,rfl,trivial⟩,?cd,?cT,?lS⟩⟩
     case cd=>omega
     case cT=>rfl
     case lS=>exact aC
    ·rintro m1 a1 w8 ⟨i,D,nA,nc,M2,hle2,rfl,bh,S8,hi,hD,kD⟩
     clear S5
     refine b7 bh (c:=H3) rfl ?_
     clear bh a1
     replace aC:=aC.mono hle2
     replace hl:=hl.mono (Hp.Ua hle2 S8.mx)
     refine U2 H0 HV rfl rfl rfl (U2 aok HT rfl rfl rfl (U0 rfl (ag 0 2 rfl rfl (af 2 rfl (cI rfl rfl rfl rfl rfl rfl qR) (af 3 rfl (bV rfl rfl rfl) (U5 rfl (ah [1,2,4,7,26] rfl (U3 ?_))))))))
     refine Ue aoj aoi rfl rfl rfl rfl (fun ye=>?_) (fun ye=>?_)
     ·refine Uf rfl (ah [1,2,4,7] rfl (U3 (U2 aeh aoh rfl rfl rfl (Uc HR 1 rfl rfl rfl (U2 aog HQ rfl rfl rfl (Ux rfl (by kernel_rfl) S8 12 rfl ?_))))))
      clear S8
      refine aj 0 11 rfl (by kernel_rfl) (fun _ _ _ hz Sz=>.inl (U8 (us:=[_,_]) rfl rfl ay rfl az (Sz.suf.ax (i:=1) rfl ⟨rfl,rfl,trivial⟩))) ?_
      refine ai 1 10 rfl (by kernel_rfl) (fun _=>run_move rfl rfl) ?_
      refine ai 2 9 rfl (by kernel_rfl) (fun _=>run_move rfl rfl) ?_
      refine aj 3 8 rfl (by kernel_rfl) (fun _ _ _ hz Sz=>.inl (Uk (C:=mN) i rfl rfl rfl Gj (by first|rfl|omega) (hl.mono (Hp.Ua hz Sz.mx)) (by first|omega|(simp only[ls];omega)))) ?_
      refine aj 4 7 rfl (by kernel_rfl) (fun _ _ _ hz Sz=>.inl (U8 (us:=[_,_,_,_,_,_,_,_]) rfl rfl aR rfl sS ((hl.mono (Hp.Ua hz Sz.mx)).fq Sz.um (e:=i) (by first|omega|(simp only[ls];omega)) (j:=0) ⟨rfl,rfl,rfl,rfl,rfl,rfl,rfl,rfl,trivial⟩))) ?_
      refine rZ (i:=5) (j:=9) 6 rfl rfl (by kernel_rfl) rfl rfl rfl rfl (fun ma bM=>?_) (fun ma bM=>?_)
      ·refine(fp rfl rfl rfl rfl rfl rfl rfl ad6 bM (abt D (ga l i) (kD.mono (Hp.bR _ _)) bM.aD) ?_)
       intro avy lv M10 sK bI ak5;clear bM
       replace aC:=aC.mono sK
       replace hl:=hl.mono (Hp.Ua sK bI.mx)
       replace kD:=kD.mono sK
       obtain⟨A1,c1,rfl,hr1⟩:=ak5
       refine aN.grow [] (sK) bI ?_;clear bI
       change WA _ _ _ _ _ _ _ _ _ _ _ _ [_,_]
       refine Ak (ai 6 5 rfl (by kernel_rfl) (fun _=>run_move rfl rfl) ?_)
       refine ai 7 4 rfl (by kernel_rfl) (fun _=>Ul rfl rfl rfl) ?_
       refine ai 8 3 rfl (by kernel_rfl) (fun _=>Ul rfl rfl rfl) ?_
       refine Un (i:=9) 2 rfl (by kernel_rfl) rfl rfl (fun vO dz=>?_)
       refine(Uh (l:=[_,_]) rfl rfl rfl fQ rfl dz ?_)
       intro bE rB cW;clear dz
       refine aN.grow [_] (Hp.le_refl _) cW ?_;clear cW
       change WA _ _ _ _ _ _ _ _ _ _ _ _ [_,_,_]
       refine Un (i:=10) 1 rfl (by kernel_rfl) rfl rfl (fun vN cv=>?_)
       refine(U7 (i:=0) (us:=[_,_]) (l':=[_,_]) (H':=[_,_,_]) rfl rfl cv rfl rfl rfl rfl az rfl rfl rfl rfl ?_)
       intro vM fw;clear cv
       refine aN.grow [_] (Hp.le_refl _) fw ?_;clear fw
       change WA _ _ _ _ _ _ _ _ _ _ _ _ [_,_,_]
       refine ai 11 0 rfl (by kernel_rfl) (fun _=>run_assign rfl rfl) ?_
       refine Uu (by kernel_rfl) (fun l9 cy=>?_)
       refine ah [1,2,4,7,8,9] rfl (U3 (U2 BR aeg rfl rfl rfl (U2 aef BQ rfl rfl rfl (U0 rfl (ag 0 1 rfl rfl (af 1 rfl (iT rfl rfl rfl) (U5 rfl (ah [1,2,4,7,8,9,39] rfl ?_))))))))
       refine U3 ?_
       refine Ue BP aee rfl rfl rfl rfl (fun tj=>?_) (fun tj=>?_)
       ·refine U2 aed aec rfl rfl rfl (U0 rfl (af 0 rfl (U8 (us:=[_,_]) rfl rfl ay rfl az (cy.ax (i:=2) rfl ⟨rfl,rfl,trivial⟩)) (ag 1 2 rfl rfl (ak 3 4 rfl rfl rfl (U7 (i:=1) (us:=[_,_]) (l':=[_,_]) (H':=[_,_,_]) rfl rfl cy rfl rfl rfl rfl az rfl rfl rfl rfl ?_)))))
        intro pX dL;clear cy
        refine ag 4 2 rfl rfl (U5 rfl (ah [4,5,6] rfl (U3 (Uj hC [_,_,_] rfl rfl ⟨⟨_,rfl,Um (us:=[_,_]) ay rfl az (dL.ax (i:=1) rfl ⟨rfl,rfl,trivial⟩)⟩,rfl,rfl,trivial⟩ ?_))))
        refine⟨_,rfl,_,(aL.trans hle2).trans sK,(dL.pick [] [] (by decide) trivial),?_⟩
        rw[show gU d l=kK l l.length 0 d from by unfold gU;rw[if_neg (by rw[hop];decide),if_neg (by omega)]]
        rw[hD,EO (by omega) (by simpa using tj)]
        exact⟨_,_,rfl,kD⟩
       ·refine Uf rfl (ah [1,2,4,7,8] rfl (U3 (U0 rfl (af 0 rfl (U8 (us:=[_,_]) rfl rfl ay rfl az (cy.ax (i:=0) rfl ⟨rfl,rfl,trivial⟩)) (ak 1 2 rfl rfl rfl (U7 (i:=2) (us:=[_,_]) (l':=[_,_]) (H':=[_,_,_]) rfl rfl cy rfl rfl rfl rfl az rfl rfl rfl rfl ?_))))))
        intro tP kW;clear cy
        refine U5 rfl (bk (ah [1,2,4,7] rfl (U3 (U0 rfl (ag 0 1 rfl rfl (af 1 rfl (Ug rfl rfl rfl (by first|omega|(simp only[ls];omega))) ?_))))))
        refine ag 2 1 rfl rfl (U5 rfl (aP ?_))
        intro au aq
        refine⟨_,?dJ,⟨i+1,(dK D (ga l i)).1,_,_,_,(hle2.trans sK),rfl,aq.sub ⟨rfl,rfl,rfl,rfl,trivial⟩,kW.pick [1,2] [_,_] (by decide) ⟨rfl,rfl,trivial⟩,?cu,?cY,?ku⟩⟩
        case cu=>omega
        case cY=>(rw[hD];exact EN (by omega) (by simpa using tj))
        case ku=>exact hr1
        case dJ=>omega
      ·refine(Uh (l:=[_,_]) rfl rfl rfl fQ rfl bM ?_)
       intro gY vL fu;clear bM
       refine aN.grow [_] (Hp.le_refl _) fu ?_;clear fu
       change WA _ _ _ _ _ _ _ _ _ _ _ _ [_,_,_]
       refine Un (i:=5) 5 rfl (by kernel_rfl) rfl rfl (fun tO gB=>?_)
       refine(fp rfl rfl rfl rfl rfl rfl rfl ad6 gB (abt D (ga l i) (kD.mono (Hp.bR _ _)) gB.aD) ?_)
       intro avs oo M18 uT dm akZ;clear gB
       replace aC:=aC.mono uT
       replace hl:=hl.mono (Hp.Ua uT dm.mx)
       replace kD:=kD.mono uT
       obtain⟨A2,c2,rfl,hr2⟩:=akZ
       refine aN.grow [_] (uT) dm ?_;clear dm
       change WA _ _ _ _ _ _ _ _ _ _ _ _ [_,_,_]
       refine Ak (ai 6 4 rfl (by kernel_rfl) (fun _=>run_move rfl rfl) ?_)
       refine ai 7 3 rfl (by kernel_rfl) (fun _=>Ul rfl rfl rfl) ?_
       refine ai 8 2 rfl (by kernel_rfl) (fun _=>Ul rfl rfl rfl) ?_
       refine Un (i:=10) 1 rfl (by kernel_rfl) rfl rfl (fun vJ kV=>?_)
       refine(U7 (i:=0) (us:=[_,_]) (l':=[_,_]) (H':=[_,_,_]) rfl rfl kV rfl rfl rfl rfl az rfl rfl rfl rfl ?_)
       intro tM dG;clear kV
       refine aN.turn (by kernel_rfl) dG ?_;clear dG
       change WA _ _ _ _ _ _ _ _ _ _ _ _ [_,_,_]
       refine ai 11 0 rfl (by kernel_rfl) (fun _=>run_assign rfl rfl) ?_
       refine Uu (by kernel_rfl) (fun tL fO=>?_)
       refine ah [1,2,4,7,8,9] rfl (U3 (U2 BR aeg rfl rfl rfl (U2 aef BQ rfl rfl rfl (U0 rfl (ag 0 1 rfl rfl (af 1 rfl (iT rfl rfl rfl) (U5 rfl (ah [1,2,4,7,8,9,39] rfl ?_))))))))
       refine U3 ?_
       refine Ue BP aee rfl rfl rfl rfl (fun tj=>?_) (fun tj=>?_)
       ·refine U2 aed aec rfl rfl rfl (U0 rfl (af 0 rfl (U8 (us:=[_,_]) rfl rfl ay rfl az (fO.ax (i:=2) rfl ⟨rfl,rfl,trivial⟩)) (ag 1 2 rfl rfl (ak 3 4 rfl rfl rfl (U7 (i:=1) (us:=[_,_]) (l':=[_,_]) (H':=[_,_,_]) rfl rfl fO rfl rfl rfl rfl az rfl rfl rfl rfl ?_)))))
        intro vH lL;clear fO
        refine ag 4 2 rfl rfl (U5 rfl (ah [4,5,6] rfl (U3 (Uj hC [_,_,_] rfl rfl ⟨⟨_,rfl,Um (us:=[_,_]) ay rfl az (lL.ax (i:=1) rfl ⟨rfl,rfl,trivial⟩)⟩,rfl,rfl,trivial⟩ ?_))))
        refine⟨_,rfl,_,(aL.trans hle2).trans uT,(lL.pick [] [] (by decide) trivial),?_⟩
        rw[show gU d l=kK l l.length 0 d from by unfold gU;rw[if_neg (by rw[hop];decide),if_neg (by omega)]]
        rw[hD,EO (by omega) (by simpa using tj)]
        exact⟨_,_,rfl,kD⟩
       ·refine Uf rfl (ah [1,2,4,7,8] rfl (U3 (U0 rfl (af 0 rfl (U8 (us:=[_,_]) rfl rfl ay rfl az (fO.ax (i:=0) rfl ⟨rfl,rfl,trivial⟩)) (ak 1 2 rfl rfl rfl (U7 (i:=2) (us:=[_,_]) (l':=[_,_]) (H':=[_,_,_]) rfl rfl fO rfl rfl rfl rfl az rfl rfl rfl rfl ?_))))))
        intro yT fN;clear fO
        refine U5 rfl (bk (ah [1,2,4,7] rfl (U3 (U0 rfl (ag 0 1 rfl rfl (af 1 rfl (Ug rfl rfl rfl (by first|omega|(simp only[ls];omega))) ?_))))))
        refine ag 2 1 rfl rfl (U5 rfl (aP ?_))
        intro au aq
        refine⟨_,?kC,⟨i+1,(dK D (ga l i)).1,_,_,_,(hle2.trans uT),rfl,aq.sub ⟨rfl,rfl,rfl,rfl,trivial⟩,fN.pick [1,2] [_,_] (by decide) ⟨rfl,rfl,trivial⟩,?dO,?gh,?ny⟩⟩
        case dO=>omega
        case gh=>(rw[hD];exact EN (by omega) (by simpa using tj))
        case ny=>exact hr2
        case kC=>omega
     ·refine bS rfl rfl (ah [1,2,4] rfl (U3 (U2 aof aoe rfl rfl rfl (U0 rfl (af 0 rfl (U8 (us:=[_,_]) rfl rfl ay rfl az (S8.ax (i:=1) rfl ⟨rfl,rfl,trivial⟩)) (ag 1 1 rfl rfl (af 2 rfl (cI rfl rfl rfl rfl rfl rfl qR) (ak 3 4 rfl rfl rfl (U7 (i:=0) (us:=[_,_]) (l':=[_,_]) (H':=[_,_]) rfl rfl S8 rfl rfl rfl rfl az rfl rfl rfl rfl ?_)))))))))
      intro tK eN;clear S8
      refine ag 4 2 rfl rfl (U5 rfl (ah [4,5,6] rfl (U3 (Uj hC [_,_,_] rfl rfl ⟨⟨_,rfl,Um (us:=[_,_]) ay rfl az (eN.ax (i:=0) rfl ⟨rfl,rfl,trivial⟩)⟩,rfl,rfl,trivial⟩ ?_))))
      refine⟨_,rfl,_,aL.trans hle2,(eN.pick [] [] (by decide) trivial),?_⟩
      rw[show gU d l=kK l l.length 0 d from by unfold gU;rw[if_neg (by rw[hop];decide),if_neg (by omega)]]
      obtain rfl:i=l.length:=by omega
      rw[hD,abA]
      exact⟨_,_,rfl,kD⟩
end Go.Proofs.YthppkofceancjaaGreat
namespace Go.Proofs.YthppkofceancjaaGreat
open Go.ChangeShapes Go.WideShapes Go.ChangeAt Go.RowKit
noncomputable def HP:=Tryz.f12.body.getD .skip
def aod:=cL HP
def HM:=cR HP
def aoc:=cL HM
def HL:=cR HM
def BO:=cL HL
def BN:=cR HL
def aeb:=cL BO
def BM:=cR BO
def HJ:=cL BM
def aob:=cR BM
def aoa:=cL HJ
def an9:=cR HJ
def HI:=cL BN
def HF:=cR BN
def an8:=cL HI
def HE:=cR HI
def HB:=cL HE
def an7:=cR HE
def an6:=cL HB
def an5:=cR HB
def an4:=cL HF
def HA:=cR HF
def Hz:=cL HA
def Hy:=cR HA
def an3:=cL Hz
def aea:=cR Hz
def ad9:=cL aea
def Hx:=cL ad9
def an2:=cL Hx
def Hw:=cR Hx
def Hv:=cL Hw
def Hu:=cR Hw
def an1:=cL Hv
def an0:=cR Hv
def ad8:=cL Hu
def anZ:=cR Hu
def Ht:=cL ad8
def anY:=cL Ht
def Hr:=cR Ht
def anX:=cL Hr
def Hq:=cR Hr
def Ho:=cL Hq
def anW:=cR Hq
def anV:=cL Ho
def Hn:=cR Ho
def Hm:=cL Hn
def anU:=cR Hn
def anT:=cL Hm
def anS:=cR Hm
def anR:=cL Hy
def anQ:=cR Hy
set_option maxHeartbeats 2000000 in
set_option maxRecDepth 10000 in
theorem alE{w:World}{M:Hp}{X:Fr}(d:Dg){aV:Option Addr}{aU:Nat}(l:List Mv){lA:Option Addr}{lc:Nat}(aC:aF aG M aV aU d.ae)(hl:aF mN (M.un X.h) lA lc l)(S:SH w M X []):Ct Tryz.prog 12 [.agg [.slice aV d.ae.length aU,.int .i64 d.loops].toArray,.slice lA l.length lc] w M X (RwR (gU d l)):=by
 unfold Ct
 have gK:d.ae.length*40<=140737488355328:=aC.room
 have Gk:l.length*64<=140737488355328:=hl.room
 refine Up (b:=HP) Tryz.func12 rfl Tryz.ntmps12 rfl (fun C hC=>(bq [(0,_),(1,_)] ⟨rfl,rfl,trivial⟩ (U2 aod HM rfl rfl rfl (U0 rfl (ak 0 1 rfl rfl rfl (bA (l:=[_,_]) rfl rfl rfl rfl rfl S ?_))))))
 intro aI w1 S1;clear S
 refine ak 1 2 rfl rfl rfl (Uh (l:=[_,_]) rfl rfl rfl fQ rfl S1 ?_)
 intro aQ w2 S2;clear S1
 refine ag 2 2 rfl rfl (U5 rfl (ah [1,2,4] rfl (U3 (U2 aoc HL rfl rfl rfl (U0 rfl (af 0 rfl (U8 (us:=[_,_]) rfl rfl ay rfl az (S2.ax (i:=1) rfl ⟨rfl,rfl,trivial⟩)) (ak 1 2 rfl rfl rfl (Ay rfl rfl rfl rfl rfl rfl rfl Hh S2 (EK d (aC.mono (Hp.bR _ _)) S2.aD) ?_))))))))
 intro Ou w3 M1 Nw3 aL S3 tD;clear S2
 replace aC:=aC.mono aL
 replace hl:=hl.mono (Hp.Ua aL S3.mx)
 rcases tD with⟨hop,rfl,rfl⟩|⟨hop,bu,ggs,bz,iA,oA,fA,ic,oc,fc,fv,rfl,rfl,hsi,aK,cG,cF⟩
 ·have S4:SH _ _ _ [_,_]:=S3;clear S3
  refine ag 2 1 rfl rfl (af 3 rfl (Ul rfl rfl rfl) (af 4 rfl (Ul rfl rfl rfl) (ag 5 2 rfl rfl (U5 rfl (ah [1,4,7,8] rfl (U3 (U2 BO BN rfl rfl rfl (U2 aeb BM rfl rfl rfl ?_))))))))
  refine U0 rfl (ag 0 1 rfl rfl (af 1 rfl (dE rfl rfl) (U5 rfl (ah [1,4,7,20] rfl (U3 (fM HJ rfl rfl rfl (U2 aoa an9 rfl rfl rfl (U0 rfl ?_))))))))
  refine af 0 rfl (run_build (l:=[_,_]) rfl rfl cJ rfl rfl) (ak 1 2 rfl rfl rfl (U7 (i:=0) (us:=[_,_]) (l':=[_,_]) (H':=[_,_]) rfl rfl S4 rfl rfl rfl rfl az rfl rfl rfl rfl ?_))
  intro w4 S5;clear S4
  refine ag 2 2 rfl rfl (U5 rfl (ah [4,5,6] rfl (U3 (Uj hC [_,_,_] rfl rfl ⟨⟨_,rfl,Um (us:=[_,_]) ay rfl az (S5.ax (i:=0) rfl ⟨rfl,rfl,trivial⟩)⟩,rfl,rfl,trivial⟩ ?_))))
  refine⟨_,rfl,_,aL,(S5.pick [] [] (by decide) trivial),?_⟩
  rw[show gU d l=(⟨[],0⟩,0,7)from by unfold gU;rw[if_pos hop]]
  exact xy 7
 ·have S6:SH _ _ _ [_,_,_,_,_]:=S3;clear S3
  obtain⟨hn,hab,hlo⟩:=ER hop
  refine ag 2 1 rfl rfl (af 3 rfl (Ul rfl rfl rfl) (af 4 rfl (Ul rfl rfl rfl) (ag 5 2 rfl rfl (U5 rfl (ah [1,4,7,8] rfl (U3 (U2 BO BN rfl rfl rfl (U2 aeb BM rfl rfl rfl ?_))))))))
  refine U0 rfl (ag 0 1 rfl rfl (af 1 rfl (dE rfl rfl) (U5 rfl (ah [1,4,7,20] rfl (U3 (lK aob rfl rfl rfl (Uf rfl (ah [1,4,7] rfl ?_))))))))
  refine U3 (U2 HI HF rfl rfl rfl (U2 an8 HE rfl rfl rfl (U0 rfl (ag 0 1 rfl rfl (af 1 rfl (cI rfl rfl rfl rfl rfl rfl qR) (af 2 rfl (oW rfl rfl rfl) (U5 rfl (ah [1,4,7,24] rfl ?_))))))))
  refine U3 ?_
  refine Ue HB an7 rfl rfl rfl rfl (fun nI=>?_) (fun nI=>?_)
  ·refine U2 an6 an5 rfl rfl rfl (U0 rfl (af 0 rfl (run_build (l:=[_,_]) rfl rfl cJ rfl rfl) (ak 1 2 rfl rfl rfl (U7 (i:=3) (us:=[_,_]) (l':=[_,_]) (H':=[_,_,_,_,_]) rfl rfl S6 rfl rfl rfl rfl az rfl rfl rfl rfl ?_))))
   intro w5 S7;clear S6
   refine ag 2 2 rfl rfl (U5 rfl (ah [4,5,6] rfl (U3 (Uj hC [_,_,_] rfl rfl ⟨⟨_,rfl,Um (us:=[_,_]) ay rfl az (S7.ax (i:=3) rfl ⟨rfl,rfl,trivial⟩)⟩,rfl,rfl,trivial⟩ ?_))))
   refine⟨_,rfl,_,aL,(S7.pick [] [] (by decide) trivial),?_⟩
   rw[show gU d l=(⟨[],0⟩,0,2)from by unfold gU;rw[if_neg (by rw[hop];decide),if_pos (by omega)]]
   exact xy 2
  ·refine Uf rfl (ah [1,4,7] rfl (U3 (U2 an4 HA rfl rfl rfl ?_)))
   obtain⟨M2,hle2,S8,⟨A1,c1,e1,hr1⟩⟩:=S6.fZ (i:=2) (H':=[_,_,_,_,_]) rfl rfl (by show _*40<=_;first|omega|(simp only[ls];omega))
   clear S6;subst e1
   replace aC:=aC.mono hle2
   replace hl:=hl.mono (Hp.Ua hle2 S8.mx)
   replace hsi:=hsi.mono hle2
   replace aK:=aK.mono hle2
   replace cG:=cG.mono hle2
   replace cF:=cF.mono hle2
   refine U0 rfl (ag 0 1 rfl rfl (af 1 rfl (U9 rfl rfl) (af 2 rfl (U1 rfl rfl cz rfl (cP) (cO)) (af 3 rfl (U4 rfl rfl cE rfl (S8.ar (i:=0) rfl rfl)) (af 4 rfl (U9 rfl rfl) (af 5 rfl (U1 rfl rfl cU rfl (eF) (eB)) (af 6 rfl (U8 (us:=[_,_]) rfl rfl ay rfl az (S8.ax (i:=1) rfl ⟨rfl,rfl,trivial⟩)) (ak 7 8 rfl rfl rfl (Uh (l:=[_,_]) rfl rfl rfl fQ rfl S8 ?_)))))))))
   intro bE w6 S9;clear S8
   refine ak 8 9 rfl rfl rfl (U7 (i:=0) (us:=[_,_]) (l':=[_,_]) (H':=[_,_,_,_,_,_]) rfl rfl S9 rfl rfl rfl rfl az rfl rfl rfl rfl ?_)
   intro w7 bF;clear S9
   refine U5 rfl (ah [1,4,9] rfl (U3 (U2 Hz Hy rfl rfl rfl (U2 an3 aea rfl rfl rfl (U0 rfl (ag 0 1 rfl rfl (af 1 rfl (cI rfl rfl rfl rfl rfl rfl qR) (ag 2 1 rfl rfl ?_))))))))
   refine U5 rfl (U3 (Uc ad9 0 rfl rfl rfl ?_))
   refine Uz (fun aS au aM=>∃(i:Nat) (D:Dg) (nA:Option Addr) (nc:Nat) (M3:Hp),M2.le M3/\aS=l.length-i/\Env 56 [(1,.slice lA l.length lc),(4,.pointer (some ⟨aQ,0,none⟩)),(9,.pointer (some ⟨bE,0,none⟩)),(33,.slice lA l.length lc),(34,.int .i64 (l.length:Int)),(35,.int .i64 (i:Int))] au/\SH aM M3 X [Rs.box bE 24 [.slice nA D.ae.length nc,.int .i64 D.loops],Rs.box aQ 24 [.slice none 0 0,.int .i64 0]]/\i<=l.length/\kK l l.length 0 d=kK l (l.length-i) i D/\aF aG M3 nA nc D.ae) rfl ?_ ?_
   ·intro au aq
    refine⟨_,⟨0,d,_,_,_,Hp.le_refl _,rfl,aq.sub ⟨rfl,rfl,rfl,rfl,rfl,rfl,trivial⟩,bF.pick [0,4] [_,_] (by decide) ⟨rfl,rfl,trivial⟩,?cd,?cT,?lS⟩⟩
    case cd=>omega
    case cT=>rfl
    case lS=>exact hr1
   ·rintro m1 a1 w8 ⟨i,D,nA,nc,M3,dw,rfl,bh,bQ,hi,hD,kD⟩
    clear bF
    refine b7 bh (c:=Hx) rfl ?_
    clear bh a1
    replace aC:=aC.mono dw
    replace hl:=hl.mono (Hp.Ua dw bQ.mx)
    replace hsi:=hsi.mono dw
    replace aK:=aK.mono dw
    replace cG:=cG.mono dw
    replace cF:=cF.mono dw
    replace hr1:=hr1.mono dw
    refine U2 an2 Hw rfl rfl rfl (U0 rfl (af 0 rfl (bV rfl rfl rfl) (U5 rfl (U3 (U2 Hv Hu rfl rfl rfl ?_)))))
    refine Ue an1 an0 rfl rfl rfl rfl (fun og=>?_) (fun og=>?_)
    ·refine Uf rfl (ah [1,4,9,33,34,35] rfl (U3 (U2 ad8 anZ rfl rfl rfl (Uc Ht 1 rfl rfl rfl (U2 anY Hr rfl rfl rfl (U0 rfl (ag 0 1 rfl rfl (af 1 rfl (Uk (C:=mN) i rfl rfl rfl Gj (by first|rfl|omega) hl (by first|omega|(simp only[ls];omega))) ?_))))))))
     refine af 2 rfl (U8 (us:=[_,_,_,_,_,_,_,_]) rfl rfl aR rfl sS (hl.fq bQ.um (e:=i) (by first|omega|(simp only[ls];omega)) (j:=0) ⟨rfl,rfl,rfl,rfl,rfl,rfl,rfl,rfl,trivial⟩)) ?_
     refine ak 3 4 rfl rfl rfl (Uh (l:=[_,_,_,_,_,_,_,_]) rfl rfl rfl alM rfl bQ ?_)
     intro gY w9 cw;clear bQ
     refine ag 4 1 rfl rfl (ak 5 6 rfl rfl rfl (U7 (i:=0) (us:=[_,_,_,_,_,_,_,_]) (l':=[_,_,_,_,_,_,_,_]) (H':=[_,_,_]) rfl rfl cw rfl rfl rfl rfl sS rfl rfl rfl rfl ?_))
     intro jZ bZ;clear cw
     refine U5 rfl (ah [1,4,9,33,34,35,11,10] rfl (U3 (U2 anX Hq rfl rfl rfl (U0 rfl (af 0 rfl (U8 (us:=[_,_]) rfl rfl ay rfl az (bZ.ax (i:=1) rfl ⟨rfl,rfl,trivial⟩)) (af 1 rfl (U8 (us:=[_,_,_,_,_,_,_,_]) rfl rfl aR rfl sS (bZ.ax (i:=0) rfl ⟨rfl,rfl,rfl,rfl,rfl,rfl,rfl,rfl,trivial⟩)) (ak 2 3 rfl rfl rfl (fp rfl rfl rfl rfl rfl rfl rfl cf8 bZ (atM D (ga l i) (kD.mono (Hp.bR _ _)) bZ.aD) ?_))))))))
     intro al4 kH M4 dM bN ak9;clear bZ
     replace aC:=aC.mono dM
     replace hl:=hl.mono (Hp.Ua dM bN.mx)
     replace hsi:=hsi.mono dM
     replace aK:=aK.mono dM
     replace cG:=cG.mono dM
     replace cF:=cF.mono dM
     replace hr1:=hr1.mono dM
     replace kD:=kD.mono dM
     obtain⟨A2,c2,rfl,hr2⟩:=ak9
     refine ag 3 1 rfl rfl (af 4 rfl (Ul rfl rfl rfl) (af 5 rfl (Ul rfl rfl rfl) (ak 6 7 rfl rfl rfl (Uh (l:=[_,_]) rfl rfl rfl fQ rfl bN ?_))))
     intro iq mb bX;clear bN
     refine ak 7 8 rfl rfl rfl (U7 (i:=0) (us:=[_,_]) (l':=[_,_]) (H':=[_,_,_,_]) rfl rfl bX rfl rfl rfl rfl az rfl rfl rfl rfl ?_)
     intro lB bM;clear bX
     refine ag 8 1 rfl rfl (U5 rfl (ah [1,4,9,33,34,35,10,12,13] rfl (U3 (U2 Ho anW rfl rfl rfl (U2 anV Hn rfl rfl rfl (U0 rfl (ag 0 1 rfl rfl (af 1 rfl (iT rfl rfl rfl) ?_))))))))
     refine U5 rfl (ah [1,4,9,33,34,35,10,12,13,47] rfl (U3 ?_))
     refine Ue Hm anU rfl rfl rfl rfl (fun pH=>?_) (fun pH=>?_)
     ·refine U2 anT anS rfl rfl rfl (U0 rfl (af 0 rfl (U8 (us:=[_,_]) rfl rfl ay rfl az (bM.ax (i:=2) rfl ⟨rfl,rfl,trivial⟩)) (ag 1 2 rfl rfl (ak 3 4 rfl rfl rfl (U7 (i:=3) (us:=[_,_]) (l':=[_,_]) (H':=[_,_,_,_]) rfl rfl bM rfl rfl rfl rfl az rfl rfl rfl rfl ?_)))))
      intro jY bI;clear bM
      refine ag 4 2 rfl rfl (U5 rfl (ah [4,5,6] rfl (U3 (Uj hC [_,_,_] rfl rfl ⟨⟨_,rfl,Um (us:=[_,_]) ay rfl az (bI.ax (i:=3) rfl ⟨rfl,rfl,trivial⟩)⟩,rfl,rfl,trivial⟩ ?_))))
      refine⟨_,rfl,_,((aL.trans hle2).trans dw).trans dM,(bI.pick [] [] (by decide) trivial),?_⟩
      rw[show gU d l=kK l l.length 0 d from by unfold gU;rw[if_neg (by rw[hop];decide),if_neg (by omega)]]
      rw[hD,EO (by omega) (by simpa using pH)]
      exact⟨_,_,rfl,kD⟩
     ·refine Uf rfl (ah [1,4,9,33,34,35,12] rfl (U3 (U0 rfl (af 0 rfl (U8 (us:=[_,_]) rfl rfl ay rfl az (bM.ax (i:=0) rfl ⟨rfl,rfl,trivial⟩)) (ak 1 2 rfl rfl rfl (U7 (i:=2) (us:=[_,_]) (l':=[_,_]) (H':=[_,_,_,_]) rfl rfl bM rfl rfl rfl rfl az rfl rfl rfl rfl ?_))))))
      intro ot bY;clear bM
      refine U5 rfl (bk (ah [1,4,9,33,34,35] rfl (U3 (U0 rfl (af 0 rfl (Ug rfl rfl rfl (by first|omega|(simp only[ls];omega))) ?_)))))
      refine ag 1 1 rfl rfl (U5 rfl (aP ?_))
      intro au aq
      refine⟨_,?dJ,⟨i+1,(dK D (ga l i)).1,_,_,_,(dw.trans dM),rfl,aq.sub ⟨rfl,rfl,rfl,rfl,rfl,rfl,trivial⟩,bY.pick [2,3] [_,_] (by decide) ⟨rfl,rfl,trivial⟩,?cu,?cY,?ku⟩⟩
      case cu=>omega
      case cY=>(rw[hD];exact EN (by omega) (by simpa using pH))
      case ku=>exact hr2
      case dJ=>omega
    ·refine bS rfl rfl (ah [1,4,9] rfl (U3 (U2 anR anQ rfl rfl rfl (U0 rfl (af 0 rfl (U8 (us:=[_,_]) rfl rfl ay rfl az (bQ.ax (i:=0) rfl ⟨rfl,rfl,trivial⟩)) (ag 1 1 rfl rfl (af 2 rfl (cI rfl rfl rfl rfl rfl rfl qR) (ak 3 4 rfl rfl rfl (U7 (i:=1) (us:=[_,_]) (l':=[_,_]) (H':=[_,_]) rfl rfl bQ rfl rfl rfl rfl az rfl rfl rfl rfl ?_)))))))))
     intro ma dC;clear bQ
     refine ag 4 2 rfl rfl (U5 rfl (ah [4,5,6] rfl (U3 (Uj hC [_,_,_] rfl rfl ⟨⟨_,rfl,Um (us:=[_,_]) ay rfl az (dC.ax (i:=1) rfl ⟨rfl,rfl,trivial⟩)⟩,rfl,rfl,trivial⟩ ?_))))
     refine⟨_,rfl,_,(aL.trans hle2).trans dw,(dC.pick [] [] (by decide) trivial),?_⟩
     rw[show gU d l=kK l l.length 0 d from by unfold gU;rw[if_neg (by rw[hop];decide),if_neg (by omega)]]
     obtain rfl:i=l.length:=by omega
     rw[hD,abA]
     exact⟨_,_,rfl,kD⟩
end Go.Proofs.YthppkofceancjaaGreat
namespace Go.Proofs.YthppkofceancjaaGreat
open Go.ChangeShapes Go.WideShapes Go.ChangeAt Go.RowKit
noncomputable def Hl:=Tryz.f4.body.getD .skip
def anP:=cL Hl
def Hk:=cR Hl
def anO:=cL Hk
def Hj:=cR Hk
def anN:=cL Hj
def Hi:=cR Hj
def anM:=cL Hi
def anL:=cR Hi
set_option maxRecDepth 10000 in
theorem agk{w:World}{M:Hp}{X:Fr}(d:Dg){aV:Option Addr}{aU:Nat}(l:List Mv){lA:Option Addr}{lc:Nat}(aC:aF aG M aV aU d.ae)(hl:aF mN M lA lc l)(S:SH w M X []):Ct Tryz.prog 4 [.agg [.slice aV d.ae.length aU,.int .i64 d.loops].toArray,.slice lA l.length lc] w M X (fun u _=>u=.bool true):=by
 unfold Ct
 have gK:d.ae.length*40<=140737488355328:=aC.room
 have Gk:l.length*64<=140737488355328:=hl.room
 refine Up (b:=Hl) Tryz.func4 rfl Tryz.ntmps4 rfl (fun C hC=>(bq [(0,_),(1,_)] ⟨rfl,rfl,trivial⟩ (U2 anP Hk rfl rfl rfl (U0 rfl (ak 0 1 rfl rfl rfl (bA (l:=[_,_]) rfl rfl rfl rfl rfl S ?_))))))
 intro aI w1 S1;clear S
 refine ag 1 1 rfl rfl (U5 rfl (ah [1,2] rfl (U3 (U2 anO Hj rfl rfl rfl (U0 rfl (af 0 rfl (U8 (us:=[_,_]) rfl rfl ay rfl az (S1.ax (i:=0) rfl ⟨rfl,rfl,trivial⟩)) (ak 1 2 rfl rfl rfl (fp rfl rfl rfl rfl rfl rfl rfl zC S1 (agl d (aC.mono (Hp.bR _ _)) S1.aD) ?_))))))))
 intro Df w2 M1 aL S2 pM;clear S1
 replace aC:=aC.mono aL
 replace hl:=hl.mono aL
 obtain⟨A1,c1,rfl,hr1⟩:=pM
 refine ag 2 1 rfl rfl ?_
 have S3:=S2.np mN;clear S2
 refine ak 3 4 rfl rfl rfl (D3 (C:=mN) (i:=0) rfl rfl rfl rfl rfl rfl rfl rfl Gj S3 rfl hl S3.m (by have h:_*64<=_:=hl.room;show(0+_)*64<=_;first|omega|(simp only[ls];omega)) ?_)
 intro vP w3 S4;clear S3
 change SH _ _ _ [Rs.row mN vP l,_]at S4
 obtain⟨A2,c2,e1,hr2⟩:=S4.ace (i:=0) rfl (by show _*64<=_;first|omega|(simp only[ls];omega))
 have gL:=alE d l hr1 hr2 S4.aD
 refine ak 4 5 rfl rfl rfl (fp rfl rfl rfl rfl rfl rfl rfl anH S4 (Ct.cast (by simp only[e1]) (gL)) ?_)
 intro vw4 w4 M2 hle2 S5 ym;clear S4
 replace aC:=aC.mono hle2
 replace hl:=hl.mono hle2
 replace hr1:=hr1.mono hle2
 obtain⟨A3,c3,rfl,hr3⟩:=ym
 refine ag 5 1 rfl rfl (af 6 rfl (Ul rfl rfl rfl) (af 7 rfl (Ul rfl rfl rfl) (af 8 rfl (Ul rfl rfl rfl) (ak 9 10 rfl rfl rfl (Uh (l:=[_,_]) rfl rfl rfl fQ rfl S5 ?_)))))
 intro aQ w5 S6;clear S5
 refine ak 10 11 rfl rfl rfl (U7 (i:=0) (us:=[_,_]) (l':=[_,_]) (H':=[_,_,_]) rfl rfl S6 rfl rfl rfl rfl az rfl rfl rfl rfl ?_)
 intro w6 S7;clear S6
 refine ag 11 2 rfl rfl (U5 rfl (ah [1,2,5,6,7] rfl (U3 (U2 anN Hi rfl rfl rfl (U0 rfl (af 0 rfl (U8 (us:=[_,_]) rfl rfl ay rfl az (S7.ax (i:=2) rfl ⟨rfl,rfl,trivial⟩)) (ag 1 1 rfl rfl (ak 2 3 rfl rfl rfl (fp rfl rfl rfl rfl rfl rfl rfl anG S7 (aiS d l aC (hl.mono (Hp.bR _ _)) S7.aD) ?_)))))))))
 intro vw7 w7 M3 dw S8 yj;clear S7
 replace aC:=aC.mono dw
 replace hl:=hl.mono dw
 replace hr1:=hr1.mono dw
 replace hr3:=hr3.mono dw
 obtain⟨A4,c4,rfl,hr4⟩:=yj
 refine ag 3 1 rfl rfl (af 4 rfl (Ul rfl rfl rfl) (af 5 rfl (Ul rfl rfl rfl) (af 6 rfl (Ul rfl rfl rfl) (ak 7 8 rfl rfl rfl (Uh (l:=[_,_]) rfl rfl rfl fQ rfl S8 ?_)))))
 intro bE w8 S9;clear S8
 refine ak 8 9 rfl rfl rfl (U7 (i:=0) (us:=[_,_]) (l':=[_,_]) (H':=[_,_,_,_]) rfl rfl S9 rfl rfl rfl rfl az rfl rfl rfl rfl ?_)
 intro w9 bF;clear S9
 refine ag 9 2 rfl rfl (U5 rfl (ah [5,6,7,8,9,10] rfl (U3 (U2 anM anL rfl rfl rfl (U0 rfl (ag 0 2 rfl rfl (af 2 rfl (bP rfl rfl rfl) (ag 3 1 rfl rfl ?_))))))))
 refine Ut (t:=30) rfl (fun mM=>?_) (fun mM=>?_)
 ·refine ag 4 2 rfl rfl (aH 6 7 rfl rfl rfl rfl rfl rfl rfl rfl (Ub rfl rfl (bP rfl rfl rfl) (ag 7 2 rfl rfl ?_)))
  refine Ut (t:=35) rfl (fun u6=>?_) (fun u6=>?_)
  ·refine aH 9 10 rfl rfl rfl rfl rfl rfl rfl rfl (Ub rfl rfl (U8 (us:=[_,_]) rfl rfl ay rfl az (bF.ax (i:=1) rfl ⟨rfl,rfl,trivial⟩)) (aH 10 11 rfl rfl rfl rfl rfl rfl rfl rfl (Ub rfl rfl (U8 (us:=[_,_]) rfl rfl ay rfl az (bF.ax (i:=0) rfl ⟨rfl,rfl,trivial⟩)) (aH 11 12 rfl rfl rfl rfl rfl rfl rfl rfl (cC rfl rfl rfl rfl rfl rfl rfl anI bF (afZ ((gU d l).1) (hr3.mono (Hp.bR _ _)) (hr4.mono (Hp.bR _ _)) bF.aD) ?_)))))
   rintro _ jZ bQ rfl;clear bF
   refine ag 12 2 rfl rfl (U5 rfl (ah [4] rfl (U3 (Uj hC [_] rfl rfl ⟨rfl,trivial⟩ ?_))))
   refine⟨_,rfl,_,(aL.trans hle2).trans dw,(bQ.pick [] [] (by decide) trivial),?_⟩
   show Value.bool _=_
   simp
  ·exfalso;exact u6 rfl
 ·exfalso;exact mM rfl
end Go.Proofs.YthppkofceancjaaGreat
namespace Go.Proofs.YthppkofceancjaaGreat
open Go.ChangeShapes Go.WideShapes Go.ChangeAt Go.RowKit Go.Joins Go.Deep
theorem ahp{H:Type}{P:Program}{ts:List TypeId}{ds:List (DataW H)}(h:(DataW.weightsEach P ts ds).all (·<=reachBytes)=true){j i:Nat}{t e:TypeId}{f:Field}{fs:Array Field}{parts:List (DataW H)}{elems spare:List (DataW H)}
  (ht:ts[j]? =some t)(hd:ds[j]? =some (.agg parts))(hu:P.underlying t=some (.struct fs))(hf:fs.toList[i]? =some f)(hp:parts[i]? =some (.slice elems spare))(he:P.underlying f.type=some (.slice e)):
  (elems.length+spare.length)*P.bytesOf e<=reachBytes:=by
 have m1:=DataW.weights_mem_each (P:=P) (ts:=fs.toList.map (·.type)) (j:=i) (t:=f.type) (by rw[List.getElem?_map,hf];rfl) hp ((elems.length+spare.length)*P.bytesOf e) (by simp[DataW.weights,he])
 have m2:=DataW.weights_mem_each (P:=P) ht hd ((elems.length+spare.length)*P.bytesOf e) (by simp only[DataW.weights,hu];exact m1)
 simpa using List.all_eq_true.1 h _ m2
theorem adk(l:List Cr):(l.flatMap jD.f).length=l.length*5:=by
 induction l with
 |nil=>rfl
 |cons x l ih=>rw[List.flatMap_cons,List.length_append,ih,jD.hf,List.length_cons];show 5+_=_;omega
theorem acw{l:List Value}{j:Nat}{u:Value}(h:(l.drop j).take 1=[u]):l[j]? =some u:=by
 have:=congrArg (fun z=>z[0]?) h
 simpa[List.getElem?_take,List.getElem?_drop]using this
theorem pick{α:Type}[Inhabited α]{m:Nat}{Q:Nat->α->Prop}(h:∀i,i<m->∃x,Q i x):∃F:Nat->α,∀i,i<m->Q i (F i):=
 ⟨fun i=>if hi:i<m then(h i hi).choose else default,fun i hi=>by
  show Q i (if hi:i<m then(h i hi).choose else default)
  rw[dif_pos hi];exact(h i hi).choose_spec⟩
section
variable {H : Type} {enc : TypeId × Value → H} {w : World}
theorem AZ{n j:Nat}{cs:List Value}{y:DataW H×List MemPlace}(h:DataW.trod enc Tryz.prog w 0 (fun _=>true) true n 3 ((cs.drop j).take (Tryz.prog.cellsOf 3))=some y):∃a,cs[j]? =some (.int .i64 a):=by
 obtain⟨a,e,_⟩:=DataW.trod_int av h
 rw[show Tryz.prog.cellsOf 3=1 by kernel_rfl]at e
 exact⟨a,acw e⟩
theorem ajC{n j:Nat}{cs:List Value}{y:DataW H×List MemPlace}(h:DataW.trod enc Tryz.prog w 0 (fun _=>true) true n 4 ((cs.drop j).take (Tryz.prog.cellsOf 4))=some y):∃a,cs[j]? =some (.bool a):=by
 obtain⟨a,e,_⟩:=DataW.trod_bool dh h
 rw[show Tryz.prog.cellsOf 4=1 by kernel_rfl]at e
 exact⟨a,acw e⟩
set_option maxRecDepth 100000 in
theorem ail{n:Nat}{cs:List Value}{x:DataW H×List MemPlace}(h:DataW.trod enc Tryz.prog w 0 (fun _=>true) true n 77 cs=some x):∃c:Cr,∀j u,j<5->(lD c)[j]? =some u->cs[j]? =some u:=by
 obtain⟨xs,k,_,_,_,hl,hf⟩:=DataW.trod_struct aT h
 match xs,hl with
 |[y0,y1,y2,y3,y4],_=>
  have g0:=hf 0 _ rfl
  have g1:=hf 1 _ rfl
  have g2:=hf 2 _ rfl
  have g3:=hf 3 _ rfl
  have g4:=hf 4 _ rfl
  obtain⟨n0,e0⟩:=AZ (j:=0) (y:=y0) g0
  obtain⟨n1,e1⟩:=AZ (j:=1) (y:=y1) g1
  obtain⟨n2,e2⟩:=AZ (j:=2) (y:=y2) g2
  obtain⟨n3,e3⟩:=AZ (j:=3) (y:=y3) g3
  obtain⟨n4,e4⟩:=ajC (j:=4) (y:=y4) g4
  refine⟨⟨n0,n1,n2,n3,n4⟩,fun j u hj hu=>?_⟩
  match j,hj with
  |0,_=>simp[lD]at hu;subst hu;exact e0
  |1,_=>simp[lD]at hu;subst hu;exact e1
  |2,_=>simp[lD]at hu;subst hu;exact e2
  |3,_=>simp[lD]at hu;subst hu;exact e3
  |4,_=>simp[lD]at hu;subst hu;exact e4
set_option maxRecDepth 100000 in
theorem aim{v:Value}{d:DataW H}{p:List MemPlace}{b0:Nat}(hv:Value.okWide Tryz.prog w .any b0 24 v)(h:DataW.Trod enc Tryz.prog w 0 (fun _=>true) true 24 v d p)(hlt:∀x∈p,x.block<w.heap.size)
  {ts:List TypeId}{ds:List (DataW H)}(hsz:(DataW.weightsEach Tryz.prog ts ds).all (·<=reachBytes)=true){j:Nat}(hj:ts[j]? =some 24)(hd:ds[j]? =some d):
  ∃g:Dg,kF w w.heap.size v g:=by
 obtain⟨v0,v1,y0,y1,n,rfl,rfl,rfl,t0,t1⟩:=open_agg2 ay (by kernel_rfl) (by kernel_rfl) hv h
 obtain⟨l,e1,_,_⟩:=DataW.trod_int av t1
 injection e1 with e1
 subst e1
 have hs:=fun es sp (hp:y0.1=.slice es sp)=>ahp hsz hj hd ay (i:=0) rfl (by rw[List.getElem?_cons_zero,hp]) bG
 rcases open_slice bG t0 with⟨hcs,hx⟩|⟨a,len,cap,m,k,D,Pl,hcs,hb,hl,hm,hmm,hx,hi⟩
 ·injection hcs with hcs
  subst hcs
  exact⟨⟨[],l⟩,none,0,rfl,Nat.le_refl _,Rd.dW⟩
 ·injection hcs with hcs
  subst hcs
  have hk:Tryz.prog.cellsOf 77=5:=by kernel_rfl
  have hby:Tryz.prog.bytesOf 77=40:=by kernel_rfl
  have hs:=hs _ _ (by rw[hx])
  rw[hby]at hs
  simp only[if_true]at hmm
  subst hmm
  simp only[List.length_map,List.length_range,reachBytes]at hs
  obtain⟨F,hF⟩:=pick (m:=m) (Q:=fun i (c:Cr)=>∀j u,j<5->(lD c)[j]? =some u->w.cell? (a.add (i*5+j))=some u) (fun i him=>by
   obtain⟨cs',hc,ht'⟩:=hi i him
   rw[hk]at hc
   obtain⟨c,hc'⟩:=ail ht'
   obtain⟨_,hcl,hat⟩:=World.cells?_some hc
   refine⟨c,fun j u hj hu=>?_⟩
   rw[<-Go.Deep.add_add,hat j hj]
   exact hc' j u hj hu)
  have hlen:((List.range len).map F).length=len:=by simp
  refine⟨⟨(List.range len).map F,l⟩,some a,m,by rw[hlen],by rw[hlen];exact hl,?_⟩
  refine⟨adk _,by show _*40<=_;rw[hlen];omega,fun h0=>?_⟩
  rw[hlen]at h0
  obtain⟨b,off,spot⟩:=a
  have hspot:spot=none:=by simpa[Addr.add]using World.cell?_spot (hF 0 (by omega) 0 _ (by omega) rfl)
  subst hspot
  refine⟨b,off,rfl,hlt (.cell b off) (List.mem_append_left _ (by rw[hx];exact List.mem_append_left _ (MemPlace.mem_row.2 ⟨0,by rw[hk];omega,by simp⟩))),fun i u hu=>?_⟩
  have hil:i<len*5:=by
   have:=(List.getElem?_eq_some_iff.1 hu).1
   rw[adk,hlen]at this
   exact this
  have hu':=hu
  rw[show i=(i/5)*5+i%5 by omega]at hu'
  rw[show(5:Nat)=jD.k from rfl,lJ jD.hf (by rw[hlen];show i/5<len;omega) (by show i%5<5;omega)]at hu'
  have:=hF (i/5) (by omega) (i%5) u (by omega) (by simpa[jD]using hu')
  rw[show(i/5)*5+i%5=i by omega]at this
  rcases Nat.eq_zero_or_pos i with h1|h1
  ·subst h1;simpa[Addr.add]using this
  ·simpa[Addr.add,show¬i=0 by omega]using this
end
end Go.Proofs.YthppkofceancjaaGreat
namespace Go.Proofs.YthppkofceancjaaGreat
open Go.ChangeShapes Go.WideShapes Go.ChangeAt Go.RowKit
theorem aF.akg{α:Type}{C:Cd α}{w:World}{B c:Nat}{A:Option Addr}{xs:List α}(hc:xs.length<=c)(hk:0<C.k)(h:Sl w B C.k C.u8 A xs.length (xs.flatMap C.f)):aF C (hp w) A c xs:=by
 refine⟨hc,h.2.1,fun h0=>?_⟩
 obtain⟨b,off,rfl,_,hat⟩:=h.2.2 h0
 refine⟨rfl,?_⟩
 have hlen:0<(xs.flatMap C.f).length:=by rw[jr C.hf];exact Nat.mul_pos h0 hk
 have h1:=hat 0 _ (List.getElem?_eq_getElem hlen)
 show∃cs T fz,w.heap[b]? =some (.cells cs T fz)/\∀j u,(xs.flatMap C.f)[j]? =some u->cs[off+j]? =some u
 unfold World.cell? at h1
 split at h1
 ·rename_i cs T fz hb
  refine⟨cs,T,fz,hb,fun j u hu=>?_⟩
  have:=hat j u hu
  rw[cell_of_row w b _ cs T fz hb]at this
  exact this
 ·cases h1
theorem kF.rd{w:World}{B:Nat}{v:Value}{d:Dg}(h:kF w B v d):∃A c,v=.agg [.slice A d.ae.length c,.int .i64 d.loops].toArray/\aF aG (hp w) A c d.ae:=by
 obtain⟨A,c,rfl,hc,h⟩:=h
 exact⟨A,c,rfl,aF.akg (C:=aG) hc (by decide) h⟩
end Go.Proofs.YthppkofceancjaaGreat
namespace Go.Proofs.YthppkofceancjaaGreat
open Go.ChangeShapes Go.WideShapes Go.ChangeAt Go.RowKit Go.Joins Go.Deep
theorem aad{H:Type}{P:Program}{e:TypeId}{d:DataW H}{n:Nat}:∀{ds:List (DataW H)},d∈ds->n∈d.weights P e->n∈DataW.weightsAll P e ds
 |d0::ds,hd,hn=>by
  simp only[DataW.weightsAll,List.mem_append]
  rcases List.mem_cons.1 hd with rfl|hd
  ·exact .inl hn
  ·exact .inr (aad hd hn)
def Gd{H:Type}(P:Program)(T:TypeId)(d:DataW H):Prop:=∀n∈d.weights P T,n<=reachBytes
def DV{H:Type}(P:Program)(w:World)(enc:TypeId×Value->H)(T:TypeId){α:Type}(C:Cd α)(ok:α->Prop):Prop:=
 ∀n cs d pl,DataW.trod enc P w 0 (fun _=>true) true n T cs=some (d,pl)->Gd P T d->∃x,(∀j u,j<C.k->(C.f x)[j]? =some u->cs[j]? =some u)/\ok x
def N2(x:Int):Prop:=-9223372036854775808<=x/\x<=9223372036854775807
theorem ai1{x:Int}(h:(Lit.int .i64 x).wf=true):N2 x:=by
 simpa[Lit.wf,IntKind.min,IntKind.max,IntKind.signed,IntKind.bits,N2]using h
def aty{α:Type}(C:Cd α)(w:World)(ok:α->Prop)(s:eT):Prop:=∃ys:List α,s.n=ys.length/\aF C (hp w) s.A s.c ys/\∀y∈ys,ok y
theorem aax{l:List Value}{j:Nat}{u:Value}(h:(l.drop j).take 1=[u]):l[j]? =some u:=by
 have:=congrArg (fun z=>z[0]?) h
 simpa[List.getElem?_take,List.getElem?_drop]using this
section
variable {H : Type} {enc : TypeId × Value → H} {P : Program} {w : World} {T : TypeId}
theorem wT{n j:Nat}{cs:List Value}{y:DataW H×List MemPlace}(hu:P.underlying T=some (.int .i64))(hc:P.cellsOf T=1)(h:DataW.trod enc P w 0 (fun _=>true) true n T ((cs.drop j).take (P.cellsOf T))=some y):∃a,cs[j]? =some (.int .i64 a)/\N2 a:=by
 obtain⟨a,e,_,hw⟩:=DataW.trod_int hu h
 rw[hc]at e
 exact⟨a,aax e,ai1 hw⟩
theorem Eu{n j:Nat}{cs:List Value}{y:DataW H×List MemPlace}(hu:P.underlying T=some .bool)(hc:P.cellsOf T=1)(h:DataW.trod enc P w 0 (fun _=>true) true n T ((cs.drop j).take (P.cellsOf T))=some y):∃a,cs[j]? =some (.bool a):=by
 obtain⟨a,e,_⟩:=DataW.trod_bool hu h
 rw[hc]at e
 exact⟨a,aax e⟩
theorem agU{α:Type}[Inhabited α]{C:Cd α}{ok:α->Prop}(hu:P.underlying T=some (.slice C.E))(hk:P.cellsOf C.E=C.k)(hb:P.bytesOf C.E=C.u8)(mo:0<C.k)(hr:DV P w enc C.E C ok):DV P w enc T (cB T) (aty C w ok):=fun n cs d pl h hl=>by
 rcases open_slice hu h with⟨rfl,hx⟩|⟨a,len,cap,m,n',D,Pl,rfl,_,hle,hm,hmm,hx,hi⟩
 ·exact⟨⟨none,0,0⟩,fun j u _ hu=>hu,[],rfl,aF.dW,fun y hy=>by cases hy⟩
 ·simp only[if_true]at hmm
  subst hmm
  simp only[Prod.mk.injEq]at hx
  obtain⟨rfl,_⟩:=hx
  have hwt:∀n∈(len+(m-len))*P.bytesOf C.E::(DataW.weightsAll P C.E ((List.range len).map D)++DataW.weightsAll P C.E ((List.range (m-len)).map fun j=>D (len+j))),n<=reachBytes:=by
   have:=hl
   unfold Gd at this
   simp only[DataW.weights,hu,List.length_map,List.length_range]at this
   exact this
  have hsz:=hwt _ (List.mem_cons_self ..)
  rw[hb]at hsz
  simp only[reachBytes]at hsz
  have hL:len*C.u8<=140737488355328:=Nat.le_trans (Nat.mul_le_mul_right _ (show len<=len+(m-len) by omega)) (by omega)
  obtain⟨F,hF⟩:=choose_lt (α:=α) (n:=len) (p:=fun i x=>(∀j u,j<C.k->(C.f x)[j]? =some u->w.cell? (a.add (i*C.k+j))=some u)/\ok x) (fun i hil=>by
   obtain⟨cs',hc,ht⟩:=hi i (by omega)
   rw[hk]at hc
   obtain⟨x,hx,hok⟩:=hr n' cs' (D i) (Pl i) ht (fun q hq=>hwt q (List.mem_cons_of_mem _ (List.mem_append_left _ (aad (List.mem_map.2 ⟨i,List.mem_range.2 hil,rfl⟩) hq))))
   obtain⟨_,hcl,hat⟩:=World.cells?_some hc
   refine⟨x,fun j u hj hu=>?_,hok⟩
   rw[<-Go.Deep.add_add,hat j hj]
   exact hx j u hj hu)
  have hlen:((List.range len).map F).length=len:=by simp
  refine⟨⟨some a,len,m⟩,fun j u _ hu=>hu,(List.range len).map F,by rw[hlen],⟨by rw[hlen];exact hle,by rw[hlen];exact hL,fun h0=>?_⟩,fun y hy=>?_⟩
  ·rw[hlen]at h0
   have hcell:∀j u,(((List.range len).map F).flatMap C.f)[j]? =some u->w.cell? (a.add j)=some u:=fun j u Dr=>by
    have hjl:j<len*C.k:=by
     have:=(List.getElem?_eq_some_iff.1 Dr).1
     rwa [jr C.hf,hlen]at this
    have h1:j/C.k<len:=(Nat.div_lt_iff_lt_mul mo).2 hjl
    have h2:j%C.k<C.k:=Nat.mod_lt _ mo
    have em:j/C.k*C.k+j%C.k=j:=by rw[Nat.mul_comm];exact Nat.div_add_mod j C.k
    have g1:=lJ C.hf (xs:=(List.range len).map F) (i:=j/C.k) (by rw[hlen];exact h1) h2
    rw[em,Dr]at g1
    have:=(hF (j/C.k) h1).1 (j%C.k) u h2 (by rw[g1];simp)
    rwa [em]at this
   have akN:0<(((List.range len).map F).flatMap C.f).length:=by rw[jr C.hf,hlen];exact Nat.mul_pos h0 mo
   have hc0:=hcell 0 _ (List.getElem?_eq_getElem akN)
   obtain⟨b,off,spot⟩:=a
   have hspot:spot=none:=by simpa[Addr.add]using World.cell?_spot hc0
   subst hspot
   refine⟨rfl,?_⟩
   have hadd:∀j,(⟨b,off,none⟩:Addr).add j=⟨b,off+j,none⟩:=fun j=>by
    unfold Addr.add
    split
    ·rename_i e;rw[e];rfl
    ·rfl
   rw[hadd]at hc0
   unfold World.cell? at hc0
   split at hc0
   ·rename_i cs T' fz hb'
    refine⟨cs,T',fz,hb',fun j u Dr=>?_⟩
    have:=hcell j u Dr
    rw[hadd,cell_of_row w b _ cs T' fz hb']at this
    exact this
   ·cases hc0
  ·obtain⟨i,hi',rfl⟩:=List.mem_map.1 hy
   exact(hF i (List.mem_range.1 hi')).2
theorem aik{α:Type}[Inhabited α]{C:Cd α}{ok:α->Prop}{v:Value}{d:DataW H}{p:List MemPlace}(hu:P.underlying T=some (.slice C.E))(hk:P.cellsOf C.E=C.k)(hb:P.bytesOf C.E=C.u8)(mo:0<C.k)(hr:DV P w enc C.E C ok)
  {b0:Nat}(hv:Value.okWide P w .any b0 T v)(h:DataW.Trod enc P w 0 (fun _=>true) true T v d p){ts:List TypeId}{ds:List (DataW H)}(hsz:(DataW.weightsEach P ts ds).all (·<=reachBytes)=true){j:Nat}(hj:ts[j]? =some T)(hd:ds[j]? =some d):
  ∃A c xs,v=.slice A xs.length c/\aF C (hp w) A c xs/\∀x∈xs,ok x:=by
 obtain⟨a0,len,cap,rfl⟩:=okWide_slice hu hv
 obtain⟨fuel,hf⟩:=h
 have hl:Gd P T d:=fun n hn=>by simpa using List.all_eq_true.1 hsz n (DataW.weights_mem_each hj hd n hn)
 obtain⟨s,hs,ys,hn,hr,hy⟩:=agU hu hk hb mo hr fuel _ d p hf hl
 have:=hs 0 _ Nat.one_pos rfl
 simp only[Value.cells]at this
 have e:(Value.slice a0 len cap)=.slice s.A s.n s.c:=by simpa using this
 exact⟨s.A,s.c,ys,by rw[e,hn],hr,hy⟩
end
end Go.Proofs.YthppkofceancjaaGreat
namespace Go.Proofs.YthppkofceancjaaGreat
open Go.ChangeShapes Go.WideShapes Go.ChangeAt Go.RowKit
section
variable {H : Type} {enc : TypeId × Value → H} {w : World}
set_option maxRecDepth 100000 in
theorem abb{n:Nat}{cs:List Value}{d:DataW H×List MemPlace}(h:DataW.trod enc Tryz.prog w 0 (fun _=>true) true n 28 cs=some d):∃m:Mv,∀j u,j<8->([.int .i64 m.kd,.int .i64 m.at_,.int .i64 m.aJ,.int .i64 m.ua,.bool m.ub,.int .i64 m.va,.bool m.vb,.bool m.ov]:List Value)[j]? =some u->cs[j]? =some u:=by
 obtain⟨xs,k,_,_,_,hl,hf⟩:=DataW.trod_struct aR h
 have hc2:Tryz.prog.cellsOf 26=2:=by kernel_rfl
 have c1:Tryz.prog.cellsOf 3=1:=by kernel_rfl
 have b1:Tryz.prog.cellsOf 4=1:=by kernel_rfl
 match xs,hl with
 |[y0,y1,y2,y3,y4,y5],_=>
  obtain⟨n0,e0,_⟩:=wT (j:=0) (y:=y0) av c1 (hf 0 _ rfl)
  obtain⟨n1,e1,_⟩:=wT (j:=1) (y:=y1) av c1 (hf 1 _ rfl)
  obtain⟨n2,e2,_⟩:=wT (j:=2) (y:=y2) av c1 (hf 2 _ rfl)
  have g3:DataW.trod enc Tryz.prog w 0 (fun _=>true) true k 26 ((cs.drop 3).take (Tryz.prog.cellsOf 26))=some y3:=hf 3 _ rfl
  have g4:DataW.trod enc Tryz.prog w 0 (fun _=>true) true k 26 ((cs.drop 5).take (Tryz.prog.cellsOf 26))=some y4:=hf 4 _ rfl
  obtain⟨n7,e7⟩:=Eu (j:=7) (y:=y5) dh b1 (hf 5 _ rfl)
  obtain⟨zs3,k3,_,_,_,hl3,hf3⟩:=DataW.trod_struct aZ g3
  obtain⟨zs4,k4,_,_,_,hl4,hf4⟩:=DataW.trod_struct aZ g4
  match zs3,hl3,zs4,hl4 with
  |[p0,p1],_,[q0,q1],_=>
   obtain⟨n3,e3,_⟩:=wT (j:=0) (y:=p0) av c1 (hf3 0 _ rfl)
   obtain⟨n4,e4⟩:=Eu (j:=1) (y:=p1) dh b1 (hf3 1 _ rfl)
   obtain⟨n5,e5,_⟩:=wT (j:=0) (y:=q0) av c1 (hf4 0 _ rfl)
   obtain⟨n6,e6⟩:=Eu (j:=1) (y:=q1) dh b1 (hf4 1 _ rfl)
   rw[hc2]at e3 e4 e5 e6
   rw[List.getElem?_take,List.getElem?_drop]at e3 e4 e5 e6
   simp only[show(0:Nat)<2 from by decide,show(1:Nat)<2 from by decide,if_true,Nat.add_zero]at e3 e4 e5 e6
   refine⟨⟨n0,n1,n2,n3,n4,n5,n6,n7⟩,fun j u hj hu=>?_⟩
   match j,hj with
   |0,_=>injection hu with hu;subst hu;exact e0
   |1,_=>injection hu with hu;subst hu;exact e1
   |2,_=>injection hu with hu;subst hu;exact e2
   |3,_=>injection hu with hu;subst hu;exact e3
   |4,_=>injection hu with hu;subst hu;exact e4
   |5,_=>injection hu with hu;subst hu;exact e5
   |6,_=>injection hu with hu;subst hu;exact e6
   |7,_=>injection hu with hu;subst hu;exact e7
set_option maxRecDepth 100000 in
theorem atP{v:Value}{d:DataW H}{p:List MemPlace}{b0:Nat}(hv:Value.okWide Tryz.prog w .any b0 28 v)(h:DataW.Trod enc Tryz.prog w 0 (fun _=>true) true 28 v d p):∃m:Mv,v=.agg #[.int .i64 m.kd,.int .i64 m.at_,.int .i64 m.aJ,.int .i64 m.ua,.bool m.ub,.int .i64 m.va,.bool m.vb,.bool m.ov]:=by
 obtain⟨cs,rfl,hs⟩:=okWide_struct aR hv
 rw[show Tryz.prog.cellsOf 28=8 from by kernel_rfl]at hs
 obtain⟨fuel,hf⟩:=h
 obtain⟨m,hm⟩:=abb hf
 refine⟨m,congrArg Value.agg ?_⟩
 have hc:∀j u,j<8->([.int .i64 m.kd,.int .i64 m.at_,.int .i64 m.aJ,.int .i64 m.ua,.bool m.ub,.int .i64 m.va,.bool m.vb,.bool m.ov]:List Value)[j]? =some u->cs[j]? =some u:=fun j u hj hu=>by
  have:=hm j u hj hu
  simpa[Value.cells]using this
 refine Array.ext (by rw[hs];rfl) fun j h1 h2=>?_
 have hj:j<8:=by rw[hs]at h1;exact h1
 have h3:=hc j _ hj (List.getElem?_eq_getElem (by exact h2))
 rw[Array.getElem?_eq_getElem h1]at h3
 injection h3
theorem ai8:DV Tryz.prog w enc 28 mN (fun _=>True):=fun n cs d pl h _=>by
 obtain⟨m,hm⟩:=abb h
 exact⟨m,fun j u hj hu=>hm j u hj hu,trivial⟩
end
theorem af3(v0:Value)(x0:Dg)(x1:List Mv){A1:Option Addr}{c1:Nat}(W:World)(h0:kF W W.heap.size v0 x0)(h1:aF mN (hp W) A1 c1 x1):
  Calls Tryz.prog 4 #[v0,.slice A1 x1.length c1] W fun e W'=>e=.returned (.bool true)/\Below W.heap.size W W':=by
 obtain⟨A0,c0,rfl,r0⟩:=h0.rd
 exact agY (agk x0 x1 r0 h1 (SH.start W))
set_option maxRecDepth 100000 in
theorem afS(os:Os)(started:os.Started)(H:Type)(enc:TypeId×Value->H):
  ReturnsInHanded {} Tryz.checked os 4 .any (Rows.movesRowsSpec.pre6 enc Tryz.prog Tryz.f4 Rows.movesRowsRow.domain false) (Rows.movesRowsSpec.post enc Tryz.prog Tryz.f4 false true false false):=by
 refine ahE (C:=Tryz.checked) (tb:=4) (by kernel_rfl) started (by kernel_rfl) Tryz.func4
  (ChangeSpec.witness6 (enc:=enc) (C:=Tryz.checked) false ⟨#[],#[.agg #[.slice none 0 0,.int .i64 0],.slice none 0 0],[]⟩ 8 (by kernel_rfl) (by kernel_rfl) (by kernel_rfl) (by kernel_rfl))
  rfl (by kernel_rfl) (by kernel_rfl) rfl dh ?_ ?_
 ·intro ds hds
  match ds,hds with
  |[d0,d1],_=>rfl
 ·intro W base args ds p hval hA _ hlt hsz
  rw[Tryz.params4]at hA hval hsz
  obtain⟨v0,vs0,d0,ds0,p0,q0,hargs,rfl,rfl,h0,r0⟩:=trodAll_cons hA
  obtain⟨v1,vs1,d1,ds1,p1,q1,rfl,rfl,rfl,h1,r1⟩:=trodAll_cons r0
  obtain⟨rfl,rfl,rfl⟩:=trodAll_nil r1
  obtain rfl:args=#[v0,v1]:=by cases args;simp_all
  obtain⟨a0,i0⟩:=aim (hval 0 24 v0 rfl rfl) h0 (fun x hx=>hlt x (by simp[hx])) hsz (j:=0) rfl rfl
  obtain⟨A1,c1,xs1,rfl,g1,_⟩:=aik (C:=mN) qR (by kernel_rfl) (by kernel_rfl) (by decide) ai8 (hval 1 35 v1 rfl rfl) h1 hsz (j:=1) rfl rfl
  exact af3 v0 a0 xs1 W i0 g1
theorem movesRows_holds:Rows.MovesRowsSaid:=
 OpenClaim.holds_of_wide 4 Tryz.f4 rfl rfl rfl rfl rfl rfl rfl ⟨rfl,rfl,rfl,rfl,rfl⟩ rfl rfl rfl rfl rfl (by kernel_rfl) Tryz.func4 (by kernel_rfl)
  (of_decide_eq_true (by kernel_rfl)) (by unfold Func.isWrapper;first|(rw[if_pos (by decide+kernel)];kernel_rfl)|(rw[if_neg (by decide+kernel)];exact⟨rfl,rfl⟩))
  (fun os started H enc _=>afS os started H enc)
#print axioms movesRows_holds
end Go.Proofs.YthppkofceancjaaGreat
