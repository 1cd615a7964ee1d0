/- Part 14 of the proof of the law MovesTake: the walks through its functions and the plain laws that they need. -/
import Derived.Test.YthppkofceancjaaGreatMtZ13
set_option linter.unusedSimpArgs false
set_option linter.unusedVariables false
noncomputable section
namespace Go.Proofs.YthppkofceancjaaGreat
open Go.ChangeShapes Go.WideShapes Go.ChangeAt Go.RowKit
theorem ahE{k:Int}(h1:¬k=1)(h2:¬k=2)(h3:¬k=3)(h4:¬k=4)(h5:¬k=5):mU k=none:=by
 unfold mU wN
 simp only[mg]
 rw[if_neg h1,if_neg h2,if_neg h3,if_neg h4,if_neg h5]
 rfl
theorem zz{d:Dg}{m:Mv}(hop:dv d=true){f:Nat}(hk:mU m.kd=some f):dx d m=kA (gY d m) (iw d m):=by
 unfold dx kA
 rw[if_neg (by rw[hop];decide),if_neg (by rw[hk];exact Option.some_ne_none _)]
theorem acN{d:Dg}(h1:gB d=true)(h2:rV d=true):dv d=true:=by
 unfold dv
 rw[h1,<-aav (uM h1).2.1,h2]
 rfl
theorem Cx{d:Dg}(h1:gB d=true)(h2:rV d=false):dv d=false:=by
 unfold dv
 rw[h1,<-aav (uM h1).2.1,h2]
 rfl
theorem ane{d:Dg}{m:Mv}(hop:dv d=true)(h:m.kd=1):dx d m=kA (eH d m) (mD d m):=by
 rw[zz hop (f:=67) (by rw[h];rfl)]
 rw[show gY d m=eH d m from by unfold gY;rw[h];rfl,show iw d m=mD d m from by unfold iw;rw[h];rfl]
theorem zA{d:Dg}{m:Mv}(hop:dv d=true)(h:m.kd=2):dx d m=kA (jr d m) (xg d m):=by
 rw[zz hop (f:=68) (by rw[h];rfl)]
 rw[show gY d m=jr d m from by unfold gY;rw[h];rfl,show iw d m=xg d m from by unfold iw;rw[h];rfl]
theorem anc{d:Dg}{m:Mv}(hop:dv d=true)(h:m.kd=3):dx d m=kA (gQ d m) (vD d m):=by
 rw[zz hop (f:=69) (by rw[h];rfl)]
 rw[show gY d m=gQ d m from by unfold gY;rw[h];rfl,show iw d m=vD d m from by unfold iw;rw[h];rfl]
theorem sy{d:Dg}{m:Mv}(hop:dv d=true)(h:m.kd=4):dx d m=kA (gG d m) (xV d m):=by
 rw[zz hop (f:=70) (by rw[h];rfl)]
 rw[show gY d m=gG d m from by unfold gY;rw[h];rfl,show iw d m=xV d m from by unfold iw;rw[h];rfl]
theorem anb{d:Dg}{m:Mv}(hop:dv d=true)(h:m.kd=5):dx d m=kA (iu d m) (rh d m):=by
 rw[zz hop (f:=71) (by rw[h];rfl)]
 rw[show gY d m=iu d m from by unfold gY;rw[h];rfl,show iw d m=rh d m from by unfold iw;rw[h];rfl]
noncomputable def LP:=Tryz.f10.body.getD .skip
def arO:=cL LP
def LO:=cR LP
def LN:=cL LO
def LM:=cR LO
def arN:=cL LN
def LL:=cR LN
def D4:=cL LL
def arM:=cR LL
def afy:=cL D4
def afx:=cR D4
def arL:=cL LM
def LK:=cR LM
def LJ:=cL LK
def LI:=cR LK
def arK:=cL LJ
def afw:=cR LJ
def LH:=cL afw
def arJ:=cL LH
def LG:=cR LH
def LF:=cL LG
def LD:=cR LG
def arI:=cL LF
def arH:=cR LF
def arG:=cL LD
def LC:=cR LD
def LB:=cL LC
def LA:=cR LC
def Lz:=cL LB
def Lx:=cR LB
def arF:=cL Lz
def Lv:=cR Lz
def D3:=cL Lv
def arE:=cR Lv
def afv:=cL D3
def afu:=cR D3
def Lu:=cL Lx
def Lt:=cR Lx
def arD:=cL Lu
def Ls:=cR Lu
def Lr:=cL Ls
def arC:=cR Ls
def arB:=cL Lr
def arA:=cR Lr
def arz:=cL Lt
def ary:=cR Lt
def arx:=cL LA
def Lq:=cR LA
def Lp:=cL Lq
def Lm:=cR Lq
def arw:=cL Lp
def arv:=cR Lp
def aru:=cL Lm
def Ll:=cR Lm
def Lj:=cL Ll
def Li:=cR Ll
def Lh:=cL Lj
def Lg:=cR Lj
def art:=cL Lh
def Lf:=cR Lh
def u6:=cL Lf
def ars:=cR Lf
def Ac:=cL u6
def Ab:=cR u6
def Le:=cL Lg
def Ld:=cR Lg
def arq:=cL Le
def Lc:=cR Le
def Lb:=cL Lc
def arp:=cR Lc
def aro:=cL Lb
def arn:=cR Lb
def arl:=cL Ld
def ark:=cR Ld
def arj:=cL Li
def La:=cR Li
def K9:=cL La
def ari:=cR La
def arh:=cL K9
def arf:=cR K9
def ard:=cL LI
def arb:=cR LI
set_option maxHeartbeats 2000000 in
set_option maxRecDepth 10000 in
theorem ajx{w:World}{M:Hp}{X:Fr}(d:Dg){aV:Option Addr}{aU:Nat}(m:Mv)(az:aG aF (M.un X.h) aV aU d.ae)(S:SH w M X []):Ct Tryz.prog 10 [.agg [.slice aV d.ae.length aU,.int .i64 d.loops].toArray,.agg [.int .i64 m.kd,.int .i64 m.at_,.int .i64 m.aJ,.int .i64 m.ua,.bool m.ub,.int .i64 m.va,.bool m.vb,.bool m.ov].toArray] w M X (rO (dx d m)):=by
 unfold Ct
 have gV:d.ae.length*40<=140737488355328:=az.room
 refine Up (b:=LP) Tryz.func10 rfl Tryz.ntmps10 rfl (fun C hC=>(bq [(0,_),(1,_)] ⟨rfl,rfl,trivial⟩ (U2 arO LO rfl rfl rfl (U0 rfl (ak 0 1 rfl rfl rfl (bE (l:=[_,_]) rfl rfl rfl rfl rfl S ?_))))))
 intro aI w1 S1;clear S
 refine ak 1 2 rfl rfl rfl (bE (l:=[_,_,_,_,_,_,_,_]) rfl rfl rfl rfl rfl S1 ?_)
 intro aQ w2 S2;clear S1
 refine ak 2 3 rfl rfl rfl (Uh (l:=[_,_]) rfl rfl rfl fR rfl S2 ?_)
 intro bz w3 S3;clear S2
 refine ag 3 1 rfl rfl (U5 rfl (ah [2,3,4] rfl (U3 (U2 LN LM rfl rfl rfl (U2 arN LL rfl rfl rfl (U0 rfl (af 0 rfl (U8 (us:=[_,_]) rfl rfl ay rfl aA (S3.aw (i:=2) rfl ⟨rfl,rfl,trivial⟩)) (ak 1 2 rfl rfl rfl (cS rfl rfl rfl rfl rfl rfl rfl aeS S3 (aag d (az.mono S3.Uy) S3.aD) ?_)))))))))
 rintro _ w4 S4 rfl;clear S3
 refine af 2 rfl (dS rfl rfl) (ag 3 1 rfl rfl ?_)
 refine mR (t:=10) rfl (fun qF=>?_) (fun qF=>?_)
 ·simp only[Bool.and_eq_true,Bool.or_eq_true,Bool.and_eq_false_iff,Bool.or_eq_false_iff,decide_eq_true_eq,decide_eq_false_iff_not,Bool.not_eq_true',Bool.not_eq_false']at qF
  refine ag 4 4 rfl rfl (U5 rfl (ah [2,3,4,14] rfl (U3 (fN D4 rfl rfl rfl (U2 afy afx rfl rfl rfl (U0 rfl (af 0 rfl (run_build (l:=[_,_]) rfl rfl dI rfl rfl) (ak 1 2 rfl rfl rfl (U6 (i:=0) (us:=[_,_]) (l':=[_,_]) (H':=[_,_,_]) rfl rfl S4 rfl rfl rfl rfl aA rfl rfl rfl rfl ?_)))))))))
  intro w5 S5;clear S4
  refine ag 2 1 rfl rfl (U5 rfl (ah [4,5] rfl (U3 (Uk hC [_,_] rfl rfl ⟨⟨_,rfl,Um (us:=[_,_]) ay rfl aA (S5.aw (i:=0) rfl ⟨rfl,rfl,trivial⟩)⟩,rfl,trivial⟩ ?_))))
  refine⟨_,rfl,_,Hp.le_refl _,(S5.pick [] [] (by decide) trivial),?_⟩
  rw[show dx d m=(⟨[],0⟩,7)from by unfold dx;rw[if_pos (by first|exact Cx qF iq|(unfold dv;rw[qF];rfl))]]
  exact eT 7
 ·simp only[Bool.and_eq_true,Bool.or_eq_true,Bool.and_eq_false_iff,Bool.or_eq_false_iff,decide_eq_true_eq,decide_eq_false_iff_not,Bool.not_eq_true',Bool.not_eq_false']at qF
  obtain⟨hn,hab,I4,aeg⟩:=uM qF
  have hlo:0<=d.loops/\d.loops<=16:=⟨I4,aeg⟩
  refine aH 4 5 rfl rfl rfl rfl rfl rfl rfl rfl (Ub rfl rfl (U8 (us:=[_,_]) rfl rfl ay rfl aA (S4.aw (i:=2) rfl ⟨rfl,rfl,trivial⟩)) (aH 5 6 rfl rfl rfl rfl rfl rfl rfl rfl (eZ rfl rfl rfl rfl rfl rfl rfl aeR S4 (aaC d (az.mono S4.Uy) (hn) (hab) S4.aD) ?_)))
  intro Rm w6 M1 aL S6 uY;clear S4
  replace az:=az.mono (Hp.Ua aL S6.mx)
  obtain rfl:=uY
  refine aH 6 7 rfl rfl rfl rfl rfl rfl rfl rfl (Ub rfl rfl (dS rfl rfl) (ag 7 1 rfl rfl (U5 rfl (ah [2,3,4,14] rfl (U3 ?_)))))
  refine dN D4 arM rfl rfl rfl rfl (fun iq=>?_) (fun iq=>?_)
  ·simp only[Bool.and_eq_true,Bool.or_eq_true,Bool.and_eq_false_iff,Bool.or_eq_false_iff,decide_eq_true_eq,decide_eq_false_iff_not,Bool.not_eq_true',Bool.not_eq_false']at iq
   refine U2 afy afx rfl rfl rfl (U0 rfl (af 0 rfl (run_build (l:=[_,_]) rfl rfl dI rfl rfl) (ak 1 2 rfl rfl rfl (U6 (i:=0) (us:=[_,_]) (l':=[_,_]) (H':=[_,_,_]) rfl rfl S6 rfl rfl rfl rfl aA rfl rfl rfl rfl ?_))))
   intro w7 S7;clear S6
   refine ag 2 1 rfl rfl (U5 rfl (ah [4,5] rfl (U3 (Uk hC [_,_] rfl rfl ⟨⟨_,rfl,Um (us:=[_,_]) ay rfl aA (S7.aw (i:=0) rfl ⟨rfl,rfl,trivial⟩)⟩,rfl,trivial⟩ ?_))))
   refine⟨_,rfl,_,aL,(S7.pick [] [] (by decide) trivial),?_⟩
   rw[show dx d m=(⟨[],0⟩,7)from by unfold dx;rw[if_pos (by first|exact Cx qF iq|(unfold dv;rw[qF];rfl))]]
   exact eT 7
  ·simp only[Bool.and_eq_true,Bool.or_eq_true,Bool.and_eq_false_iff,Bool.or_eq_false_iff,decide_eq_true_eq,decide_eq_false_iff_not,Bool.not_eq_true',Bool.not_eq_false']at iq
   have hop:dv d=true:=acN qF (by simpa using iq)
   refine Ue rfl (ah [2,3,4] rfl (U3 (U2 arL LK rfl rfl rfl (U0 rfl (af 0 rfl (U1 rfl rfl ay rfl (bK) (bJ)) (af 1 rfl (U4 rfl rfl bt rfl (S6.ar (i:=2) rfl rfl)) (af 2 rfl (cU rfl rfl rfl rfl rfl rfl bt) (ag 3 1 rfl rfl ?_))))))))
   refine U5 rfl (ah [2,3,4,6] rfl (U3 (U2 LJ LI rfl rfl rfl (U2 arK afw rfl rfl rfl (U0 rfl (af 0 rfl (U1 rfl rfl aT rfl (aC) (aB)) (af 1 rfl (U4 rfl rfl av rfl (S6.ar (i:=1) rfl rfl)) (U5 rfl ?_))))))))
   refine ah [2,3,4,6,20] rfl (U3 (Uc LH 0 rfl rfl rfl (U2 arJ LG rfl rfl rfl (U0 rfl (af 0 rfl (bR rfl rfl rfl) (ag 1 1 rfl rfl (U5 rfl (ah [2,3,4,6,20,21] rfl ?_))))))))
   refine U3 ?_
   refine Uf LF LD rfl rfl rfl rfl (fun Ju=>?_) (fun Ju=>?_)
   ·refine U2 arI arH rfl rfl rfl (U0 rfl (af 0 rfl (U8 (us:=[_,_]) rfl rfl ay rfl aA (S6.aw (i:=2) rfl ⟨rfl,rfl,trivial⟩)) (af 1 rfl (U8 (us:=[_,_,_,_,_,_,_,_]) rfl rfl aT rfl fH (S6.aw (i:=1) rfl ⟨rfl,rfl,rfl,rfl,rfl,rfl,rfl,rfl,trivial⟩)) (ak 2 3 rfl rfl rfl (eZ rfl rfl rfl rfl rfl rfl rfl apx S6 (ajh d m (az.mono S6.Uy) hn hab hlo S6.aD) ?_)))))
    intro vw8 w8 M2 hle2 S8 zW;clear S6
    replace az:=az.mono (Hp.Ua hle2 S8.mx)
    obtain⟨A1,c1,rfl,hr1⟩:=zW
    refine af 3 rfl (Ui rfl rfl rfl) (af 4 rfl (Ui rfl rfl rfl) (ak 5 6 rfl rfl rfl (U6 (i:=0) (us:=[_,_]) (l':=[_,_]) (H':=[_,_,_]) rfl rfl S8 rfl rfl rfl rfl aA rfl rfl rfl rfl ?_)))
    intro w9 S9;clear S8
    refine ag 6 1 rfl rfl (U5 rfl (ah [4,5] rfl (U3 (Uk hC [_,_] rfl rfl ⟨⟨_,rfl,Um (us:=[_,_]) ay rfl aA (S9.aw (i:=0) rfl ⟨rfl,rfl,trivial⟩)⟩,rfl,trivial⟩ ?_))))
    refine⟨_,rfl,_,aL.trans hle2,(S9.pick [] [] (by decide) trivial),?_⟩
    rw[ane hop Ju]
    exact⟨_,_,rfl,hr1⟩
   ·refine U2 arG LC rfl rfl rfl (U0 rfl (af 0 rfl (bR rfl rfl rfl) (ag 1 1 rfl rfl (U5 rfl (ah [2,3,4,6,20,28] rfl (U3 ?_))))))
    refine Uf LB LA rfl rfl rfl rfl (fun pQ=>?_) (fun pQ=>?_)
    ·refine U2 Lz Lx rfl rfl rfl (U2 arF Lv rfl rfl rfl (U0 rfl (af 0 rfl (U1 rfl rfl aT rfl (aC) (aB)) (af 1 rfl (U4 rfl rfl av rfl (S6.ar (i:=1) rfl rfl)) (af 2 rfl (bS rfl rfl rfl) (ag 3 1 rfl rfl ?_))))))
     refine Uw (t:=33) rfl (fun xo=>?_) (fun xo=>?_)
     ·refine ag 4 5 rfl rfl (U5 rfl (ah [2,3,4,38] rfl (U3 (fN D3 rfl rfl rfl (U2 afv afu rfl rfl rfl (U0 rfl (af 0 rfl (run_build (l:=[_,_]) rfl rfl dI rfl rfl) (ak 1 2 rfl rfl rfl (U6 (i:=0) (us:=[_,_]) (l':=[_,_]) (H':=[_,_,_]) rfl rfl S6 rfl rfl rfl rfl aA rfl rfl rfl rfl ?_)))))))))
      intro jT bw;clear S6
      refine ag 2 1 rfl rfl (U5 rfl (ah [4,5] rfl (U3 (Uk hC [_,_] rfl rfl ⟨⟨_,rfl,Um (us:=[_,_]) ay rfl aA (bw.aw (i:=0) rfl ⟨rfl,rfl,trivial⟩)⟩,rfl,trivial⟩ ?_))))
      refine⟨_,rfl,_,aL,(bw.pick [] [] (by decide) trivial),?_⟩
      rw[zA hop pQ]
      rw[fG (c:=3) (by unfold jr;rw[if_neg (by omega)]) (by decide)]
      exact eT 3
     ·refine aH 4 5 rfl rfl rfl rfl rfl rfl rfl rfl (Ub rfl rfl (U1 rfl rfl aT rfl (aC) (aB)) (aH 5 6 rfl rfl rfl rfl rfl rfl rfl rfl (Ub rfl rfl (U4 rfl rfl av rfl (S6.ar (i:=1) rfl rfl)) (ag 6 1 rfl rfl (aH 7 8 rfl rfl rfl rfl rfl rfl rfl rfl (Ub rfl rfl (lg rfl rfl rfl) (ag 8 1 rfl rfl (U5 rfl (ah [2,3,4,38] rfl (U3 ?_))))))))))
      refine Uf D3 arE rfl rfl rfl rfl (fun uU=>?_) (fun uU=>?_)
      ·refine U2 afv afu rfl rfl rfl (U0 rfl (af 0 rfl (run_build (l:=[_,_]) rfl rfl dI rfl rfl) (ak 1 2 rfl rfl rfl (U6 (i:=0) (us:=[_,_]) (l':=[_,_]) (H':=[_,_,_]) rfl rfl S6 rfl rfl rfl rfl aA rfl rfl rfl rfl ?_))))
       intro kV bW;clear S6
       refine ag 2 1 rfl rfl (U5 rfl (ah [4,5] rfl (U3 (Uk hC [_,_] rfl rfl ⟨⟨_,rfl,Um (us:=[_,_]) ay rfl aA (bW.aw (i:=0) rfl ⟨rfl,rfl,trivial⟩)⟩,rfl,trivial⟩ ?_))))
       refine⟨_,rfl,_,aL,(bW.pick [] [] (by decide) trivial),?_⟩
       rw[zA hop pQ]
       rw[fG (c:=3) (by unfold jr;rw[if_neg (by omega)]) (by decide)]
       exact eT 3
      ·refine Ue rfl (ah [2,3,4] rfl (U3 (U2 Lu Lt rfl rfl rfl (U2 arD Ls rfl rfl rfl (U0 rfl (af 0 rfl (U8 (us:=[_,_]) rfl rfl ay rfl aA (S6.aw (i:=2) rfl ⟨rfl,rfl,trivial⟩)) (af 1 rfl (U1 rfl rfl aT rfl (aC) (aB)) (af 2 rfl (U4 rfl rfl av rfl (S6.ar (i:=1) rfl rfl)) ?_))))))))
       refine cy 42 (.int .i64 ((m.at_.toNat:Nat):Int)) rfl (int_eq (by omega)) ?_
       refine ak 3 4 rfl rfl rfl (cS rfl rfl rfl rfl rfl rfl rfl aeQ S6 (abz d m.at_.toNat (az.mono S6.Uy) (by omega) S6.aD) ?_)
       rintro _ lU bV rfl;clear S6
       refine af 4 rfl (dS rfl rfl) (U5 rfl (ah [2,3,4,44] rfl (U3 ?_)))
       refine dN Lr arC rfl rfl rfl rfl (fun uT=>?_) (fun uT=>?_)
       ·simp only[Bool.and_eq_true,Bool.or_eq_true,Bool.and_eq_false_iff,Bool.or_eq_false_iff,decide_eq_true_eq,decide_eq_false_iff_not,Bool.not_eq_true',Bool.not_eq_false']at uT
        refine U2 arB arA rfl rfl rfl (U0 rfl (af 0 rfl (run_build (l:=[_,_]) rfl rfl dI rfl rfl) (ak 1 2 rfl rfl rfl (U6 (i:=0) (us:=[_,_]) (l':=[_,_]) (H':=[_,_,_]) rfl rfl bV rfl rfl rfl rfl aA rfl rfl rfl rfl ?_))))
        intro kz bZ;clear bV
        refine ag 2 1 rfl rfl (U5 rfl (ah [4,5] rfl (U3 (Uk hC [_,_] rfl rfl ⟨⟨_,rfl,Um (us:=[_,_]) ay rfl aA (bZ.aw (i:=0) rfl ⟨rfl,rfl,trivial⟩)⟩,rfl,trivial⟩ ?_))))
        refine⟨_,rfl,_,aL,(bZ.pick [] [] (by decide) trivial),?_⟩
        rw[zA hop pQ]
        rw[fG (c:=8) (by unfold jr;rw[if_pos (by omega),if_neg (by rw[uT];exact Bool.false_ne_true)]) (by decide)]
        exact eT 8
       ·simp only[Bool.and_eq_true,Bool.or_eq_true,Bool.and_eq_false_iff,Bool.or_eq_false_iff,decide_eq_true_eq,decide_eq_false_iff_not,Bool.not_eq_true',Bool.not_eq_false']at uT
        refine Ue rfl (ah [2,3,4] rfl (U3 (U2 arz ary rfl rfl rfl (U0 rfl (af 0 rfl (U8 (us:=[_,_]) rfl rfl ay rfl aA (bV.aw (i:=2) rfl ⟨rfl,rfl,trivial⟩)) (af 1 rfl (U1 rfl rfl aT rfl (aC) (aB)) (af 2 rfl (U4 rfl rfl av rfl (bV.ar (i:=1) rfl rfl)) (cy 48 (.int .i64 ((m.at_.toNat:Nat):Int)) rfl (int_eq (by omega)) ?_))))))))
        refine ak 3 4 rfl rfl rfl (ij (C:=Uv) (l:=[_]) rfl rfl rfl rfl bA rfl rfl rfl rfl bV ?_)
        intro gZ jG bI;clear bV
        have hr2:=bI.Cz (C:=Uv) (z:=((m.at_.toNat:Nat):Int)) (i:=0) rfl rfl (by decide)
        have iE:=BH d ([((m.at_.toNat:Nat):Int)]) (az.mono bI.Uy) hr2 (gs:=[m.at_.toNat]) rfl (by intro x hx;simp at hx;omega) hn hab (by omega) bI.aD
        refine ak 4 5 rfl rfl rfl (eZ rfl rfl rfl rfl rfl rfl rfl DN bI (iE) ?_)
        intro anY nW M3 dh bO am2;clear bI
        replace az:=az.mono (Hp.Ua dh bO.mx)
        obtain⟨A2,c2,rfl,hr3⟩:=am2
        refine ak 5 6 rfl rfl rfl (eZ rfl rfl rfl rfl rfl rfl rfl aeP bO (aax (bB d (bh [m.at_.toNat])) hr3 bO.aD) ?_)
        intro anX ni M4 cE cm am1;clear bO
        replace az:=az.mono (Hp.Ua cE cm.mx)
        replace hr3:=hr3.mono cE
        obtain⟨A3,c3,rfl,hr4⟩:=am1
        refine af 6 rfl (Ui rfl rfl rfl) (af 7 rfl (Ui rfl rfl rfl) (ak 8 9 rfl rfl rfl (U6 (i:=1) (us:=[_,_]) (l':=[_,_]) (H':=[_,_,_,_]) rfl rfl cm rfl rfl rfl rfl aA rfl rfl rfl rfl ?_)))
        intro kU bF;clear cm
        refine ag 9 1 rfl rfl (U5 rfl (ah [4,5] rfl (U3 (Uk hC [_,_] rfl rfl ⟨⟨_,rfl,Um (us:=[_,_]) ay rfl aA (bF.aw (i:=1) rfl ⟨rfl,rfl,trivial⟩)⟩,rfl,trivial⟩ ?_))))
        refine⟨_,rfl,_,(aL.trans dh).trans cE,(bF.pick [] [] (by decide) trivial),?_⟩
        rw[zA hop pQ]
        rw[show jr d m=(if(bB d (bh [m.at_.toNat])).loops<=16 then 0 else 2)from by unfold jr lI;rw[if_pos (by omega),if_pos (by simpa using uT)]]
        exact⟨_,_,rfl,hr4⟩
    ·refine U2 arx Lq rfl rfl rfl (U0 rfl (af 0 rfl (bR rfl rfl rfl) (ag 1 1 rfl rfl (U5 rfl (ah [2,3,4,6,20,54] rfl (U3 ?_))))))
     refine Uf Lp Lm rfl rfl rfl rfl (fun uS=>?_) (fun uS=>?_)
     ·refine U2 arw arv rfl rfl rfl (U0 rfl (af 0 rfl (U8 (us:=[_,_]) rfl rfl ay rfl aA (S6.aw (i:=2) rfl ⟨rfl,rfl,trivial⟩)) (af 1 rfl (U8 (us:=[_,_,_,_,_,_,_,_]) rfl rfl aT rfl fH (S6.aw (i:=1) rfl ⟨rfl,rfl,rfl,rfl,rfl,rfl,rfl,rfl,trivial⟩)) (ak 2 3 rfl rfl rfl (eZ rfl rfl rfl rfl rfl rfl rfl apw S6 (aiV d m (az.mono S6.Uy) hn hab hlo S6.aD) ?_)))))
      intro ayd tA M5 fL bU am0;clear S6
      replace az:=az.mono (Hp.Ua fL bU.mx)
      obtain⟨A4,c4,rfl,mJ⟩:=am0
      refine af 3 rfl (Ui rfl rfl rfl) (af 4 rfl (Ui rfl rfl rfl) (ak 5 6 rfl rfl rfl (U6 (i:=0) (us:=[_,_]) (l':=[_,_]) (H':=[_,_,_]) rfl rfl bU rfl rfl rfl rfl aA rfl rfl rfl rfl ?_)))
      intro oZ dP;clear bU
      refine ag 6 1 rfl rfl (U5 rfl (ah [4,5] rfl (U3 (Uk hC [_,_] rfl rfl ⟨⟨_,rfl,Um (us:=[_,_]) ay rfl aA (dP.aw (i:=0) rfl ⟨rfl,rfl,trivial⟩)⟩,rfl,trivial⟩ ?_))))
      refine⟨_,rfl,_,aL.trans fL,(dP.pick [] [] (by decide) trivial),?_⟩
      rw[anc hop uS]
      exact⟨_,_,rfl,mJ⟩
     ·refine U2 aru Ll rfl rfl rfl (U0 rfl (af 0 rfl (bR rfl rfl rfl) (ag 1 1 rfl rfl (U5 rfl (ah [2,3,4,6,20,61] rfl (U3 ?_))))))
      refine Uf Lj Li rfl rfl rfl rfl (fun qH=>?_) (fun qH=>?_)
      ·refine U2 Lh Lg rfl rfl rfl (U2 art Lf rfl rfl rfl (U0 rfl (af 0 rfl (U1 rfl rfl aT rfl (aC) (aB)) (af 1 rfl (U4 rfl rfl av rfl (S6.ar (i:=1) rfl rfl)) (af 2 rfl (bS rfl rfl rfl) (ag 3 1 rfl rfl ?_))))))
       refine Uw (t:=66) rfl (fun zM=>?_) (fun zM=>?_)
       ·refine ag 4 6 rfl rfl (ag 10 6 rfl rfl (ag 16 6 rfl rfl (ag 22 5 rfl rfl (U5 rfl (ah [2,3,4,89] rfl (U3 (fN u6 rfl rfl rfl (U2 Ac Ab rfl rfl rfl ?_))))))))
        refine U0 rfl (af 0 rfl (run_build (l:=[_,_]) rfl rfl dI rfl rfl) (ak 1 2 rfl rfl rfl (U6 (i:=0) (us:=[_,_]) (l':=[_,_]) (H':=[_,_,_]) rfl rfl S6 rfl rfl rfl rfl aA rfl rfl rfl rfl ?_)))
        intro q9 cN;clear S6
        refine ag 2 1 rfl rfl (U5 rfl (ah [4,5] rfl (U3 (Uk hC [_,_] rfl rfl ⟨⟨_,rfl,Um (us:=[_,_]) ay rfl aA (cN.aw (i:=0) rfl ⟨rfl,rfl,trivial⟩)⟩,rfl,trivial⟩ ?_))))
        refine⟨_,rfl,_,aL,(cN.pick [] [] (by decide) trivial),?_⟩
        rw[sy hop qH]
        rw[fG (c:=3) (by unfold gG;rw[if_neg (by omega)]) (by decide)]
        exact eT 3
       ·refine aH 4 5 rfl rfl rfl rfl rfl rfl rfl rfl (Ub rfl rfl (U1 rfl rfl aT rfl (aC) (aB)) (aH 5 6 rfl rfl rfl rfl rfl rfl rfl rfl (Ub rfl rfl (U4 rfl rfl av rfl (S6.ar (i:=1) rfl rfl)) (ag 6 1 rfl rfl (aH 7 8 rfl rfl rfl rfl rfl rfl rfl rfl (Ub rfl rfl (lg rfl rfl rfl) (ag 8 2 rfl rfl ?_)))))))
        refine Uw (t:=72) rfl (fun aoM=>?_) (fun aoM=>?_)
        ·refine ag 10 6 rfl rfl (ag 16 6 rfl rfl (ag 22 5 rfl rfl (U5 rfl (ah [2,3,4,89] rfl (U3 (fN u6 rfl rfl rfl (U2 Ac Ab rfl rfl rfl (U0 rfl ?_))))))))
         refine af 0 rfl (run_build (l:=[_,_]) rfl rfl dI rfl rfl) (ak 1 2 rfl rfl rfl (U6 (i:=0) (us:=[_,_]) (l':=[_,_]) (H':=[_,_,_]) rfl rfl S6 rfl rfl rfl rfl aA rfl rfl rfl rfl ?_))
         intro tv cM;clear S6
         refine ag 2 1 rfl rfl (U5 rfl (ah [4,5] rfl (U3 (Uk hC [_,_] rfl rfl ⟨⟨_,rfl,Um (us:=[_,_]) ay rfl aA (cM.aw (i:=0) rfl ⟨rfl,rfl,trivial⟩)⟩,rfl,trivial⟩ ?_))))
         refine⟨_,rfl,_,aL,(cM.pick [] [] (by decide) trivial),?_⟩
         rw[sy hop qH]
         rw[fG (c:=3) (by unfold gG;rw[if_neg (by omega)]) (by decide)]
         exact eT 3
        ·refine aH 10 11 rfl rfl rfl rfl rfl rfl rfl rfl (Ub rfl rfl (U1 rfl rfl aT rfl (aC) (aB)) (aH 11 12 rfl rfl rfl rfl rfl rfl rfl rfl (Ub rfl rfl (U4 rfl rfl av rfl (S6.ar (i:=1) rfl rfl)) (aH 12 13 rfl rfl rfl rfl rfl rfl rfl rfl (Ub rfl rfl (bS rfl rfl rfl) (ag 13 2 rfl rfl ?_))))))
         refine Uw (t:=77) rfl (fun zK=>?_) (fun zK=>?_)
         ·refine ag 15 6 rfl rfl (ag 21 6 rfl rfl (U5 rfl (ah [2,3,4,89] rfl (U3 (fN u6 rfl rfl rfl (U2 Ac Ab rfl rfl rfl (U0 rfl (af 0 rfl (run_build (l:=[_,_]) rfl rfl dI rfl rfl) ?_))))))))
          refine ak 1 2 rfl rfl rfl (U6 (i:=0) (us:=[_,_]) (l':=[_,_]) (H':=[_,_,_]) rfl rfl S6 rfl rfl rfl rfl aA rfl rfl rfl rfl ?_)
          intro vA dz;clear S6
          refine ag 2 1 rfl rfl (U5 rfl (ah [4,5] rfl (U3 (Uk hC [_,_] rfl rfl ⟨⟨_,rfl,Um (us:=[_,_]) ay rfl aA (dz.aw (i:=0) rfl ⟨rfl,rfl,trivial⟩)⟩,rfl,trivial⟩ ?_))))
          refine⟨_,rfl,_,aL,(dz.pick [] [] (by decide) trivial),?_⟩
          rw[sy hop qH]
          rw[fG (c:=3) (by unfold gG;rw[if_neg (by omega)]) (by decide)]
          exact eT 3
         ·refine aH 15 16 rfl rfl rfl rfl rfl rfl rfl rfl (Ub rfl rfl (U1 rfl rfl aT rfl (aC) (aB)) (aH 16 17 rfl rfl rfl rfl rfl rfl rfl rfl (Ub rfl rfl (U4 rfl rfl av rfl (S6.ar (i:=1) rfl rfl)) (ag 17 1 rfl rfl (aH 18 19 rfl rfl rfl rfl rfl rfl rfl rfl (Ub rfl rfl (lg rfl rfl rfl) (ag 19 2 rfl rfl ?_)))))))
          refine Uw (t:=83) rfl (fun aoK=>?_) (fun aoK=>?_)
          ·refine ag 21 6 rfl rfl (U5 rfl (ah [2,3,4,89] rfl (U3 (fN u6 rfl rfl rfl (U2 Ac Ab rfl rfl rfl (U0 rfl (af 0 rfl (run_build (l:=[_,_]) rfl rfl dI rfl rfl) (ak 1 2 rfl rfl rfl (U6 (i:=0) (us:=[_,_]) (l':=[_,_]) (H':=[_,_,_]) rfl rfl S6 rfl rfl rfl rfl aA rfl rfl rfl rfl ?_)))))))))
           intro q8 dE;clear S6
           refine ag 2 1 rfl rfl (U5 rfl (ah [4,5] rfl (U3 (Uk hC [_,_] rfl rfl ⟨⟨_,rfl,Um (us:=[_,_]) ay rfl aA (dE.aw (i:=0) rfl ⟨rfl,rfl,trivial⟩)⟩,rfl,trivial⟩ ?_))))
           refine⟨_,rfl,_,aL,(dE.pick [] [] (by decide) trivial),?_⟩
           rw[sy hop qH]
           rw[fG (c:=3) (by unfold gG;rw[if_neg (by omega)]) (by decide)]
           exact eT 3
          ·refine aH 21 22 rfl rfl rfl rfl rfl rfl rfl rfl (Ub rfl rfl (U1 rfl rfl aT rfl (aC) (aB)) (aH 22 23 rfl rfl rfl rfl rfl rfl rfl rfl (Ub rfl rfl (U4 rfl rfl av rfl (S6.ar (i:=1) rfl rfl)) (aH 23 24 rfl rfl rfl rfl rfl rfl rfl rfl (Ub rfl rfl (U1 rfl rfl aT rfl (aC) (aB)) (aH 24 25 rfl rfl rfl rfl rfl rfl rfl rfl (Ub rfl rfl (U4 rfl rfl av rfl (S6.ar (i:=1) rfl rfl)) (aH 25 26 rfl rfl rfl rfl rfl rfl rfl rfl (Ub rfl rfl (bR rfl rfl rfl) (ag 26 1 rfl rfl (U5 rfl (ah [2,3,4,89] rfl (U3 ?_)))))))))))))
           refine Uf u6 ars rfl rfl rfl rfl (fun qG=>?_) (fun qG=>?_)
           ·refine U2 Ac Ab rfl rfl rfl (U0 rfl (af 0 rfl (run_build (l:=[_,_]) rfl rfl dI rfl rfl) (ak 1 2 rfl rfl rfl (U6 (i:=0) (us:=[_,_]) (l':=[_,_]) (H':=[_,_,_]) rfl rfl S6 rfl rfl rfl rfl aA rfl rfl rfl rfl ?_))))
            intro AH cI;clear S6
            refine ag 2 1 rfl rfl (U5 rfl (ah [4,5] rfl (U3 (Uk hC [_,_] rfl rfl ⟨⟨_,rfl,Um (us:=[_,_]) ay rfl aA (cI.aw (i:=0) rfl ⟨rfl,rfl,trivial⟩)⟩,rfl,trivial⟩ ?_))))
            refine⟨_,rfl,_,aL,(cI.pick [] [] (by decide) trivial),?_⟩
            rw[sy hop qH]
            rw[fG (c:=3) (by unfold gG;rw[if_neg (by omega)]) (by decide)]
            exact eT 3
           ·refine Ue rfl (ah [2,3,4] rfl (U3 (U2 Le Ld rfl rfl rfl (U2 arq Lc rfl rfl rfl (U0 rfl (af 0 rfl (U8 (us:=[_,_]) rfl rfl ay rfl aA (S6.aw (i:=2) rfl ⟨rfl,rfl,trivial⟩)) (af 1 rfl (U1 rfl rfl aT rfl (aC) (aB)) (af 2 rfl (U4 rfl rfl av rfl (S6.ar (i:=1) rfl rfl)) ?_))))))))
            refine af 3 rfl (U1 rfl rfl aT rfl (aC) (aB)) (af 4 rfl (U4 rfl rfl av rfl (S6.ar (i:=1) rfl rfl)) (ak 5 6 rfl rfl rfl (eZ rfl rfl rfl rfl rfl rfl rfl aeO S6 (aau d m.at_ m.aJ (az.mono S6.Uy) hn hab S6.aD) ?_)))
            intro ayb vz M6 uO cH amY;clear S6
            replace az:=az.mono (Hp.Ua uO cH.mx)
            obtain rfl:=amY
            refine af 6 rfl (dS rfl rfl) (U5 rfl (ah [2,3,4,97] rfl (U3 ?_)))
            refine dN Lb arp rfl rfl rfl rfl (fun zQ=>?_) (fun zQ=>?_)
            ·simp only[Bool.and_eq_true,Bool.or_eq_true,Bool.and_eq_false_iff,Bool.or_eq_false_iff,decide_eq_true_eq,decide_eq_false_iff_not,Bool.not_eq_true',Bool.not_eq_false']at zQ
             refine U2 aro arn rfl rfl rfl (U0 rfl (af 0 rfl (run_build (l:=[_,_]) rfl rfl dI rfl rfl) (ak 1 2 rfl rfl rfl (U6 (i:=0) (us:=[_,_]) (l':=[_,_]) (H':=[_,_,_]) rfl rfl cH rfl rfl rfl rfl aA rfl rfl rfl rfl ?_))))
             intro vw fY;clear cH
             refine ag 2 1 rfl rfl (U5 rfl (ah [4,5] rfl (U3 (Uk hC [_,_] rfl rfl ⟨⟨_,rfl,Um (us:=[_,_]) ay rfl aA (fY.aw (i:=0) rfl ⟨rfl,rfl,trivial⟩)⟩,rfl,trivial⟩ ?_))))
             refine⟨_,rfl,_,aL.trans uO,(fY.pick [] [] (by decide) trivial),?_⟩
             rw[sy hop qH]
             rw[fG (c:=8) (by unfold gG;rw[if_pos (by omega),if_neg (by rw[zQ];exact Bool.false_ne_true)]) (by decide)]
             exact eT 8
            ·simp only[Bool.and_eq_true,Bool.or_eq_true,Bool.and_eq_false_iff,Bool.or_eq_false_iff,decide_eq_true_eq,decide_eq_false_iff_not,Bool.not_eq_true',Bool.not_eq_false']at zQ
             refine Ue rfl (ah [2,3,4] rfl (U3 (U2 arl ark rfl rfl rfl (U0 rfl (af 0 rfl (U8 (us:=[_,_]) rfl rfl ay rfl aA (cH.aw (i:=2) rfl ⟨rfl,rfl,trivial⟩)) (af 1 rfl (U1 rfl rfl aT rfl (aC) (aB)) (af 2 rfl (U4 rfl rfl av rfl (cH.ar (i:=1) rfl rfl)) (af 3 rfl (U1 rfl rfl aT rfl (aC) (aB)) ?_))))))))
             refine af 4 rfl (U4 rfl rfl av rfl (cH.ar (i:=1) rfl rfl)) (cy 101 (.int .i64 ((m.at_.toNat:Nat):Int)) rfl (int_eq (by omega)) ?_)
             refine cy 103 (.int .i64 ((m.aJ.toNat:Nat):Int)) rfl (int_eq (by omega)) ?_
             refine ak 5 6 rfl rfl rfl (wh (C:=Uv) (l:=[_,_]) (pl:=[(0,1),(1,1)]) rfl rfl rfl rfl bA rfl rfl rfl rfl rfl cH ?_)
             intro iy ng dB;clear cH
             have hr6:=dB.Cf (C:=Uv) (zs:=[((m.at_.toNat:Nat):Int),((m.aJ.toNat:Nat):Int)]) (i:=0) rfl rfl (by show 2*_<=_;decide)
             have lv:=BH d ([((m.at_.toNat:Nat):Int),((m.aJ.toNat:Nat):Int)]) (az.mono dB.Uy) hr6 (gs:=[m.at_.toNat,m.aJ.toNat]) rfl (by intro x hx;simp at hx;omega) hn hab (by omega) dB.aD
             refine ak 6 7 rfl rfl rfl (eZ rfl rfl rfl rfl rfl rfl rfl DN dB (lv) ?_)
             intro anW q7 M7 Dy eV amX;clear dB
             replace az:=az.mono (Hp.Ua Dy eV.mx)
             obtain⟨A5,c5,rfl,Rz⟩:=amX
             refine ak 7 8 rfl rfl rfl (eZ rfl rfl rfl rfl rfl rfl rfl aeP eV (aax (bB d (bh [m.at_.toNat,m.aJ.toNat])) Rz eV.aD) ?_)
             intro aya vt M8 sO lq amW;clear eV
             replace az:=az.mono (Hp.Ua sO lq.mx)
             replace Rz:=Rz.mono sO
             obtain⟨A6,c6,rfl,hr8⟩:=amW
             refine af 8 rfl (Ui rfl rfl rfl) (af 9 rfl (Ui rfl rfl rfl) (ak 10 11 rfl rfl rfl (U6 (i:=1) (us:=[_,_]) (l':=[_,_]) (H':=[_,_,_,_]) rfl rfl lq rfl rfl rfl rfl aA rfl rfl rfl rfl ?_)))
             intro vq fX;clear lq
             refine ag 11 1 rfl rfl (U5 rfl (ah [4,5] rfl (U3 (Uk hC [_,_] rfl rfl ⟨⟨_,rfl,Um (us:=[_,_]) ay rfl aA (fX.aw (i:=1) rfl ⟨rfl,rfl,trivial⟩)⟩,rfl,trivial⟩ ?_))))
             refine⟨_,rfl,_,((aL.trans uO).trans Dy).trans sO,(fX.pick [] [] (by decide) trivial),?_⟩
             rw[sy hop qH]
             rw[show gG d m=(if(bB d (bh [m.at_.toNat,m.aJ.toNat])).loops<=16 then 0 else 2)from by unfold gG lI;rw[if_pos (by omega),if_pos (by simpa using zQ)]]
             exact⟨_,_,rfl,hr8⟩
      ·refine U2 arj La rfl rfl rfl (U0 rfl (af 0 rfl (bR rfl rfl rfl) (ag 1 1 rfl rfl (U5 rfl (ah [2,3,4,109] rfl (U3 ?_))))))
       refine Uf K9 ari rfl rfl rfl rfl (fun Iu=>?_) (fun Iu=>?_)
       ·refine U2 arh arf rfl rfl rfl (U0 rfl (af 0 rfl (U8 (us:=[_,_]) rfl rfl ay rfl aA (S6.aw (i:=2) rfl ⟨rfl,rfl,trivial⟩)) (af 1 rfl (U1 rfl rfl aT rfl (aC) (aB)) (af 2 rfl (U4 rfl rfl av rfl (S6.ar (i:=1) rfl rfl)) (ak 3 4 rfl rfl rfl (eZ rfl rfl rfl rfl rfl rfl rfl apv S6 (ahU d m (az.mono S6.Uy) hn hab S6.aD) ?_))))))
        intro ax8 Rk M9 ct mj amV;clear S6
        replace az:=az.mono (Hp.Ua ct mj.mx)
        obtain⟨A7,c7,rfl,AW⟩:=amV
        refine af 4 rfl (Ui rfl rfl rfl) (af 5 rfl (Ui rfl rfl rfl) (ak 6 7 rfl rfl rfl (U6 (i:=0) (us:=[_,_]) (l':=[_,_]) (H':=[_,_,_]) rfl rfl mj rfl rfl rfl rfl aA rfl rfl rfl rfl ?_)))
        intro vp gL;clear mj
        refine ag 7 1 rfl rfl (U5 rfl (ah [4,5] rfl (U3 (Uk hC [_,_] rfl rfl ⟨⟨_,rfl,Um (us:=[_,_]) ay rfl aA (gL.aw (i:=0) rfl ⟨rfl,rfl,trivial⟩)⟩,rfl,trivial⟩ ?_))))
        refine⟨_,rfl,_,aL.trans ct,(gL.pick [] [] (by decide) trivial),?_⟩
        rw[anb hop Iu]
        exact⟨_,_,rfl,AW⟩
       ·refine Ue rfl (bj (ah [4] rfl (U3 (U2 ard arb rfl rfl rfl (U0 rfl (af 0 rfl (run_build (l:=[_,_]) rfl rfl dI rfl rfl) (ak 1 2 rfl rfl rfl (U6 (i:=0) (us:=[_,_]) (l':=[_,_]) (H':=[_,_,_]) rfl rfl S6 rfl rfl rfl rfl aA rfl rfl rfl rfl ?_))))))))
        intro pS dX;clear S6
        refine ag 2 1 rfl rfl (U5 rfl (ah [4,5] rfl (U3 (Uk hC [_,_] rfl rfl ⟨⟨_,rfl,Um (us:=[_,_]) ay rfl aA (dX.aw (i:=0) rfl ⟨rfl,rfl,trivial⟩)⟩,rfl,trivial⟩ ?_))))
        refine⟨_,rfl,_,aL,(dX.pick [] [] (by decide) trivial),?_⟩
        rw[show dx d m=(⟨[],0⟩,6)from by unfold dx;rw[if_neg (by rw[hop];decide),if_pos (ahE Ju pQ uS qH Iu)]]
        exact eT 6
end Go.Proofs.YthppkofceancjaaGreat
namespace Go.Proofs.YthppkofceancjaaGreat
open Go.ChangeShapes Go.WideShapes Go.ChangeAt Go.RowKit
instance :Inhabited Mv:=⟨⟨0,0,0,0,false,0,false,false⟩⟩
def xY(m:Mv):List Value:=[.int .i64 m.kd,.int .i64 m.at_,.int .i64 m.aJ,.int .i64 m.ua,.bool m.ub,.int .i64 m.va,.bool m.vb,.bool m.ov]
def nT:Cd Mv:=⟨xY,8,64,28,⟨0,0,0,0,false,0,false,false⟩,fun _=>rfl,by
 intro x u hu
 simp[xY]at hu
 rcases hu with rfl|rfl|rfl|rfl|rfl|rfl|rfl|rfl<;>rfl⟩
theorem xk:ky Tryz.prog 35 nT:=⟨.agg [.int .i64 0,.int .i64 0,.int .i64 0,.int .i64 0,.bool false,.int .i64 0,.bool false,.bool false].toArray,Dt,by kernel_rfl,rfl,by decide,by decide⟩
end Go.Proofs.YthppkofceancjaaGreat
namespace Go.Proofs.YthppkofceancjaaGreat
open Go.ChangeShapes Go.WideShapes Go.ChangeAt Go.RowKit
structure Val(d:Dg):Prop where
 r:∀i s,i<d.ae.length->s<4->1<=Uq d i s/\Uq d i s<=2*(d.ae.length:Int)
 u:∀i s i' s',i<d.ae.length->s<4->i'<d.ae.length->s'<4->Uz d i s=Uz d i' s'->Uq d i s=Uq d i' s'->i=i'/\s=s'
theorem acy{d:Dg}(h:aN d=true):Val d:=by
 refine⟨fun i s hi hs=>eO h hi hs,fun i s i' s' hi hs hi' hs' he ha=>?_⟩
 obtain⟨a1,a2⟩:=eO h hi hs
 obtain⟨n,hn⟩:∃n:Nat,Uq d i s=(n:Int):=⟨(Uq d i s).toNat,by omega⟩
 have hc:∀b,cP d (n:Int) b (4*d.ae.length)=1:=fun b=>by
  have:=BS h n (by omega) (by omega)
  cases b
  ·exact this.1
  ·exact this.2
 obtain⟨j,_,_,h3,_⟩:=Ck (hc (!Uz d i s))
 have e1:=h3 (4*i+s) (by omega) (by rw[rU hs,hn];simp)
 have e2:=h3 (4*i'+s') (by omega) (by rw[rU hs',<-ha,hn,<-he];simp)
 omega
def pd(d:Dg)(b:Bool)(m J:Nat):Nat:=(List.range J).countP fun j=>decide (1<=cv d j/\cv d j<=(m:Int))&&(Uz d (j/4) (j%4)!=b)
theorem ai9(d:Dg)(b:Bool)(m J:Nat):pd d b (m+1) J=pd d b m J+cP d ((m+1:Nat):Int) b J:=by
 induction J with
 |zero=>simp[pd,cP]
 |succ J ih=>
  have e:∀m,pd d b m (J+1)=pd d b m J+if(decide (1<=cv d J/\cv d J<=(m:Int))&&(Uz d (J/4) (J%4)!=b))=true then 1 else 0:=by
   intro m
   unfold pd
   rw[List.range_succ,List.countP_append,List.countP_singleton]
  rw[e,e,ih,rI]
  unfold fI
  have h1:Uq d (J/4) (J%4)=cv d J:=rfl
  rw[h1]
  cases hE:(Uz d (J/4) (J%4)!=b)with
  |false=>simp
  |true=>
   simp only[Bool.and_true]
   by_cases hm:cv d J=((m+1:Nat):Int)
   ·rw[if_pos (decide_eq_true (by omega)),if_neg (fun h=>by have:=of_decide_eq_true h;omega),if_pos (decide_eq_true hm)];omega
   ·rw[if_neg (fun h:decide (cv d J=_)=true=>hm (of_decide_eq_true h))]
    by_cases h2:1<=cv d J/\cv d J<=(m:Int)
    ·rw[if_pos (decide_eq_true (by omega)),if_pos (decide_eq_true h2)];omega
    ·rw[if_neg (fun h=>by have:=of_decide_eq_true h;omega),if_neg (fun h=>h2 (of_decide_eq_true h))];omega
theorem ai8(d:Dg)(b:Bool)(J:Nat):pd d b 0 J=0:=by
 unfold pd
 rw[List.countP_eq_zero]
 intro j _ h
 simp at h
 omega
theorem ab8(d:Dg)(b:Bool)(i:Nat):(List.range (4*i)).countP (fun j=>Uz d (j/4) (j%4)!=b)=2*i:=by
 induction i with
 |zero=>rfl
 |succ i ih=>
  have e:List.range (4*(i+1))=List.range (4*i)++[4*i,4*i+1,4*i+2,4*i+3]:=by
   rw[show 4*(i+1)=4*i+1+1+1+1 by omega,List.range_succ,List.range_succ,List.range_succ,List.range_succ]
   simp
  rw[e,List.countP_append,ih]
  have q:∀s,s<4->(4*i+s)/4=i/\(4*i+s)%4=s:=fun s hs=>by omega
  have h0:=q 0 (by omega)
  have h1:=q 1 (by omega)
  have h2:=q 2 (by omega)
  have h3:=q 3 (by omega)
  rw[Nat.add_zero]at h0
  simp only[List.countP_cons,List.countP_nil,h0.1,h0.2,h1.1,h1.2,h2.1,h2.2,h3.1,h3.2]
  unfold Uz jc
  cases (ga d.ae i).plus<;>cases b<;>simp<;>omega
theorem aiJ{f:Nat->Nat}:∀m,(∀a,a<m->f a<=1)->m<=((List.range m).map f).sum->∀a,a<m->f a=1:=by
 intro m
 induction m with
 |zero=>intro _ _ a ha;omega
 |succ m ih=>
  intro h1 h2 a ha
  rw[List.range_succ,List.map_append,List.sum_append]at h2
  simp only[List.map_cons,List.map_nil,List.sum_cons,List.sum_nil]at h2
  have hm:=h1 m (by omega)
  have hs:((List.range m).map f).sum<=m:=by
   have:∀k,k<=m->((List.range k).map f).sum<=k:=by
    intro k
    induction k with
    |zero=>intro _;exact Nat.le_refl _
    |succ k ihk=>
     intro hk
     rw[List.range_succ,List.map_append,List.sum_append]
     simp only[List.map_cons,List.map_nil,List.sum_cons,List.sum_nil]
     have:=ihk (by omega)
     have:=h1 k (by omega)
     omega
   exact this m (Nat.le_refl _)
  by_cases e:a=m
  ·subst e;omega
  ·exact ih (fun a ha=>h1 a (by omega)) (by omega) a (by omega)
theorem aj7(d:Dg)(b:Bool)(J m:Nat):pd d b m J=((List.range m).map fun a=>cP d ((a+1:Nat):Int) b J).sum:=by
 induction m with
 |zero=>exact ai8 d b J
 |succ m ih=>rw[ai9,ih,List.range_succ,List.map_append,List.sum_append];simp
theorem ajj{d:Dg}(V:Val d)(a:Int)(b:Bool):∀J,J<=4*d.ae.length->cP d a b J<=1:=by
 intro J
 induction J with
 |zero=>intro _;simp[cP]
 |succ J ih=>
  intro hJ
  rw[rI]
  by_cases hE:fI d a b J=true
  ·rw[if_pos hE]
   have h0:cP d a b J=0:=by
    unfold cP
    rw[List.countP_eq_zero]
    intro j hj pX
    have hj':j<J:=by simpa using hj
    unfold fI at hE pX
    rw[Bool.and_eq_true,decide_eq_true_iff]at hE pX
    have hx:Uz d (j/4) (j%4)=Uz d (J/4) (J%4):=by
     have h1:=hE.2;have h2:=pX.2
     cases b<;>cases h3:Uz d (j/4) (j%4)<;>cases h4:Uz d (J/4) (J%4)<;>simp_all
    have:=V.u (j/4) (j%4) (J/4) (J%4) (by omega) (by omega) (by omega) (by omega) hx (pX.1.trans hE.1.symm)
    omega
   omega
  ·rw[if_neg hE]
   have:=ih (by omega)
   omega
theorem aiq{d:Dg}(V:Val d):aN d=true:=by
 have key:∀b a,a<2*d.ae.length->cP d ((a+1:Nat):Int) b (4*d.ae.length)=1:=by
  intro b
  refine aiJ (f:=fun a=>cP d ((a+1:Nat):Int) b (4*d.ae.length)) _ (fun a _=>ajj V _ _ _ (Nat.le_refl _)) ?_
  rw[<-aj7]
  have e:pd d b (2*d.ae.length) (4*d.ae.length)=2*d.ae.length:=by
   refine Eq.trans ?_ (ab8 d b d.ae.length)
   unfold pd
   refine List.countP_congr fun j hj=>?_
   have hj':j<4*d.ae.length:=by simpa using hj
   have:=V.r (j/4) (j%4) (by omega) (by omega)
   have h2:decide (1<=cv d j/\cv d j<=((2*d.ae.length:Nat):Int))=true:=decide_eq_true (by unfold cv;push_cast;exact this)
   rw[h2,Bool.true_and]
  omega
 refine aa6 fun a h0 h1=>?_
 unfold kO
 have e:=fun b=>key b (a-1) (by omega)
 simp only[show a-1+1=a by omega]at e
 rw[e false,e true];rfl
theorem aj0(cl:List Int)(l:List Cr)(v:Cr){s:Nat}(hs:s<4):cK (xX cl l v) s=pT cl l (cK v s)/\jc (xX cl l v) s=jc v s:=by
 have:s=0\/s=1\/s=2\/s=3:=by omega
 rcases this with rfl|rfl|rfl|rfl<;>exact⟨rfl,rfl⟩
theorem acY {P : Nat → Bool} {x y : Nat} (hx : P x = true) (hy : P y = true) (e : cn P (x + 1) = cn P (y + 1)) : x = y := by
  have mono : ∀ a b, a ≤ b → cn P a ≤ cn P b := by
    intro a b hab
    induction b with
    | zero => obtain rfl : a = 0 := by omega
              exact Nat.le_refl _
    | succ b ih =>
      by_cases h : a = b + 1
      · rw [h]; exact Nat.le_refl _
      · have := ih (by omega); rw [cn]; omega
  have h1 := oz hx
  have h2 := oz hy
  rcases Nat.lt_trichotomy x y with h | h | h
  · have := mono (x + 1) y (by omega); omega
  · exact h
  · have := mono (y + 1) x (by omega); omega
end Go.Proofs.YthppkofceancjaaGreat
namespace Go.Proofs.YthppkofceancjaaGreat
open Go.RowKit
def uK(gn:Nat->Bool)(c:Nat):List Nat:=(List.range c).filter fun i=>!gn i
theorem abM(d:Dg)(gn:Nat->Bool)(c:Nat):tRN d gn c=(uK gn c).map (ga d.ae):=by
 induction c with
 |zero=>rfl
 |succ c ih=>
  unfold uK at ih ⊢
  rw[tRN,List.range_succ,List.filter_append,List.map_append,ih]
  cases hg:gn c with
  |true=>simp[hg]
  |false=>simp[hg]
def cF(d:Dg)(gn:Nat->Bool)(i:Nat):Nat:=ga (uK gn d.ae.length) i
theorem yK(d:Dg)(gn:Nat->Bool):(uK gn d.ae.length).length=(tR d gn).length:=by unfold tR;rw[abM,List.length_map]
theorem qo{d:Dg}{gn:Nat->Bool}{i:Nat}(hi:i<(tR d gn).length):cF d gn i<d.ae.length/\gn (cF d gn i)=false:=by
 rw[<-yK]at hi
 have:=iB hi
 obtain⟨h1,h2⟩:=List.mem_filter.1 this
 exact⟨List.mem_range.1 h1,by unfold cF;simpa using h2⟩
theorem acG{d:Dg}{gn:Nat->Bool}{i:Nat}(hi:i<(tR d gn).length):ga (tR d gn) i=ga d.ae (cF d gn i):=by
 have hl:=yK d gn
 unfold tR at hi ⊢
 rw[abM,CO _ _ _ (by unfold tR at hl;omega)]
 rfl
theorem ajI{d:Dg}{gn:Nat->Bool}{i j:Nat}(hi:i<(tR d gn).length)(hj:j<(tR d gn).length)(e:cF d gn i=cF d gn j):i=j:=by
 rw[<-yK]at hi hj
 have hnd:(uK gn d.ae.length).Nodup:=List.nodup_range.filter _
 unfold cF at e
 rw[eo hi,eo hj]at e
 rcases Nat.lt_trichotomy i j with h|h|h
 ·exact absurd e (List.pairwise_iff_getElem.1 hnd i j hi hj h)
 ·exact h
 ·exact absurd e.symm (List.pairwise_iff_getElem.1 hnd j i hj hi h)
theorem abP{d:Dg}{gn:Nat->Bool}{c:Nat}(hc:c<d.ae.length)(hg:gn c=false):∃i,i<(tR d gn).length/\cF d gn i=c:=by
 have hm:c∈uK gn d.ae.length:=List.mem_filter.2 ⟨List.mem_range.2 hc,by rw[hg];rfl⟩
 obtain⟨i,hi,e⟩:=List.mem_iff_getElem.1 hm
 exact⟨i,by rw[<-yK];exact hi,by unfold cF;rw[eo hi,e]⟩
theorem CI(d:Dg)(gn:Nat->Bool):(bB d gn).ae.length=(tR d gn).length:=List.length_map ..
theorem qq{d:Dg}{gn:Nat->Bool}{i s:Nat}(hi:i<(tR d gn).length)(hs:s<4):Uq (bB d gn) i s=pT (tC d gn) (tR d gn) (Uq d (cF d gn i) s)/\Uz (bB d gn) i s=Uz d (cF d gn i) s:=by
 have e:ga (bB d gn).ae i=xX (tC d gn) (tR d gn) (ga d.ae (cF d gn i)):=by
  show ga (List.map _ _) i=_
  rw[CO _ _ _ hi,acG hi]
 unfold Uq Uz
 rw[e]
 exact aj0 _ _ _ hs
def cT(d:Dg)(gn:Nat->Bool)(x:Nat):Nat:=(ga (tC d gn) x).toNat
theorem sH{d:Dg}(h:aN d=true)(gn:Nat->Bool){x:Nat}(hx:x<2*d.ae.length+1):ga (tC d gn) x=(cT d gn x:Int)/\cT d gn x<=x/\ga (tC d gn) (cT d gn x)=(cT d gn x:Int):=by
 obtain⟨o1,o2,o3⟩:=(wL h gn _ (Nat.le_refl _)).2 x hx
 change 0<=ga (tC d gn) x at o1
 change ga (tC d gn) x<=x at o2
 change ga (tC d gn) (ga (tC d gn) x).toNat=ga (tC d gn) x at o3
 have e:ga (tC d gn) x=(cT d gn x:Int):=by unfold cT;omega
 refine⟨e,by omega,?_⟩
 rw[<-e]
 exact o3
theorem si{d:Dg}(h:aN d=true){gn:Nat->Bool}{i s:Nat}(hi:i<(tR d gn).length)(hs:s<4):dZ (tC d gn) (tR d gn) (cT d gn (Uq d (cF d gn i) s).toNat)=true/\pT (tC d gn) (tR d gn) (Uq d (cF d gn i) s)=(cn (dZ (tC d gn) (tR d gn)) (cT d gn (Uq d (cF d gn i) s).toNat+1):Int):=by
 obtain⟨s1,s2⟩:=qo hi
 have ha:=eO h s1 hs
 have hx:(Uq d (cF d gn i) s).toNat<2*d.ae.length+1:=by omega
 obtain⟨c1,c2,c3⟩:=sH h gn hx
 have hp:=CJ h gn (x:=(Uq d (cF d gn i) s).toNat) (by omega) hx
 have hl:=Gz (d:=d) (gn:=gn) (v:=ga d.ae (cF d gn i)) (H0 s1 s2) hs
 change jV (tC d gn) (tR d gn) (ga (tC d gn) (Uq d (cF d gn i) s).toNat)=true at hl
 rw[c1]at hl hp
 refine⟨?_,?_⟩
 ·unfold dZ
  rw[hl,decide_eq_true (show 1<=cT d gn (Uq d (cF d gn i) s).toNat by omega),decide_eq_true c3];rfl
 ·rfl
theorem CK(d:Dg)(c:Nat){s:Nat}(hs:s<4):Uz d c ((s+2)%4)=!Uz d c s:=by
 unfold Uz jc
 have:s=0\/s=1\/s=2\/s=3:=by omega
 rcases this with rfl|rfl|rfl|rfl<;>cases (ga d.ae c).plus<;>simp
theorem akN {d : Dg} {gn : Nat → Bool} {c s : Nat} (hc : c < d.ae.length) (hg : gn c = true) (hs : s < 4) (he : Uz d c s = true) : ∃ j, j < 2 * d.ae.length ∧ ek d gn j = (Uq d c s).toNat ∧ ei d gn j = (Uq d c ((s + 2) % 4)).toNat := by
  by_cases h0 : s = 0
  · subst h0
    refine ⟨2 * c, by omega, ?_, ?_⟩
    · unfold ek; rw [show 2 * c / 2 = c by omega, if_pos hg, if_pos (by omega)]; rfl
    · unfold ei; rw [show 2 * c / 2 = c by omega, if_pos hg, if_pos (by omega)]; rfl
  · refine ⟨2 * c + 1, by omega, ?_, ?_⟩
    · unfold ek; rw [show (2 * c + 1) / 2 = c by omega, if_pos hg, if_neg (by omega)]
      unfold iM Uq
      unfold Uz jc at he
      cases hp : (ga d.ae c).plus with
      | true => obtain rfl : s = 3 := by simp [hp] at he; omega
                rw [if_pos rfl]; rfl
      | false => obtain rfl : s = 1 := by simp [hp] at he; omega
                 rw [if_neg (by simp)]; rfl
    · unfold ei; rw [show (2 * c + 1) / 2 = c by omega, if_pos hg, if_neg (by omega)]
      unfold iM Uq
      unfold Uz jc at he
      cases hp : (ga d.ae c).plus with
      | true => obtain rfl : s = 3 := by simp [hp] at he; omega
                rw [if_pos rfl]; rfl
      | false => obtain rfl : s = 1 := by simp [hp] at he; omega
                 rw [if_neg (by simp)]; rfl
theorem akO{d:Dg}{gn:Nat->Bool}{j:Nat}(hj:j<2*d.ae.length)(hg:gn (j/2)=true):∃s,s<4/\Uz d (j/2) s=true/\ek d gn j=(Uq d (j/2) s).toNat/\ei d gn j=(Uq d (j/2) ((s+2)%4)).toNat:=by
 unfold ek ei
 rw[if_pos hg,if_pos hg]
 by_cases h0:j%2=0
 ·rw[if_pos h0,if_pos h0]
  exact⟨0,by omega,rfl,rfl,rfl⟩
 ·rw[if_neg h0,if_neg h0]
  unfold iM
  cases hp:(ga d.ae (j/2)).plus with
  |true=>exact⟨3,by omega,by unfold Uz jc;simp[hp],by rw[if_pos rfl];rfl,by rw[if_pos rfl];rfl⟩
  |false=>exact⟨1,by omega,by unfold Uz jc;simp[hp],by rw[if_neg (by simp)];rfl,by rw[if_neg (by simp)];rfl⟩
theorem aiI{d:Dg}{gn:Nat->Bool}{j:Nat}(hg:gn (j/2)=false):ek d gn j=ei d gn j:=by
 unfold ek ei
 rw[if_neg (by rw[hg];exact Bool.false_ne_true),if_neg (by rw[hg];exact Bool.false_ne_true)]
theorem acE{d:Dg}(h:aN d=true)(gn:Nat->Bool)(Z:Nat->Prop)(hZ:∀c s,c<d.ae.length->gn c=true->s<4->Uz d c s=true->(Z (Uq d c s).toNat<->Z (Uq d c ((s+2)%4)).toNat)){x y:Nat}(hx:x<2*d.ae.length+1)(hy:y<2*d.ae.length+1)(e:cT d gn x=cT d gn y):Z x<->Z y:=by
 refine yP (N:=2*d.ae.length+1) (K:=2*d.ae.length) (e1:=ek d gn) (e2:=ei d gn) (fun k hk=>⟨(nK h gn hk).1,(nK h gn hk).2.1⟩) Z (fun j hj=>?_) _ (Nat.le_refl _) x y hx hy ?_
 ·cases hg:gn (j/2)with
  |true=>
   obtain⟨s,hs,he,e1,e2⟩:=akO hj hg
   rw[e1,e2]
   exact hZ (j/2) s (by omega) hg hs he
  |false=>rw[aiI hg]
 ·show ga (tC d gn) x=ga (tC d gn) y
  rw[(sH h gn hx).1,(sH h gn hy).1,e]
theorem acp{d:Dg}(h:aN d=true){gn:Nat->Bool}{c s:Nat}(hc:c<d.ae.length)(hg:gn c=true)(hs:s<4):cT d gn (Uq d c s).toNat=cT d gn (Uq d c ((s+2)%4)).toNat:=by
 have key:∀s,s<4->Uz d c s=true->cT d gn (Uq d c s).toNat=cT d gn (Uq d c ((s+2)%4)).toNat:=fun s hs he=>by
  obtain⟨j,hj,e1,e2⟩:=akN hc hg hs he
  have:=yj (N:=2*d.ae.length+1) (e1:=ek d gn) (e2:=ei d gn) (k:=j) (nK h gn hj).1 (nK h gn hj).2.1 (2*d.ae.length) hj
  rw[e1,e2]at this
  exact congrArg Int.toNat this
 cases he:Uz d c s with
 |true=>exact key s hs he
 |false=>
  have:=key ((s+2)%4) (by omega) (by rw[CK d c hs,he];rfl)
  rw[show((s+2)%4+2)%4=s by omega]at this
  exact this.symm
def kW(d:Dg)(gn:Nat->Bool)(b:Bool)(x:Nat):Nat:=if gn (Ud d (x:Int) b).1=true then(Uq d (Ud d (x:Int) b).1 (((Ud d (x:Int) b).2+2)%4)).toNat else x
def vE(f:Nat->Nat):Nat->Nat->Nat
 |0,x=>x
 |m+1,x=>vE f m (f x)
theorem acO{d:Dg}(h:aN d=true){gn:Nat->Bool}{b:Bool}{c s:Nat}(hc:c<d.ae.length)(hg:gn c=true)(hs:s<4)(he:Uz d c s=!b):kW d gn b (Uq d c s).toNat=(Uq d c ((s+2)%4)).toNat/\(Ud d (((Uq d c s).toNat:Nat):Int) b)=(c,s):=by
 have ha:=eO h hc hs
 have e:=pz h (b:=b) hc hs he
 unfold kW
 rw[show(((Uq d c s).toNat:Nat):Int)=Uq d c s by omega,e,if_pos hg]
 exact⟨rfl,rfl⟩
theorem aiP{d:Dg}(h:aN d=true){gn:Nat->Bool}(b:Bool){x y:Nat}(hx:x<2*d.ae.length+1)(hy:y<2*d.ae.length+1)(gx:gn (Ud d (x:Int) b).1=false)(gy:gn (Ud d (y:Int) b).1=false)(e:cT d gn x=cT d gn y):x=y:=by
 have step:∀c s,c<d.ae.length->gn c=true->s<4->Uz d c s=!b->((∃m,vE (kW d gn b) m (Uq d c s).toNat=x)<->∃m,vE (kW d gn b) m (Uq d c ((s+2)%4)).toNat=x):=fun c s hc hg hs he=>by
  obtain⟨e1,e2⟩:=acO h hc hg hs he
  constructor
  ·rintro⟨m,hm⟩
   cases m with
   |zero=>
    have hm':(Uq d c s).toNat=x:=hm
    rw[hm']at e2
    rw[e2,hg]at gx
    cases gx
   |succ m=>exact⟨m,by rw[<-e1];exact hm⟩
  ·rintro⟨m,hm⟩
   exact⟨m+1,by show vE _ m (kW d gn b _)=x;rw[e1];exact hm⟩
 obtain⟨m,hm⟩:=(acE h gn (fun z=>∃m,vE (kW d gn b) m z=x) (fun c s hc hg hs he=>by
  cases b with
  |false=>exact step c s hc hg hs he
  |true=>
   have:=step c ((s+2)%4) hc hg (by omega) (by rw[CK d c hs,he])
   rw[show((s+2)%4+2)%4=s by omega]at this
   exact this.symm) hx hy e).1 ⟨0,rfl⟩
 have fix:∀m,vE (kW d gn b) m y=y:=by
  intro m
  induction m with
  |zero=>rfl
  |succ m ih=>
   have:kW d gn b y=y:=by unfold kW;rw[if_neg (by rw[gy];exact Bool.false_ne_true)]
   show vE _ m (kW d gn b y)=y
   rw[this,ih]
 rw[<-hm,fix m]
theorem ahV{d:Dg}(h:aN d=true){gn:Nat->Bool}{x:Nat}(h0:1<=x)(hx:x<=2*d.ae.length)(gx:gn (Ud d (x:Int) true).1=false):∃y,1<=y/\y<=2*d.ae.length/\cT d gn y=cT d gn x/\gn (Ud d (y:Int) false).1=false:=by
 refine Classical.byContradiction fun hno=>?_
 have hno:∀y,1<=y->y<=2*d.ae.length->cT d gn y=cT d gn x->gn (Ud d (y:Int) false).1=true:=fun y h1 h2 h3=>by
  cases hg:gn (Ud d (y:Int) false).1 with
  |true=>rfl
  |false=>exact absurd ⟨y,h1,h2,h3,hg⟩ hno
 obtain⟨u,hu0,hu⟩:∃u:Nat->Nat,u 0=x/\∀m,u (m+1)=kW d gn false (u m):=⟨fun m=>Nat.rec x (fun _ y=>kW d gn false y) m,rfl,fun _=>rfl⟩
 have step:∀y,1<=y->y<=2*d.ae.length->cT d gn y=cT d gn x->1<=kW d gn false y/\kW d gn false y<=2*d.ae.length/\cT d gn (kW d gn false y)=cT d gn x/\Ud d ((kW d gn false y:Nat):Int) true=((Ud d (y:Int) false).1,((Ud d (y:Int) false).2+2)%4):=fun y h1 h2 h3=>by
  have hg:=hno y h1 h2 h3
  obtain⟨e1,e2,_⟩:=eF h (a:=(y:Int)) (by omega) false
  obtain⟨t1,t2⟩:=pE h (a:=(y:Int)) (by omega) false
  obtain⟨n1,_⟩:=acO h (b:=false) e1 hg e2 t2
  rw[t1,Int.toNat_natCast]at n1
  have hb:=eO h e1 (k:=((Ud d (y:Int) false).2+2)%4) (by omega)
  rw[n1]
  refine⟨by omega,by omega,?_,?_⟩
  ·rw[<-acp h e1 hg e2,t1,Int.toNat_natCast,h3]
  ·rw[show((((Uq d (Ud d (y:Int) false).1 (((Ud d (y:Int) false).2+2)%4)).toNat:Nat):Int))=Uq d (Ud d (y:Int) false).1 (((Ud d (y:Int) false).2+2)%4) by omega]
   exact pz h (b:=true) e1 (by omega) (by rw[CK d _ e2,t2];rfl)
 have hall:∀m,1<=u m/\u m<=2*d.ae.length/\cT d gn (u m)=cT d gn x:=by
  intro m
  induction m with
  |zero=>rw[hu0];exact⟨h0,hx,rfl⟩
  |succ m ih=>
   obtain⟨s1,s2,s3,_⟩:=step (u m) ih.1 ih.2.1 ih.2.2
   rw[hu]
   exact⟨s1,s2,s3⟩
 have Ia:∀m,Ud d ((u (m+1):Nat):Int) true=((Ud d (u m:Int) false).1,((Ud d (u m:Int) false).2+2)%4):=fun m=>by
  rw[hu]
  exact(step (u m) (hall m).1 (hall m).2.1 (hall m).2.2).2.2.2
 have inj:∀i k,u i=u (i+k+1)->False:=by
  intro i
  induction i with
  |zero=>
   intro k e
   rw[hu0,show 0+k+1=k+1 by omega]at e
   have h1:=Ia k
   rw[<-e]at h1
   have h2:=hno (u k) (hall k).1 (hall k).2.1 (hall k).2.2
   rw[h1,h2]at gx
   cases gx
  |succ i ih=>
   intro k e
   have h1:=Ia i
   have h2:=Ia (i+k+1)
   rw[show i+k+1+1=i+1+k+1 by omega,<-e,h1]at h2
   obtain⟨_,a2,_⟩:=eF h (a:=(u i:Int)) (by have:=hall i;omega) false
   obtain⟨_,b2,_⟩:=eF h (a:=(u (i+k+1):Int)) (by have:=hall (i+k+1);omega) false
   obtain⟨t1,_⟩:=pE h (a:=(u i:Int)) (by have:=hall i;omega) false
   obtain⟨t2,_⟩:=pE h (a:=(u (i+k+1):Int)) (by have:=hall (i+k+1);omega) false
   have p1:=congrArg Prod.fst h2
   have p2:=congrArg Prod.snd h2
   dsimp only at p1 p2
   have p3:(Ud d (u i:Int) false).2=(Ud d (u (i+k+1):Int) false).2:=by omega
   rw[p1,p3,t2]at t1
   exact ih k (by omega)
 have hnd:((List.range (2*d.ae.length+1)).map u).Nodup:=by
  rw[List.nodup_iff_pairwise_ne,List.pairwise_map]
  refine List.Pairwise.imp_of_mem (R:=fun a b=>a<b) (fun{a b} _ _ hab e=>?_) List.pairwise_lt_range
  exact inj a (b-a-1) (by rw[show a+(b-a-1)+1=b by omega];exact e)
 have:=wy hnd (ys:=(List.range (2*d.ae.length)).map (·+1)) fun y hy=>by
  obtain⟨m,_,rfl⟩:=List.mem_map.1 hy
  have:=hall m
  exact List.mem_map.2 ⟨u m-1,List.mem_range.2 (by omega),by omega⟩
 rw[List.length_map,List.length_map,List.length_range,List.length_range]at this
 omega
theorem ady (P : Nat → Bool) {a b : Nat} (hab : a ≤ b) : cn P a ≤ cn P b := by
  induction b with
  | zero => obtain rfl : a = 0 := by omega
            exact Nat.le_refl _
  | succ b ih =>
    by_cases h : a = b + 1
    · rw [h]; exact Nat.le_refl _
    · have := ih (by omega); rw [cn]; omega
theorem aiG{d:Dg}(h:aN d=true)(gn:Nat->Bool):cn (dZ (tC d gn) (tR d gn)) (2*d.ae.length+1)<=2*(tR d gn).length:=by
 rw[tM]
 have hb:=ab8 (bB d gn) false (tR d gn).length
 rw[<-hb,List.countP_eq_length_filter]
 refine Nat.le_trans (wy ((List.nodup_range).filter _) (ys:=((List.range (4*(tR d gn).length)).filter fun j=>Uz (bB d gn) (j/4) (j%4)!=false).map fun j=>cT d gn (Uq d (cF d gn (j/4)) (j%4)).toNat) fun x hx=>?_) (Nat.le_of_eq (List.length_map ..))
 obtain⟨hx1,hx2⟩:=List.mem_filter.1 hx
 have ayw:x<2*d.ae.length+1:=by simpa using hx1
 unfold dZ at hx2
 rw[Bool.and_eq_true,Bool.and_eq_true]at hx2
 obtain⟨v,hv,t,ht,Rx⟩:=GH.1 hx2.2.2
 obtain⟨i0,hi0,rfl⟩:=List.mem_iff_getElem.1 hv
 have ev:(tR d gn)[i0]=ga d.ae (cF d gn i0):=by rw[<-acG hi0,eo hi0]
 rw[ev]at Rx
 change(x:Int)=ga (tC d gn) (Uq d (cF d gn i0) t).toNat at Rx
 obtain⟨s1,s2⟩:=qo hi0
 have ha:=eO h s1 ht
 rw[(sH h gn (by omega)).1]at Rx
 have aea:x=cT d gn (Uq d (cF d gn i0) t).toNat:=by omega
 have key:∀i s,i<(tR d gn).length->s<4->Uz d (cF d gn i) s=true->cT d gn (Uq d (cF d gn i) s).toNat=x->x∈((List.range (4*(tR d gn).length)).filter fun j=>Uz (bB d gn) (j/4) (j%4)!=false).map fun j=>cT d gn (Uq d (cF d gn (j/4)) (j%4)).toNat:=by
  intro i s hi hs he hc
  refine List.mem_map.2 ⟨4*i+s,List.mem_filter.2 ⟨by simp;omega,?_⟩,?_⟩
  ·rw[show(4*i+s)/4=i by omega,show(4*i+s)%4=s by omega,(qq hi hs).2,he];rfl
  ·simp only[show(4*i+s)/4=i by omega,show(4*i+s)%4=s by omega];exact hc
 cases hE:Uz d (cF d gn i0) t with
 |true=>exact key i0 t hi0 ht hE aea.symm
 |false=>
  have eb:=pz h (b:=true) s1 ht hE
  have ez:(((Uq d (cF d gn i0) t).toNat:Nat):Int)=Uq d (cF d gn i0) t:=by omega
  obtain⟨y,y1,y2,y3,y4⟩:=ahV h (gn:=gn) (x:=(Uq d (cF d gn i0) t).toNat) (by omega) (by omega) (by rw[ez,eb];exact s2)
  obtain⟨e1,e2,_⟩:=eF h (a:=(y:Int)) (by omega) false
  obtain⟨t1,t2⟩:=pE h (a:=(y:Int)) (by omega) false
  obtain⟨j,hj,ej⟩:=abP e1 y4
  refine key j (Ud d (y:Int) false).2 hj e2 (by rw[ej,t2];rfl) ?_
  rw[ej,t1,Int.toNat_natCast,y3,aea]
theorem abL{d:Dg}(h:aN d=true)(gn:Nat->Bool):aN (bB d gn)=true:=by
 have V:=acy h
 have hl:=CI d gn
 refine aiq ⟨fun i s hi hs=>?_,fun i s i' s' hi hs hi' hs' he ha=>?_⟩
 ·rw[hl]at hi ⊢
  rw[(qq hi hs).1]
  obtain⟨r1,r2⟩:=si h hi hs
  rw[r2]
  have h1:=oz r1
  obtain⟨s1,s2⟩:=qo hi
  have har:=V.r _ s s1 hs
  have hx:=(sH h gn (x:=(Uq d (cF d gn i) s).toNat) (by omega)).2.1
  have h2:=ady (dZ (tC d gn) (tR d gn)) (a:=cT d gn (Uq d (cF d gn i) s).toNat+1) (b:=2*d.ae.length+1) (by omega)
  have h3:=aiG h gn
  omega
 ·rw[hl]at hi hi'
  obtain⟨a1,a2⟩:=qq hi hs
  obtain⟨b1,b2⟩:=qq hi' hs'
  rw[a1,b1]at ha
  rw[a2,b2]at he
  obtain⟨r1,r2⟩:=si h hi hs
  obtain⟨t1,t2⟩:=si h hi' hs'
  rw[r2,t2]at ha
  have hc:=acY r1 t1 (by omega)
  obtain⟨s1,s2⟩:=qo hi
  obtain⟨u1,u2⟩:=qo hi'
  have hr1:=V.r _ s s1 hs
  have hr2:=V.r _ s' u1 hs'
  have z1:(((Uq d (cF d gn i) s).toNat:Nat):Int)=Uq d (cF d gn i) s:=by omega
  have z2:(((Uq d (cF d gn i') s').toNat:Nat):Int)=Uq d (cF d gn i') s':=by omega
  obtain⟨b,hb⟩:∃b,Uz d (cF d gn i) s=!b:=⟨!Uz d (cF d gn i) s,by simp⟩
  have g1:=pz h (b:=b) s1 hs hb
  have g2:=pz h (b:=b) u1 hs' (by rw[<-he];exact hb)
  have hEq:=aiP h (gn:=gn) b (x:=(Uq d (cF d gn i) s).toNat) (y:=(Uq d (cF d gn i') s').toNat) (by omega) (by omega) (by rw[z1,g1];exact s2) (by rw[z2,g2];exact u2) hc
  obtain⟨g1,g2⟩:=V.u _ s _ s' s1 hs u1 hs' he (by omega)
  exact⟨ajI hi hi' g1,g2⟩
end Go.Proofs.YthppkofceancjaaGreat
namespace Go.Proofs.YthppkofceancjaaGreat
open Go.RowKit
def vC(es:List (Nat×Nat))(N:Nat)(P:Nat->Bool):Nat:=cn (fun x=>P x&&decide (cmpE es x=x)) N
theorem Gv{α:Type}{es:List (Nat×Nat)}{P:Nat->α}(h:∀e∈es,P e.1=P e.2)(x:Nat):P (cmpE es x)=P x:=by
 induction es generalizing x with
 |nil=>rfl
 |cons e es ih=>
  have ih:=fun x=>ih (fun e he=>h e (by simp[he])) x
  rw[cmpE]
  split
  ·rename_i h1
   rw[ih,h e (by simp),<-ih e.2,<-h1,ih]
  ·exact ih x
theorem ajk{es:List (Nat×Nat)}{e:Nat×Nat}(hne:cmpE es e.1≠cmpE es e.2){x:Nat}(hx:x≠cmpE es e.2):cmpE (e::es) x=x<->cmpE es x=x:=by
 rw[cmpE]
 by_cases h:cmpE es x=cmpE es e.2
 ·rw[if_pos h]
  constructor
  ·intro h'
   rw[<-h',BQ]at h
   exact absurd h hne
  ·intro h'
   exact absurd (h'.symm.trans h) hx
 ·rw[if_neg h]
theorem aiT{es:List (Nat×Nat)}{e:Nat×Nat}{N:Nat}{P:Nat->Bool}(hl:∀e∈es,e.1<N/\e.2<N)(h2:e.2<N)(hne:cmpE es e.1≠cmpE es e.2)(hp:∀f∈e::es,P f.1=P f.2):vC (e::es) N P+(if P e.1=true then 1 else 0)=vC es N P:=by
 have hinv:=fun x=>Gv (es:=es) (P:=P) (fun f hf=>hp f (by simp[hf])) x
 cases hq:P e.1 with
 |true=>
  rw[if_pos rfl]
  refine CC (z:=cmpE es e.2) (aco hl h2) ?_ ?_ fun x _ hx=>?_
  ·show(P (cmpE es e.2)&&decide (cmpE es (cmpE es e.2)=cmpE es e.2))=true
   rw[hinv,<-hp e (by simp),hq,decide_eq_true (BQ es e.2)]
   rfl
  ·show(P (cmpE es e.2)&&decide (cmpE (e::es) (cmpE es e.2)=cmpE es e.2))=false
   rw[decide_eq_false,Bool.and_false]
   rw[cmpE,BQ,if_pos rfl]
   exact hne
  ·exact congrArg (P x&&·) (decide_eq_decide.2 (ajk hne hx))
 |false=>
  rw[if_neg Bool.false_ne_true,Nat.add_zero]
  refine p9 N fun x _=>?_
  show(P x&&_)=(P x&&_)
  cases hx:P x with
  |false=>rfl
  |true=>
   refine congrArg (true&&·) (decide_eq_decide.2 ?_)
   rw[cmpE,if_neg]
   intro h
   have h3:=hinv x
   rw[h,hinv,<-hp e (by simp),hq,hx]at h3
   cases h3
theorem abQ{es:List (Nat×Nat)}{N:Nat}{P:Nat->Bool}{x0:Nat}(h0:x0<N)(hp0:P x0=true)(hl:∀e∈es,e.1<N/\e.2<N)(hp:∀f∈es,P f.1=P f.2)(h:∀x,x<N->P x=true->cmpE es x=cmpE es x0):vC es N P=1:=by
 have h1:cn (fun _=>false) N+1=vC es N P:=CC (z:=cmpE es x0) (aco hl h0) (by
  show(P (cmpE es x0)&&decide (cmpE es (cmpE es x0)=cmpE es x0))=true
  rw[Gv hp,hp0,decide_eq_true (BQ es x0)]
  rfl) rfl fun x hx hne=>by
   symm
   show(P x&&decide (cmpE es x=x))=false
   cases hx2:P x with
   |false=>rfl
   |true=>
    rw[Bool.true_and]
    refine decide_eq_false fun e=>hne ?_
    rw[<-e,h x hx hx2]
 have h2:cn (fun _=>false) N=0:=wI fun _ _=>rfl
 omega
theorem ajN(N:Nat)(P:Nat->Bool):vC [] N P=cn P N:=by
 refine p9 N fun x _=>?_
 show(P x&&decide (cmpE [] x=x))=P x
 rw[decide_eq_true (show cmpE [] x=x from rfl),Bool.and_true]
section
variable (e1 e2 : Nat → Nat)
theorem aaE(Q:Nat->Bool)(k:Nat):(trE e1 e2 k).countP Q+(mL e1 e2 k).countP Q=cn Q k:=by
 induction k with
 |zero=>rfl
 |succ k ih=>rw[trE,mL,cn];split<;>rw[List.countP_cons]<;>omega
theorem abg{N:Nat}{P:Nat->Bool}(k:Nat)(h:∀a,a<k->e1 a<N/\e2 a<N)(hp:∀a,a<k->P (e1 a)=P (e2 a)):vC (bT e1 e2 (trE e1 e2 k)) N P+(trE e1 e2 k).countP (fun a=>P (e1 a))=cn P N:=by
 induction k with
 |zero=>exact ajN N P
 |succ k ih=>
  have ih:=ih (fun a ha=>h a (by omega)) (fun a ha=>hp a (by omega))
  rw[trE]
  split
  ·exact ih
  ·rename_i hne
   have:=aiT (e:=(e1 k,e2 k)) (P:=P) (G0 e1 e2 (fun a ha=>h a (by omega)) (yX e1 e2 k)) (h k (by omega)).2 hne (fun f hf=>by
    rcases List.mem_cons.1 hf with rfl|hf
    ·exact hp k (by omega)
    ·obtain⟨a,ha,rfl⟩:=List.mem_map.1 hf
     exact hp a (by have:=yX e1 e2 k a ha;omega))
   rw[List.countP_cons]
   show vC ((e1 k,e2 k)::bT e1 e2 (trE e1 e2 k)) N P+_=_
   dsimp only at this
   omega
theorem abf(k a:Nat)(h1:a∈trE e1 e2 k)(h2:a∈mL e1 e2 k):False:=by
 induction k with
 |zero=>cases h1
 |succ k ih=>
  rw[trE]at h1
  rw[mL]at h2
  split at h1
  ·rename_i hc
   rw[if_pos hc]at h2
   rcases List.mem_cons.1 h2 with rfl|h2
   ·have:=yX e1 e2 _ _ h1;omega
   ·exact ih h1 h2
  ·rename_i hc
   rw[if_neg hc]at h2
   rcases List.mem_cons.1 h1 with rfl|h1
   ·have:=CQ e1 e2 _ _ h2;omega
   ·exact ih h1 h2
theorem aij(k:Nat):(mL e1 e2 k).Nodup:=by
 induction k with
 |zero=>exact List.nodup_nil
 |succ k ih=>
  rw[mL]
  split
  ·exact List.nodup_cons.2 ⟨fun h=>by have:=CQ e1 e2 _ _ h;omega,ih⟩
  ·exact ih
end
theorem aa3{P:Nat->Bool}{K t:Nat}(ht:t<K):cn (fun a=>decide (a=t)&&P a) K%2=if P t=true then 1 else 0:=by
 cases hp:P t with
 |true=>
  have h1:cn (fun _=>false) K+1=cn (fun a=>decide (a=t)&&P a) K:=CC (z:=t) ht (by rw[decide_eq_true rfl,hp];rfl) rfl fun x _ hx=>by rw[decide_eq_false hx];rfl
  have h2:cn (fun _=>false) K=0:=wI fun _ _=>rfl
  rw[if_pos rfl]
  omega
 |false=>
  rw[if_neg Bool.false_ne_true,wI fun x _=>?_]
  by_cases e:x=t
  ·subst e;rw[hp,Bool.and_false]
  ·rw[decide_eq_false e];rfl
theorem HJ(P Q s:Nat->Bool)(K:Nat):cn (fun a=>(P a !=Q a)&&s a) K%2=(cn (fun a=>P a&&s a) K+cn (fun a=>Q a&&s a) K)%2:=by
 rw[HL]
 refine congrArg (·%2) (p9 _ fun a _=>?_)
 cases P a<;>cases Q a<;>cases s a<;>rfl
theorem ajV{e1 e2:Nat->Nat}{K:Nat}:∀(ts:List Nat),(∀a∈ts,a<K)->∀u v,cmpE (bT e1 e2 ts) u=cmpE (bT e1 e2 ts) v->
  ∃D:Nat->Bool,(∀a,D a=true->a∈ts)/\∀X:Nat->Bool,cn (fun a=>D a&&(X (e1 a)!=X (e2 a))) K%2=if(X u !=X v)=true then 1 else 0:=by
 intro ts
 induction ts with
 |nil=>
  intro _ u v h
  obtain rfl:u=v:=h
  refine⟨fun _=>false,fun a h=>(by cases h),fun X=>?_⟩
  have h0:cn (fun a=>false&&(X (e1 a)!=X (e2 a))) K=0:=wI fun _ _=>rfl
  show cn (fun a=>false&&(X (e1 a)!=X (e2 a))) K%2=_
  rw[h0]
  simp
 |cons t ts ih=>
  intro hK u v h
  have ih:=ih (fun a ha=>hK a (by simp[ha]))
  have hc:∀x,cmpE (bT e1 e2 (t::ts)) x=if cmpE (bT e1 e2 ts) x=cmpE (bT e1 e2 ts) (e2 t)then cmpE (bT e1 e2 ts) (e1 t)else cmpE (bT e1 e2 ts) x:=fun x=>rfl
  rw[hc,hc]at h
  have weak:∀{x y},(∃D:Nat->Bool,(∀a,D a=true->a∈ts)/\∀X:Nat->Bool,cn (fun a=>D a&&(X (e1 a)!=X (e2 a))) K%2=if(X x !=X y)=true then 1 else 0)->∃D:Nat->Bool,(∀a,D a=true->a∈t::ts)/\∀X:Nat->Bool,cn (fun a=>D a&&(X (e1 a)!=X (e2 a))) K%2=if(X x !=X y)=true then 1 else 0:=by
   rintro x y ⟨D,h1,h2⟩
   exact⟨D,fun a ha=>List.mem_cons_of_mem _ (h1 a ha),h2⟩
  have glue:∀x y,cmpE (bT e1 e2 ts) x=cmpE (bT e1 e2 ts) (e2 t)->cmpE (bT e1 e2 ts) (e1 t)=cmpE (bT e1 e2 ts) y->∃D:Nat->Bool,(∀a,D a=true->a∈t::ts)/\∀X:Nat->Bool,cn (fun a=>D a&&(X (e1 a)!=X (e2 a))) K%2=if(X x !=X y)=true then 1 else 0:=by
   intro x y hx hy
   obtain⟨D1,p1,q1⟩:=ih x (e2 t) hx
   obtain⟨D2,p2,q2⟩:=ih (e1 t) y hy
   refine⟨fun a=>(D1 a !=D2 a)!=decide (a=t),fun a ha=>?_,fun X=>?_⟩
   ·by_cases e:a=t
    ·subst e;simp
    ·refine List.mem_cons_of_mem _ ?_
     cases h1:D1 a with
     |true=>exact p1 a h1
     |false=>
      cases h2:D2 a with
      |true=>exact p2 a h2
      |false=>simp[h1,h2,e]at ha
   ·have r1:=q1 X
    have r2:=q2 X
    have r3:=aa3 (P:=fun a=>X (e1 a)!=X (e2 a)) (hK t (by simp))
    have r4:=HJ (fun a=>D1 a !=D2 a) (fun a=>decide (a=t)) (fun a=>X (e1 a)!=X (e2 a)) K
    have r5:=HJ D1 D2 (fun a=>X (e1 a)!=X (e2 a)) K
    rw[r4,Nat.add_mod,r5,Nat.add_mod (cn _ K) (cn _ K),r1,r2,r3]
    cases X x<;>cases X y<;>cases X (e1 t)<;>cases X (e2 t)<;>rfl
  by_cases hu:cmpE (bT e1 e2 ts) u=cmpE (bT e1 e2 ts) (e2 t)
  ·by_cases hv:cmpE (bT e1 e2 ts) v=cmpE (bT e1 e2 ts) (e2 t)
   ·exact weak (ih u v (hu.trans hv.symm))
   ·rw[if_pos hu,if_neg hv]at h
    exact glue u v hu h
  ·by_cases hv:cmpE (bT e1 e2 ts) v=cmpE (bT e1 e2 ts) (e2 t)
   ·rw[if_neg hu,if_pos hv]at h
    obtain⟨D,h1,h2⟩:=glue v u hv h.symm
    refine⟨D,h1,fun X=>?_⟩
    rw[h2 X]
    cases X u<;>cases X v<;>rfl
   ·rw[if_neg hu,if_neg hv]at h
    exact weak (ih u v h)
theorem aka{e1 e2:Nat->Nat}:∀{ts:List Nat},Br (bT e1 e2 ts)->∀D:Nat->Bool,∃c:Nat->Bool,∀a∈ts,(c (e1 a)!=c (e2 a))=D a:=by
 intro ts
 induction ts with
 |nil=>exact fun _ D=>⟨fun _=>false,fun a h=>by cases h⟩
 |cons t ts ih=>
  intro h D
  obtain⟨c,hc⟩:=ih h.2 D
  by_cases hd:(c (e1 t)!=c (e2 t))=D t
  ·refine⟨c,fun a ha=>?_⟩
   rcases List.mem_cons.1 ha with rfl|ha
   ·exact hd
   ·exact hc a ha
  ·refine⟨fun x=>if cmpE (bT e1 e2 ts) x=cmpE (bT e1 e2 ts) (e2 t)then !c x else c x,fun a ha=>?_⟩
   rcases List.mem_cons.1 ha with rfl|ha
   ·have hh:¬cmpE (bT e1 e2 ts) (e1 a)=cmpE (bT e1 e2 ts) (e2 a):=h.1
    dsimp only
    rw[if_neg hh,if_pos rfl]
    revert hd
    cases c (e1 a)<;>cases c (e2 a)<;>cases D a<;>simp
   ·dsimp only
    have h1:cmpE (bT e1 e2 ts) (e1 a)=cmpE (bT e1 e2 ts) (e2 a):=abB (es:=bT e1 e2 ts) (e:=(e1 a,e2 a)) (List.mem_map.2 ⟨a,ha,rfl⟩)
    rw[h1,<-hc a ha]
    split<;>cases c (e1 a)<;>cases c (e2 a)<;>rfl
theorem akj(P:Nat->Bool)(n c:Nat)(hc:c<n):cn (fun j=>P j&&decide (j/4=c)) (4*n)=(if P (4*c)=true then 1 else 0)+(if P (4*c+1)=true then 1 else 0)+(if P (4*c+2)=true then 1 else 0)+(if P (4*c+3)=true then 1 else 0):=by
 induction n with
 |zero=>omega
 |succ n ih=>
  rw[show 4*(n+1)=4*n+1+1+1+1 by omega,cn,cn,cn,cn]
  rw[show(4*n)/4=n by omega,show(4*n+1)/4=n by omega,show(4*n+1+1)/4=n by omega,show(4*n+1+1+1)/4=n by omega]
  by_cases e:n=c
  ·subst e
   rw[decide_eq_true rfl,wI fun x hx=>by rw[decide_eq_false (by omega),Bool.and_false]]
   simp only[Bool.and_true]
   omega
  ·rw[decide_eq_false e]
   simp only[Bool.and_false,Bool.false_eq_true,if_false]
   exact ih (by omega)
theorem akk(P:Nat->Bool)(n:Nat):cn (fun j=>P (j/4)) (4*n)=4*cn P n:=by
 induction n with
 |zero=>rfl
 |succ n ih=>
  rw[show 4*(n+1)=4*n+1+1+1+1 by omega,cn,cn,cn,cn,cn,ih]
  rw[show(4*n)/4=n by omega,show(4*n+1)/4=n by omega,show(4*n+1+1)/4=n by omega,show(4*n+1+1+1)/4=n by omega]
  split<;>omega
theorem akm(B:Nat->Bool):∀(R:List Nat),cn (fun i=>B (R.getD i 0)) R.length=R.countP B:=by
 intro R
 have key:∀k,k<=R.length->cn (fun i=>B (R.getD i 0)) k=(R.take k).countP B:=by
  intro k
  induction k with
  |zero=>intro _;rfl
  |succ k ih=>
   intro hk
   rw[cn,ih (by omega),List.take_succ_eq_append_getElem (by omega),List.countP_append,List.getD_eq_getElem?_getD,List.getElem?_eq_getElem (by omega)]
   simp[List.countP_cons]
 rw[key _ (Nat.le_refl _),List.take_length]
structure ml(n f:Nat)(h1 h2 hA F pc pf:Nat->Nat):Prop where
 lt:∀a,a<2*n->h1 a<4*n/\h2 a<4*n/\h1 a≠h2 a/\hA (h1 a)=a/\hA (h2 a)=a
 at_:∀j,j<4*n->hA j<2*n/\(j=h1 (hA j)\/j=h2 (hA j))
 nx:∀a,a<2*n->F (h1 a)=F (cW (h2 a))/\F (h2 a)=F (cW (h1 a))
 fl:∀j,j<4*n->F j<f
 fs:∀i,i<f->∃j,j<4*n/\F j=i
 fj:∀Z:Nat->Prop,(∀a,a<2*n->(Z (h1 a)<->Z (cW (h2 a)))/\(Z (h2 a)<->Z (cW (h1 a))))->∀j j',j<4*n->j'<4*n->F j=F j'->Z j->Z j'
 Fh:∀a,a<2*n->pc (h1 a/4)=pc (h2 a/4)
 R8:∀Z:Nat->Prop,(∀a,a<2*n->(Z (h1 a/4)<->Z (h2 a/4)))->∀x y,x<n->y<n->pc x=pc y->Z x->Z y
 xW:∀j,j<4*n->pf (F j)=pc (j/4)
def n7(hA:Nat->Nat)(D:Nat->Bool)(c:Nat):Prop:=((if D (hA (4*c))=true then 1 else 0)+(if D (hA (4*c+1))=true then 1 else 0)+(if D (hA (4*c+2))=true then 1 else 0)+(if D (hA (4*c+3))=true then 1 else 0))%2=0
def FQ(n:Nat)(h1 h2 hA:Nat->Nat):Prop:=∀D:Nat->Bool,(∀c,c<n->n7 hA D c)->∃Y:Nat->Bool,(∀j,j<4*n->(Y j !=Y (cW j))=D (hA j))/\∀a,a<2*n->Y (h1 a)=Y (cW (h2 a))/\Y (h2 a)=Y (cW (h1 a))
theorem akW{n j:Nat}(h:j<4*n):cW j<4*n:=by unfold cW;omega
section
variable {n f : Nat} {h1 h2 hA F pc pf : Nat → Nat}
theorem ml.hs(m:ml n f h1 h2 hA F pc pf)(P:Nat->Bool):cn P (4*n)=cn (fun a=>P (h1 a)) (2*n)+cn (fun a=>P (h2 a)) (2*n):=by
 have hp:((List.range (2*n)).map h1++(List.range (2*n)).map h2).Perm (List.range (4*n)):=by
  rw[List.perm_ext_iff_of_nodup]
  ·intro j
   rw[List.mem_append,List.mem_map,List.mem_map,List.mem_range]
   constructor
   ·rintro(⟨a,ha,rfl⟩|⟨a,ha,rfl⟩)
    ·exact(m.lt a (List.mem_range.1 ha)).1
    ·exact(m.lt a (List.mem_range.1 ha)).2.1
   ·intro hj
    obtain⟨h3,h4|h4⟩:=m.at_ j hj
    ·exact .inl ⟨hA j,List.mem_range.2 h3,h4.symm⟩
    ·exact .inr ⟨hA j,List.mem_range.2 h3,h4.symm⟩
  ·rw[List.nodup_append]
   have inj:∀h:Nat->Nat,(∀a,a<2*n->hA (h a)=a)->((List.range (2*n)).map h).Nodup:=fun h hh=>by
    rw[List.nodup_iff_pairwise_ne,List.pairwise_map]
    refine List.Pairwise.imp_of_mem ?_ List.nodup_range
    intro a b ha hb hab e
    have h3:=hh a (List.mem_range.1 ha)
    have h4:=hh b (List.mem_range.1 hb)
    rw[e]at h3
    exact hab (h3.symm.trans h4)
   refine⟨inj h1 fun a ha=>(m.lt a ha).2.2.2.1,inj h2 fun a ha=>(m.lt a ha).2.2.2.2,?_⟩
   intro x hx y hy
   obtain⟨a,ha,rfl⟩:=List.mem_map.1 hx
   obtain⟨b,hb,rfl⟩:=List.mem_map.1 hy
   intro e
   have h3:=(m.lt a (List.mem_range.1 ha)).2.2
   have h4:=(m.lt b (List.mem_range.1 hb)).2.2
   have e2:a=b:=by rw[<-h3.2.1,e,h4.2.2]
   subst e2
   exact h3.1 e
  ·exact List.nodup_range
 have h3:=hp.countP_eq P
 rw[List.countP_append,List.countP_map,List.countP_map]at h3
 rw[tM,tM,tM,<-List.countP_eq_length_filter,<-List.countP_eq_length_filter,<-List.countP_eq_length_filter,<-h3]
 rfl
theorem ml.cut(m:ml n f h1 h2 hA F pc pf){D:Nat->Bool}(hD:∀c,c<n->n7 hA D c)(X:Nat->Bool):
  cn (fun a=>D a&&(X (h1 a/4)!=X (h2 a/4))) (2*n)%2=0:=by
 have h3:=m.hs fun j=>D (hA j)&&X (j/4)
 have h4:=akn (fun j=>D (hA j)&&X (j/4)) n fun c hc=>by
  have h5:=hD c hc
  unfold n7 at h5
  rw[show 4*c/4=c by omega,show(4*c+1)/4=c by omega,show(4*c+2)/4=c by omega,show(4*c+3)/4=c by omega]
  cases X c
  ·simp
  ·simpa using h5
 have h6:=HL (fun a=>D (hA (h1 a))&&X (h1 a/4)) (fun a=>D (hA (h2 a))&&X (h2 a/4)) (2*n)
 rw[<-h3,h4]at h6
 rw[h6]
 refine congrArg (·%2) (p9 _ fun a ha=>?_)
 obtain⟨_,_,_,e1,e2⟩:=m.lt a ha
 rw[e1,e2]
 cases D a<;>simp
theorem ml.alQ(m:ml n f h1 h2 hA F pc pf){D:Nat->Bool}(h:∀X:Nat->Bool,cn (fun a=>D a&&(X (h1 a/4)!=X (h2 a/4))) (2*n)%2=0)(c:Nat)(hc:c<n):n7 hA D c:=by
 have h3:=m.hs fun j=>D (hA j)&&decide (j/4=c)
 rw[akj (fun j=>D (hA j)) n c hc]at h3
 have h4:=HL (fun a=>D (hA (h1 a))&&decide (h1 a/4=c)) (fun a=>D (hA (h2 a))&&decide (h2 a/4=c)) (2*n)
 have h5:=h fun x=>decide (x=c)
 unfold n7
 rw[h3,h4,<-h5]
 refine congrArg (·%2) (p9 _ fun a ha=>?_)
 obtain⟨_,_,_,e1,e2⟩:=m.lt a ha
 rw[e1,e2]
 cases D a<;>simp
theorem ml.side(m:ml n f h1 h2 hA F pc pf)(Y:Nat->Bool){j:Nat}(hj:j<4*n):(Y (F (h1 (hA j)))!=Y (F (h2 (hA j))))=(Y (F j)!=Y (F (cW j))):=by
 obtain⟨h3,h4⟩:=m.at_ j hj
 obtain⟨n1,n2⟩:=m.nx _ h3
 rcases h4 with h4|h4
 ·rw[n2,<-h4]
 ·rw[n1,<-h4];cases Y (F j)<;>cases Y (F (cW j))<;>rfl
theorem ml.rim(m:ml n f h1 h2 hA F pc pf)(Y:Nat->Bool){D:Nat->Bool}(hD:∀c,c<n->n7 hA D c)(c:Nat)(hc:c<n):n7 hA (fun a=>(Y (F (h1 a))!=Y (F (h2 a)))!=D a) c:=by
 have h5:=hD c hc
 unfold n7 at h5 ⊢
 dsimp only
 have s0:=m.side Y (j:=4*c) (by omega)
 have s1:=m.side Y (j:=4*c+1) (by omega)
 have s2:=m.side Y (j:=4*c+2) (by omega)
 have s3:=m.side Y (j:=4*c+3) (by omega)
 rw[show cW (4*c)=4*c+3 by unfold cW;omega]at s0
 rw[show cW (4*c+1)=4*c by unfold cW;omega]at s1
 rw[show cW (4*c+2)=4*c+1 by unfold cW;omega]at s2
 rw[show cW (4*c+3)=4*c+2 by unfold cW;omega]at s3
 simp only[s0,s1,s2,s3]
 revert h5
 cases D (hA (4*c))<;>cases D (hA (4*c+1))<;>cases D (hA (4*c+2))<;>cases D (hA (4*c+3))<;>cases Y (F (4*c))<;>cases Y (F (4*c+1))<;>cases Y (F (4*c+2))<;>cases Y (F (4*c+3))<;>decide
theorem ml.hang(m:ml n f h1 h2 hA F pc pf)(Z:Nat->Prop)(hZ:∀j,j<4*n->(Z (F j)<->Z (F (cW j)))):∀i i',i<f->i'<f->pf i=pf i'->Z i->Z i':=by
 have alz:∀c,c<n->∀k,k<4->(Z (F (4*c+k))<->Z (F (4*c))):=fun c hc k hk=>by
  have z1:=hZ (4*c+1) (by omega)
  have z2:=hZ (4*c+2) (by omega)
  have z3:=hZ (4*c+3) (by omega)
  rw[show cW (4*c+1)=4*c by unfold cW;omega]at z1
  rw[show cW (4*c+2)=4*c+1 by unfold cW;omega]at z2
  rw[show cW (4*c+3)=4*c+2 by unfold cW;omega]at z3
  have e:k=0\/k=1\/k=2\/k=3:=by omega
  rcases e with rfl|rfl|rfl|rfl
  ·exact Iff.rfl
  ·exact z1
  ·exact z2.trans z1
  ·exact(z3.trans z2).trans z1
 have CB:∀j,j<4*n->(Z (F j)<->Z (F (4*(j/4)))):=fun j hj=>by
  have:=alz (j/4) (by omega) (j%4) (by omega)
  rwa [show 4*(j/4)+j%4=j by omega]at this
 have hcon:=m.R8 (fun c=>Z (F (4*c))) fun a ha=>by
  obtain⟨l1,l2,_⟩:=m.lt a ha
  obtain⟨n1,_⟩:=m.nx a ha
  have c1:=CB (h1 a) l1
  have c2:=CB (h2 a) l2
  have z2:=hZ (h2 a) l2
  rw[n1]at c1
  exact c1.symm.trans (z2.symm.trans c2)
 intro i i' hi hi' hp hz
 obtain⟨j,hj,rfl⟩:=m.fs i hi
 obtain⟨j',hj',rfl⟩:=m.fs i' hi'
 rw[m.xW j hj,m.xW j' hj']at hp
 exact(CB j' hj').2 (hcon (j/4) (j'/4) (by omega) (by omega) hp ((CB j hj).1 hz))
theorem ml.ali(m:ml n f h1 h2 hA F pc pf):FQ n h1 h2 hA<->∀p x0,x0<n->pc x0=p->cn (fun i=>decide (pf i=p)) f=cn (fun x=>decide (pc x=p)) n+2:=by
 have ve:∀a,a<2*n->h1 a/4<n/\h2 a/4<n:=fun a ha=>by have:=m.lt a ha;omega
 obtain⟨T,hT⟩:∃T,trE (fun a=>h1 a/4) (fun a=>h2 a/4) (2*n)=T:=⟨_,rfl⟩
 obtain⟨R,hR⟩:∃R,mL (fun a=>h1 a/4) (fun a=>h2 a/4) (2*n)=R:=⟨_,rfl⟩
 have htl:∀a∈T,a<2*n:=by rw[<-hT];exact yX _ _ _
 have hrl:∀a∈R,a<2*n:=by rw[<-hR];exact CQ _ _ _
 have hTR:∀a,a<2*n->a∈T\/a∈R:=by rw[<-hT,<-hR];exact abe _ _ _
 have DF:∀a,a∈T->a∈R->False:=by rw[<-hT,<-hR];exact abf _ _ _
 have hfo:Br (bT (fun a=>h1 a/4) (fun a=>h2 a/4) T):=by rw[<-hT];exact acB _ _ _
 have Iw:=abJ (fun a=>h1 a/4) (fun a=>h2 a/4) (2*n)
 rw[hT]at Iw
 have aer:R.Nodup:=by rw[<-hR];exact aij _ _ _
 have noD:∀D:Nat->Bool,(∀c,c<n->n7 hA D c)->(∀a∈R,D a=false)->∀a,a<2*n->D a=false:=fun D hev hno=>
  aj9 T htl hfo D (fun a ha hd=>(hTR a ha).elim id fun h=>by rw[hno a h]at hd;cases hd) (m.cut hev)
 obtain⟨G,hG⟩:∃G:Nat->Nat,∀i,G i=R.getD i 0:=⟨fun i=>R.getD i 0,fun _=>rfl⟩
 have Fw:∀i (h:i<R.length),G i=R[i]:=fun i hi=>by rw[hG i];simp[List.getD_eq_getElem?_getD,hi]
 have ya:∀i,i<R.length->G i∈R:=fun i hi=>by rw[Fw i hi];exact List.getElem_mem _
 have hRG:∀a∈R,∃i,i<R.length/\G i=a:=fun a ha=>by
  obtain⟨i,hi,e⟩:=List.getElem_of_mem ha
  exact⟨i,hi,by rw[Fw i hi,e]⟩
 have am6:∀i i',i<R.length->i'<R.length->G i=G i'->i=i':=fun i i' hi hi' e=>by
  rw[Fw i hi,Fw i' hi']at e
  rcases Nat.lt_trichotomy i i' with h|h|h
  ·exact absurd e (List.pairwise_iff_getElem.1 aer i i' hi hi' h)
  ·exact h
  ·exact absurd e.symm (List.pairwise_iff_getElem.1 aer i' i hi' hi h)
 obtain⟨T2,RO⟩:∃T2,trE (fun i=>F (h1 (G i))) (fun i=>F (h2 (G i))) R.length=T2:=⟨_,rfl⟩
 obtain⟨C2,RS⟩:∃C2,mL (fun i=>F (h1 (G i))) (fun i=>F (h2 (G i))) R.length=C2:=⟨_,rfl⟩
 have fe:∀i,i<R.length->F (h1 (G i))<f/\F (h2 (G i))<f:=fun i hi=>by
  have:=m.lt (G i) (hrl _ (ya i hi))
  exact⟨m.fl _ this.1,m.fl _ this.2.1⟩
 have b3:=abJ (fun i=>F (h1 (G i))) (fun i=>F (h2 (G i))) R.length
 have b5:=yX (fun i=>F (h1 (G i))) (fun i=>F (h2 (G i))) R.length
 have b6:=acB (fun i=>F (h1 (G i))) (fun i=>F (h2 (G i))) R.length
 have b7:=CQ (fun i=>F (h1 (G i))) (fun i=>F (h2 (G i))) R.length
 have b8:=abf (fun i=>F (h1 (G i))) (fun i=>F (h2 (G i))) R.length
 have b9:=abe (fun i=>F (h1 (G i))) (fun i=>F (h2 (G i))) R.length
 rw[RO]at b3 b5 b6
 rw[RS]at b7
 rw[RO,RS]at b8 b9
 have adw:∀p x0,x0<n->pc x0=p->cn (fun i=>decide (pf i=p)) f+C2.countP (fun i=>decide (pf (F (h1 (G i)))=p))=cn (fun x=>decide (pc x=p)) n+2:=by
  intro p x0 hx0 hp0
  have a1:=abg (fun a=>h1 a/4) (fun a=>h2 a/4) (N:=n) (P:=fun x=>decide (pc x=p)) (2*n) ve (fun a ha=>by rw[m.Fh a ha])
  have a3:=aaE (fun a=>h1 a/4) (fun a=>h2 a/4) (fun a=>decide (pc (h1 a/4)=p)) (2*n)
  rw[hT]at a1 a3
  rw[hR]at a3
  rw[abQ hx0 (decide_eq_true hp0) (G0 _ _ ve htl) (fun g hg=>by
   obtain⟨a,ha,rfl⟩:=List.mem_map.1 hg
   dsimp only
   rw[m.Fh a (htl a ha)]) (fun x hx hpx=>m.R8 (fun x=>cmpE (bT (fun a=>h1 a/4) (fun a=>h2 a/4) T) x=cmpE (bT (fun a=>h1 a/4) (fun a=>h2 a/4) T) x0) (fun a ha=>by
    have:=Iw a ha
    rw[this]) x0 x hx0 hx (hp0.trans (of_decide_eq_true hpx).symm) rfl)]at a1
  have a4:=m.hs fun j=>decide (pc (j/4)=p)
  rw[akk (fun x=>decide (pc x=p)) n,p9 (P:=fun a=>decide (pc (h2 a/4)=p)) (Q:=fun a=>decide (pc (h1 a/4)=p)) (2*n) (fun a ha=>by rw[m.Fh a ha])]at a4
  have AY:∀i,i<R.length->pf (F (h1 (G i)))=pc (h1 (G i)/4)/\pf (F (h2 (G i)))=pc (h1 (G i)/4):=fun i hi=>by
   have hb:=hrl _ (ya i hi)
   have:=m.lt (G i) hb
   exact⟨m.xW _ this.1,by rw[m.xW _ this.2.1,m.Fh _ hb]⟩
  have c1:=abg (fun i=>F (h1 (G i))) (fun i=>F (h2 (G i))) (N:=f) (P:=fun i=>decide (pf i=p)) R.length fe (fun i hi=>by rw[(AY i hi).1,(AY i hi).2])
  have c3:=aaE (fun i=>F (h1 (G i))) (fun i=>F (h2 (G i))) (fun i=>decide (pf (F (h1 (G i)))=p)) R.length
  rw[RO]at c1 c3
  rw[RS]at c3
  have hF0:F (4*x0)<f:=m.fl _ (by omega)
  have hq0:pf (F (4*x0))=p:=by rw[m.xW _ (by omega),show 4*x0/4=x0 by omega,hp0]
  rw[abQ hF0 (decide_eq_true hq0) (G0 _ _ fe b5) (fun g hg=>by
   obtain⟨i,hi,rfl⟩:=List.mem_map.1 hg
   dsimp only
   rw[(AY i (b5 i hi)).1,(AY i (b5 i hi)).2]) (fun x hx hqx=>by
    have hno:=noD (fun a=>(decide (cmpE (bT (fun i=>F (h1 (G i))) (fun i=>F (h2 (G i))) T2) (F (h1 a))=cmpE (bT (fun i=>F (h1 (G i))) (fun i=>F (h2 (G i))) T2) (F (4*x0)))!=decide (cmpE (bT (fun i=>F (h1 (G i))) (fun i=>F (h2 (G i))) T2) (F (h2 a))=cmpE (bT (fun i=>F (h1 (G i))) (fun i=>F (h2 (G i))) T2) (F (4*x0))))!=false)
     (m.rim (fun g=>decide (cmpE (bT (fun i=>F (h1 (G i))) (fun i=>F (h2 (G i))) T2) g=cmpE (bT (fun i=>F (h1 (G i))) (fun i=>F (h2 (G i))) T2) (F (4*x0)))) (D:=fun _=>false) fun c hc=>by unfold n7;simp)
     (fun a ha=>by
      obtain⟨i,hi,rfl⟩:=hRG a ha
      have:=b3 i hi
      rw[this]
      simp)
    refine m.hang (fun g=>cmpE (bT (fun i=>F (h1 (G i))) (fun i=>F (h2 (G i))) T2) g=cmpE (bT (fun i=>F (h1 (G i))) (fun i=>F (h2 (G i))) T2) (F (4*x0))) (fun j hj=>?_) (F (4*x0)) x hF0 hx (hq0.trans (of_decide_eq_true hqx).symm) rfl
    have h9:=hno (hA j) (m.at_ j hj).1
    have h8:=m.side (fun g=>decide (cmpE (bT (fun i=>F (h1 (G i))) (fun i=>F (h2 (G i))) T2) g=cmpE (bT (fun i=>F (h1 (G i))) (fun i=>F (h2 (G i))) T2) (F (4*x0)))) hj
    rw[h8]at h9
    have h7:decide (cmpE (bT (fun i=>F (h1 (G i))) (fun i=>F (h2 (G i))) T2) (F j)=cmpE (bT (fun i=>F (h1 (G i))) (fun i=>F (h2 (G i))) T2) (F (4*x0)))=decide (cmpE (bT (fun i=>F (h1 (G i))) (fun i=>F (h2 (G i))) T2) (F (cW j))=cmpE (bT (fun i=>F (h1 (G i))) (fun i=>F (h2 (G i))) T2) (F (4*x0))):=by simpa using h9
    exact decide_eq_decide.1 h7)]at c1
  have c5:cn (fun i=>decide (pf (F (h1 (G i)))=p)) R.length=R.countP (fun a=>decide (pc (h1 a/4)=p)):=by
   rw[<-akm]
   refine p9 _ fun i hi=>?_
   rw[(AY i hi).1,hG i]
  rw[c5]at c3
  omega
 have two:C2=[]->FQ n h1 h2 hA:=by
  intro hC D hD
  obtain⟨c,hc⟩:=aka b6 fun i=>D (G i)
  have hno:=noD (fun a=>(c (F (h1 a))!=c (F (h2 a)))!=D a) (m.rim c hD) fun a ha=>by
   obtain⟨i,hi,rfl⟩:=hRG a ha
   have:i∈T2:=(b9 i hi).elim id fun h=>by rw[hC]at h;cases h
   rw[hc i this]
   simp
  refine⟨fun j=>c (F j),fun j hj=>?_,fun a ha=>?_⟩
  ·dsimp only
   rw[<-m.side c hj]
   exact(show∀p q r:Bool,((p !=q)!=r)=false->(p !=q)=r by decide) _ _ _ (hno (hA j) (m.at_ j hj).1)
  ·obtain⟨g1,g2⟩:=m.nx a ha
   exact⟨congrArg c g1,congrArg c g2⟩
 have one:FQ n h1 h2 hA->C2=[]:=by
  intro hP
  refine List.eq_nil_iff_forall_not_mem.2 fun i0 hi0=>?_
  have hl0:=b7 i0 hi0
  have hr0:=ya i0 hl0
  have hb0:=hrl _ hr0
  obtain⟨D1,p1,q1⟩:=ajV (K:=2*n) T htl (h1 (G i0)/4) (h2 (G i0)/4) (Iw (G i0) hb0)
  obtain⟨Y,y1,y2⟩:=hP (fun a=>D1 a !=decide (a=G i0)) (m.alQ fun X=>by
   have r1:=q1 X
   have r3:=aa3 (P:=fun a=>X (h1 a/4)!=X (h2 a/4)) hb0
   have r4:=HJ D1 (fun a=>decide (a=G i0)) (fun a=>X (h1 a/4)!=X (h2 a/4)) (2*n)
   rw[r4,Nat.add_mod,r1,r3]
   split<;>rfl)
  obtain⟨Yf,hYf⟩:∃Yf:Nat->Bool,∀j,j<4*n->Yf (F j)=Y j:=by
   refine⟨fun i=>((List.range (4*n)).find? fun j=>decide (F j=i)).elim false Y,fun j hj=>?_⟩
   dsimp only
   cases hf:(List.range (4*n)).find? fun k=>decide (F k=F j)with
   |none=>
    have:=List.find?_eq_none.1 hf j (List.mem_range.2 hj)
    simp at this
   |some k=>
    have e1:F k=F j:=by simpa using List.find?_some hf
    have e2:=List.mem_range.1 (List.mem_of_find?_eq_some hf)
    show Y k=Y j
    exact m.fj (fun x=>Y x=Y j) (fun a ha=>⟨by rw[(y2 a ha).1],by rw[(y2 a ha).2]⟩) j k hj e2 e1.symm rfl
  have hd:∀i,i<R.length->(Yf (F (h1 (G i)))!=Yf (F (h2 (G i))))=(D1 (G i)!=decide (G i=G i0)):=fun i hi=>by
   have hb:=hrl _ (ya i hi)
   obtain⟨l1,l2,_,e1,e2⟩:=m.lt (G i) hb
   rw[hYf _ l1,hYf _ l2,(y2 _ hb).2,y1 _ l1,e1]
  have hR0:∀i,i<R.length->D1 (G i)=false:=fun i hi=>by
   cases h:D1 (G i)with
   |false=>rfl
   |true=>exact(DF _ (p1 _ h) (ya i hi)).elim
  have hinv:=Gv (es:=bT (fun i=>F (h1 (G i))) (fun i=>F (h2 (G i))) T2) (P:=Yf) fun g hg=>by
   obtain⟨i,hi,rfl⟩:=List.mem_map.1 hg
   have h9:=hd i (b5 i hi)
   rw[hR0 i (b5 i hi),decide_eq_false (fun e=>by
    have:=am6 i i0 (b5 i hi) hl0 e
    subst this
    exact b8 _ hi hi0)]at h9
   dsimp only
   simpa using h9
  have h9:=hd i0 hl0
  rw[hR0 i0 hl0,decide_eq_true rfl,<-hinv,b3 i0 hl0,hinv]at h9
  simp at h9
 constructor
 ·intro hP p x0 hx0 hp0
  have:=adw p x0 hx0 hp0
  rw[one hP]at this
  exact this
 ·intro hP
  refine two (List.eq_nil_iff_forall_not_mem.2 fun i hi=>?_)
  have hl:=b7 i hi
  have hb:=hrl _ (ya i hl)
  have l1:=(m.lt (G i) hb).1
  have h5:=adw _ (h1 (G i)/4) (by omega) rfl
  have h6:=hP _ (h1 (G i)/4) (by omega) rfl
  have h7:C2.countP (fun i'=>decide (pf (F (h1 (G i')))=pc (h1 (G i)/4)))=0:=by omega
  rw[List.countP_eq_zero]at h7
  exact h7 i hi (decide_eq_true (m.xW _ l1))
end
end Go.Proofs.YthppkofceancjaaGreat
namespace Go.Proofs.YthppkofceancjaaGreat
open Go.RowKit
theorem ah4{d:Dg}(h:aN d=true)(Z:Nat->Prop)(hZ:∀c,jU d c->(Z c<->Z (cQ d c)))(seen:List Bool)(x:Nat)(acc:List Int)(hl:seen.length=4*d.ae.length+2)(hx:jU d x)(hacc:∀y∈acc,Z y.toNat<->Z x):
  ∀y∈(eY (cQ d) seen x acc).2,∀z∈(eY (cQ d) seen x acc).2,Z y.toNat<->Z z.toNat:=by
 induction hk:free seen using Nat.strongRecOn generalizing seen x acc with
 |_ k ih=>
  by_cases hg:x<seen.length/\ga seen x=false
  ·rw[rG hg.1 hg.2]
   have hf:=nC hg.1 hg.2
   refine ih (free (seen.set x true)) (by omega) (seen.set x true) (cQ d x) (acc++[(x:Int)]) (by rw[List.length_set];exact hl) (wD h hx) ?_ rfl
   intro y hy
   rw[List.mem_append,List.mem_singleton]at hy
   rcases hy with hy|rfl
   ·exact(hacc y hy).trans (hZ x hx)
   ·exact hZ x hx
  ·have e:eY (cQ d) seen x acc=(seen,acc):=by rw[eY];simp[hg]
   rw[e]
   exact fun y hy z hz=>(hacc y hy).trans (hacc z hz).symm
theorem aay{d:Dg}(h:aN d=true)(Z:Nat->Prop)(hZ:∀c,jU d c->(Z c<->Z (cQ d c)))(k:Nat)(hk:k<=4*d.ae.length):∀r∈(ey d k).2,∀y∈r,∀z∈r,Z y.toNat<->Z z.toNat:=by
 induction k with
 |zero=>intro r hr;simp[ey]at hr
 |succ k ih=>
  have ih:=ih (by omega)
  have hlen:=vV d k
  cases hg:ga (ey d k).1 (k+2)with
  |true=>rw[rK rfl hg];exact ih
  |false=>
   rw[rJ rfl hg rfl]
   dsimp only
   intro r hr
   rcases List.mem_append.1 hr with hr|hr
   ·exact ih r hr
   ·rw[List.mem_singleton.1 hr]
    exact ah4 h Z hZ _ _ _ hlen ⟨by omega,by omega⟩ (fun y hy=>by cases hy)
def AQ(d:Dg)(c:Nat):Nat:=dw d (!(dA c).b) ((dA c).a.toNat-1)
theorem yV{d:Dg}(h:aN d=true){j:Nat}(hj:j<4*d.ae.length){b:Bool}(hb:Uz d (j/4) (j%4)=!b):j=dw d b ((cv d j).toNat-1):=by
 have hr:=yQ h hj
 have e0:(((cv d j).toNat-1+1:Nat):Int)=cv d j:=by omega
 have:=pz h (c:=j/4) (k:=j%4) (b:=b) (by omega) (by omega) hb
 unfold dw
 rw[e0]
 unfold cv
 rw[this]
 dsimp only
 omega
theorem GG{d:Dg}(h:aN d=true){j:Nat}(hj:j<4*d.ae.length):AQ d (jX (qA d j))=j:=by
 have ho:=(wC h hj).1
 unfold AQ
 rw[HI (by omega)]
 exact(yV h hj (by show Uz d (j/4) (j%4)=!!Uz d (j/4) (j%4);rw[Bool.not_not])).symm
theorem akX{d:Dg}(h:aN d=true){c:Nat}(hc:jU d c):AQ d (cQ d c)=cW (dw d (dA c).b ((dA c).a.toNat-1)):=by
 have ho:=kN hc
 obtain⟨o1,o2⟩:=ho
 obtain⟨a1,_⟩:=nz h (a:=(dA c).a.toNat-1) (by omega) (dA c).b
 have e:=abY h (a:=(dA c).a.toNat-1) (by omega) (dA c).b
 rw[show(((dA c).a.toNat-1+1:Nat):Int)=(dA c).a by omega]at e
 unfold cQ
 rw[e]
 have e2:dw d (dA c).b ((dA c).a.toNat-1)=4*(Ud d (dA c).a (dA c).b).1+(Ud d (dA c).a (dA c).b).2:=by
  unfold dw
  rw[show(((dA c).a.toNat-1+1:Nat):Int)=(dA c).a by omega]
 rw[<-e2]
 exact GG h (akW a1)
theorem acg{d:Dg}(h:aN d=true)(Z:Nat->Prop)(hZ:∀a,a<2*d.ae.length->(Z (dw d false a)<->Z (cW (dw d true a)))/\(Z (dw d true a)<->Z (cW (dw d false a)))){j j':Nat}(hj:j<4*d.ae.length)(hj':j'<4*d.ae.length)(e:jW d j=jW d j'):Z j->Z j':=by
 have hc:=wG (wC h hj)
 have hc':=wG (wC h hj')
 obtain⟨f1,f2⟩:=wP h hc
 obtain⟨f3,f4⟩:=wP h hc'
 change(_:Int)∈ga (jt d) (jW d j)at f2
 change jW d j<(jt d).length at f1
 change(_:Int)∈ga (jt d) (jW d j')at f4
 rw[<-e]at f4
 have:=aay h (fun c=>Z (AQ d c)) (fun c hc=>by
  have ho:=kN hc
  obtain⟨o1,o2⟩:=ho
  obtain⟨z1,z2⟩:=hZ ((dA c).a.toNat-1) (by omega)
  rw[akX h hc]
  unfold AQ
  cases (dA c).b with
  |true=>exact z1
  |false=>exact z2) _ (Nat.le_refl _) (ga (jt d) (jW d j)) (by rw[eo f1];exact List.getElem_mem _) _ f2 _ f4
 rw[Int.toNat_natCast,Int.toNat_natCast,GG h hj,GG h hj']at this
 exact this.1
theorem Cv(j:Nat):cW j/4=j/4:=by unfold cW;omega
theorem Cw{d:Dg}(h:aN d=true){a:Nat}(ha:a<2*d.ae.length):cG d (dw d false a/4)=cG d (dw d true a/4):=by
 obtain⟨s,hs,e⟩:=ab2 h ha
 rw[(nz h ha false).2.2,(nz h ha true).2.2]
 show cG d (eP d a false)=cG d (eP d a true)
 rw[<-e,acK h (wF h ha false) hs]
theorem als{d:Dg}(h:aN d=true){j:Nat}(hj:j<4*d.ae.length):cG d (ia d (jW d j))=cG d (j/4):=by
 have hc:=wG (wC h hj)
 obtain⟨f1,f2⟩:=wP h hc
 change jW d j<_ at f1
 obtain⟨c,t,hr,c1,c2⟩:=FX d _ (Nat.le_refl _) (ga (jt d) (jW d j)) (by rw[eo f1];exact List.getElem_mem _)
 have hrc:jU d c:=⟨c1,c2⟩
 obtain⟨o1,o2⟩:=kN hrc
 have hd:hd0 d (jW d j)=dA c:=by
  unfold hd0
  rw[Ci,CO _ _ _ f1,hr]
  rfl
 have e2:ia d (jW d j)=dw d (dA c).b ((dA c).a.toNat-1)/4:=by
  obtain⟨_,_,a3⟩:=nz h (a:=(dA c).a.toNat-1) (by omega) (dA c).b
  rw[a3,show(((dA c).a.toNat-1+1:Nat):Int)=(dA c).a by omega]
  unfold ia
  rw[hd]
 obtain⟨p1,p2,_⟩:=nz h (a:=(dA c).a.toNat-1) (by omega) (!(dA c).b)
 have e3:jW d (dw d (!(dA c).b) ((dA c).a.toNat-1))=jW d j:=by
  show pj d (jX (qA d _))=_
  rw[p2,Bool.not_not,show(((dA c).a.toNat-1+1:Nat):Int)=(dA c).a by omega]
  show pj d (jX (dA c))=_
  rw[wR]
  exact HE h hrc f1 (by rw[hr];simp)
 have e4:=acg h (fun x=>cG d (x/4)=cG d (j/4)) (fun a ha=>by
  rw[Cv,Cv,Cw h ha]
  exact⟨Iff.rfl,Iff.rfl⟩) hj p1 e3.symm rfl
 rw[e2,<-e4]
 cases (dA c).b with
 |true=>exact(Cw h (by omega)).symm
 |false=>exact Cw h (by omega)
theorem ak3{d:Dg}(h:aN d=true):ml d.ae.length (jt d).length (dw d false) (dw d true) (fun j=>(cv d j).toNat-1) (jW d) (cG d) (fun i=>cG d (ia d i)):=by
 refine⟨fun a ha=>?_,fun j hj=>?_,fun a ha=>?_,fun j hj=>(wP h (wG (wC h hj))).1,fun i hi=>?_,fun Z hZ j j' hj hj' e=>acg h Z hZ hj hj' e,fun a ha=>Cw h ha,fun Z hZ x y hx hy e hz=>?_,fun j hj=>als h hj⟩
 ·obtain⟨a1,a2,a3⟩:=nz h ha false
  obtain⟨b1,b2,b3⟩:=nz h ha true
  have q1:cv d (dw d false a)=((a+1:Nat):Int):=congrArg Da.a a2
  have q2:cv d (dw d true a)=((a+1:Nat):Int):=congrArg Da.a b2
  refine⟨a1,b1,fun e=>?_,?_,?_⟩
  ·rw[e,b2]at a2
   have:=congrArg Da.b a2
   simp at this
  ·rw[q1];omega
  ·rw[q2];omega
 ·have hr:=yQ h hj
  refine⟨by omega,?_⟩
  cases hb:Uz d (j/4) (j%4)with
  |true=>exact .inl (yV h hj (b:=false) hb)
  |false=>exact .inr (yV h hj (b:=true) hb)
 ·have key:∀b,jW d (dw d (!b) a)=jW d (cW (dw d b a)):=fun b=>by
   obtain⟨a1,a2,a3⟩:=nz h ha (!b)
   rw[Bool.not_not]at a2
   unfold jW
   have ho:okD d (qA d (dw d (!b) a)):=wC h a1
   rw[a2]at ho ⊢
   have h1:=alr h (wG ho)
   rw[<-h1]
   unfold cQ
   rw[HI (by have:=ho.1;simp only at this ⊢;omega),abY h ha b]
   rfl
  exact⟨key true,key false⟩
 ·obtain⟨c,t,hr,c1,c2⟩:=FX d _ (Nat.le_refl _) (ga (jt d) i) (by rw[eo hi];exact List.getElem_mem _)
  have hrc:jU d c:=⟨c1,c2⟩
  have hi9:=HE h hrc hi (by rw[hr];simp)
  obtain⟨x4,RF⟩:=kN hrc
  obtain⟨a1,a2,a3⟩:=nz h (a:=(dA c).a.toNat-1) (by omega) (!(dA c).b)
  refine⟨dw d (!(dA c).b) ((dA c).a.toNat-1),a1,?_⟩
  unfold jW
  rw[a2,Bool.not_not,show(((dA c).a.toNat-1+1:Nat):Int)=(dA c).a by omega]
  show pj d (jX (dA c))=i
  rw[wR]
  exact hi9
 ·refine aal h Z (fun u s hu hs=>?_) hx hy e hz
  obtain⟨k,hk,hh⟩:=ack h hu hs
  have:=hZ k hk
  rw[(nz h hk false).2.2,(nz h hk true).2.2]at this
  unfold eP at hh
  rcases hh with⟨g1,g2⟩|⟨g1,g2⟩
  ·rw[g1,g2]at this;exact this
  ·rw[g1,g2]at this;exact this.symm
def FR(d:Dg):Prop:=FQ d.ae.length (dw d false) (dw d true) (fun j=>(cv d j).toNat-1)
theorem abm{d:Dg}(h:aN d=true):oF d=true<->FR d:=by
 unfold FR
 rw[(ak3 h).ali]
 have hfl:(U7 d).length=(jt d).length:=by rw[Ci,List.length_map]
 have hcn:∀i,i<(cz d).length->(ga (jw d (U7 d).length) i=((ga (cz d) i).length:Int)+2<->cn (fun x=>decide (cG d (ia d x)=i)) (jt d).length=cn (fun x=>decide (cG d x=i)) d.ae.length+2):=fun i hi=>by
  rw[acU d i hi,abo h hi,hfl]
  omega
 unfold oF
 rw[List.all_eq_true]
 constructor
 ·intro hp p x0 hx0 e
  obtain⟨l1,_⟩:=ud h hx0
  rw[e]at l1
  exact(hcn p l1).1 (of_decide_eq_true (hp p (List.mem_range.2 l1)))
 ·intro hp i hi
  have hi:=List.mem_range.1 hi
  obtain⟨_,c0,hc0,hm,_⟩:=(rq h).el i hi
  exact decide_eq_true ((hcn i hi).2 (hp i c0 hc0 (yY h hi hm).2))
def Dm(d:Dg)(gn:Nat->Bool):Prop:=∀D:Nat->Bool,(∀c s,c<d.ae.length->gn c=true->s<4->D (Uq d c s).toNat=D (Uq d c ((s+2)%4)).toNat)->∃E:Nat->Bool,
 (∀c s,c<d.ae.length->gn c=false->s<4->E (Uq d c s).toNat=false)/\
 ∀c s,c<d.ae.length->gn c=true->s<4->Uz d c s=true->(E (Uq d c s).toNat !=E (Uq d c ((s+2)%4)).toNat)=D (Uq d c ((s+1)%4)).toNat
def dO(d:Dg)(gn:Nat->Bool)(D1:Nat->Bool)(x:Nat):Bool:=jV (tC d gn) (tR d gn) (ga (tC d gn) x)&&D1 (cn (dZ (tC d gn) (tR d gn)) (cT d gn x+1) -1)
theorem alx{d:Dg}(h:aN d=true){gn D1:Nat->Bool}{x y:Nat}(hx:x<2*d.ae.length+1)(hy:y<2*d.ae.length+1)(e:cT d gn x=cT d gn y):dO d gn D1 x=dO d gn D1 y:=by
 unfold dO
 rw[(sH h gn hx).1,(sH h gn hy).1,e]
theorem zB{d:Dg}(h:aN d=true){gn D1:Nat->Bool}{i s:Nat}(hi:i<(tR d gn).length)(hs:s<4):dO d gn D1 (Uq d (cF d gn i) s).toNat=D1 ((Uq (bB d gn) i s).toNat-1):=by
 obtain⟨s1,s2⟩:=qo hi
 have hl:=Gz (d:=d) (gn:=gn) (v:=ga d.ae (cF d gn i)) (H0 s1 s2) hs
 change jV (tC d gn) (tR d gn) (ga (tC d gn) (Uq d (cF d gn i) s).toNat)=true at hl
 unfold dO
 rw[hl,(qq hi hs).1,(si h hi hs).2,Int.toNat_natCast,Bool.true_and]
theorem tY(d:Dg)(c:Nat){s:Nat}(hs:s<4):cv d (4*c+s)=Uq d c s:=by
 unfold cv
 rw[show(4*c+s)/4=c by omega,show(4*c+s)%4=s by omega]
theorem acJ(c:Nat){s:Nat}(hs:s<4):cW (4*c+s)=4*c+(s+3)%4:=by unfold cW;omega
theorem al4{d:Dg}(h:aN d=true){gn:Nat->Bool}(hE:Dm d gn)(hP:FR d):FR (bB d gn):=by
 intro D1 hD1
 have h':=abL h gn
 have hl:=CI d gn
 have tied:∀c s,c<d.ae.length->gn c=true->s<4->dO d gn D1 (Uq d c s).toNat=dO d gn D1 (Uq d c ((s+2)%4)).toNat:=fun c s hc hg hs=>by
  have b1:=eO h hc hs
  have b2:=eO h hc (k:=(s+2)%4) (by omega)
  exact alx h (by omega) (by omega) (acp h hc hg hs)
 obtain⟨E,ny,pX⟩:=hE (dO d gn D1) tied
 have hA:∀c s,c<d.ae.length->s<4->(fun a=>dO d gn D1 (a+1)) ((fun j=>(cv d j).toNat-1) (4*c+s))=dO d gn D1 (Uq d c s).toNat:=fun c s hc hs=>by
  have b1:=eO h hc hs
  dsimp only
  rw[tY d c hs,show(Uq d c s).toNat-1+1=(Uq d c s).toNat by omega]
 obtain⟨Y,y1,y2⟩:=hP (fun a=>dO d gn D1 (a+1)) (fun c hc=>by
  have e0:=hA c 0 hc (by omega)
  have e1:=hA c 1 hc (by omega)
  have e2:=hA c 2 hc (by omega)
  have e3:=hA c 3 hc (by omega)
  rw[Nat.add_zero]at e0
  unfold n7
  simp only[e0,e1,e2,e3]
  cases hg:gn c with
  |true=>
   have t0:=tied c 0 hc hg (by omega)
   have t1:=tied c 1 hc hg (by omega)
   simp only[show(0+2)%4=2 from rfl,show(1+2)%4=3 from rfl]at t0 t1
   simp only[t0,t1]
   cases dO d gn D1 (Uq d c 2).toNat<;>cases dO d gn D1 (Uq d c 3).toNat<;>rfl
  |false=>
   obtain⟨i,hi,rfl⟩:=abP hc hg
   simp only[zB h hi (show 0<4 by omega),zB h hi (show 1<4 by omega),zB h hi (show 2<4 by omega),zB h hi (show 3<4 by omega)]
   have:=hD1 i (by omega)
   unfold n7 at this
   have e4:=tY (bB d gn) i (show 0<4 by omega)
   rw[Nat.add_zero]at e4
   simp only[e4,tY (bB d gn) i (show 1<4 by omega),tY (bB d gn) i (show 2<4 by omega),tY (bB d gn) i (show 3<4 by omega)]at this
   exact this)
 have yA:∀c s,c<d.ae.length->s<4->(Y (4*c+s)!=Y (4*c+(s+3)%4))=dO d gn D1 (Uq d c s).toNat:=fun c s hc hs=>by
  have:=y1 (4*c+s) (by omega)
  rw[acJ c hs]at this
  rw[this]
  exact hA c s hc hs
 -- the left side of an arc
 obtain⟨lf,hlf⟩:∃lf:Nat->Bool,∀x,lf x=Y (dw d true (x-1)):=⟨_,fun _=>rfl⟩
 have acP:∀c s,c<d.ae.length->s<4->Uz d c s=false->lf (Uq d c s).toNat=Y (4*c+s):=fun c s hc hs he=>by
  have e:=yV h (j:=4*c+s) (b:=true) (by omega) (by rw[show(4*c+s)/4=c by omega,show(4*c+s)%4=s by omega,he];rfl)
  rw[tY d c hs]at e
  rw[hlf,<-e]
 have adn:∀c s,c<d.ae.length->s<4->Uz d c s=true->lf (Uq d c s).toNat=Y (4*c+(s+3)%4):=fun c s hc hs he=>by
  have b1:=eO h hc hs
  have e:=yV h (j:=4*c+s) (b:=false) (by omega) (by rw[show(4*c+s)/4=c by omega,show(4*c+s)%4=s by omega,he];rfl)
  rw[tY d c hs]at e
  rw[hlf,(y2 _ (by omega)).2,<-e,acJ c hs]
 have same:∀x y,x<2*d.ae.length+1->y<2*d.ae.length+1->cT d gn x=cT d gn y->(lf x !=E x)=(lf y !=E y):=fun x y hx hy e=>by
  refine((acE h gn (fun z=>(lf x !=E x)=(lf z !=E z)) (fun c s hc hg hs he=>?_) hx hy e).1 rfl)
  have l1:=adn c s hc hs he
  have l2:=acP c ((s+2)%4) hc (by omega) (by rw[CK d c hs,he];rfl)
  have l3:=yA c ((s+3)%4) hc (by omega)
  rw[show((s+3)%4+3)%4=(s+2)%4 by omega,<-l1,<-l2]at l3
  have l4:=pX c s hc hg hs he
  have l5:=tied c ((s+1)%4) hc hg (by omega)
  rw[show((s+1)%4+2)%4=(s+3)%4 by omega,<-l3,<-l4]at l5
  have:(lf (Uq d c s).toNat !=E (Uq d c s).toNat)=(lf (Uq d c ((s+2)%4)).toNat !=E (Uq d c ((s+2)%4)).toNat):=by
   revert l5
   cases lf (Uq d c s).toNat<;>cases E (Uq d c s).toNat<;>cases lf (Uq d c ((s+2)%4)).toNat<;>cases E (Uq d c ((s+2)%4)).toNat<;>decide
  rw[this]
 have z1:∀j,j<4*(bB d gn).ae.length->(Y (4*cF d gn (j/4)+j%4)!=Y (4*cF d gn (cW j/4)+cW j%4))=D1 ((cv (bB d gn) j).toNat-1):=fun j hj=>by
  have hi:j/4<(tR d gn).length:=by omega
  obtain⟨s1,s2⟩:=qo hi
  rw[Cv,show cW j%4=(j%4+3)%4 by unfold cW;omega,yA _ _ s1 (by omega),zB h hi (by omega)]
  rfl
 refine⟨fun j=>Y (4*cF d gn (j/4)+j%4),z1,fun a ha=>?_⟩
 obtain⟨a1,a2,a3⟩:=nz h' ha false
 obtain⟨b1,b2,b3⟩:=nz h' ha true
 have main:Y (4*cF d gn (dw (bB d gn) true a/4)+dw (bB d gn) true a%4)=Y (4*cF d gn (cW (dw (bB d gn) false a)/4)+cW (dw (bB d gn) false a)%4):=by
  generalize dw (bB d gn) true a=j at b1 b2 b3
  generalize dw (bB d gn) false a=k at a1 a2 a3
  have hj:j/4<(tR d gn).length:=by omega
  have hk:k/4<(tR d gn).length:=by omega
  obtain⟨s1,s2⟩:=qo hj
  obtain⟨t1,t2⟩:=qo hk
  have ea:Uq (bB d gn) (k/4) (k%4)=((a+1:Nat):Int):=congrArg Da.a a2
  have eb:Uq (bB d gn) (j/4) (j%4)=((a+1:Nat):Int):=congrArg Da.a b2
  have fa:Uz (bB d gn) (k/4) (k%4)=true:=congrArg Da.b a2
  have fb:Uz (bB d gn) (j/4) (j%4)=false:=congrArg Da.b b2
  rw[(qq hk (by omega)).1,(si h hk (by omega)).2]at ea
  rw[(qq hj (by omega)).1,(si h hj (by omega)).2]at eb
  rw[(qq hk (by omega)).2]at fa
  rw[(qq hj (by omega)).2]at fb
  have hc:=acY (si h hk (show k%4<4 by omega)).1 (si h hj (show j%4<4 by omega)).1 (by omega)
  have c1:=eO h t1 (show k%4<4 by omega)
  have c2:=eO h s1 (show j%4<4 by omega)
  have hs:=same _ _ (by omega) (by omega) hc
  rw[ny _ _ t1 t2 (by omega),ny _ _ s1 s2 (by omega),adn _ _ t1 (by omega) fa,acP _ _ s1 (by omega) fb]at hs
  rw[Cv,show cW k%4=(k%4+3)%4 by unfold cW;omega]
  revert hs
  cases Y (4*cF d gn (j/4)+j%4)<;>cases Y (4*cF d gn (k/4)+(k%4+3)%4)<;>decide
 refine⟨?_,main⟩
 have w1:=z1 _ a1
 have w2:=z1 _ b1
 rw[show cv (bB d gn) (dw (bB d gn) false a)=((a+1:Nat):Int)from congrArg Da.a a2]at w1
 rw[show cv (bB d gn) (dw (bB d gn) true a)=((a+1:Nat):Int)from congrArg Da.a b2]at w2
 rw[<-main,<-w2]at w1
 dsimp only
 revert w1
 cases Y (4*cF d gn (dw (bB d gn) false a/4)+dw (bB d gn) false a%4)<;>cases Y (4*cF d gn (dw (bB d gn) true a/4)+dw (bB d gn) true a%4)<;>cases Y (4*cF d gn (cW (dw (bB d gn) true a)/4)+cW (dw (bB d gn) true a)%4)<;>decide
end Go.Proofs.YthppkofceancjaaGreat
namespace Go.Proofs.YthppkofceancjaaGreat
open Go.RowKit
theorem wJ{d:Dg}(h:aN d=true){c1 s1 c2 s2 c3 s3:Nat}(h1:c1<d.ae.length)(k1:s1<4)(h2:c2<d.ae.length)(k2:s2<4)(h3:c3<d.ae.length)(k3:s3<4)(e12:Uq d c1 s1=Uq d c2 s2)(e13:Uq d c1 s1=Uq d c3 s3):(c1=c2/\s1=s2)\/(c1=c3/\s1=s3)\/(c2=c3/\s2=s3):=by
 have V:=acy h
 by_cases a:Uz d c1 s1=Uz d c2 s2
 ·exact .inl (V.u _ _ _ _ h1 k1 h2 k2 a e12)
 ·by_cases b:Uz d c1 s1=Uz d c3 s3
  ·exact .inr (.inl (V.u _ _ _ _ h1 k1 h3 k3 b e13))
  ·refine .inr (.inr (V.u _ _ _ _ h2 k2 h3 k3 ?_ (e12.symm.trans e13)))
   revert a b
   cases Uz d c1 s1<;>cases Uz d c2 s2<;>cases Uz d c3 s3<;>decide
theorem FY{u:Nat->Nat}{E D:Nat->Bool}{t:Nat}(ht:t<4)(hA:E (u t)=D (u ((t+3)%4)))(hB:E (u ((t+3)%4))=D (u t))(h1:E (u ((t+1)%4))=false)(h2:E (u ((t+2)%4))=false)(hD:∀s,s<4->D (u s)=D (u ((s+2)%4))){s:Nat}(hs:s<4):(E (u s)!=E (u ((s+2)%4)))=D (u ((s+1)%4)):=by
 have d1:=hD t ht
 have d2:=hD ((t+1)%4) (by omega)
 rw[show((t+1)%4+2)%4=(t+3)%4 by omega]at d2
 have:s=t\/s=(t+1)%4\/s=(t+2)%4\/s=(t+3)%4:=by omega
 rcases this with rfl|rfl|rfl|rfl
 ·rw[hA,h2,d2];simp
 ·rw[show((t+1)%4+2)%4=(t+3)%4 by omega,show((t+1)%4+1)%4=(t+2)%4 by omega,h1,hB,d1];simp
 ·rw[show((t+2)%4+2)%4=t by omega,show((t+2)%4+1)%4=(t+3)%4 by omega,h2,hA];simp
 ·rw[show((t+3)%4+2)%4=(t+1)%4 by omega,show((t+3)%4+1)%4=t by omega,h1,hB];simp
theorem aih{d:Dg}(h:aN d=true){gn:Nat->Bool}{c k:Nat}(hc:c<d.ae.length)(hk:k<4)(hg:∀x,gn x=true<->x=c)(he:Uq d c k=Uq d c ((k+1)%4)):Dm d gn:=by
 intro D hD
 have hb:=eO h hc hk
 obtain⟨E,hE⟩:∃E:Nat->Bool,∀x,E x=(decide (x=(Uq d c k).toNat)&&D (Uq d c k).toNat):=⟨_,fun _=>rfl⟩
 refine⟨E,fun c' s hc' hg' hs=>?_,fun c' s hc' hg' hs _=>?_⟩
 ·have hne:c'≠c:=fun e=>by rw[(hg c').2 e]at hg';cases hg'
  have b2:=eO h hc' hs
  rw[hE,decide_eq_false,Bool.false_and]
  intro e
  rcases wJ h hc hk hc (show(k+1)%4<4 by omega) hc' hs he (by omega)with⟨_,e2⟩|⟨e2,_⟩|⟨e2,_⟩<;>omega
 ·obtain rfl:=(hg c').1 hg'
  refine FY (u:=fun s=>(Uq d c' s).toNat) (E:=E) (t:=(k+1)%4) (by omega) ?_ ?_ ?_ ?_ (fun s hs=>hD c' s hc' hg' hs) hs
  ·skip
   rw[hE,<-he,show((k+1)%4+3)%4=k by omega,decide_eq_true rfl];rfl
  ·skip
   rw[hE,<-he,show((k+1)%4+3)%4=k by omega,decide_eq_true rfl];rfl
  ·skip
   have b2:=eO h hc' (k:=((k+1)%4+1)%4) (by omega)
   rw[hE,decide_eq_false,Bool.false_and]
   intro e
   rcases wJ h hc' hk hc' (show(k+1)%4<4 by omega) hc' (show((k+1)%4+1)%4<4 by omega) he (by omega)with⟨_,e2⟩|⟨_,e2⟩|⟨_,e2⟩<;>omega
  ·skip
   have b2:=eO h hc' (k:=((k+1)%4+2)%4) (by omega)
   rw[hE,decide_eq_false,Bool.false_and]
   intro e
   rcases wJ h hc' hk hc' (show(k+1)%4<4 by omega) hc' (show((k+1)%4+2)%4<4 by omega) he (by omega)with⟨_,e2⟩|⟨_,e2⟩|⟨_,e2⟩<;>omega
theorem aif{d:Dg}(h:aN d=true){gn:Nat->Bool}{p q s1 s2:Nat}(hp:p<d.ae.length)(hq:q<d.ae.length)(hpq:p≠q)(k1:s1<4)(k2:s2<4)(hg:∀x,gn x=true<->x=p\/x=q)(h1:Uq d p s1=Uq d q ((s2+3)%4))(h2:Uq d q s2=Uq d p ((s1+3)%4)):Dm d gn:=by
 intro D hD
 have b1:=eO h hp k1
 have b2:=eO h hq k2
 have l1:(s1+3)%4<4:=by omega
 have l2:(s2+3)%4<4:=by omega
 have hne:Uq d p s1≠Uq d q s2:=fun e=>by
  rcases wJ h hp k1 hq k2 hp l1 e (by rw[e,h2])with⟨e2,_⟩|⟨_,e2⟩|⟨e2,_⟩<;>omega
 obtain⟨E,hE⟩:∃E:Nat->Bool,∀x,E x=(decide (x=(Uq d p s1).toNat)&&D (Uq d q s2).toNat||decide (x=(Uq d q s2).toNat)&&D (Uq d p s1).toNat):=⟨_,fun _=>rfl⟩
 have far:∀c s,c<d.ae.length->s<4->¬(c=p/\(s=s1\/s=(s1+3)%4))->¬(c=q/\(s=s2\/s=(s2+3)%4))->E (Uq d c s).toNat=false:=fun c s hc hs n1 n2=>by
  have b3:=eO h hc hs
  rw[hE,decide_eq_false,decide_eq_false,Bool.false_and,Bool.false_and]
  ·rfl
  ·intro e
   rcases wJ h hq k2 hp l1 hc hs h2 (by omega)with⟨e2,_⟩|⟨e2,e3⟩|⟨e2,e3⟩
   ·exact hpq e2.symm
   ·exact n2 ⟨e2.symm,.inl e3.symm⟩
   ·exact n1 ⟨e2.symm,.inr e3.symm⟩
  ·intro e
   rcases wJ h hp k1 hq l2 hc hs h1 (by omega)with⟨e2,_⟩|⟨e2,e3⟩|⟨e2,e3⟩
   ·exact hpq e2
   ·exact n1 ⟨e2.symm,.inl e3.symm⟩
   ·exact n2 ⟨e2.symm,.inr e3.symm⟩
 have v1:E (Uq d p s1).toNat=D (Uq d q s2).toNat:=by
  rw[hE,decide_eq_true rfl,decide_eq_false (by omega)];simp
 have v2:E (Uq d q s2).toNat=D (Uq d p s1).toNat:=by
  rw[hE,decide_eq_true (p:=(Uq d q s2).toNat=(Uq d q s2).toNat) rfl,decide_eq_false (by omega)];simp
 refine⟨E,fun c s hc hg' hs=>?_,fun c s hc hg' hs _=>?_⟩
 ·have n1:c≠p:=fun e=>by rw[(hg c).2 (.inl e)]at hg';cases hg'
  have n2:c≠q:=fun e=>by rw[(hg c).2 (.inr e)]at hg';cases hg'
  exact far c s hc hs (fun e=>n1 e.1) (fun e=>n2 e.1)
 ·rcases(hg c).1 hg' with rfl|rfl
  ·refine FY (u:=fun s=>(Uq d c s).toNat) (E:=E) (t:=s1) k1 ?_ ?_ ?_ ?_ (fun s hs=>hD c s hc hg' hs) hs
   ·skip
    rw[v1,<-h2]
   ·skip
    rw[<-h2,v2]
   ·exact far c _ hc (by omega) (by omega) (fun e=>hpq e.1)
   ·exact far c _ hc (by omega) (by omega) (fun e=>hpq e.1)
  ·refine FY (u:=fun s=>(Uq d c s).toNat) (E:=E) (t:=s2) k2 ?_ ?_ ?_ ?_ (fun s hs=>hD c s hc hg' hs) hs
   ·skip
    rw[v2,<-h1]
   ·skip
    rw[<-h1,v1]
   ·exact far c _ hc (by omega) (fun e=>hpq e.1.symm) (by omega)
   ·exact far c _ hc (by omega) (fun e=>hpq e.1.symm) (by omega)
theorem acD{d:Dg}(h:dv d=true){gn:Nat->Bool}(h0:0<d.ae.length)(hE:Dm d gn)(hl:(bB d gn).loops<=16):dv (bB d gn)=true:=by
 unfold dv at h ⊢
 rw[Bool.and_eq_true]at h ⊢
 obtain⟨hm,hp⟩:=h
 unfold gB at hm
 rw[Bool.and_eq_true]at hm
 obtain⟨vI,hm2⟩:=hm
 have hab:aN d=true:=hm2
 have vI:=of_decide_eq_true vI
 have h':=abL hab gn
 obtain⟨t1,t2,_⟩:=ajE d gn
 refine⟨?_,(abm h').2 (al4 hab hE ((abm hab).1 hp))⟩
 unfold gB
 rw[Bool.and_eq_true]
 refine⟨decide_eq_true ⟨by omega,by omega,hl,?_⟩,h'⟩
 rintro⟨e1,e2⟩
 have e3:tR d gn=[]:=by
  rw[CI]at e1
  exact List.eq_nil_of_length_eq_zero e1
 obtain⟨c1,c2,c3⟩:=sH hab gn (x:=1) (by omega)
 have c4:=CJ hab gn (x:=1) (by omega) (by omega)
 have hlo:fh (tC d gn) (tR d gn) (cT d gn 1)=true:=by
  unfold fh
  rw[e3,decide_eq_true (show 1<=cT d gn 1 by omega),decide_eq_true c3]
  rfl
 have h5:=oz hlo
 have h6:=ady (fh (tC d gn) (tR d gn)) (a:=cT d gn 1+1) (b:=2*d.ae.length+1) (by omega)
 have h7:(bB d gn).loops=d.loops+(cn (fh (tC d gn) (tR d gn)) (2*d.ae.length+1):Int):=rfl
 omega
theorem abK{d:Dg}{gn:Nat->Bool}{c:Nat}(hc:c<d.ae.length)(hg:gn c=true):(bB d gn).ae.length<d.ae.length:=by
 rw[CI,<-yK]
 unfold uK
 have:((List.range d.ae.length).filter fun i=>!gn i).length<(List.range d.ae.length).length:=by
  refine List.length_filter_lt_length_iff_exists.2 ⟨c,List.mem_range.2 hc,by rw[hg];simp⟩
 rwa [List.length_range]at this
theorem ahL{x:Cr}:∀k,jx x k=true->∃j,j<k/\cK x j=cK x ((j+1)%4):=by
 intro k
 induction k with
 |zero=>intro h;cases h
 |succ k ih=>
  intro h
  rw[jx,Bool.or_eq_true]at h
  rcases h with h|h
  ·obtain⟨j,h1,h2⟩:=ih h
   exact⟨j,by omega,h2⟩
  ·exact⟨k,by omega,of_decide_eq_true h⟩
theorem anB{d:Dg}(h:aN d=true){x:List Da}(hx:x∈U7 d)(hl:x.length=2)(hne:cw d (ga x 0)≠cw d (ga x 1)):∃s1 s2,s1<4/\s2<4/\cw d (ga x 0)<d.ae.length/\cw d (ga x 1)<d.ae.length/\Uq d (cw d (ga x 1)) s1=Uq d (cw d (ga x 0)) ((s2+3)%4)/\Uq d (cw d (ga x 0)) s2=Uq d (cw d (ga x 1)) ((s1+3)%4):=by
 have hx2:=hx
 rw[Ci]at hx2
 obtain⟨r,hr,rfl⟩:=List.mem_map.1 hx2
 obtain⟨i1,_,i3⟩:=Bu h _ (Nat.le_refl _)
 have hn:r.Nodup:=(List.pairwise_flatten.1 i1.1).1 r hr
 have hc:=(i3 r hr).1
 have hr2:=(i3 r hr).2
 have hl2:r.length=2:=by unfold iL at hl;rwa [List.length_map]at hl
 obtain⟨y0,y1,rfl⟩:=ad9 hl2
 obtain⟨c0,rfl,h0⟩:=hr2 y0 (by simp)
 obtain⟨c1,rfl,h1⟩:=hr2 y1 (by simp)
 have n0:=tX hc (c:=c0) (by simp)
 have n1:=tX hc (c:=c1) (by simp)
 have hn':(c0:Int)≠c1:=by simpa using hn
 have hnc:c0≠c1:=fun e=>hn' (by rw[e])
 have k01:cQ d c0≠cQ d c1:=fun e=>hnc (rS h h0 h1 e)
 simp only[List.mem_cons,List.not_mem_nil,or_false,Int.ofNat_inj]at n0 n1
 have f0:cQ d c0≠c0:=fun e=>by
  have:=aay h (fun c=>c=c0) (fun c hc'=>⟨fun e2=>by rw[e2];exact e,fun e2=>rS h hc' h0 (by rw[e2,e])⟩) _ (Nat.le_refl _) _ hr _ (by simp:(c0:Int)∈_) (c1:Int) (by simp)
  simp at this
  exact hnc this.symm
 have m0:cQ d c0=c1:=by omega
 have m1:cQ d c1=c0:=by omega
 obtain⟨o1,o2⟩:=kN h0
 obtain⟨q1,q2⟩:=kN h1
 obtain⟨u1,u2,_⟩:=eF h (a:=(dA c0).a) ⟨o1,o2⟩ (dA c0).b
 obtain⟨v1,v2,_⟩:=eF h (a:=(dA c1).a) ⟨q1,q2⟩ (dA c1).b
 obtain⟨g1,_⟩:=pE h (a:=(dA c0).a) ⟨o1,o2⟩ (dA c0).b
 obtain⟨g2,_⟩:=pE h (a:=(dA c1).a) ⟨q1,q2⟩ (dA c1).b
 have t0:=uw h h0
 have t1:=uw h h1
 rw[m0]at t0
 rw[m1]at t1
 have w0:=ug h h0
 have w1:=ug h h1
 rw[m0]at w0
 rw[m1]at w1
 have x0:(dA c1).a=Uq d (Ud d (dA c0).a (dA c0).b).1 (((Ud d (dA c0).a (dA c0).b).2+3)%4):=congrArg Da.a w0
 have x1:(dA c0).a=Uq d (Ud d (dA c1).a (dA c1).b).1 (((Ud d (dA c1).a (dA c1).b).2+3)%4):=congrArg Da.a w1
 have z0:(Ud d (dA c0).a (dA c0).b).1=cw d (dA c1):=t0
 have z1:(Ud d (dA c1).a (dA c1).b).1=cw d (dA c0):=t1
 show∃s1 s2,s1<4/\s2<4/\cw d (dA c0)<d.ae.length/\cw d (dA c1)<d.ae.length/\Uq d (cw d (dA c1)) s1=Uq d (cw d (dA c0)) ((s2+3)%4)/\Uq d (cw d (dA c0)) s2=Uq d (cw d (dA c1)) ((s1+3)%4)
 refine⟨(Ud d (dA c0).a (dA c0).b).2,(Ud d (dA c1).a (dA c1).b).2,u2,v2,by rw[<-z1];exact v1,by rw[<-z0];exact u1,?_,?_⟩
 ·rw[<-z0,<-z1,g1,<-x1]
 ·rw[<-z0,<-z1,g2,<-x0]
theorem ab7(c x:Nat):bh [c] x=true<->x=c:=by rw[wE];simp
theorem ab6(p q x:Nat):bh [p,q] x=true<->x=p\/x=q:=by rw[wE];simp
theorem akJ{d:Dg}(h:dv d=true){c:Nat}(hc:c<d.ae.length)(hk:jx (ga d.ae c) 4=true)(hl:(bB d (bh [c])).loops<=16):dv (bB d (bh [c]))=true/\(bB d (bh [c])).ae.length<d.ae.length:=by
 have hab:aN d=true:=by unfold dv gB at h;simp only[Bool.and_eq_true]at h;exact h.1.2
 obtain⟨k,k1,k2⟩:=ahL 4 hk
 exact⟨acD h (by omega) (aih hab hc k1 (ab7 c) k2) hl,abK hc ((ab7 c c).2 rfl)⟩
theorem akT{d:Dg}(h:dv d=true){i j:Nat}(hi:i<d.ae.length)(hj:j<d.ae.length)(hij:i≠j)(hk:(U7 d).any (gw d i j)=true)(hl:(bB d (bh [i,j])).loops<=16):dv (bB d (bh [i,j]))=true/\(bB d (bh [i,j])).ae.length<d.ae.length:=by
 have hab:aN d=true:=by unfold dv gB at h;simp only[Bool.and_eq_true]at h;exact h.1.2
 refine⟨acD h (by omega) ?_ hl,abK hi ((ab6 i j i).2 (.inl rfl))⟩
 obtain⟨x,hx,hxp⟩:=List.any_eq_true.1 hk
 unfold gw at hxp
 obtain⟨p1,p2,_⟩:=of_decide_eq_true hxp
 obtain⟨s1,s2,k1,k2,l0,l1,e1,e2⟩:=anB hab hx p1 (by omega)
 refine aif hab (p:=cw d (ga x 1)) (q:=cw d (ga x 0)) l1 l0 (by omega) k1 k2 (fun y=>?_) e1 e2
 rw[ab6]
 omega
end Go.Proofs.YthppkofceancjaaGreat
namespace Go.Proofs.YthppkofceancjaaGreat
open Go.ChangeShapes Go.WideShapes Go.ChangeAt Go.RowKit
def yE(P:Program)(l:Nat)(c rest:Code)(Q:Exit->Act->World->Prop)(a:Act)(w:World):Prop:=
 ∀b k cs,∃e a' w',Q e a' w'/\Arrives P (lone (b.at a (.code rest::.inScope c::k)) cs w) b k cs e a' w'
section
variable {P : Program} {n : Nat} {C : Ctx} {c : Code} {s : List K} {L : List (Nat × Value)} {w : World}
theorem ai6{b rest:Code}{l:Nat}{Q:Exit->Act->World->Prop}{a:Act}(hf:findLabel b l=some rest)(h:rest.wp P (Exit.jump l (yE P l b rest Q) Q) a w):yE P l b rest Q a w:=by
 intro f k cs
 have hg:gotoIn l (.inScope b::k)=some (.code rest::.inScope b::k):=by simp[gotoIn,hf]
 obtain⟨e,a1,w1,hq,ha⟩:=h f (.inScope b::k) cs
 cases e with
 |normal=>exact⟨.normal,a1,w1,hq,Steps.trans ha (.one step_inScope)⟩
 |exit id=>exact⟨.exit id,a1,w1,hq,fun k' hk=>ha k' (by simp[exitTo,hk])⟩
 |goto l'=>
  obtain⟨rfl,hJ⟩:=hq
  obtain⟨e2,a2,w2,hq2,ha2⟩:=hJ f k cs
  exact⟨e2,a2,w2,hq2,.of_steps (ha _ hg) ha2⟩
 |_=>exact⟨_,a1,w1,hq,ha⟩
theorem ahS{b rest:Code}{l:Nat}{Q:Exit->Act->World->Prop}{a:Act}(hf:findLabel b l=some rest)(h:b.wp P (Exit.jump l (yE P l b rest Q) Q) a w):(Code.scope b).wp P Q a w:=by
 intro f k cs
 have hg:gotoIn l (.inScope b::k)=some (.code rest::.inScope b::k):=by simp[gotoIn,hf]
 obtain⟨e,a1,w1,hq,ha⟩:=h f (.inScope b::k) cs
 cases e with
 |normal=>exact⟨.normal,a1,w1,hq,.head step_scope (Steps.trans ha (.one step_inScope))⟩
 |exit id=>exact⟨.exit id,a1,w1,hq,fun k' hk=>.head step_scope (ha k' (by simp[exitTo,hk]))⟩
 |goto l'=>
  obtain⟨rfl,hJ⟩:=hq
  obtain⟨e2,a2,w2,hq2,ha2⟩:=hJ f k cs
  exact⟨e2,a2,w2,hq2,.of_steps (.head step_scope (ha _ hg)) ha2⟩
 |_=>exact⟨_,a1,w1,hq,.of_steps (.one step_scope) ha⟩
theorem ahC{c:Code}(h:kind c=10):c=.scope (cL c):=by
 cases c with
 |region i o d=>cases d<;>cases h
 |scope b=>rfl
 |_=>cases h
theorem ahD{c:Code}(h:kind c=11):c=.label (n9 c):=by
 cases c with
 |region i o d=>cases d<;>cases h
 |label b=>rfl
 |_=>cases h
theorem aic{c:Code}(h:kind c=12):c=.goto (n9 c):=by
 cases c with
 |region i o d=>cases d<;>cases h
 |goto b=>rfl
 |_=>cases h
theorem aiu(b X:Code)(l:Nat)(hk:kind c=10)(hb:cL c=b)(hf:findLabel b l=some (.seq .skip X))(h:WS P n C b (.jmp l (yE P l b (.seq .skip X) (post P C s))::s) L w):WS P n C c s L w:=by
 intro a ha
 rw[ahC hk,hb]
 exact ahS hf (h a ha)
theorem aiv{b X:Code}{l:Nat}(I:Nat->Act->World->Prop)(hk:kind c=11)(hf:findLabel b l=some (.seq .skip X))(h0:∀a,Env n L a->∃k,I k a w)
  (round:∀k a w,I k a w->X.wp P (post P C (.jmp l (fun a' w'=>∃k',k'<k/\I k' a' w')::s)) a w):WS P n C c (.thn X::.jmp l (yE P l b (.seq .skip X) (post P C s))::s) L w:=by
 have key:∀k a w,I k a w->X.wp P (post P C (.jmp l (yE P l b (.seq .skip X) (post P C s))::s)) a w:=by
  intro k
  induction k using Nat.strongRecOn with
  |_ k ih=>
   intro a w hi
   refine Code.wp_mono (fun e a' w' hq=>?_) (round k a w hi)
   cases e with
   |goto l'=>
    obtain⟨rfl,k',hlt,hi'⟩:=hq
    exact⟨rfl,ai6 hf (wp_seq (wp_skip (ih k' hlt a' w' hi')))⟩
   |_=>exact hq
 intro a ha
 rw[ahD hk]
 obtain⟨k0,h1⟩:=h0 a ha
 exact wp_label (key k0 a w h1)
def jmpOf:List K->Option (Nat×(Act->World->Prop))
 |[]=>none
 |.thn _::s=>jmpOf s
 |.blk _::s=>jmpOf s
 |.lp _::s=>jmpOf s
 |.jmp l J::_=>some (l,J)
theorem BL{l:Nat}{J:Act->World->Prop}:∀{s:List K}{a:Act}{w:World},jmpOf s=some (l,J)->J a w->post P C s (.goto l) a w
 |.thn _::s,_,_,h,hJ=>BL (s:=s) h hJ
 |.blk _::s,_,_,h,hJ=>BL (s:=s) h hJ
 |.lp _::s,_,_,h,hJ=>BL (s:=s) h hJ
 |.jmp _ _::s,_,_,h,hJ=>by
  simp only[jmpOf,Option.some.injEq,Prod.mk.injEq]at h
  obtain⟨rfl,rfl⟩:=h
  exact⟨rfl,hJ⟩
theorem ajy{J:Act->World->Prop}(hk:kind c=12)(hj:jmpOf s=some (n9 c,J))(h:∀a,Env n L a->J a w):WS P n C c s L w:=by
 intro a ha
 rw[aic hk]
 exact wp_goto (BL hj (h a ha))
end
end Go.Proofs.YthppkofceancjaaGreat
namespace Go.Proofs.YthppkofceancjaaGreat
open Go.ChangeShapes Go.WideShapes Go.ChangeAt Go.RowKit
def oJ(c:Nat):Mv:=⟨2,(c:Int),0,0,false,0,false,false⟩
def lJ(i j:Nat):Mv:=⟨4,(i:Int),(j:Int),0,false,0,false,false⟩
def iP(d:Dg)(c:Nat):Bool:=jx (ga d.ae c) 4&&decide ((bB d (bh [c])).loops<=16)
def ja(d:Dg)(i j:Nat):Bool:=(U7 d).any (gw d i j)&&decide ((bB d (bh [i,j])).loops<=16)
def yu(d:Dg)(c:Nat):Prop:=c<d.ae.length/\iP d c=true/\∀x,x<c->iP d x=false
def yw(d:Dg)(p:Nat×Nat):Prop:=(∀x,x<d.ae.length->iP d x=false)/\p.1<p.2/\p.2<d.ae.length/\ja d p.1 p.2=true/\(∀a b,a<p.1->a<b->b<d.ae.length->ja d a b=false)/\∀b,p.1<b->b<p.2->ja d p.1 b=false
open Classical in
noncomputable def kP(d:Dg):Option Mv:=if h:∃c,yu d c then some (oJ h.choose)else if h:∃p,yw d p then some (lJ h.choose.1 h.choose.2)else none
theorem ajC{d:Dg}{a b:Nat}(h1:yu d a)(h2:yu d b):a=b:=by
 obtain⟨_,p2,p3⟩:=h1
 obtain⟨_,q2,q3⟩:=h2
 rcases Nat.lt_trichotomy a b with h|h|h
 ·rw[q3 a h]at p2;cases p2
 ·exact h
 ·rw[p3 b h]at q2;cases q2
theorem ajD{d:Dg}{p q:Nat×Nat}(h1:yw d p)(h2:yw d q):p=q:=by
 obtain⟨_,p2,p3,p4,p5,p6⟩:=h1
 obtain⟨_,q2,q3,q4,q5,q6⟩:=h2
 obtain⟨p,p'⟩:=p
 obtain⟨q,q'⟩:=q
 dsimp only at*
 rcases Nat.lt_trichotomy p q with h|h|h
 ·rw[q5 p p' h p2 p3]at p4;cases p4
 ·subst h
  rcases Nat.lt_trichotomy p' q' with h|h|h
  ·rw[q6 p' p2 h]at p4;cases p4
  ·rw[h]
  ·rw[p6 q' q2 h]at q4;cases q4
 ·rw[p5 q q' h q2 q3]at q4;cases q4
theorem ac7{d:Dg}{c:Nat}(h:yu d c):kP d=some (oJ c):=by
 have hx:∃c,yu d c:=⟨c,h⟩
 unfold kP
 rw[dif_pos hx,ajC hx.choose_spec h]
theorem ad7{d:Dg}(h:∀x,x<d.ae.length->iP d x=false):¬∃c,yu d c:=by
 rintro⟨c,h1,h2,_⟩
 rw[h c h1]at h2
 cases h2
theorem ac8{d:Dg}{i j:Nat}(h:yw d (i,j)):kP d=some (lJ i j):=by
 have hx:∃p,yw d p:=⟨(i,j),h⟩
 unfold kP
 rw[dif_neg (ad7 h.1),dif_pos hx,ajD hx.choose_spec h]
theorem ac9{d:Dg}(h1:∀x,x<d.ae.length->iP d x=false)(h2:∀a b,a<b->b<d.ae.length->ja d a b=false):kP d=none:=by
 have hx:¬∃p,yw d p:=by
  rintro⟨p,_,q2,q3,q4,_⟩
  rw[h2 _ _ q2 q3]at q4
  cases q4
 unfold kP
 rw[dif_neg (ad7 h1),dif_neg hx]
theorem GN{d:Dg}(hop:dv d=true){c:Nat}(hc:c<d.ae.length):((dx d (oJ c)).2=0<->iP d c=true)/\(iP d c=true->(dx d (oJ c)).1=bB d (bh [c])):=by
 have hE:jr d (oJ c)=if jx (ga d.ae c) 4=true then(if(bB d (bh [c])).loops<=16 then 0 else 2)else 8:=by
  unfold jr lI
  rw[if_pos (show 0<=(oJ c).at_/\(oJ c).at_<(d.ae.length:Int)from⟨by show(0:Int)<=(c:Int);omega,by show(c:Int)<_;omega⟩)]
  rfl
 have hD:xg d (oJ c)=bB d (bh [c]):=rfl
 rw[zA hop rfl,hE,hD]
 unfold iP kA
 cases jx (ga d.ae c) 4 with
 |true=>
  rw[if_pos rfl,Bool.true_and,decide_eq_true_iff]
  by_cases hl:(bB d (bh [c])).loops<=16
  ·rw[if_pos hl,if_pos rfl];exact⟨⟨fun _=>hl,fun _=>rfl⟩,fun _=>rfl⟩
  ·rw[if_neg hl,if_neg (by decide)];exact⟨⟨fun h=>absurd h (by decide),fun h=>absurd h hl⟩,fun h=>absurd h hl⟩
 |false=>simp
theorem GQ{d:Dg}(hop:dv d=true){i j:Nat}(hij:i<j)(hj:j<d.ae.length):((dx d (lJ i j)).2=0<->ja d i j=true)/\(ja d i j=true->(dx d (lJ i j)).1=bB d (bh [i,j])):=by
 have hE:gG d (lJ i j)=if(U7 d).any (gw d i j)=true then(if(bB d (bh [i,j])).loops<=16 then 0 else 2)else 8:=by
  unfold gG lI
  rw[if_pos (show(0<=(lJ i j).at_/\(lJ i j).at_<(d.ae.length:Int))/\(0<=(lJ i j).aJ/\(lJ i j).aJ<(d.ae.length:Int))/\(lJ i j).at_≠(lJ i j).aJ from by
   show(0<=(i:Int)/\(i:Int)<(d.ae.length:Int))/\(0<=(j:Int)/\(j:Int)<(d.ae.length:Int))/\(i:Int)≠(j:Int)
   omega)]
  rfl
 have hD:xV d (lJ i j)=bB d (bh [i,j]):=rfl
 rw[sy hop rfl,hE,hD]
 unfold ja kA
 cases (U7 d).any (gw d i j)with
 |true=>
  rw[if_pos rfl,Bool.true_and,decide_eq_true_iff]
  by_cases hl:(bB d (bh [i,j])).loops<=16
  ·rw[if_pos hl,if_pos rfl];exact⟨⟨fun _=>hl,fun _=>rfl⟩,fun _=>rfl⟩
  ·rw[if_neg hl,if_neg (by decide)];exact⟨⟨fun h=>absurd h (by decide),fun h=>absurd h hl⟩,fun h=>absurd h hl⟩
 |false=>simp
theorem akM{d:Dg}(hop:dv d=true){m:Mv}(h:kP d=some m):dv (dx d m).1=true/\(dx d m).1.ae.length<d.ae.length:=by
 unfold kP at h
 split at h
 ·rename_i hx
  obtain⟨h1,h2,_⟩:=hx.choose_spec
  injection h with h
  rw[<-h,(GN hop h1).2 h2]
  unfold iP at h2
  rw[Bool.and_eq_true]at h2
  exact akJ hop h1 h2.1 (of_decide_eq_true h2.2)
 ·split at h
  ·rename_i hx
   obtain⟨_,h1,h2,h3,_⟩:=hx.choose_spec
   injection h with h
   rw[<-h,(GQ hop h1 h2).2 h3]
   unfold ja at h3
   rw[Bool.and_eq_true]at h3
   exact akT hop (by omega) h2 (by omega) h3.1 (of_decide_eq_true h3.2)
  ·cases h
noncomputable def simF:Nat->Dg->List Mv->Dg×List Mv
 |0,d,ms=>(d,ms)
 |f+1,d,ms=>match kP d with
  |none=>(d,ms)
  |some m=>simF f (dx d m).1 (ms++[m])
theorem aaI{d:Dg}(h:kP d=none)(f:Nat)(ms:List Mv):simF f d ms=(d,ms):=by
 cases f with
 |zero=>rfl
 |succ f=>rw[simF,h]
theorem ahW{d:Dg}{m:Mv}(h:kP d=some m)(f:Nat)(ms:List Mv):simF (f+1) d ms=simF f (dx d m).1 (ms++[m]):=by rw[simF,h]
noncomputable def jS(d:Dg):Dg×List Mv×Int:=if dv d=false then(⟨[],0⟩,[],7)else((simF d.ae.length d []).1,(simF d.ae.length d []).2,0)
theorem tL{d D:Dg}{ms:List Mv}{m:Mv}(hop:dv D=true)(hl:D.ae.length+ms.length<=d.ae.length)(he:simF d.ae.length d []=simF (d.ae.length-ms.length) D ms)(h:kP D=some m):
  dv (dx D m).1=true/\(dx D m).1.ae.length+(ms++[m]).length<=d.ae.length/\simF d.ae.length d []=simF (d.ae.length-(ms++[m]).length) (dx D m).1 (ms++[m]):=by
 obtain⟨h1,h2⟩:=akM hop h
 rw[List.length_append,List.length_singleton]
 refine⟨h1,by omega,?_⟩
 rw[he,show d.ae.length-ms.length=(d.ae.length-(ms.length+1))+1 by omega,ahW h]
def awj(d:Dg)(u:Value)(M:Hp):Prop:=(kP d=none/\u=tup [.agg [.slice none 0 0,.int .i64 0].toArray,.agg (xY ⟨0,0,0,0,false,0,false,false⟩).toArray,.bool false])\/∃m A c,kP d=some m/\u=tup [.agg [.slice A (dx d m).1.ae.length c,.int .i64 (dx d m).1.loops].toArray,.agg (xY m).toArray,.bool true]/\aG aF M A c (dx d m).1.ae
def awi(d:Dg)(u:Value):Prop:=(kP d=none/\u=tup [.agg (xY ⟨0,0,0,0,false,0,false,false⟩).toArray,.bool false])\/∃m,kP d=some m/\u=tup [.agg (xY m).toArray,.bool true]
def QW(p:Dg×List Mv×Int)(u:Value)(M:Hp):Prop:=∃A c A' c',u=tup [.agg [.slice A p.1.ae.length c,.int .i64 p.1.loops].toArray,.slice A' p.2.1.length c',.int .i64 p.2.2]/\aG aF M A c p.1.ae/\aG nT M A' c' p.2.1
theorem GR(c:Int){M:Hp}:QW (⟨[],0⟩,[],c) (tup [.agg [.slice none 0 0,.int .i64 0].toArray,.slice none 0 0,.int .i64 c]) M:=⟨none,0,none,0,rfl,aG.eX,aG.eX⟩
end Go.Proofs.YthppkofceancjaaGreat
