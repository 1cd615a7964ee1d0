/- Part 10 of the proof of the law TableSeeks: the walks through its functions and the plain laws that they need. -/
import Derived.Test.YtcohmplpgcddiaaGreatDoorSmZ9
import Derived.Lib.Join
import Derived.Lib.ItoaNum
import Derived.Laws.Strings
import Derived.Test.YtcohmplpgcddiaaGreatDoorProg
import Derived.Shelf.Strings.OnBuilder
import Derived.Shelf.Strconv.Itoa3
set_option linter.unusedSimpArgs false
set_option linter.unusedVariables false
noncomputable section
namespace Go.Proofs.YtcohmplpgcddiaaGreatDoor
open Go.ChangeShapes Go.WideShapes Go.ChangeAt Go.RowKit
theorem NW{d:Dg}{m:Mv}(hop:fD d=true)(_hm:lh m):bR d m=uP (jC d m) (jT d m):=by
 unfold bR uP
 rw[if_neg (by rw[hop];decide)]
theorem Vn{d:Dg}(h1:fp d=true)(h2:yA d=true):fD d=true:=by
 unfold fD
 rw[h1,<-HE (qq h1).2.1,h2]
 rfl
theorem Im{d:Dg}(h1:fp d=true)(h2:yA d=false):fD d=false:=by
 unfold fD
 rw[h1,<-HE (qq h1).2.1,h2]
 rfl
theorem Ju{d:Dg}{m:Mv}(hop:fD d=true)(h:m.kd=2):bR d m=uP (jW d m) (C9 d m):=by
 rw[NW hop (by unfold lh;omega)]
 rw[show jC d m=jW d m from by unfold jC;rw[h];rfl,show jT d m=C9 d m from by unfold jT;rw[h];rfl]
theorem AO{d:Dg}{m:Mv}(hop:fD d=true)(h:m.kd=4):bR d m=uP (iG d m) (DU d m):=by
 rw[NW hop (by unfold lh;omega)]
 rw[show jC d m=iG d m from by unfold jC;rw[h];rfl,show jT d m=DU d m from by unfold jT;rw[h];rfl]
theorem ahw{d:Dg}{m:Mv}(hop:fD d=true)(h:m.kd=5):bR d m=uP (iR d m) (oX d m):=by
 rw[NW hop (by unfold lh;omega)]
 rw[show jC d m=iR d m from by unfold jC;rw[h];rfl,show jT d m=oX d m from by unfold jT;rw[h];rfl]
noncomputable def Z57:=Tryz.f20.body.getD .skip
set_option maxHeartbeats 2000000 in
set_option maxRecDepth 10000 in
theorem Ig{w:World}{M:Hp}{X:Fr}(d:Dg){bz:Option Addr}{bw:Nat}(m:Mv)(aC:aJ bu (M.un X.h) bz bw d.ae)(hm:lh m)(S:SH w M X []):Ct Tryz.prog 20 [.agg [.slice bz d.ae.length bw,.int .i64 d.loops].toArray,.agg [.int .i64 m.kd,.int .i64 m.at_,.int .i64 m.dG,.int .i64 m.ua,.bool m.ub,.int .i64 m.va,.bool m.vb,.bool m.ov].toArray] w M X (Ee (bR d m)):=by
 unfold Ct
 have iL:d.ae.length*40<=140737488355328:=aC.room
 unfold lh at hm
 refine cw (b:=Z57) Tryz.func20 rfl Tryz.ntmps20 rfl (fun C hC=>(cB [0,1] rfl (ar (aj rfl (dx (l:=[_,_]) rfl rfl rfl rfl rfl S ?_)))))
 intro aP w1 S1;clear S
 refine aj rfl (dx (l:=[_,_,_,_,_,_,_,_]) rfl rfl rfl rfl rfl S1 ?_)
 intro bJ w2 S2;clear S1
 refine aj rfl (bW (l:=[_,_]) rfl rfl rfl jo rfl S2 ?_)
 intro dE w3 S3;clear S2
 refine af 1 rfl (bM [2,3,4] rfl (ar (ag rfl (aU [_,_] rfl aM aN (S3.bs 2 rfl rfl)) (aj rfl (dU rfl rfl rfl rfl rfl rfl rfl Pt S3 (KZ d (aC.mono S3.bn) S3.aT) ?_)))))
 rintro _ w4 S4 rfl;clear S3
 refine af 2 rfl ?_
 refine uE (t:=10) rfl (fun xk=>?_) (fun xk=>?_)
 ·simp only[Bool.and_eq_true,Bool.or_eq_true,Bool.and_eq_false_iff,Bool.or_eq_false_iff,decide_eq_true_eq,decide_eq_false_iff_not,Bool.not_eq_true',Bool.not_eq_false']at xk
  refine af 4 rfl (ax [2,3,4,14] rfl (kP (ar (ag rfl (run_build (l:=[_,_]) rfl rfl iC rfl rfl) (aj rfl (bH 0 [_,_] [_,_] [_,_,_] rfl S4 rfl rfl aN rfl rfl ?_))))))
  intro w5 S5;clear S4
  refine af 1 rfl (ax [4,5] rfl (dI hC [_,_] rfl rfl ⟨⟨_,rfl,dK (us:=[_,_]) aM rfl aN (S5.bs 0 rfl rfl)⟩,rfl,trivial⟩ ?_))
  refine⟨_,rfl,_,Hp.le_refl _,(S5.pick [] [] (by decide) trivial),?_⟩
  rw[show bR d m=(⟨[],0⟩,7)from by unfold bR;rw[if_pos (by first|exact Im xk jf|(unfold fD;rw[xk];rfl))]]
  exact l7 7
 ·simp only[Bool.and_eq_true,Bool.or_eq_true,Bool.and_eq_false_iff,Bool.or_eq_false_iff,decide_eq_true_eq,decide_eq_false_iff_not,Bool.not_eq_true',Bool.not_eq_false']at xk
  obtain⟨hn,hab,hlo1,hlo2⟩:=qq xk
  have hlo:0<=d.loops/\d.loops<=16:=⟨hlo1,hlo2⟩
  refine b8 rfl (aU [_,_] rfl aM aN (S4.bs 2 rfl rfl)) (zq 5 6 rfl rfl rfl rfl rfl rfl rfl rfl (eo rfl rfl rfl rfl rfl rfl rfl Pr S4 (K8 d (aC.mono S4.bn) (hn) (hab) S4.aT) ?_))
  intro PN w6 M1 bh S6 Bp;clear S4
  replace aC:=aC.mono (Hp.aD bh S6.mx)
  obtain rfl:=Bp
  refine af 2 rfl (ax [2,3,4,14] rfl ?_)
  refine gB rfl (fun jf=>?_) (fun jf=>?_)
  ·simp only[Bool.and_eq_true,Bool.or_eq_true,Bool.and_eq_false_iff,Bool.or_eq_false_iff,decide_eq_true_eq,decide_eq_false_iff_not,Bool.not_eq_true',Bool.not_eq_false']at jf
   refine ar (ag rfl (run_build (l:=[_,_]) rfl rfl iC rfl rfl) (aj rfl (bH 0 [_,_] [_,_] [_,_,_] rfl S6 rfl rfl aN rfl rfl ?_)))
   intro w7 S7;clear S6
   refine af 1 rfl (ax [4,5] rfl (dI hC [_,_] rfl rfl ⟨⟨_,rfl,dK (us:=[_,_]) aM rfl aN (S7.bs 0 rfl rfl)⟩,rfl,trivial⟩ ?_))
   refine⟨_,rfl,_,bh,(S7.pick [] [] (by decide) trivial),?_⟩
   rw[show bR d m=(⟨[],0⟩,7)from by unfold bR;rw[if_pos (by first|exact Im xk jf|(unfold fD;rw[xk];rfl))]]
   exact l7 7
  ·simp only[Bool.and_eq_true,Bool.or_eq_true,Bool.and_eq_false_iff,Bool.or_eq_false_iff,decide_eq_true_eq,decide_eq_false_iff_not,Bool.not_eq_true',Bool.not_eq_false']at jf
   have hop:fD d=true:=Vn xk (by simpa using jf)
   refine aV (cP [2,3,4] rfl (ag rfl (az rfl aM rfl dN dM) (ag rfl (aw rfl cE (S6.bc 2 rfl rfl)) (ag rfl (cK rfl cE) (af 1 rfl (bM [2,3,4,6] rfl (ar (ag rfl (az rfl eT rfl aY aX) ?_))))))))
   refine ag rfl (aw rfl aG (S6.bc 1 rfl rfl)) (ax [2,3,4,6,20] rfl (bg (ar (af 2 rfl (ax [2,3,4,6,20,21] rfl ?_)))))
   refine bp rfl (fun rB=>?_) (fun rB=>?_)
   ·exfalso;exfalso;omega
   ·refine ar (af 2 rfl (ax [2,3,4,6,20,28] rfl ?_))
    refine bp rfl (fun mR=>?_) (fun mR=>?_)
    ·refine cJ (ar (ag rfl (az rfl eT rfl aY aX) (ag rfl (aw rfl aG (S6.bc 1 rfl rfl)) (af 2 rfl ?_))))
     refine eN (t:=33) rfl (fun OX=>?_) (fun OX=>?_)
     ·refine af 5 rfl (ax [2,3,4,38] rfl (kP (ar (ag rfl (run_build (l:=[_,_]) rfl rfl iC rfl rfl) (aj rfl (bH 0 [_,_] [_,_] [_,_,_] rfl S6 rfl rfl aN rfl rfl ?_))))))
      intro w8 S8;clear S6
      refine af 1 rfl (ax [4,5] rfl (dI hC [_,_] rfl rfl ⟨⟨_,rfl,dK (us:=[_,_]) aM rfl aN (S8.bs 0 rfl rfl)⟩,rfl,trivial⟩ ?_))
      refine⟨_,rfl,_,bh,(S8.pick [] [] (by decide) trivial),?_⟩
      rw[Ju hop mR]
      rw[mY (c:=3) (by unfold jW;rw[if_neg (by omega)]) (by decide)]
      exact l7 3
     ·refine b8 rfl (az rfl eT rfl aY aX) (b8 rfl (aw rfl aG (S6.bc 1 rfl rfl)) (af 3 rfl (ax [2,3,4,38] rfl ?_)))
      refine bp rfl (fun Bk=>?_) (fun Bk=>?_)
      ·refine ar (ag rfl (run_build (l:=[_,_]) rfl rfl iC rfl rfl) (aj rfl (bH 0 [_,_] [_,_] [_,_,_] rfl S6 rfl rfl aN rfl rfl ?_)))
       intro w9 S9;clear S6
       refine af 1 rfl (ax [4,5] rfl (dI hC [_,_] rfl rfl ⟨⟨_,rfl,dK (us:=[_,_]) aM rfl aN (S9.bs 0 rfl rfl)⟩,rfl,trivial⟩ ?_))
       refine⟨_,rfl,_,bh,(S9.pick [] [] (by decide) trivial),?_⟩
       rw[Ju hop mR]
       rw[mY (c:=3) (by unfold jW;rw[if_neg (by omega)]) (by decide)]
       exact l7 3
      ·refine aV (bC [2,3,4] rfl (ar (ag rfl (aU [_,_] rfl aM aN (S6.bs 2 rfl rfl)) (ag rfl (az rfl eT rfl aY aX) (ag rfl (aw rfl aG (S6.bc 1 rfl rfl)) (dz 42 (.int .i64 ((m.at_.toNat:Nat):Int)) rfl (int_eq (by omega)) ?_))))))
       refine aj rfl (dU rfl rfl rfl rfl rfl rfl rfl Yu S6 (TV d m.at_.toNat (aC.mono S6.bn) (by omega) S6.aT) ?_)
       rintro _ ld bQ rfl;clear S6
       refine af 1 rfl (ax [2,3,4,44] rfl ?_)
       refine gB rfl (fun Bj=>?_) (fun Bj=>?_)
       ·simp only[Bool.and_eq_true,Bool.or_eq_true,Bool.and_eq_false_iff,Bool.or_eq_false_iff,decide_eq_true_eq,decide_eq_false_iff_not,Bool.not_eq_true',Bool.not_eq_false']at Bj
        refine ar (ag rfl (run_build (l:=[_,_]) rfl rfl iC rfl rfl) (aj rfl (bH 0 [_,_] [_,_] [_,_,_] rfl bQ rfl rfl aN rfl rfl ?_)))
        intro lI cz;clear bQ
        refine af 1 rfl (ax [4,5] rfl (dI hC [_,_] rfl rfl ⟨⟨_,rfl,dK (us:=[_,_]) aM rfl aN (cz.bs 0 rfl rfl)⟩,rfl,trivial⟩ ?_))
        refine⟨_,rfl,_,bh,(cz.pick [] [] (by decide) trivial),?_⟩
        rw[Ju hop mR]
        rw[mY (c:=8) (by unfold jW;rw[if_pos (by omega),if_neg (by rw[Bj];exact Bool.false_ne_true)]) (by decide)]
        exact l7 8
       ·simp only[Bool.and_eq_true,Bool.or_eq_true,Bool.and_eq_false_iff,Bool.or_eq_false_iff,decide_eq_true_eq,decide_eq_false_iff_not,Bool.not_eq_true',Bool.not_eq_false']at Bj
        refine aV (cP [2,3,4] rfl (ag rfl (aU [_,_] rfl aM aN (bQ.bs 2 rfl rfl)) (ag rfl (az rfl eT rfl aY aX) (ag rfl (aw rfl aG (bQ.bc 1 rfl rfl)) (dz 48 (.int .i64 ((m.at_.toNat:Nat):Int)) rfl (int_eq (by omega)) ?_)))))
        refine aj rfl (eQ (C:=aQ) (l:=[_]) rfl rfl rfl rfl bt rfl rfl rfl rfl bQ ?_)
        intro lK nL cO;clear bQ
        have hr1:=cO.LV (C:=aQ) (z:=((m.at_.toNat:Nat):Int)) (i:=0) rfl rfl (by decide)
        have pq:=RM d ([((m.at_.toNat:Nat):Int)]) (aC.mono cO.bn) hr1 (gs:=[m.at_.toNat]) rfl (by intro x hx;simp at hx;omega) hn hab (by omega) cO.aT
        refine aj rfl (eo rfl rfl rfl rfl rfl rfl rfl Yq cO (pq) ?_)
        intro amA ng M2 hle2 cF ahn;clear cO
        replace aC:=aC.mono (Hp.aD hle2 cF.mx)
        obtain⟨A1,c1,rfl,hr2⟩:=ahn
        refine aj rfl (eo rfl rfl rfl rfl rfl rfl rfl Yr cF (R3 (ik d (cG [m.at_.toNat])) hr2 cF.aT) ?_)
        intro N9 lH M3 bZ ct AL;clear cF
        replace aC:=aC.mono (Hp.aD bZ ct.mx)
        replace hr2:=hr2.mono bZ
        obtain⟨A2,c2,rfl,hr3⟩:=AL
        refine af 2 rfl (aj rfl (bH 1 [_,_] [_,_] [_,_,_,_] rfl ct rfl rfl aN rfl rfl ?_))
        intro ow cS;clear ct
        refine af 1 rfl (ax [4,5] rfl (dI hC [_,_] rfl rfl ⟨⟨_,rfl,dK (us:=[_,_]) aM rfl aN (cS.bs 1 rfl rfl)⟩,rfl,trivial⟩ ?_))
        refine⟨_,rfl,_,(bh.trans hle2).trans bZ,(cS.pick [] [] (by decide) trivial),?_⟩
        rw[Ju hop mR]
        rw[show jW d m=(if(ik d (cG [m.at_.toNat])).loops<=16 then 0 else 2)from by unfold jW mL;rw[if_pos (by omega),if_pos (by simpa using Bj)]]
        exact⟨_,_,rfl,hr3⟩
    ·refine ar (af 2 rfl (ax [2,3,4,6,20,54] rfl ?_))
     refine bp rfl (fun Bg=>?_) (fun Bg=>?_)
     ·exfalso;exfalso;omega
     ·refine ar (af 2 rfl (ax [2,3,4,6,20,61] rfl ?_))
      refine bp rfl (fun vD=>?_) (fun vD=>?_)
      ·refine cJ (ar (ag rfl (az rfl eT rfl aY aX) (ag rfl (aw rfl aG (S6.bc 1 rfl rfl)) (af 2 rfl ?_))))
       refine eN (t:=66) rfl (fun FX=>?_) (fun FX=>?_)
       ·refine af 6 rfl (af 6 rfl (af 6 rfl (af 5 rfl (ax [2,3,4,89] rfl (kP (ar (ag rfl (run_build (l:=[_,_]) rfl rfl iC rfl rfl) (aj rfl (bH 0 [_,_] [_,_] [_,_,_] rfl S6 rfl rfl aN rfl rfl ?_)))))))))
        intro oU cC;clear S6
        refine af 1 rfl (ax [4,5] rfl (dI hC [_,_] rfl rfl ⟨⟨_,rfl,dK (us:=[_,_]) aM rfl aN (cC.bs 0 rfl rfl)⟩,rfl,trivial⟩ ?_))
        refine⟨_,rfl,_,bh,(cC.pick [] [] (by decide) trivial),?_⟩
        rw[AO hop vD]
        rw[mY (c:=3) (by unfold iG;rw[if_neg (by omega)]) (by decide)]
        exact l7 3
       ·refine b8 rfl (az rfl eT rfl aY aX) (b8 rfl (aw rfl aG (S6.bc 1 rfl rfl)) (af 4 rfl ?_))
        refine eN (t:=72) rfl (fun ai9=>?_) (fun ai9=>?_)
        ·refine af 6 rfl (af 6 rfl (af 5 rfl (ax [2,3,4,89] rfl (kP (ar (ag rfl (run_build (l:=[_,_]) rfl rfl iC rfl rfl) (aj rfl (bH 0 [_,_] [_,_] [_,_,_] rfl S6 rfl rfl aN rfl rfl ?_))))))))
         intro pU bY;clear S6
         refine af 1 rfl (ax [4,5] rfl (dI hC [_,_] rfl rfl ⟨⟨_,rfl,dK (us:=[_,_]) aM rfl aN (bY.bs 0 rfl rfl)⟩,rfl,trivial⟩ ?_))
         refine⟨_,rfl,_,bh,(bY.pick [] [] (by decide) trivial),?_⟩
         rw[AO hop vD]
         rw[mY (c:=3) (by unfold iG;rw[if_neg (by omega)]) (by decide)]
         exact l7 3
        ·refine b8 rfl (az rfl eT rfl aY aX) (b8 rfl (aw rfl aG (S6.bc 1 rfl rfl)) (af 3 rfl ?_))
         refine eN (t:=77) rfl (fun FV=>?_) (fun FV=>?_)
         ·refine af 6 rfl (af 6 rfl (ax [2,3,4,89] rfl (kP (ar (ag rfl (run_build (l:=[_,_]) rfl rfl iC rfl rfl) (aj rfl (bH 0 [_,_] [_,_] [_,_,_] rfl S6 rfl rfl aN rfl rfl ?_)))))))
          intro vP dW;clear S6
          refine af 1 rfl (ax [4,5] rfl (dI hC [_,_] rfl rfl ⟨⟨_,rfl,dK (us:=[_,_]) aM rfl aN (dW.bs 0 rfl rfl)⟩,rfl,trivial⟩ ?_))
          refine⟨_,rfl,_,bh,(dW.pick [] [] (by decide) trivial),?_⟩
          rw[AO hop vD]
          rw[mY (c:=3) (by unfold iG;rw[if_neg (by omega)]) (by decide)]
          exact l7 3
         ·refine b8 rfl (az rfl eT rfl aY aX) (b8 rfl (aw rfl aG (S6.bc 1 rfl rfl)) (af 4 rfl ?_))
          refine eN (t:=83) rfl (fun ai7=>?_) (fun ai7=>?_)
          ·refine af 6 rfl (ax [2,3,4,89] rfl (kP (ar (ag rfl (run_build (l:=[_,_]) rfl rfl iC rfl rfl) (aj rfl (bH 0 [_,_] [_,_] [_,_,_] rfl S6 rfl rfl aN rfl rfl ?_))))))
           intro BO ek;clear S6
           refine af 1 rfl (ax [4,5] rfl (dI hC [_,_] rfl rfl ⟨⟨_,rfl,dK (us:=[_,_]) aM rfl aN (ek.bs 0 rfl rfl)⟩,rfl,trivial⟩ ?_))
           refine⟨_,rfl,_,bh,(ek.pick [] [] (by decide) trivial),?_⟩
           rw[AO hop vD]
           rw[mY (c:=3) (by unfold iG;rw[if_neg (by omega)]) (by decide)]
           exact l7 3
          ·refine b8 rfl (az rfl eT rfl aY aX) (b8 rfl (aw rfl aG (S6.bc 1 rfl rfl)) (b8 rfl (az rfl eT rfl aY aX) (b8 rfl (aw rfl aG (S6.bc 1 rfl rfl)) (af 2 rfl (ax [2,3,4,89] rfl ?_)))))
           refine bp rfl (fun ajw=>?_) (fun ajw=>?_)
           ·refine ar (ag rfl (run_build (l:=[_,_]) rfl rfl iC rfl rfl) (aj rfl (bH 0 [_,_] [_,_] [_,_,_] rfl S6 rfl rfl aN rfl rfl ?_)))
            intro zu fM;clear S6
            refine af 1 rfl (ax [4,5] rfl (dI hC [_,_] rfl rfl ⟨⟨_,rfl,dK (us:=[_,_]) aM rfl aN (fM.bs 0 rfl rfl)⟩,rfl,trivial⟩ ?_))
            refine⟨_,rfl,_,bh,(fM.pick [] [] (by decide) trivial),?_⟩
            rw[AO hop vD]
            rw[mY (c:=3) (by unfold iG;rw[if_neg (by omega)]) (by decide)]
            exact l7 3
           ·refine aV (bC [2,3,4] rfl (ar (ag rfl (aU [_,_] rfl aM aN (S6.bs 2 rfl rfl)) (ag rfl (az rfl eT rfl aY aX) (ag rfl (aw rfl aG (S6.bc 1 rfl rfl)) (ag rfl (az rfl eT rfl aY aX) (ag rfl (aw rfl aG (S6.bc 1 rfl rfl)) (aj rfl (eo rfl rfl rfl rfl rfl rfl rfl Yt S6 (RT d m.at_ m.dG (aC.mono S6.bn) hn hab S6.aT) ?_)))))))))
            intro amy vO M4 b7 eF ahl;clear S6
            replace aC:=aC.mono (Hp.aD b7 eF.mx)
            obtain rfl:=ahl
            refine af 1 rfl (ax [2,3,4,97] rfl ?_)
            refine gB rfl (fun F3=>?_) (fun F3=>?_)
            ·simp only[Bool.and_eq_true,Bool.or_eq_true,Bool.and_eq_false_iff,Bool.or_eq_false_iff,decide_eq_true_eq,decide_eq_false_iff_not,Bool.not_eq_true',Bool.not_eq_false']at F3
             refine ar (ag rfl (run_build (l:=[_,_]) rfl rfl iC rfl rfl) (aj rfl (bH 0 [_,_] [_,_] [_,_,_] rfl eF rfl rfl aN rfl rfl ?_)))
             intro xU fx;clear eF
             refine af 1 rfl (ax [4,5] rfl (dI hC [_,_] rfl rfl ⟨⟨_,rfl,dK (us:=[_,_]) aM rfl aN (fx.bs 0 rfl rfl)⟩,rfl,trivial⟩ ?_))
             refine⟨_,rfl,_,bh.trans b7,(fx.pick [] [] (by decide) trivial),?_⟩
             rw[AO hop vD]
             rw[mY (c:=8) (by unfold iG;rw[if_pos (by omega),if_neg (by rw[F3];exact Bool.false_ne_true)]) (by decide)]
             exact l7 8
            ·simp only[Bool.and_eq_true,Bool.or_eq_true,Bool.and_eq_false_iff,Bool.or_eq_false_iff,decide_eq_true_eq,decide_eq_false_iff_not,Bool.not_eq_true',Bool.not_eq_false']at F3
             refine aV (cP [2,3,4] rfl (ag rfl (aU [_,_] rfl aM aN (eF.bs 2 rfl rfl)) (ag rfl (az rfl eT rfl aY aX) (ag rfl (aw rfl aG (eF.bc 1 rfl rfl)) (ag rfl (az rfl eT rfl aY aX) (ag rfl (aw rfl aG (eF.bc 1 rfl rfl)) (dz 101 (.int .i64 ((m.at_.toNat:Nat):Int)) rfl (int_eq (by omega)) ?_)))))))
             refine dz 103 (.int .i64 ((m.dG.toNat:Nat):Int)) rfl (int_eq (by omega)) ?_
             refine aj rfl (uH (C:=aQ) (l:=[_,_]) (pl:=[(0,1),(1,1)]) rfl rfl rfl rfl bt rfl rfl rfl rfl rfl eF ?_)
             intro iI Kj gN;clear eF
             have hr4:=gN.H8 (C:=aQ) (zs:=[((m.at_.toNat:Nat):Int),((m.dG.toNat:Nat):Int)]) (i:=0) rfl rfl (by show 2*_<=_;decide)
             have tM:=RM d ([((m.at_.toNat:Nat):Int),((m.dG.toNat:Nat):Int)]) (aC.mono gN.bn) hr4 (gs:=[m.at_.toNat,m.dG.toNat]) rfl (by intro x hx;simp at hx;omega) hn hab (by omega) gN.aT
             refine aj rfl (eo rfl rfl rfl rfl rfl rfl rfl Yq gN (tM) ?_)
             intro amw BN M5 cH gI ahj;clear gN
             replace aC:=aC.mono (Hp.aD cH gI.mx)
             obtain⟨A3,c3,rfl,ja⟩:=ahj
             refine aj rfl (eo rfl rfl rfl rfl rfl rfl rfl Yr gI (R3 (ik d (cG [m.at_.toNat,m.dG.toNat])) ja gI.aT) ?_)
             intro amv xS M6 eW kM ahi;clear gI
             replace aC:=aC.mono (Hp.aD eW kM.mx)
             replace ja:=ja.mono eW
             obtain⟨A4,c4,rfl,p8⟩:=ahi
             refine af 2 rfl (aj rfl (bH 1 [_,_] [_,_] [_,_,_,_] rfl kM rfl rfl aN rfl rfl ?_))
             intro DR fU;clear kM
             refine af 1 rfl (ax [4,5] rfl (dI hC [_,_] rfl rfl ⟨⟨_,rfl,dK (us:=[_,_]) aM rfl aN (fU.bs 1 rfl rfl)⟩,rfl,trivial⟩ ?_))
             refine⟨_,rfl,_,((bh.trans b7).trans cH).trans eW,(fU.pick [] [] (by decide) trivial),?_⟩
             rw[AO hop vD]
             rw[show iG d m=(if(ik d (cG [m.at_.toNat,m.dG.toNat])).loops<=16 then 0 else 2)from by unfold iG mL;rw[if_pos (by omega),if_pos (by simpa using F3)]]
             exact⟨_,_,rfl,p8⟩
      ·refine ar (af 2 rfl (ax [2,3,4,109] rfl ?_))
       refine bp rfl (fun WT=>?_) (fun WT=>?_)
       ·refine ar (ag rfl (aU [_,_] rfl aM aN (S6.bs 2 rfl rfl)) (ag rfl (az rfl eT rfl aY aX) (ag rfl (aw rfl aG (S6.bc 1 rfl rfl)) (aj rfl (eo rfl rfl rfl rfl rfl rfl rfl akd S6 (abh d m (aC.mono S6.bn) hn hab S6.aT) ?_)))))
        intro amu sY M7 iN fG ahg;clear S6
        replace aC:=aC.mono (Hp.aD iN fG.mx)
        obtain⟨A5,c5,rfl,tq⟩:=ahg
        refine af 2 rfl (aj rfl (bH 0 [_,_] [_,_] [_,_,_] rfl fG rfl rfl aN rfl rfl ?_))
        intro vN gH;clear fG
        refine af 1 rfl (ax [4,5] rfl (dI hC [_,_] rfl rfl ⟨⟨_,rfl,dK (us:=[_,_]) aM rfl aN (gH.bs 0 rfl rfl)⟩,rfl,trivial⟩ ?_))
        refine⟨_,rfl,_,bh.trans iN,(gH.pick [] [] (by decide) trivial),?_⟩
        rw[ahw hop WT]
        exact⟨_,_,rfl,tq⟩
       ·exfalso;exfalso;omega
end Go.Proofs.YtcohmplpgcddiaaGreatDoor
namespace Go.Proofs.YtcohmplpgcddiaaGreatDoor
open Go.ChangeShapes Go.WideShapes Go.ChangeAt Go.RowKit
instance :Inhabited Mv:=⟨⟨0,0,0,0,false,0,false,false⟩⟩
def mvF(m:Mv):List Value:=[.int .i64 m.kd,.int .i64 m.at_,.int .i64 m.dG,.int .i64 m.ua,.bool m.ub,.int .i64 m.va,.bool m.vb,.bool m.ov]
def gh:Cd Mv:=⟨mvF,8,64,35,⟨0,0,0,0,false,0,false,false⟩,fun _=>rfl,by
 intro x u hu
 simp[mvF]at hu
 rcases hu with rfl|rfl|rfl|rfl|rfl|rfl|rfl|rfl<;>rfl⟩
noncomputable def oz(l:List Mv):Nat->Nat->Dg->Dg×Nat×Int
 |0,i,d=>(d,i,0)
 |f+1,i,d=>if(bR d (ga l i)).2=0 then oz l f (i+1) (bR d (ga l i)).1 else(d,i,(bR d (ga l i)).2)
noncomputable def jz(d:Dg)(l:List Mv):Dg×Nat×Int:=if fD d=false then(⟨[],0⟩,0,7)else if 200<l.length then(⟨[],0⟩,0,2)else oz l l.length 0 d
theorem IL{l:List Mv}{i:Nat}{d:Dg}(hi:i<l.length)(h:(bR d (ga l i)).2=0):oz l (l.length-i) i d=oz l (l.length-(i+1)) (i+1) (bR d (ga l i)).1:=by
 rw[show l.length-i=(l.length-(i+1))+1 from by omega]
 show(if _ then _ else _)=_
 rw[if_pos h]
theorem Mp{l:List Mv}{i:Nat}{d:Dg}(hi:i<l.length)(h:¬(bR d (ga l i)).2=0):oz l (l.length-i) i d=(d,i,(bR d (ga l i)).2):=by
 rw[show l.length-i=(l.length-(i+1))+1 from by omega]
 show(if _ then _ else _)=_
 rw[if_neg h]
theorem LP{l:List Mv}{d:Dg}:oz l (l.length-l.length) l.length d=(d,l.length,0):=by rw[Nat.sub_self];rfl
def Ro(p:Dg×Nat×Int)(u:Value)(M:Hp):Prop:=∃A c,u=tup [.agg [.slice A p.1.ae.length c,.int .i64 p.1.loops].toArray,.int .i64 (p.2.1:Nat),.int .i64 p.2.2]/\aJ bu M A c p.1.ae
theorem E9(c:Int){M:Hp}:Ro (⟨[],0⟩,0,c) (tup [.agg [.slice none 0 0,.int .i64 0].toArray,.int .i64 0,.int .i64 c]) M:=⟨none,0,rfl,aJ.eO⟩
theorem kQ:jt Tryz.prog 25 gh:=⟨.agg [.int .i64 0,.int .i64 0,.int .i64 0,.int .i64 0,.bool false,.int .i64 0,.bool false,.bool false].toArray,pH,by kernel_rfl,rfl,by decide,by decide⟩
end Go.Proofs.YtcohmplpgcddiaaGreatDoor
namespace Go.Proofs.YtcohmplpgcddiaaGreatDoor
open Go.ChangeShapes Go.WideShapes Go.ChangeAt Go.RowKit
noncomputable def Z58:=Tryz.f8.body.getD .skip
set_option maxHeartbeats 2000000 in
set_option maxRecDepth 10000 in
theorem aeo{w:World}{M:Hp}{X:Fr}(d:Dg){bz:Option Addr}{bw:Nat}(l:List Mv){lA:Option Addr}{lc:Nat}(aC:aJ bu M bz bw d.ae)(hl:aJ gh (M.un X.h) lA lc l)(hsh:∀m∈l,lh m)(S:SH w M X []):Ct Tryz.prog 8 [.agg [.slice bz d.ae.length bw,.int .i64 d.loops].toArray,.slice lA l.length lc] w M X (Ro (jz d l)):=by
 unfold Ct
 have iL:d.ae.length*40<=140737488355328:=aC.room
 have Xk:l.length*64<=140737488355328:=hl.room
 refine cw (b:=Z58) Tryz.func8 rfl Tryz.ntmps8 rfl (fun C hC=>(cB [0,1] rfl (ar (aj rfl (dx (l:=[_,_]) rfl rfl rfl rfl rfl S ?_)))))
 intro aP w1 S1;clear S
 refine aj rfl (bW (l:=[_,_]) rfl rfl rfl jo rfl S1 ?_)
 intro bJ w2 S2;clear S1
 refine af 2 rfl (bM [1,2,4] rfl (ar (ag rfl (aU [_,_] rfl aM aN (S2.bs 1 rfl rfl)) (aj rfl (dU rfl rfl rfl rfl rfl rfl rfl Pt S2 (KZ d (aC.mono (Hp.cM _ _)) S2.aT) ?_)))))
 rintro _ w3 S3 rfl;clear S2
 refine af 2 rfl ?_
 refine uE (t:=13) rfl (fun xj=>?_) (fun xj=>?_)
 ·simp only[Bool.and_eq_true,Bool.or_eq_true,Bool.and_eq_false_iff,Bool.or_eq_false_iff,decide_eq_true_eq,decide_eq_false_iff_not,Bool.not_eq_true',Bool.not_eq_false']at xj
  refine af 4 rfl (ax [1,2,4,17] rfl (kP (ar (ag rfl (run_build (l:=[_,_]) rfl rfl iC rfl rfl) (aj rfl (bH 0 [_,_] [_,_] [_,_] rfl S3 rfl rfl aN rfl rfl ?_))))))
  intro w4 S4;clear S3
  refine af 2 rfl (ax [4,5,6] rfl (dI hC [_,_,_] rfl rfl ⟨⟨_,rfl,dK (us:=[_,_]) aM rfl aN (S4.bs 0 rfl rfl)⟩,rfl,rfl,trivial⟩ ?_))
  refine⟨_,rfl,_,Hp.le_refl _,(S4.pick [] [] (by decide) trivial),?_⟩
  rw[show jz d l=(⟨[],0⟩,0,7)from by unfold jz;rw[if_pos (by first|exact Im xj nI|(unfold fD;rw[xj];rfl))]]
  exact E9 7
 ·simp only[Bool.and_eq_true,Bool.or_eq_true,Bool.and_eq_false_iff,Bool.or_eq_false_iff,decide_eq_true_eq,decide_eq_false_iff_not,Bool.not_eq_true',Bool.not_eq_false']at xj
  obtain⟨hn,hab,hlo1,hlo2⟩:=qq xj
  refine b8 rfl (aU [_,_] rfl aM aN (S3.bs 1 rfl rfl)) (zq 5 6 rfl rfl rfl rfl rfl rfl rfl rfl (eo rfl rfl rfl rfl rfl rfl rfl Pr S3 (K8 d (aC.mono (Hp.cM _ _)) (hn) (hab) S3.aT) ?_))
  intro PO w5 M1 bh S5 Br;clear S3
  replace aC:=aC.mono bh
  replace hl:=hl.mono (Hp.aD bh S5.mx)
  obtain rfl:=Br
  refine af 2 rfl (ax [1,2,4,17] rfl ?_)
  refine gB rfl (fun nI=>?_) (fun nI=>?_)
  ·simp only[Bool.and_eq_true,Bool.or_eq_true,Bool.and_eq_false_iff,Bool.or_eq_false_iff,decide_eq_true_eq,decide_eq_false_iff_not,Bool.not_eq_true',Bool.not_eq_false']at nI
   refine ar (ag rfl (run_build (l:=[_,_]) rfl rfl iC rfl rfl) (aj rfl (bH 0 [_,_] [_,_] [_,_] rfl S5 rfl rfl aN rfl rfl ?_)))
   intro w6 S6;clear S5
   refine af 2 rfl (ax [4,5,6] rfl (dI hC [_,_,_] rfl rfl ⟨⟨_,rfl,dK (us:=[_,_]) aM rfl aN (S6.bs 0 rfl rfl)⟩,rfl,rfl,trivial⟩ ?_))
   refine⟨_,rfl,_,bh,(S6.pick [] [] (by decide) trivial),?_⟩
   rw[show jz d l=(⟨[],0⟩,0,7)from by unfold jz;rw[if_pos (by first|exact Im xj nI|(unfold fD;rw[xj];rfl))]]
   exact E9 7
  ·simp only[Bool.and_eq_true,Bool.or_eq_true,Bool.and_eq_false_iff,Bool.or_eq_false_iff,decide_eq_true_eq,decide_eq_false_iff_not,Bool.not_eq_true',Bool.not_eq_false']at nI
   have hop:fD d=true:=Vn xj (by simpa using nI)
   refine aV (bC [1,2,4] rfl (ar (af 1 rfl (ag rfl (cK rfl pH) (af 1 rfl (ax [1,2,4,21] rfl ?_))))))
   refine bp rfl (fun rB=>?_) (fun rB=>?_)
   ·refine ar (ag rfl (run_build (l:=[_,_]) rfl rfl iC rfl rfl) (aj rfl (bH 0 [_,_] [_,_] [_,_] rfl S5 rfl rfl aN rfl rfl ?_)))
    intro w7 S7;clear S5
    refine af 2 rfl (ax [4,5,6] rfl (dI hC [_,_,_] rfl rfl ⟨⟨_,rfl,dK (us:=[_,_]) aM rfl aN (S7.bs 0 rfl rfl)⟩,rfl,rfl,trivial⟩ ?_))
    refine⟨_,rfl,_,bh,(S7.pick [] [] (by decide) trivial),?_⟩
    rw[show jz d l=(⟨[],0⟩,0,2)from by unfold jz;rw[if_neg (by rw[hop];decide),if_pos (by omega)]]
    exact E9 2
   ·refine aV (bC [1,2,4] rfl (ar (af 1 rfl (aB (bK (bg ?_))))))
    refine ck (fun aZ au aR=>∃(i:Nat) (D:Dg) (nA:Option Addr) (nc:Nat) (M2:Hp),M1.le M2/\aZ=l.length-i/\Env 47 [(1,.slice lA l.length lc),(2,.pointer (some ⟨aP,0,none⟩)),(4,.pointer (some ⟨bJ,0,none⟩)),(7,.int .i64 (i:Int))] au/\SH aR M2 X [Rs.box bJ 24 [.slice none 0 0,.int .i64 0],Rs.box aP 24 [.slice nA D.ae.length nc,.int .i64 D.loops]]/\i<=l.length/\oz l l.length 0 d=oz l (l.length-i) i D/\aJ bu M2 nA nc D.ae) rfl ?_ ?_
    ·intro au aq
     refine⟨_,⟨0,d,_,_,_,Hp.le_refl _,rfl,aq.su rfl,S5.pick [0,1] [_,_] (by decide) ⟨rfl,rfl,trivial⟩,?dh,?dC,?jm⟩⟩
     case dh=>omega
     case dC=>rfl
     case jm=>exact aC
    ·rintro m1 a1 w8 ⟨i,D,nA,nc,M2,hle2,rfl,bN,S8,hi,hD,pL⟩
     clear S5
     refine cy bN ?_
     clear bN a1
     replace aC:=aC.mono hle2
     replace hl:=hl.mono (Hp.aD hle2 S8.mx)
     refine cJ (ar (af 2 rfl (ag rfl (cK rfl pH) (af 1 rfl (ax [1,2,4,7,26] rfl ?_)))))
     refine bp rfl (fun O9=>?_) (fun O9=>?_)
     ·refine aV (bC [1,2,4,7] rfl (bg (cJ (dH S8 12 ?_))))
      clear S8
      refine ay 0 rfl (fun ah Sz=>aU [_,_] rfl aM aN (Sz.suf.bs 1 rfl rfl)) (aK 9 [1,2] rfl (ay 3 rfl (fun ah Sz=>cN i rfl kQ (hl.mono (Hp.aD ah Sz.mx))) (ay 4 rfl (fun ah Sz=>aU [_,_,_,_,_,_,_,_] rfl eT sF ((hl.mono (Hp.aD ah Sz.mx)).j6 Sz.um (e:=i) (by first|omega|(simp only[ls];omega)) (j:=0) ⟨rfl,rfl,rfl,rfl,rfl,rfl,rfl,rfl,trivial⟩)) ?_)))
      refine z7 (i:=5) (j:=9) 6 rfl rfl (by kernel_rfl) rfl rfl rfl rfl (fun oU cC=>?_) (fun oU cC=>?_)
      ·refine(eo rfl rfl rfl rfl rfl rfl rfl J1 cC (Ig D (ga l i) (pL.mono (Hp.cM _ _)) (hsh _ (cY (show i<l.length by omega))) cC.aT) ?_)
       intro amz pU M10 C2 bY ahm;clear cC
       replace aC:=aC.mono C2
       replace hl:=hl.mono (Hp.aD C2 bY.mx)
       replace pL:=pL.mono C2
       obtain⟨A1,c1,rfl,hr1⟩:=ahm
       refine lC.grow [] (C2) bY ?_;clear bY
       change WA _ _ _ _ _ _ _ _ _ _ _ _ [_,_]
       refine yq (aK 3 [6,7,8] rfl (cm 9 rfl (fun xU fx=>((bW (l:=[_,_]) rfl rfl rfl jo rfl fx ?_)))))
       intro dE DS jw;clear fx
       refine dB [_] [_,_,_] rfl jw ?_;clear jw
       refine cm 10 rfl (fun BN gI=>((bH 0 [_,_] [_,_] [_,_,_] rfl gI rfl rfl aN rfl rfl ?_)))
       intro xS kM;clear gI
       refine dB [_] [_,_,_] rfl kM ?_;clear kM
       refine aK 0 [11] rfl (cD (fun sY fG=>(bC [1,2,4,7,8,9] rfl (ar (af 2 rfl (ax [1,2,4,7,8,9,39] rfl ?_))))))
       refine bp rfl (fun xo=>?_) (fun xo=>?_)
       ·refine ar (ag rfl (aU [_,_] rfl aM aN (fG.bs 2 rfl rfl)) (af 2 rfl (aj rfl (bH 1 [_,_] [_,_] [_,_,_] rfl fG rfl rfl aN rfl rfl ?_))))
        intro vN gH;clear fG
        refine af 2 rfl (ax [4,5,6] rfl (dI hC [_,_,_] rfl rfl ⟨⟨_,rfl,dK (us:=[_,_]) aM rfl aN (gH.bs 1 rfl rfl)⟩,rfl,rfl,trivial⟩ ?_))
        refine⟨_,rfl,_,(bh.trans hle2).trans C2,(gH.pick [] [] (by decide) trivial),?_⟩
        rw[show jz d l=oz l l.length 0 d from by unfold jz;rw[if_neg (by rw[hop];decide),if_neg (by omega)]]
        rw[hD,Mp (by omega) (by simpa using xo)]
        exact⟨_,_,rfl,pL⟩
       ·refine aV (aW [1,2,4,7,8] rfl (aH (ag rfl (aU [_,_] rfl aM aN (fG.bs 0 rfl rfl)) (aj rfl (bH 2 [_,_] [_,_] [_,_,_] rfl fG rfl rfl aN rfl rfl ?_)))))
        intro BM kj;clear fG
        refine aB (bE (aW [1,2,4,7] rfl (aH (af 1 rfl (ag rfl (bj rfl) (af 1 rfl (aB (br ?_))))))))
        intro au aq
        refine⟨_,?fK,⟨i+1,(bR D (ga l i)).1,_,_,_,(hle2.trans C2),rfl,aq.su rfl,kj.pick [1,2] [_,_] (by decide) ⟨rfl,rfl,trivial⟩,?dv,?dL,?jl⟩⟩
        case dv=>omega
        case dL=>(rw[hD];exact IL (by omega) (by simpa using xo))
        case jl=>exact hr1
        case fK=>omega
      ·refine(bW (l:=[_,_]) rfl rfl rfl jo rfl cC ?_)
       intro lK BL gM;clear cC
       refine dB [_] [_,_,_] rfl gM ?_;clear gM
       refine cm 5 rfl (fun zt jd=>((eo rfl rfl rfl rfl rfl rfl rfl J1 jd (Ig D (ga l i) (pL.mono (Hp.cM _ _)) (hsh _ (cY (show i<l.length by omega))) jd.aT) ?_)))
       intro ams xR M18 CZ gu ahf;clear jd
       replace aC:=aC.mono CZ
       replace hl:=hl.mono (Hp.aD CZ gu.mx)
       replace pL:=pL.mono CZ
       obtain⟨A2,c2,rfl,hr2⟩:=ahf
       refine lC.grow [_] (CZ) gu ?_;clear gu
       change WA _ _ _ _ _ _ _ _ _ _ _ _ [_,_,_]
       refine yq (aK 2 [6,7,8] rfl (cm 10 rfl (fun GJ iJ=>((bH 0 [_,_] [_,_] [_,_,_] rfl iJ rfl rfl aN rfl rfl ?_)))))
       intro DN jc;clear iJ
       refine ij jc ?_;clear jc
       change WA _ _ _ _ _ _ _ _ _ _ _ _ [_,_,_]
       refine aK 0 [11] rfl (cD (fun DM iU=>(bC [1,2,4,7,8,9] rfl (ar (af 2 rfl (ax [1,2,4,7,8,9,39] rfl ?_))))))
       refine bp rfl (fun xo=>?_) (fun xo=>?_)
       ·refine ar (ag rfl (aU [_,_] rfl aM aN (iU.bs 2 rfl rfl)) (af 2 rfl (aj rfl (bH 1 [_,_] [_,_] [_,_,_] rfl iU rfl rfl aN rfl rfl ?_))))
        intro xQ nQ;clear iU
        refine af 2 rfl (ax [4,5,6] rfl (dI hC [_,_,_] rfl rfl ⟨⟨_,rfl,dK (us:=[_,_]) aM rfl aN (nQ.bs 1 rfl rfl)⟩,rfl,rfl,trivial⟩ ?_))
        refine⟨_,rfl,_,(bh.trans hle2).trans CZ,(nQ.pick [] [] (by decide) trivial),?_⟩
        rw[show jz d l=oz l l.length 0 d from by unfold jz;rw[if_neg (by rw[hop];decide),if_neg (by omega)]]
        rw[hD,Mp (by omega) (by simpa using xo)]
        exact⟨_,_,rfl,pL⟩
       ·refine aV (aW [1,2,4,7,8] rfl (aH (ag rfl (aU [_,_] rfl aM aN (iU.bs 0 rfl rfl)) (aj rfl (bH 2 [_,_] [_,_] [_,_,_] rfl iU rfl rfl aN rfl rfl ?_)))))
        intro PI kL;clear iU
        refine aB (bE (aW [1,2,4,7] rfl (aH (af 1 rfl (ag rfl (bj rfl) (af 1 rfl (aB (br ?_))))))))
        intro au aq
        refine⟨_,?kr,⟨i+1,(bR D (ga l i)).1,_,_,_,(hle2.trans CZ),rfl,aq.su rfl,kL.pick [1,2] [_,_] (by decide) ⟨rfl,rfl,trivial⟩,?fg,?fR,?ko⟩⟩
        case fg=>omega
        case fR=>(rw[hD];exact IL (by omega) (by simpa using xo))
        case ko=>exact hr2
        case kr=>omega
     ·refine bX rfl (cP [1,2,4] rfl (ag rfl (aU [_,_] rfl aM aN (S8.bs 1 rfl rfl)) (af 1 rfl (ag rfl (cK rfl pH) (aj rfl (bH 0 [_,_] [_,_] [_,_] rfl S8 rfl rfl aN rfl rfl ?_))))))
      intro xP jV;clear S8
      refine af 2 rfl (ax [4,5,6] rfl (dI hC [_,_,_] rfl rfl ⟨⟨_,rfl,dK (us:=[_,_]) aM rfl aN (jV.bs 0 rfl rfl)⟩,rfl,rfl,trivial⟩ ?_))
      refine⟨_,rfl,_,bh.trans hle2,(jV.pick [] [] (by decide) trivial),?_⟩
      rw[show jz d l=oz l l.length 0 d from by unfold jz;rw[if_neg (by rw[hop];decide),if_neg (by omega)]]
      obtain rfl:i=l.length:=by omega
      rw[hD,LP]
      exact⟨_,_,rfl,pL⟩
end Go.Proofs.YtcohmplpgcddiaaGreatDoor
namespace Go.Proofs.YtcohmplpgcddiaaGreatDoor
open Go.ChangeShapes Go.WideShapes Go.ChangeAt Go.RowKit
noncomputable def Z59:=Tryz.f9.body.getD .skip
set_option maxHeartbeats 2000000 in
set_option maxRecDepth 10000 in
theorem ahO{w:World}{M:Hp}{X:Fr}(d:Dg){bz:Option Addr}{bw:Nat}(l:List Mv){lA:Option Addr}{lc:Nat}(aC:aJ bu M bz bw d.ae)(hl:aJ gh (M.un X.h) lA lc l)(hsh:∀m∈l,lh m)(S:SH w M X []):Ct Tryz.prog 9 [.agg [.slice bz d.ae.length bw,.int .i64 d.loops].toArray,.slice lA l.length lc] w M X (Ro (jz d l)):=by
 unfold Ct
 have iL:d.ae.length*40<=140737488355328:=aC.room
 have Xk:l.length*64<=140737488355328:=hl.room
 refine cw (b:=Z59) Tryz.func9 rfl Tryz.ntmps9 rfl (fun C hC=>(cB [0,1] rfl (ar (aj rfl (dx (l:=[_,_]) rfl rfl rfl rfl rfl S ?_)))))
 intro aP w1 S1;clear S
 refine aj rfl (bW (l:=[_,_]) rfl rfl rfl jo rfl S1 ?_)
 intro bJ w2 S2;clear S1
 refine af 2 rfl (bL [1,2,4] rfl (ag rfl (aU [_,_] rfl aM aN (S2.bs 1 rfl rfl)) (aj rfl (Mk rfl rfl rfl rfl rfl rfl rfl YB S2 (U4 d (aC.mono (Hp.cM _ _)) S2.aT) ?_))))
 intro xV w3 M1 Nw3 bh S3 mV;clear S2
 replace aC:=aC.mono bh
 replace hl:=hl.mono (Hp.aD bh S3.mx)
 rcases mV with⟨hop,rfl,rfl⟩|⟨hop,dO,ggs,dY,iA,oA,fA,ic,oc,fc,fv,rfl,rfl,hsi,bq,gZ,il⟩
 ·have S4:SH _ _ _ [_,_]:=S3;clear S3
  refine af 5 rfl (bM [1,4,7,8] rfl (ar (af 2 rfl (ax [1,4,7,20] rfl (kP (ar (ag rfl (run_build (l:=[_,_]) rfl rfl iC rfl rfl) (aj rfl (bH 0 [_,_] [_,_] [_,_] rfl S4 rfl rfl aN rfl rfl ?_)))))))))
  intro w4 S5;clear S4
  refine af 2 rfl (ax [4,5,6] rfl (dI hC [_,_,_] rfl rfl ⟨⟨_,rfl,dK (us:=[_,_]) aM rfl aN (S5.bs 0 rfl rfl)⟩,rfl,rfl,trivial⟩ ?_))
  refine⟨_,rfl,_,bh,(S5.pick [] [] (by decide) trivial),?_⟩
  rw[show jz d l=(⟨[],0⟩,0,7)from by unfold jz;rw[if_pos hop]]
  exact E9 7
 ·have S6:SH _ _ _ [_,_,_,_,_]:=S3;clear S3
  obtain⟨hn,hab,hlo⟩:=EG hop
  refine af 5 rfl (bM [1,4,7,8] rfl (ar (af 2 rfl (ax [1,4,7,20] rfl (sD (aV (bC [1,4,7] rfl (ar ?_))))))))
  refine af 1 rfl (ag rfl (cK rfl pH) (af 1 rfl (ax [1,4,7,24] rfl ?_)))
  refine bp rfl (fun rA=>?_) (fun rA=>?_)
  ·refine ar (ag rfl (run_build (l:=[_,_]) rfl rfl iC rfl rfl) (aj rfl (bH 3 [_,_] [_,_] [_,_,_,_,_] rfl S6 rfl rfl aN rfl rfl ?_)))
   intro w5 S7;clear S6
   refine af 2 rfl (ax [4,5,6] rfl (dI hC [_,_,_] rfl rfl ⟨⟨_,rfl,dK (us:=[_,_]) aM rfl aN (S7.bs 3 rfl rfl)⟩,rfl,rfl,trivial⟩ ?_))
   refine⟨_,rfl,_,bh,(S7.pick [] [] (by decide) trivial),?_⟩
   rw[show jz d l=(⟨[],0⟩,0,2)from by unfold jz;rw[if_neg (by rw[hop];decide),if_pos (by omega)]]
   exact E9 2
  ·refine aV (bC [1,4,7] rfl ?_)
   obtain⟨M2,hle2,S8,⟨A1,c1,e1,hr1⟩⟩:=S6.gP (i:=2) (H':=[_,_,_,_,_]) rfl rfl (by show _*40<=_;first|omega|(simp only[ls];omega))
   clear S6;subst e1
   replace aC:=aC.mono hle2
   replace hl:=hl.mono (Hp.aD hle2 S8.mx)
   replace hsi:=hsi.mono hle2
   replace bq:=bq.mono hle2
   replace gZ:=gZ.mono hle2
   replace il:=il.mono hle2
   refine aH (af 2 rfl (ag rfl (az rfl kX rfl mW mN) (ag rfl (aw rfl lB (S8.bc 0 rfl rfl)) (af 1 rfl (ag rfl (az rfl jy rfl jZ jX) (ag rfl (aU [_,_] rfl aM aN (S8.bs 1 rfl rfl)) (aj rfl (bW (l:=[_,_]) rfl rfl rfl jo rfl S8 ?_))))))))
   intro dE w6 S9;clear S8
   refine aj rfl (bH 0 [_,_] [_,_] [_,_,_,_,_,_] rfl S9 rfl rfl aN rfl rfl ?_)
   intro w7 bQ;clear S9
   refine bM [1,4,9] rfl (ar (af 1 rfl (ag rfl (cK rfl pH) (af 1 rfl (aB (bK (bg ?_)))))))
   refine ck (fun aZ au aR=>∃(i:Nat) (D:Dg) (nA:Option Addr) (nc:Nat) (M3:Hp),M2.le M3/\aZ=l.length-i/\Env 56 [(1,.slice lA l.length lc),(4,.pointer (some ⟨bJ,0,none⟩)),(9,.pointer (some ⟨dE,0,none⟩)),(33,.slice lA l.length lc),(34,.int .i64 (l.length:Int)),(35,.int .i64 (i:Int))] au/\SH aR M3 X [Rs.box dE 24 [.slice nA D.ae.length nc,.int .i64 D.loops],Rs.box bJ 24 [.slice none 0 0,.int .i64 0]]/\i<=l.length/\oz l l.length 0 d=oz l (l.length-i) i D/\aJ bu M3 nA nc D.ae) rfl ?_ ?_
   ·intro au aq
    refine⟨_,⟨0,d,_,_,_,Hp.le_refl _,rfl,aq.su rfl,bQ.pick [0,4] [_,_] (by decide) ⟨rfl,rfl,trivial⟩,?dh,?dC,?jm⟩⟩
    case dh=>omega
    case dC=>rfl
    case jm=>exact hr1
   ·rintro m1 a1 w8 ⟨i,D,nA,nc,M3,bZ,rfl,bN,cz,hi,hD,pL⟩
    clear bQ
    refine cy bN ?_
    clear bN a1
    replace aC:=aC.mono bZ
    replace hl:=hl.mono (Hp.aD bZ cz.mx)
    replace hsi:=hsi.mono bZ
    replace bq:=bq.mono bZ
    replace gZ:=gZ.mono bZ
    replace il:=il.mono bZ
    replace hr1:=hr1.mono bZ
    refine ar (af 1 rfl (aB (di ?_)))
    refine bp rfl (fun oa=>?_) (fun oa=>?_)
    ·refine aV (bC [1,4,9,33,34,35] rfl (bg (ar (af 1 rfl (ag rfl (cN i rfl kQ hl) (ag rfl (aU [_,_,_,_,_,_,_,_] rfl eT sF (hl.j6 cz.um (e:=i) (by first|omega|(simp only[ls];omega)) (j:=0) ⟨rfl,rfl,rfl,rfl,rfl,rfl,rfl,rfl,trivial⟩)) ?_))))))
     refine aj rfl (bW (l:=[_,_,_,_,_,_,_,_]) rfl rfl rfl N7 rfl cz ?_)
     intro lK w9 cO;clear cz
     refine af 1 rfl (aj rfl (bH 0 [_,_,_,_,_,_,_,_] [_,_,_,_,_,_,_,_] [_,_,_] rfl cO rfl rfl sF rfl rfl ?_))
     intro ld cF;clear cO
     refine bL [1,4,9,33,34,35,11,10] rfl (ag rfl (aU [_,_] rfl aM aN (cF.bs 1 rfl rfl)) (ag rfl (aU [_,_,_,_,_,_,_,_] rfl eT sF (cF.bs 0 rfl rfl)) (aj rfl (eo rfl rfl rfl rfl rfl rfl rfl YA cF (ZT D (ga l i) (hsh _ (cY (show i<l.length by omega))) (pL.mono (Hp.cM _ _)) cF.aT) ?_))))
     intro JB lI M4 b7 ct yM;clear cF
     replace aC:=aC.mono b7
     replace hl:=hl.mono (Hp.aD b7 ct.mx)
     replace hsi:=hsi.mono b7
     replace bq:=bq.mono b7
     replace gZ:=gZ.mono b7
     replace il:=il.mono b7
     replace hr1:=hr1.mono b7
     replace pL:=pL.mono b7
     obtain⟨A2,c2,rfl,hr2⟩:=yM
     refine af 3 rfl (aj rfl (bW (l:=[_,_]) rfl rfl rfl jo rfl ct ?_))
     intro iI nL cS;clear ct
     refine aj rfl (bH 0 [_,_] [_,_] [_,_,_,_] rfl cS rfl rfl aN rfl rfl ?_)
     intro ng cC;clear cS
     refine af 1 rfl (bM [1,4,9,33,34,35,10,12,13] rfl (ar (af 2 rfl (ax [1,4,9,33,34,35,10,12,13,47] rfl ?_))))
     refine bp rfl (fun Bh=>?_) (fun Bh=>?_)
     ·refine ar (ag rfl (aU [_,_] rfl aM aN (cC.bs 2 rfl rfl)) (af 2 rfl (aj rfl (bH 3 [_,_] [_,_] [_,_,_,_] rfl cC rfl rfl aN rfl rfl ?_))))
      intro lH bY;clear cC
      refine af 2 rfl (ax [4,5,6] rfl (dI hC [_,_,_] rfl rfl ⟨⟨_,rfl,dK (us:=[_,_]) aM rfl aN (bY.bs 3 rfl rfl)⟩,rfl,rfl,trivial⟩ ?_))
      refine⟨_,rfl,_,((bh.trans hle2).trans bZ).trans b7,(bY.pick [] [] (by decide) trivial),?_⟩
      rw[show jz d l=oz l l.length 0 d from by unfold jz;rw[if_neg (by rw[hop];decide),if_neg (by omega)]]
      rw[hD,Mp (by omega) (by simpa using Bh)]
      exact⟨_,_,rfl,pL⟩
     ·refine aV (aW [1,4,9,33,34,35,12] rfl (aH (ag rfl (aU [_,_] rfl aM aN (cC.bs 0 rfl rfl)) (aj rfl (bH 2 [_,_] [_,_] [_,_,_,_] rfl cC rfl rfl aN rfl rfl ?_)))))
      intro ow dW;clear cC
      refine aB (bE (aW [1,4,9,33,34,35] rfl (aH (ag rfl (bj rfl) (af 1 rfl (aB (br ?_)))))))
      intro au aq
      refine⟨_,?fK,⟨i+1,(bR D (ga l i)).1,_,_,_,(bZ.trans b7),rfl,aq.su rfl,dW.pick [2,3] [_,_] (by decide) ⟨rfl,rfl,trivial⟩,?dv,?dL,?jl⟩⟩
      case dv=>omega
      case dL=>(rw[hD];exact IL (by omega) (by simpa using Bh))
      case jl=>exact hr2
      case fK=>omega
    ·refine bX rfl (cP [1,4,9] rfl (ag rfl (aU [_,_] rfl aM aN (cz.bs 0 rfl rfl)) (af 1 rfl (ag rfl (cK rfl pH) (aj rfl (bH 1 [_,_] [_,_] [_,_] rfl cz rfl rfl aN rfl rfl ?_))))))
     intro oU ek;clear cz
     refine af 2 rfl (ax [4,5,6] rfl (dI hC [_,_,_] rfl rfl ⟨⟨_,rfl,dK (us:=[_,_]) aM rfl aN (ek.bs 1 rfl rfl)⟩,rfl,rfl,trivial⟩ ?_))
     refine⟨_,rfl,_,(bh.trans hle2).trans bZ,(ek.pick [] [] (by decide) trivial),?_⟩
     rw[show jz d l=oz l l.length 0 d from by unfold jz;rw[if_neg (by rw[hop];decide),if_neg (by omega)]]
     obtain rfl:i=l.length:=by omega
     rw[hD,LP]
     exact⟨_,_,rfl,pL⟩
end Go.Proofs.YtcohmplpgcddiaaGreatDoor
namespace Go.Proofs.YtcohmplpgcddiaaGreatDoor
open Go.ChangeShapes Go.WideShapes Go.ChangeAt Go.RowKit
def sB(l:List UInt8):ByteArray:=⟨l.toArray⟩
theorem abk(a b:List UInt8):sB a++sB b=sB (a++b):=by
 unfold sB
 apply ByteArray.ext
 simp
theorem Ik(a:List UInt8):(sB a).size=a.length:=by
 show(sB a).data.size=_
 simp[sB]
def iY:Cd (List UInt8):=⟨fun x=>[.string (sB x)],1,16,9,[],fun _=>rfl,by
 intro x u hu;simp at hu;subst hu;rfl⟩
theorem ahr(xs:List (List UInt8)):xs.flatMap iY.f=xs.map (fun x=>Value.string (sB x)):=by
 induction xs with
 |nil=>rfl
 |cons x xs ih=>rw[List.flatMap_cons,List.map_cons,ih];rfl
section
variable {P : Program} {o : Oper} {L : List (Nat × Value)} {w w' : World} {x y z : Operand} {t t' T E src dst : TypeId} {v u : Value} {n d : Nat} {Kt : List (Nat × Value) → World → Prop} {M M' : Hp} {X : Fr} {H H' : List Rs} {i g : Nat} {l : List Value} {a b : List UInt8}
theorem jA(ho:o.op=.binOp .add t x y t')(hx:oev L x=some (.string (sB a)))(hy:oev L y=some (.string (sB b)))(h:a.length+b.length<=9223372036854775807):Run P o L w (.string (sB (a++b))) w:=by
 intro n c hc
 unfold execOp
 have h1:∀w,(eqGuard .add t x y (.string (sB a)) (.string (sB b))).run P w=.ok () w:=by
  intro w;unfold eqGuard;simp
 have h2:¬(((sB a).size+(sB b).size:Nat):Int)>IntKind.i64.max:=by
  rw[Ik,Ik]
  have e:IntKind.i64.max=9223372036854775807:=by decide
  rw[e];omega
 simp only[ho,hc.eval hx,hc.eval hy,h1,binOp,Op.stringOp,Sem.run_bind,Result.andThen_ok,if_neg h2,Sem.run_pure,abk]
theorem aco(ho:o.op=.binOp .eql t x y t')(hx:oev L x=some (.string (sB a)))(hy:oev L y=some (.string (sB b))):Run P o L w (.bool (decide (a=b))) w:=by
 intro n c hc
 unfold execOp
 have h1:∀w,(eqGuard .eql t x y (.string (sB a)) (.string (sB b))).run P w=.ok () w:=by
  intro w;unfold eqGuard;simp
 have h2:((sB a).toList==(sB b).toList)=decide (a=b):=by
  rw[ByteArray.toList_eq,ByteArray.toList_eq]
  show(a.toArray.toList==b.toArray.toList)=_
  simp only[List.toList_toArray]
  by_cases h:a=b
  ·subst h;simp
  ·simp[h]
 simp only[ho,hc.eval hx,hc.eval hy,h1,binOp,Op.stringOp,Sem.run_bind,Result.andThen_ok,Sem.run_pure,h2]
theorem acm(a:List UInt8):(sB a).extract 1 (sB a).size=sB (a.drop 1):=by
 apply ByteArray.ext
 rw[ByteArray.data_extract,Ik]
 show a.toArray.extract 1 a.length=(a.drop 1).toArray
 apply Array.ext'
 simp
 exact List.take_of_length_le (by simp)
theorem aaT{lx:Operand}(hop:o.op=.slice T x (some lx) none none)(hx:oev L x=some (.string (sB a)))(hl:oev L lx=some (.int .i64 1))(hu:P.underlying T=some .string)(h:1<=a.length):Run P o L w (.string (sB (a.drop 1))) w:=by
 intro n c he
 have e1:(0:Int)<=1/\(1:Int)<=((sB a).size:Int):=by rw[Ik];omega
 unfold execOp
 simp only[hop,he.eval hx,he.eval hl,Instr.sliceAt,Instr.slice,Instr.sliceBounds,Instr.sliceBound,asIntOf,Option.map_none,Option.map_some,Sem.run_bind,Sem.run_pure,Result.andThen_ok,run_underlying hu,e1,and_self,if_true,Option.isSome_none,Bool.false_eq_true,if_false]
 rw[show(1:Int).toNat=1 from rfl,acm]
theorem Ld{s:Nat}(ho:o.op=.convert src dst x)(hx:oev L x=some (.int .i64 (s:Int)))(hs:∃d,P.underlying src=some d)(hd:P.underlying dst=some (.int .u8))(h:s<256):Run P o L w (.int .u8 (s:Int)) w:=by
 intro n c he
 obtain⟨d,hs⟩:=hs
 unfold execOp
 have e:IntKind.u8.wrap (s:Int)=(s:Int):=by
  show(s:Int)%256=_
  omega
 simp only[ho,he.eval hx,convert,Sem.run_bind,run_underlying hs,run_underlying hd,Result.andThen_ok,Conv.intToInt,Sem.run_pure,e]
def KO:Cd Nat:=⟨fun x=>[.int .u8 (x:Int)],1,1,5,0,fun _=>rfl,by
 intro x u hu;simp at hu;subst hu;rfl⟩
theorem Lc{s c1:Nat}(ho:o.op=.convert src dst x)(hx:oev L x=some (.slice (some ⟨g,0,none⟩) 1 c1))(hs:P.underlying src=some (.slice E))(hd:P.underlying dst=some .string)(hE:P.underlying E=some (.int .u8))(S:SH w M X H)(hi:nth H i=some (Rs.box g T [.int .u8 (s:Int)])):Run P o L w (.string (sB [UInt8.ofNat s])) w:=by
 intro n c he
 have hc:w.cell? ⟨g,0,none⟩=some (.int .u8 (s:Int)):=S.nJ hi rfl
 have hl:=run_loadCells_list (P:=P) w ⟨g,0,none⟩ [.int .u8 (s:Int)] (fun j v hv=>by
  cases j with
  |zero=>simp at hv;subst hv;simpa[Addr.add]using hc
  |succ j=>simp at hv)
 unfold execOp
 have hl':(loadCells ⟨g,0,none⟩ 1).run P w=.ok #[.int .u8 (s:Int)] w:=hl
 simp only[ho,he.eval hx,convert,Sem.run_bind,run_underlying hs,run_underlying hd,run_underlying hE,Result.andThen_ok,Conv.bytesToString,hl']
 simp
 rfl
theorem SH.of_below(S:SH w M X H)(h:Below w.heap.size w w'):SH w' M X H:=S.kp ⟨h.os,h.tape,h.output,h.size⟩ fun b hb=>h.block b hb
end
end Go.Proofs.YtcohmplpgcddiaaGreatDoor
namespace Go.Proofs.YtcohmplpgcddiaaGreatDoor
open Go.ChangeShapes Go.WideShapes Go.ChangeAt Go.RowKit
theorem pJ:jt Tryz.prog 53 iY:=⟨.string ⟨#[]⟩,Xg,by kernel_rfl,rfl,by decide,by decide⟩
theorem Ni:jt Tryz.prog 120 KO:=⟨.int .u8 0,CR,by kernel_rfl,rfl,by decide,by decide⟩
end Go.Proofs.YtcohmplpgcddiaaGreatDoor
namespace Go.Proofs.YtcohmplpgcddiaaGreatDoor
open Go.Shelf Go.ChangeShapes Go.WideShapes Go.ChangeAt Go.RowKit
def SI:Go.Shelf.Ren:=⟨fun|156=>29|165=>60|166=>61|169=>62|240=>87|241=>88|276=>120|277=>121|n=>n,fun|31=>53|9=>9|3=>3|4=>4|0=>0|20=>20|72=>122|76=>126|70=>119|37=>120|75=>125|127=>153|164=>186|5=>5|80=>128|n=>n,fun|n=>n⟩
theorem joinL:Go.Proofs.Lays.n156 Tryz.prog SI:={
 mixed:=by kernel_rfl
 f156:=Tryz.func29.trans (congrArg some (by kernel_rfl))
 f165:=Tryz.func60.trans (congrArg some (by kernel_rfl))
 f166:=Tryz.func61.trans (congrArg some (by kernel_rfl))
 f169:=Tryz.func62.trans (congrArg some (by kernel_rfl))
 f240:=Tryz.func87.trans (congrArg some (by kernel_rfl))
 f241:=Tryz.func88.trans (congrArg some (by kernel_rfl))
 f276:=Tryz.func120.trans (congrArg some (by kernel_rfl))
 f277:=Tryz.func121.trans (congrArg some (by kernel_rfl))
 t0:=PW
 a0:=Tryz.isAgg0
 z0:=Tryz.sizeOf0
 v0:=Tryz.zeroValue0
 t3:=aG
 a3:=Tryz.isAgg3
 z3:=Tryz.sizeOf3
 v3:=Tryz.zeroValue3
 t4:=gY
 a4:=Tryz.isAgg4
 z4:=Tryz.sizeOf4
 v4:=Tryz.zeroValue4
 t9:=xY
 a9:=Tryz.isAgg9
 z9:=Tryz.sizeOf9
 v9:=Tryz.zeroValue9
 t20:=JG
 a20:=Tryz.isAgg20
 z20:=Tryz.sizeOf20
 v20:=Tryz.zeroValue20
 t31:=Xg
 a31:=Tryz.isAgg53
 z31:=Tryz.sizeOf53
 v31:=Tryz.zeroValue53
 t37:=CR
 a37:=Tryz.isAgg120
 z37:=Tryz.sizeOf120
 v37:=Tryz.zeroValue120
 t70:=agj
 a70:=Tryz.isAgg119
 z70:=Tryz.sizeOf119
 v70:=Tryz.zeroValue119
 t72:=agi
 a72:=Tryz.isAgg122
 z72:=Tryz.sizeOf122
 v72:=Tryz.zeroValue122
 t75:=agh
 a75:=Tryz.isAgg125
 z75:=Tryz.sizeOf125
 v75:=Tryz.zeroValue125
 t76:=agf
 a76:=Tryz.isAgg126
 z76:=Tryz.sizeOf126
 v76:=Tryz.zeroValue126
 t127:=age
 a127:=Tryz.isAgg153
 z127:=Tryz.sizeOf153
 v127:=Tryz.zeroValue153
 t164:=agb
 a164:=Tryz.isAgg186
 z164:=Tryz.sizeOf186
 v164:=Tryz.zeroValue186}
def abC:Go.Shelf.Ren:=⟨fun|171=>27|243=>59|246=>86|283=>116|284=>117|285=>118|286=>119|129=>138|317=>140|318=>141|319=>142|320=>143|337=>154|338=>155|n=>n,fun|3=>3|9=>9|2=>2|4=>4|171=>180|0=>0|53=>181|37=>120|5=>5|173=>184|212=>207|51=>205|20=>20|213=>208|46=>177|232=>220|233=>221|n=>n,fun|17=>0|18=>2|19=>3|n=>n⟩
theorem agJ:Go.Proofs.Lays.n171 Tryz.prog abC:={
 mixed:=by kernel_rfl
 f129:=Tryz.func138.trans (congrArg some (by kernel_rfl))
 f171:=Tryz.func27.trans (congrArg some (by kernel_rfl))
 f243:=Tryz.func59.trans (congrArg some (by kernel_rfl))
 f246:=Tryz.func86.trans (congrArg some (by kernel_rfl))
 f283:=Tryz.func116.trans (congrArg some (by kernel_rfl))
 f284:=Tryz.func117.trans (congrArg some (by kernel_rfl))
 f285:=Tryz.func118.trans (congrArg some (by kernel_rfl))
 f286:=Tryz.func119.trans (congrArg some (by kernel_rfl))
 f317:=Tryz.func140.trans (congrArg some (by kernel_rfl))
 f318:=Tryz.func141.trans (congrArg some (by kernel_rfl))
 f319:=Tryz.func142.trans (congrArg some (by kernel_rfl))
 f320:=Tryz.func143.trans (congrArg some (by kernel_rfl))
 f337:=Tryz.func154.trans (congrArg some (by kernel_rfl))
 f338:=Tryz.func155.trans (congrArg some (by kernel_rfl))
 t0:=PW
 a0:=Tryz.isAgg0
 z0:=Tryz.sizeOf0
 v0:=Tryz.zeroValue0
 t2:=uT2
 a2:=Tryz.isAgg2
 z2:=Tryz.sizeOf2
 v2:=Tryz.zeroValue2
 t3:=aG
 a3:=Tryz.isAgg3
 z3:=Tryz.sizeOf3
 v3:=Tryz.zeroValue3
 t4:=gY
 a4:=Tryz.isAgg4
 z4:=Tryz.sizeOf4
 v4:=Tryz.zeroValue4
 t5:=xZ
 a5:=Tryz.isAgg5
 z5:=Tryz.sizeOf5
 v5:=Tryz.zeroValue5
 t9:=xY
 a9:=Tryz.isAgg9
 z9:=Tryz.sizeOf9
 v9:=Tryz.zeroValue9
 t20:=JG
 a20:=Tryz.isAgg20
 z20:=Tryz.sizeOf20
 v20:=Tryz.zeroValue20
 t37:=CR
 a37:=Tryz.isAgg120
 z37:=Tryz.sizeOf120
 v37:=Tryz.zeroValue120
 t46:=VZ
 a46:=Tryz.isAgg177
 z46:=Tryz.sizeOf177
 v46:=Tryz.zeroValue177
 t51:=VX
 a51:=Tryz.isAgg205
 z51:=Tryz.sizeOf205
 v51:=Tryz.zeroValue205
 t53:=VY
 a53:=Tryz.isAgg181
 z53:=Tryz.sizeOf181
 v53:=Tryz.zeroValue181
 t171:=agd
 a171:=Tryz.isAgg180
 z171:=Tryz.sizeOf180
 v171:=Tryz.zeroValue180
 t173:=agc
 a173:=Tryz.isAgg184
 z173:=Tryz.sizeOf184
 v173:=Tryz.zeroValue184
 t212:=af8
 a212:=Tryz.isAgg207
 z212:=Tryz.sizeOf207
 v212:=Tryz.zeroValue207
 t213:=af7
 a213:=Tryz.isAgg208
 z213:=Tryz.sizeOf208
 t232:=af3
 a232:=Tryz.isAgg220
 z232:=Tryz.sizeOf220
 v232:=Tryz.zeroValue220
 t233:=af2
 a233:=Tryz.isAgg221
 z233:=Tryz.sizeOf221
 v233:=Tryz.zeroValue221
 g17:=by kernel_rfl
 g18:=by kernel_rfl
 g19:=by kernel_rfl}
theorem Ws:Builder.Extra Tryz.prog SI:={
 sizeBuilder:=by kernel_rfl
 liesBuilder:=by kernel_rfl
 t5:=xZ
 a5:=Tryz.isAgg5
 z5:=Tryz.sizeOf5
 v5:=Tryz.zeroValue5
 infoByte:=by kernel_rfl
 cellsByte:=by kernel_rfl
 sizeByte:=by kernel_rfl
 neB5:=by decide}
theorem ae6{w:World}{M:Hp}{X:Fr}(i:Nat)(hi:i<100)(S:SH w M X []):Cq Tryz.prog 27 [.int .i64 (i:Int)] w M X (fun u=>u=.string (sB (Lib.decDigits i))):=
 (Any.strconv_Itoa_small agJ i hi w).mono fun e w' ⟨he,hw⟩=>⟨_,he,by rw[hw];exact S,rfl⟩
theorem MB{w:World}{M:Hp}{X:Fr}(xs:List (List UInt8))(sep:List UInt8){A:Option Addr}{c:Nat}(h:aJ iY (M.un X.h) A c xs)(hl:(Lib.join xs sep).length<=140737488355328)(S:SH w M X []):Cq Tryz.prog 29 [.slice A xs.length c,.string (sB sep)] w M X (fun u=>u=.string (sB (Lib.join xs sep))):=by
 rcases Nat.eq_zero_or_pos xs.length with h0|h0
 ·have hx:xs=[]:=List.eq_nil_of_length_eq_zero h0
  subst hx
  exact(Any.strings_Join_none joinL Ws A c (sB sep) w).mono fun e w' ⟨he,hw⟩=>⟨_,he,by rw[hw];exact S,rfl⟩
 ·obtain⟨e,cs,T2,fz,hc,_⟩:=h.2.2 h0
  have e1:(xs.map sB).map (·.data.toList)=xs:=by
   rw[List.map_map]
   conv=>rhs;rw[<-List.map_id xs]
   exact List.map_congr_left fun x _=>by simp[sB]
  have e2:(sB sep).data.toList=sep:=by simp[sB]
  have hr:=h.room
  have hroom:xs.length*16<=140737488355328:=hr
  have key:=Any.strings_Join joinL Ws (adB A) (qP A) c (xs.map sB) (sB sep) w (fun j x hx=>by
   have h1:=h.cells S.um j (.string x) (by
    rw[List.getElem?_map]at hx
    rw[ahr,List.getElem?_map]
    cases hq:xs[j]? with
    |none=>rw[hq]at hx;cases hx
    |some z=>rw[hq]at hx;simp at hx ⊢;rw[hx])
   exact h1) (kv (S.um _ _ hc)) (by rw[List.length_map];omega) (by rw[List.length_map];exact h.cap) (by rw[e1,e2];exact hl)
  rw[e1,e2,List.length_map,<-e]at key
  exact key.mono fun e w' ⟨he,hw⟩=>⟨_,he,S.of_below hw,rfl⟩
end Go.Proofs.YtcohmplpgcddiaaGreatDoor
namespace Go.Proofs.YtcohmplpgcddiaaGreatDoor
open Go.ChangeShapes Go.WideShapes Go.ChangeAt Go.RowKit
theorem DC{m:Nat}(h:m<10):Lib.decDigits m=[UInt8.ofNat (48+m)]:=by
 rw[Lib.decDigits,dif_pos h]
theorem L6{m:Nat}(h:¬m<10):Lib.decDigits m=Lib.decDigits (m/10)++[UInt8.ofNat (48+m%10)]:=by
 rw[Lib.decDigits,dif_neg h]
theorem UX{m:Nat}(h:m<100):(Lib.decDigits m).length<=2:=by
 by_cases h1:m<10
 ·rw[DC h1];simp
 ·rw[L6 h1,DC (by omega)];simp
noncomputable def Z5a:=Tryz.f37.body.getD .skip
set_option maxRecDepth 10000 in
theorem afQ{w:World}{M:Hp}{X:Fr}(m:Nat)(hm:m<10)(S:SH w M X []):Cq Tryz.prog 37 [.int .i64 (m:Int)] w M X (fun u=>u=.string (sB (Lib.decDigits m))):=by
 unfold Cq
 refine cw (b:=Z5a) Tryz.func37 rfl Tryz.ntmps37 rfl (fun C hC=>(cB [0] rfl (ar (af 1 rfl (bM [0] rfl (ar (af 2 rfl (ax [0,4] rfl ?_))))))))
 refine bp rfl (fun hb4=>?_) (fun hb4=>?_)
 ·exfalso;omega
 ·refine aV (bC [0] rfl (ar (af 2 rfl (ax [0,10] rfl ?_))))
  refine bp rfl (fun Ga=>?_) (fun Ga=>?_)
  ·refine ar (af 1 rfl (ag rfl (bj rfl) (ag rfl (Ld (s:=(48+m)) rfl (by first|rfl|exact congrArg (fun z=>some (Value.int .i64 z)) (by omega)) ⟨_,aG⟩ xZ (by first|omega|(simp only[ls];omega))) ?_)))
   refine aj rfl (eQ (C:=KO) (l:=[_]) rfl rfl rfl rfl Ni rfl rfl rfl rfl S ?_)
   intro aP w1 S1;clear S
   refine ag rfl (Lc (s:=(48+m)) (i:=0) rfl rfl CR xY xZ S1 rfl) (af 1 rfl (ax [2] rfl (bU hC rfl ?_)))
   exact⟨_,rfl,(S1.pick [] [] (by decide) trivial),(by rw[DC hm];rfl)⟩
  ·exfalso;omega
noncomputable def Z5b:=Tryz.f37.body.getD .skip
set_option maxRecDepth 10000 in
theorem ahS{w:World}{M:Hp}{X:Fr}(m:Nat)(hm:m<100)(S:SH w M X []):Cq Tryz.prog 37 [.int .i64 (m:Int)] w M X (fun u=>u=.string (sB (Lib.decDigits m))):=by
 unfold Cq
 refine cw (b:=Z5b) Tryz.func37 rfl Tryz.ntmps37 rfl (fun C hC=>(cB [0] rfl (ar (af 1 rfl (bM [0] rfl (ar (af 2 rfl (ax [0,4] rfl ?_))))))))
 refine bp rfl (fun hb4=>?_) (fun hb4=>?_)
 ·exfalso;omega
 ·refine aV (bC [0] rfl (ar (af 2 rfl (ax [0,10] rfl ?_))))
  refine bp rfl (fun Ga=>?_) (fun Ga=>?_)
  ·refine ar (af 1 rfl (ag rfl (bj rfl) (ag rfl (Ld (s:=(48+m)) rfl (by first|rfl|exact congrArg (fun z=>some (Value.int .i64 z)) (by omega)) ⟨_,aG⟩ xZ (by first|omega|(simp only[ls];omega))) ?_)))
   refine aj rfl (eQ (C:=KO) (l:=[_]) rfl rfl rfl rfl Ni rfl rfl rfl rfl S ?_)
   intro aP w1 S1;clear S
   refine ag rfl (Lc (s:=(48+m)) (i:=0) rfl rfl CR xY xZ S1 rfl) (af 1 rfl (ax [2] rfl (bU hC rfl ?_)))
   exact⟨_,rfl,(S1.pick [] [] (by decide) trivial),(by rw[DC (by omega)];rfl)⟩
  ·have hdl:=UX (m:=m/10) (by omega)
   refine aV (bC [0] rfl (dH S 11 ?_))
   clear S
   refine aK 10 [0] rfl (aS 1 rfl (Ul rfl rfl rfl (by first|omega|(simp only[ls];omega))) ?_)
   refine dQ 2 rfl (fun ah Sz=>dZ rfl rfl rfl rfl rfl xy Sz (afQ (m/10) ((by omega)) Sz.aT)) ?_
   refine aK 7 [3] rfl (aS 4 rfl (rF rfl rfl rfl (by first|omega|(simp only[ls];omega))) ?_)
   refine aS 5 rfl (bj rfl) (ay 6 rfl (fun ah Sz=>Ld (s:=(48+m%10)) rfl (by first|rfl|exact congrArg (fun z=>some (Value.int .i64 z)) (by omega)) ⟨_,aG⟩ xZ (by first|omega|(simp only[ls];omega))) ?_)
   refine cm 7 rfl (fun ld bQ=>((eQ (C:=KO) (l:=[_]) rfl rfl rfl rfl Ni rfl rfl rfl rfl bQ ?_)))
   intro bJ lI cz;clear bQ
   refine dB [_] [_] rfl cz ?_;clear cz
   refine yq (ay 8 rfl (fun ah Sz=>Lc (s:=(48+m%10)) (i:=0) rfl rfl CR xY xZ Sz.suf rfl) (aS 9 rfl (jA rfl rfl rfl ((by(try simp only[List.length_append,List.length_cons,List.length_nil]);first|omega|(simp only[ls];omega)))) ?_))
   refine aK 0 [10] rfl (cD (fun ow cS=>(aW [2] rfl (bU hC rfl ?_))))
   exact⟨_,rfl,(cS.pick [] [] (by decide) trivial),(by rw[L6 (by omega)];rfl)⟩
end Go.Proofs.YtcohmplpgcddiaaGreatDoor
namespace Go.Proofs.YtcohmplpgcddiaaGreatDoor
open Go.ChangeShapes Go.WideShapes Go.ChangeAt Go.RowKit
def fL(v:Int):List UInt8:=Lib.decDigits v.toNat
theorem yN{w:World}{M:Hp}{X:Fr}(v:Int)(hv:0<=v/\v<100)(S:SH w M X []):Cq Tryz.prog 37 [.int .i64 v] w M X (fun u=>u=.string (sB (fL v))):=by
 obtain⟨m,rfl⟩:∃m:Nat,v=(m:Int):=⟨v.toNat,by omega⟩
 exact ahS m (by omega) S
theorem Vv{w:World}{M:Hp}{X:Fr}(v:Int)(hv:0<=v/\v<100)(S:SH w M X []):Cq Tryz.prog 27 [.int .i64 v] w M X (fun u=>u=.string (sB (fL v))):=by
 obtain⟨m,rfl⟩:∃m:Nat,v=(m:Int):=⟨v.toNat,by omega⟩
 exact ae6 m (by omega) S
def sj(x:Cr)(k:Nat):List (List UInt8):=(List.range k).map fun z=>fL (dw x z)
theorem SY(x:Cr)(k:Nat):(sj x k).length=k:=by simp[sj]
def tZ(x:Cr):List UInt8:=if x.plus=true then[88,43,91]else[88,45,91]
def nO(x:Cr):List UInt8:=tZ x++Lib.join (sj x 4) [44]++[93]
theorem Wt(x:Cr):Lib.join (sj x 4) [44]=fL x.a++[44]++fL x.b++[44]++fL x.c++[44]++fL x.d:=by
 have e:sj x 4=[fL x.a,fL x.b,fL x.c,fL x.d]:=rfl
 rw[e,Lib.join_cons]
 simp[Lib.joinTail]
theorem I3(x:Cr):nO x=tZ x++fL x.a++[44]++fL x.b++[44]++fL x.c++[44]++fL x.d++[93]:=by
 unfold nO
 rw[Wt]
 simp only[List.append_assoc]
theorem Iw{v:Int}(h:0<=v/\v<100):(fL v).length<=2:=UX (by omega)
theorem L9{d:Dg}(h:aO d=true)(hn:d.ae.length<=16){i:Nat}(hi:i<d.ae.length):(fL (ga d.ae i).a).length<=2/\(fL (ga d.ae i).b).length<=2/\(fL (ga d.ae i).c).length<=2/\(fL (ga d.ae i).d).length<=2:=by
 have ha:1<=(ga d.ae i).a/\(ga d.ae i).a<=2*(d.ae.length:Int):=ey h hi (k:=0) (by omega)
 have hb:1<=(ga d.ae i).b/\(ga d.ae i).b<=2*(d.ae.length:Int):=ey h hi (k:=1) (by omega)
 have hc:1<=(ga d.ae i).c/\(ga d.ae i).c<=2*(d.ae.length:Int):=ey h hi (k:=2) (by omega)
 have hd:1<=(ga d.ae i).d/\(ga d.ae i).d<=2*(d.ae.length:Int):=ey h hi (k:=3) (by omega)
 exact⟨Iw (by omega),Iw (by omega),Iw (by omega),Iw (by omega)⟩
theorem Lj{d:Dg}(h:aO d=true)(hn:d.ae.length<=16){i:Nat}(hi:i<d.ae.length):(Lib.join (sj (ga d.ae i) 4) [44]).length<=11:=by
 obtain⟨h1,h2,h3,h4⟩:=L9 h hn hi
 rw[Wt]
 simp only[List.length_append,List.length_cons,List.length_nil]
 omega
theorem abG(x:Cr):(tZ x).length=3:=by unfold tZ;split<;>rfl
theorem ad7{d:Dg}(h:aO d=true)(hn:d.ae.length<=16){i:Nat}(hi:i<d.ae.length):(nO (ga d.ae i)).length<=15:=by
 have:=Lj h hn hi
 unfold nO
 rw[List.length_append,List.length_append,abG]
 simp only[List.length_cons,List.length_nil]
 omega
def qD(d:Dg):List (List UInt8):=d.ae.map nO++List.replicate d.loops.toNat [79]
theorem SM{B:Nat}:∀{l:List (List UInt8)},(∀x∈l,x.length<=B)->l.flatten.length<=l.length*B
 |[],_=>by simp
 |x::l,h=>by
  have h1:=h x (List.mem_cons_self ..)
  have h2:=SM (l:=l) (fun y hy=>h y (List.mem_cons_of_mem _ hy))
  rw[List.flatten_cons,List.length_append,List.length_cons,Nat.succ_mul]
  omega
theorem SG{p:List (List UInt8)}(h:p≠[]):Lib.join p [32]=((p.map ([32]++·)).flatten).drop 1:=by
 cases p with
 |nil=>exact absurd rfl h
 |cons x r=>rw[Lib.join_cons,List.map_cons,List.flatten_cons];rfl
theorem aaW{d:Dg}(h:aO d=true)(hn:d.ae.length<=16):∀x∈qD d,x.length<=15:=fun x hx=>by
 rcases List.mem_append.1 hx with hx|hx
 ·obtain⟨y,hy,rfl⟩:=List.mem_map.1 hx
  obtain⟨i,hi,rfl⟩:=List.mem_iff_getElem.1 hy
  rw[<-cZ hi]
  exact ad7 h hn hi
 ·rw[List.eq_of_mem_replicate hx];simp
theorem acE{d:Dg}(h:aO d=true)(hn:d.ae.length<=16)(hl:0<=d.loops/\d.loops<=16):(Lib.join (qD d) [32]).length<=512:=by
 rcases Nat.eq_zero_or_pos (qD d).length with h0|h0
 ·rw[List.eq_nil_of_length_eq_zero h0];simp[Lib.join_nil]
 ·rw[SG (by intro e;rw[e]at h0;simp at h0),List.length_drop]
  have h1:=SM (B:=16) (l:=(qD d).map ([32]++·)) (fun x hx=>by
   obtain⟨y,hy,rfl⟩:=List.mem_map.1 hx
   have:=aaW h hn y hy
   rw[List.length_append];simp only[List.length_cons,List.length_nil];omega)
  rw[List.length_map]at h1
  have h2:(qD d).length<=32:=by
   unfold qD
   rw[List.length_append,List.length_map,List.length_replicate]
   omega
  have:=Nat.mul_le_mul_right 16 h2
  omega
def Dp(d:Dg):Int:=if fp d=true then 0 else 7
def BV(d:Dg):List UInt8:=if fp d=true then Lib.join (qD d) [32]else[]
noncomputable def Z5c:=Tryz.f13.body.getD .skip
set_option maxHeartbeats 1000000 in
set_option maxRecDepth 10000 in
theorem afE{w:World}{M:Hp}{X:Fr}(d:Dg){bz:Option Addr}{bw:Nat}(aC:aJ bu (M.un X.h) bz bw d.ae)(S:SH w M X []):Ct Tryz.prog 13 [.agg [.slice bz d.ae.length bw,.int .i64 d.loops].toArray] w M X (fun u _=>u=.tuple [.string (sB (BV d)),.int .i64 (Dp d)].toArray):=by
 unfold Ct
 have iL:d.ae.length*40<=140737488355328:=aC.room
 refine cw (b:=Z5c) Tryz.func13 rfl Tryz.ntmps13 rfl (fun C hC=>(cB [0] rfl (ar (aj rfl (dx (l:=[_,_]) rfl rfl rfl rfl rfl S ?_)))))
 intro aP w1 S1;clear S
 refine af 2 rfl (bM [1] rfl (ar (ag rfl (aU [_,_] rfl aM aN (S1.bs 0 rfl rfl)) (aj rfl (eo rfl rfl rfl rfl rfl rfl rfl akg S1 (afS d (aC.mono S1.bn) S1.aT) ?_)))))
 intro sZ w2 M1 bh S2 kY;clear S1
 replace aC:=aC.mono (Hp.aD bh S2.mx)
 obtain rfl:=kY
 refine af 1 rfl (ax [1,12] rfl ?_)
 refine gB rfl (fun vE=>?_) (fun vE=>?_)
 ·simp only[Bool.and_eq_true,Bool.or_eq_true,Bool.and_eq_false_iff,Bool.or_eq_false_iff,decide_eq_true_eq,decide_eq_false_iff_not,Bool.not_eq_true',Bool.not_eq_false']at vE
  refine ar (af 2 rfl (ax [2,3] rfl (bU hC rfl ?_)))
  refine⟨_,rfl,_,bh,(S2.pick [] [] (by decide) trivial),?_⟩
  have e1:Dp d=7:=by unfold Dp;rw[if_neg (by rw[vE];decide)]
  have e2:BV d=[]:=by unfold BV;rw[if_neg (by rw[vE];decide)]
  rw[e1,e2]
  rfl
 ·simp only[Bool.and_eq_true,Bool.or_eq_true,Bool.and_eq_false_iff,Bool.or_eq_false_iff,decide_eq_true_eq,decide_eq_false_iff_not,Bool.not_eq_true',Bool.not_eq_false']at vE
  have FR:fp d=true:=by simpa using vE
  obtain⟨hn,hab,hlo0,hlo1⟩:=qq FR
  refine aV (cP [1] rfl (af 1 rfl (aB (di (ar (ag rfl (az rfl aM rfl dN dM) (ag rfl (aw rfl cE (S2.bc 0 rfl rfl)) (ag rfl (cK rfl cE) ?_))))))))
  refine af 1 rfl (ax [1,4,14,15,16] rfl (bg ?_))
  have S3:=S2.jI iY;clear S2
  refine ck (fun aZ au aR=>∃(i:Nat) (ps:List (List UInt8)) (BP:Value),aZ=d.ae.length-i/\Env 52 [(1,.pointer (some ⟨aP,0,none⟩)),(4,BP),(14,.slice bz d.ae.length bw),(15,.int .i64 (d.ae.length:Int)),(16,.int .i64 (i:Int))] au/\SH aR M1 X [Rs.row iY BP ps,Rs.box aP 24 [.slice bz d.ae.length bw,.int .i64 d.loops]]/\i<=d.ae.length/\ps=(d.ae.take i).map nO) rfl ?_ ?_
  ·intro au aq
   refine⟨_,⟨0,_,_,rfl,aq.su rfl,S3.pick [0,1] [_,_] (by decide) ⟨rfl,rfl,trivial⟩,?dh,?dC⟩⟩
   case dh=>omega
   case dC=>rfl
  ·rintro m1 a1 w3 ⟨i,ps,BP,rfl,bN,S4,hi,hps⟩
   clear S3
   refine cy bN ?_
   clear bN a1
   have hpl:ps.length=i:=by rw[hps,List.length_map,List.length_take];omega
   refine ar (af 1 rfl (aB (di ?_)))
   refine bp rfl (fun nI=>?_) (fun nI=>?_)
   ·refine aV (bC [1,4,14,15,16] rfl (bg (ar (ag rfl (cN i rfl fX aC) (ag rfl (aU [_,_,_,_,_] rfl b6 fN (aC.j6 S4.um (e:=i) (by first|omega|(simp only[ls];omega)) (j:=0) ⟨rfl,rfl,rfl,rfl,rfl,trivial⟩)) ?_)))))
    refine aj rfl (bW (l:=[_,_,_,_,_]) rfl rfl rfl vt rfl S4 ?_)
    intro bJ w4 S5;clear S4
    refine aj rfl (bH 0 [_,_,_,_,_] [_,_,_,_,_] [_,_,_] rfl S5 rfl rfl fN rfl rfl ?_)
    intro w5 S6;clear S5
    refine bL [1,4,14,15,16,6] rfl (af 1 rfl (aB (di (ar (ag rfl (az rfl b6 rfl lM lJ) (ag rfl (aw rfl gY (S6.bc 0 rfl rfl)) (ax [1,4,14,15,16,6,7,21] rfl ?_)))))))
    refine gB rfl (fun rB=>?_) (fun rB=>?_)
    ·refine aH (af 1 rfl (bL [1,4,14,15,16,6,7] rfl (af 1 rfl (aB (di (ar (af 1 rfl (aB ?_))))))))
     refine bK (bg ?_)
     have S7:=S6.jI iY;clear S6
     refine ck (fun aZ au aR=>∃(k:Nat) (qg:List (List UInt8)) (uM:Value),aZ=4-k/\Env 52 [(1,.pointer (some ⟨aP,0,none⟩)),(4,BP),(14,.slice bz d.ae.length bw),(15,.int .i64 (d.ae.length:Int)),(16,.int .i64 (i:Int)),(6,.pointer (some ⟨bJ,0,none⟩)),(7,.string (sB ([88,43,91]:List UInt8))),(8,uM),(22,.int .i64 (k:Int))] au/\SH aR M1 X [Rs.row iY uM qg,Rs.box bJ 68 [.int .i64 ((ga d.ae i).a),.int .i64 ((ga d.ae i).b),.int .i64 ((ga d.ae i).c),.int .i64 ((ga d.ae i).d),.bool ((ga d.ae i).plus)],Rs.row iY BP ps,Rs.box aP 24 [.slice bz d.ae.length bw,.int .i64 d.loops]]/\k<=4/\qg=sj (ga d.ae i) k) rfl ?_ ?_
     ·intro au aq
      refine⟨_,⟨0,_,_,rfl,aq.su rfl,S7.pick [0,1,2,3] [_,_,_,_] (by decide) ⟨rfl,rfl,rfl,rfl,trivial⟩,?dv,?dL⟩⟩
      case dv=>omega
      case dL=>rfl
     ·rintro m2 a2 w6 ⟨k,qg,uM,rfl,cU,S8,hk,has⟩
      clear S7
      refine cy cU ?_
      clear cU a2
      have hal:qg.length=k:=by rw[has,SY]
      refine ar (af 1 rfl (aB (di ?_)))
      refine bp rfl (fun Bl=>?_) (fun Bl=>?_)
      ·refine aV (bC [1,4,14,15,16,6,7,8,22] rfl (bg (ar (af 2 rfl (ax [1,4,14,15,16,6,7,8,22,9] rfl ?_)))))
       have hsd:1<=dw (ga d.ae i) k/\dw (ga d.ae i) k<=2*(d.ae.length:Int):=ey hab (show i<d.ae.length by omega) (show k<4 by omega)
       refine aH (af 1 rfl (ag rfl (aU [_,_,_,_,_] rfl b6 fN (S8.bs 1 rfl rfl)) (af 1 rfl (aj rfl (dU rfl rfl rfl rfl rfl rfl rfl Dt S8 (C7 (ga d.ae i) k (by omega) S8.aT) ?_)))))
       rintro _ w7 S9 rfl;clear S8
       refine aj rfl (dU rfl rfl rfl rfl rfl rfl rfl Yy S9 (Vv (dw (ga d.ae i) k) ((by omega)) S9.aT) ?_)
       rintro _ w8 bQ rfl;clear S9
       refine aj rfl (eQ (C:=iY) (l:=[_]) rfl rfl rfl rfl pJ rfl rfl rfl rfl bQ ?_)
       intro dE w9 cz;clear bQ
       refine aj rfl (gw (C:=iY) (i:=1) (q:=0) (fL (dw (ga d.ae i) k)) rfl rfl rfl rfl rfl rfl rfl rfl pJ cz rfl rfl rfl (by show(_+1)*16<=_;first|omega|(simp only[ls];omega)) ?_)
       intro aia ld cO;clear cz
       have cF:=cO.pick [1,2,3,4] [_,_,_,_] (by decide) ⟨rfl,rfl,rfl,rfl,trivial⟩;clear cO
       refine af 1 rfl (aB (bE (aW [1,4,14,15,16,6,7,8,22] rfl (aH (ag rfl (bj rfl) (af 1 rfl (aB (br ?_))))))))
       intro au aq
       refine⟨_,?kr,⟨k+1,_,_,rfl,aq.su rfl,cF.pick [0,1,2,3] [_,_,_,_] (by decide) ⟨rfl,rfl,rfl,rfl,trivial⟩,?fg,?fR⟩⟩
       case fg=>omega
       case fR=>(rw[has];unfold sj;rw[List.range_succ,List.map_append];rfl)
       case kr=>omega
      ·refine bX rfl (aW [1,4,14,15,16,7,8] rfl ?_)
       have Gb:qg=sj (ga d.ae i) 4:=by rw[has,show k=4 by omega]
       have hjl:=Lj hab hn (show i<d.ae.length by omega)
       rw[<-Gb]at hjl
       refine aH (af 3 rfl ?_)
       obtain⟨A1,c1,e1,hr1⟩:=S8.IY (i:=0) rfl (by show _*16<=_;first|omega|(simp only[ls];omega))
       have pq:=MB qg ([44]:List UInt8) hr1 (by omega) S8.aT
       refine aj rfl (dU rfl rfl rfl rfl rfl rfl rfl Pq S8 (Cq.cast (by first|(simp only[e1];done)|(simp only[e1];rfl)) (pq)) ?_)
       rintro _ lI ct rfl;clear S8
       refine ag rfl (jA rfl rfl rfl ((by(try simp only[List.length_append,List.length_cons,List.length_nil]);first|omega|(simp only[ls];omega)))) ?_
       refine ag rfl (jA rfl rfl rfl ((by(try simp only[List.length_append,List.length_cons,List.length_nil]);first|omega|(simp only[ls];omega)))) ?_
       refine aj rfl (eQ (C:=iY) (l:=[_]) rfl rfl rfl rfl pJ rfl rfl rfl rfl ct ?_)
       intro lK nL cS;clear ct
       refine aj rfl (gw (C:=iY) (i:=3) (q:=0) ((([88,43,91]:List UInt8)++(Lib.join qg ([44]:List UInt8)))++([93]:List UInt8)) rfl rfl rfl rfl rfl rfl rfl rfl pJ cS rfl rfl rfl (by show(_+1)*16<=_;first|omega|(simp only[ls];omega)) ?_)
       intro amJ ng cC;clear cS
       have bY:=cC.pick [1,2,3,4] [_,_,_,_] (by decide) ⟨rfl,rfl,rfl,rfl,trivial⟩;clear cC
       refine af 1 rfl (aB (bE (aW [1,4,14,15,16] rfl (aH (ag rfl (bj rfl) (af 1 rfl (aB (br ?_))))))))
       intro au aq
       refine⟨_,?jr,⟨i+1,_,_,rfl,aq.su rfl,bY.pick [2,3] [_,_] (by decide) ⟨rfl,rfl,trivial⟩,?fJ,?fZ⟩⟩
       case fJ=>omega
       case fZ=>(rw[hps,na d.ae i (by omega),List.map_append];refine congrArg _ ?_;rw[Gb];unfold nO tZ;first|(rw[List.map_singleton,if_pos (by assumption)])|(rw[List.map_singleton,if_neg (by rw[rB];decide)]))
       case jr=>omega
    ·refine aV (cP [1,4,14,15,16,6,7] rfl (af 1 rfl (aB (di (ar (af 1 rfl (aB (bK ?_))))))))
     refine bg ?_
     have dW:=S6.jI iY;clear S6
     refine ck (fun aZ au aR=>∃(k:Nat) (qg:List (List UInt8)) (uM:Value),aZ=4-k/\Env 52 [(1,.pointer (some ⟨aP,0,none⟩)),(4,BP),(14,.slice bz d.ae.length bw),(15,.int .i64 (d.ae.length:Int)),(16,.int .i64 (i:Int)),(6,.pointer (some ⟨bJ,0,none⟩)),(7,.string (sB ([88,45,91]:List UInt8))),(8,uM),(22,.int .i64 (k:Int))] au/\SH aR M1 X [Rs.row iY uM qg,Rs.box bJ 68 [.int .i64 ((ga d.ae i).a),.int .i64 ((ga d.ae i).b),.int .i64 ((ga d.ae i).c),.int .i64 ((ga d.ae i).d),.bool ((ga d.ae i).plus)],Rs.row iY BP ps,Rs.box aP 24 [.slice bz d.ae.length bw,.int .i64 d.loops]]/\k<=4/\qg=sj (ga d.ae i) k) rfl ?_ ?_
     ·intro au aq
      refine⟨_,⟨0,_,_,rfl,aq.su rfl,dW.pick [0,1,2,3] [_,_,_,_] (by decide) ⟨rfl,rfl,rfl,rfl,trivial⟩,?fI,?fY⟩⟩
      case fI=>omega
      case fY=>rfl
     ·rintro m3 a3 lH ⟨k,qg,uM,rfl,fB,ek,hk,has⟩
      clear dW
      refine cy fB ?_
      clear fB a3
      have hal:qg.length=k:=by rw[has,SY]
      refine ar (af 1 rfl (aB (di ?_)))
      refine bp rfl (fun Bl=>?_) (fun Bl=>?_)
      ·refine aV (bC [1,4,14,15,16,6,7,8,22] rfl (bg (ar (af 2 rfl (ax [1,4,14,15,16,6,7,8,22,9] rfl ?_)))))
       have hsd:1<=dw (ga d.ae i) k/\dw (ga d.ae i) k<=2*(d.ae.length:Int):=ey hab (show i<d.ae.length by omega) (show k<4 by omega)
       refine aH (af 1 rfl (ag rfl (aU [_,_,_,_,_] rfl b6 fN (ek.bs 1 rfl rfl)) (af 1 rfl (aj rfl (dU rfl rfl rfl rfl rfl rfl rfl Dt ek (C7 (ga d.ae i) k (by omega) ek.aT) ?_)))))
       rintro _ ow fM rfl;clear ek
       refine aj rfl (dU rfl rfl rfl rfl rfl rfl rfl Yy fM (Vv (dw (ga d.ae i) k) ((by omega)) fM.aT) ?_)
       rintro _ oU eF rfl;clear fM
       refine aj rfl (eQ (C:=iY) (l:=[_]) rfl rfl rfl rfl pJ rfl rfl rfl rfl eF ?_)
       intro iI pU fx;clear eF
       refine aj rfl (gw (C:=iY) (i:=1) (q:=0) (fL (dw (ga d.ae i) k)) rfl rfl rfl rfl rfl rfl rfl rfl pJ fx rfl rfl rfl (by show(_+1)*16<=_;first|omega|(simp only[ls];omega)) ?_)
       intro amN vP jw;clear fx
       have gN:=jw.pick [1,2,3,4] [_,_,_,_] (by decide) ⟨rfl,rfl,rfl,rfl,trivial⟩;clear jw
       refine af 1 rfl (aB (bE (aW [1,4,14,15,16,6,7,8,22] rfl (aH (ag rfl (bj rfl) (af 1 rfl (aB (br ?_))))))))
       intro au aq
       refine⟨_,?kq,⟨k+1,_,_,rfl,aq.su rfl,gN.pick [0,1,2,3] [_,_,_,_] (by decide) ⟨rfl,rfl,rfl,rfl,trivial⟩,?iB,?iW⟩⟩
       case iB=>omega
       case iW=>(rw[has];unfold sj;rw[List.range_succ,List.map_append];rfl)
       case kq=>omega
      ·refine bX rfl (aW [1,4,14,15,16,7,8] rfl ?_)
       have Gb:qg=sj (ga d.ae i) 4:=by rw[has,show k=4 by omega]
       have hjl:=Lj hab hn (show i<d.ae.length by omega)
       rw[<-Gb]at hjl
       refine aH (af 3 rfl ?_)
       obtain⟨A2,c2,e2,hr2⟩:=ek.IY (i:=0) rfl (by show _*16<=_;first|omega|(simp only[ls];omega))
       have tM:=MB qg ([44]:List UInt8) hr2 (by omega) ek.aT
       refine aj rfl (dU rfl rfl rfl rfl rfl rfl rfl Pq ek (Cq.cast (by first|(simp only[e2];done)|(simp only[e2];rfl)) (tM)) ?_)
       rintro _ BO gI rfl;clear ek
       refine ag rfl (jA rfl rfl rfl ((by(try simp only[List.length_append,List.length_cons,List.length_nil]);first|omega|(simp only[ls];omega)))) ?_
       refine ag rfl (jA rfl rfl rfl ((by(try simp only[List.length_append,List.length_cons,List.length_nil]);first|omega|(simp only[ls];omega)))) ?_
       refine aj rfl (eQ (C:=iY) (l:=[_]) rfl rfl rfl rfl pJ rfl rfl rfl rfl gI ?_)
       intro rS zu kM;clear gI
       refine aj rfl (gw (C:=iY) (i:=3) (q:=0) ((([88,45,91]:List UInt8)++(Lib.join qg ([44]:List UInt8)))++([93]:List UInt8)) rfl rfl rfl rfl rfl rfl rfl rfl pJ kM rfl rfl rfl (by show(_+1)*16<=_;first|omega|(simp only[ls];omega)) ?_)
       intro amI vO fU;clear kM
       have fG:=fU.pick [1,2,3,4] [_,_,_,_] (by decide) ⟨rfl,rfl,rfl,rfl,trivial⟩;clear fU
       refine af 1 rfl (aB (bE (aW [1,4,14,15,16] rfl (aH (ag rfl (bj rfl) (af 1 rfl (aB (br ?_))))))))
       intro au aq
       refine⟨_,?mO,⟨i+1,_,_,rfl,aq.su rfl,fG.pick [2,3] [_,_] (by decide) ⟨rfl,rfl,trivial⟩,?jN,?jM⟩⟩
       case jN=>omega
       case jM=>(rw[hps,na d.ae i (by omega),List.map_append];refine congrArg _ ?_;rw[Gb];unfold nO tZ;first|(rw[List.map_singleton,if_pos (by assumption)])|(rw[List.map_singleton,if_neg (by rw[rB];decide)]))
       case mO=>omega
   ·refine bX rfl (bC [1,4] rfl (ar (ag rfl (az rfl aM rfl aY aX) (ag rfl (aw rfl aG (S4.bc 1 rfl rfl)) (af 1 rfl (ax [4,43,44] rfl (bg ?_)))))))
    refine ck (fun aZ au aR=>∃(j:Nat) (qs:List (List UInt8)) (PS:Value),aZ=d.loops.toNat-j/\Env 52 [(4,PS),(43,.int .i64 d.loops),(44,.int .i64 (j:Int))] au/\SH aR M1 X [Rs.row iY PS qs]/\(j:Int)<=d.loops/\qs=d.ae.map nO++List.replicate j [79]) rfl ?_ ?_
    ·intro au aq
     refine⟨_,⟨0,_,_,rfl,aq.su rfl,S4.pick [0] [_] (by decide) ⟨rfl,trivial⟩,?jL,?jK⟩⟩
     case jL=>omega
     case jK=>(obtain rfl:i=d.ae.length:=(by omega);rw[hps,List.take_length,List.replicate_zero,List.append_nil])
    ·rintro m4 a4 xU ⟨j,qs,PS,rfl,iT,gH,hj,Qf⟩
     clear S4
     refine cy iT ?_
     clear iT a4
     have hql:qs.length=d.ae.length+j:=by rw[Qf,List.length_append,List.length_map,List.length_replicate]
     refine ar (af 1 rfl (aB (di ?_)))
     refine bp rfl (fun Bi=>?_) (fun Bi=>?_)
     ·refine aV (bC [4,43,44] rfl (bg (aH (af 1 rfl (aj rfl (eQ (C:=iY) (l:=[_]) rfl rfl rfl rfl pJ rfl rfl rfl rfl gH ?_))))))
      intro uY DS kj;clear gH
      refine aj rfl (gw (C:=iY) (i:=1) (q:=0) ([79]:List UInt8) rfl rfl rfl rfl rfl rfl rfl rfl pJ kj rfl rfl rfl (by show(_+1)*16<=_;first|omega|(simp only[ls];omega)) ?_)
      intro amH Kj gM;clear kj
      have pj:=gM.pick [1] [_] (by decide) ⟨rfl,trivial⟩;clear gM
      refine af 1 rfl (aB (bE (aW [4,43,44] rfl (aH (ag rfl (bj rfl) (af 1 rfl (aB (br ?_))))))))
      intro au aq
      refine⟨_,?n7,⟨j+1,_,_,rfl,aq.su rfl,pj.pick [0] [_] (by decide) ⟨rfl,trivial⟩,?lU,?lT⟩⟩
      case lU=>omega
      case lT=>(rw[Qf,List.replicate_succ',List.append_assoc])
      case n7=>omega
     ·refine bX rfl (bC [4] rfl ?_)
      have Xy:qs=qD d:=by rw[Qf,show j=d.loops.toNat by omega];rfl
      have hjl:=acE hab hn ⟨hlo0,hlo1⟩
      rw[<-Xy]at hjl
      refine aH (af 1 rfl ?_)
      obtain⟨A3,c3,e3,hr3⟩:=gH.IY (i:=0) rfl (by show _*16<=_;first|omega|(simp only[ls];omega))
      have E4:=MB qs ([32]:List UInt8) hr3 (by omega) gH.aT
      refine aj rfl (dU rfl rfl rfl rfl rfl rfl rfl Pq gH (Cq.cast (by first|(simp only[e3];done)|(simp only[e3];rfl)) (E4)) ?_)
      rintro _ BN jd rfl;clear gH
      refine af 2 rfl (ax [2,3] rfl (bU hC rfl ?_))
      refine⟨_,rfl,_,bh,(jd.pick [] [] (by decide) trivial),?_⟩
      have e1:Dp d=0:=by unfold Dp;rw[if_pos FR]
      have e2:BV d=Lib.join (qD d) [32]:=by unfold BV;rw[if_pos FR]
      rw[e1,e2,<-Xy]
      rfl
end Go.Proofs.YtcohmplpgcddiaaGreatDoor
namespace Go.Proofs.YtcohmplpgcddiaaGreatDoor
open Go.ChangeShapes Go.WideShapes Go.ChangeAt Go.RowKit
def allT(d:Dg):List UInt8:=((qD d).map ([32]++·)).flatten
theorem Vt{d:Dg}(h:fp d=true):1<=(allT d).length:=by
 rw[Eh,Bool.and_eq_true,decide_eq_true_iff]at h
 obtain⟨⟨h1,h2,h3,h4⟩,_⟩:=h
 have hp:1<=(qD d).length:=by
  unfold qD
  rw[List.length_append,List.length_map,List.length_replicate]
  omega
 unfold allT
 cases hq:qD d with
 |nil=>rw[hq]at hp;simp at hp
 |cons x r=>rw[List.map_cons,List.flatten_cons,List.length_append,List.length_append];simp only[List.length_cons,List.length_nil];omega
theorem adh{d:Dg}(h:fp d=true):BV d=(allT d).drop 1:=by
 have h1:=Vt h
 unfold BV
 rw[if_pos h]
 refine SG fun e=>?_
 unfold allT at h1
 rw[e]at h1
 simp at h1
theorem U2(d:Dg):allT d=((d.ae.map nO).map ([32]++·)).flatten++(List.replicate d.loops.toNat [32,79]).flatten:=by
 unfold allT qD
 rw[List.map_append,List.flatten_append,List.map_replicate];rfl
theorem Sd(s:List UInt8)(x:Cr)(sg:List UInt8)(h:tZ x=[88]++sg++[91]):s++[32,88]++sg++[91]++fL x.a++[44]++fL x.b++[44]++fL x.c++[44]++fL x.d++[93]=s++(List.map ([32]++·) (List.map nO [x])).flatten:=by
 rw[List.map_cons,List.map_nil,List.map_cons,List.map_nil,I3,h]
 simp only[List.flatten_cons,List.flatten_nil,List.append_nil,List.append_assoc,List.cons_append,List.nil_append]
noncomputable def Z5d:=Tryz.f17.body.getD .skip
set_option maxHeartbeats 1000000 in
set_option maxRecDepth 10000 in
theorem Rx{w:World}{M:Hp}{X:Fr}(d:Dg){bz:Option Addr}{bw:Nat}(aC:aJ bu (M.un X.h) bz bw d.ae)(hn:d.ae.length<=16)(hab:aO d=true)(hlo:0<=d.loops/\d.loops<=16)(hne:1<=(allT d).length)(S:SH w M X []):Cq Tryz.prog 17 [.agg [.slice bz d.ae.length bw,.int .i64 d.loops].toArray] w M X (fun u=>u=.string (sB ((allT d).drop 1))):=by
 unfold Cq
 have iL:d.ae.length*40<=140737488355328:=aC.room
 refine cw (b:=Z5d) Tryz.func17 rfl Tryz.ntmps17 rfl (fun C hC=>(cB [0] rfl (ar (aj rfl (dx (l:=[_,_]) rfl rfl rfl rfl rfl S ?_)))))
 intro aP w1 S1;clear S
 refine af 1 rfl (bL [1] rfl (af 1 rfl (aB (di (ar (af 1 rfl (aB (bK ?_))))))))
 refine bg ?_
 refine ck (fun aZ au aR=>∃(i:Nat) (s9:List UInt8),aZ=d.ae.length-i/\Env 57 [(1,.pointer (some ⟨aP,0,none⟩)),(3,.string (sB s9)),(4,.int .i64 (i:Int))] au/\SH aR M X [Rs.box aP 24 [.slice bz d.ae.length bw,.int .i64 d.loops]]/\i<=d.ae.length/\s9=(((d.ae.take i).map nO).map ([32]++·)).flatten/\s9.length<=16*i) rfl ?_ ?_
 ·intro au aq
  refine⟨_,⟨0,([]:List UInt8),rfl,aq.su rfl,S1.pick [0] [_] (by decide) ⟨rfl,trivial⟩,?dh,?dC,?jm⟩⟩
  case dh=>omega
  case dC=>rfl
  case jm=>exact Nat.le_refl _
 ·rintro m1 a1 w2 ⟨i,s9,rfl,bN,S2,hi,vV,hsl⟩
  clear S1
  refine cy bN ?_
  clear bN a1
  refine cJ (ar (af 1 rfl (ag rfl (az rfl aM rfl dN dM) (ag rfl (aw rfl cE (S2.bc 0 rfl rfl)) (ag rfl (cK rfl cE) (af 1 rfl (ax [1,3,4,12] rfl ?_)))))))
  refine bp rfl (fun vE=>?_) (fun vE=>?_)
  ·refine aV (bC [1,3,4] rfl (bg (ar (ag rfl (az rfl aM rfl dN dM) (ag rfl (aw rfl cE (S2.bc 0 rfl rfl)) (af 1 rfl (ag rfl (cN i rfl fX aC) (ag rfl (aU [_,_,_,_,_] rfl b6 fN (aC.j6 S2.um (e:=i) (by first|omega|(simp only[ls];omega)) (j:=0) ⟨rfl,rfl,rfl,rfl,rfl,trivial⟩)) ?_))))))))
   refine aj rfl (bW (l:=[_,_,_,_,_]) rfl rfl rfl vt rfl S2 ?_)
   intro bJ w3 S3;clear S2
   refine aj rfl (bH 0 [_,_,_,_,_] [_,_,_,_,_] [_,_] rfl S3 rfl rfl fN rfl rfl ?_)
   intro w4 S4;clear S3
   refine bL [1,3,4,5] rfl (af 1 rfl (aB (di (ar (ag rfl (az rfl b6 rfl lM lJ) (ag rfl (aw rfl gY (S4.bc 0 rfl rfl)) (ax [1,3,4,5,6,21] rfl ?_)))))))
   refine gB rfl (fun rB=>?_) (fun rB=>?_)
   ·refine aH (af 1 rfl (ax [1,3,4,5,6] rfl ?_))
    have OB:1<=(ga d.ae i).a/\(ga d.ae i).a<=2*(d.ae.length:Int):=ey hab (show i<d.ae.length by omega) (k:=0) (by omega)
    have OA:1<=(ga d.ae i).b/\(ga d.ae i).b<=2*(d.ae.length:Int):=ey hab (show i<d.ae.length by omega) (k:=1) (by omega)
    have Oz:1<=(ga d.ae i).c/\(ga d.ae i).c<=2*(d.ae.length:Int):=ey hab (show i<d.ae.length by omega) (k:=2) (by omega)
    have Oy:1<=(ga d.ae i).d/\(ga d.ae i).d<=2*(d.ae.length:Int):=ey hab (show i<d.ae.length by omega) (k:=3) (by omega)
    obtain⟨aiZ,aiY,aiX,aiW⟩:=L9 hab hn (show i<d.ae.length by omega)
    refine dH S4 26 ?_
    clear S4
    refine aK 25 [0] rfl (aS 1 rfl (jA rfl rfl rfl ((by(try simp only[List.length_append,List.length_cons,List.length_nil]);first|omega|(simp only[ls];omega)))) ?_)
    refine aK 23 [2] rfl (aS 3 rfl (jA rfl rfl rfl ((by(try simp only[List.length_append,List.length_cons,List.length_nil]);first|omega|(simp only[ls];omega)))) ?_)
    refine aS 4 rfl (jA rfl rfl rfl ((by(try simp only[List.length_append,List.length_cons,List.length_nil]);first|omega|(simp only[ls];omega)))) ?_
    refine aS 5 rfl (az rfl b6 rfl aY aX) (ay 6 rfl (fun ah Sz=>aw rfl aG (Sz.suf.bc 0 rfl rfl)) (dQ 7 rfl (fun ah Sz=>dZ rfl rfl rfl rfl rfl xy Sz (yN ((ga d.ae i).a) ((by omega)) Sz.aT)) ?_))
    refine aS 8 rfl (jA rfl rfl rfl ((by(try simp only[List.length_append,List.length_cons,List.length_nil]);first|omega|(simp only[ls];omega)))) ?_
    refine aS 9 rfl (jA rfl rfl rfl ((by(try simp only[List.length_append,List.length_cons,List.length_nil]);first|omega|(simp only[ls];omega)))) ?_
    refine aS 10 rfl (az rfl b6 rfl aY aX) (ay 11 rfl (fun ah Sz=>aw rfl aG (Sz.suf.bc 0 rfl rfl)) (dQ 12 rfl (fun ah Sz=>dZ rfl rfl rfl rfl rfl xy Sz (yN ((ga d.ae i).b) ((by omega)) Sz.aT)) ?_))
    refine aS 13 rfl (jA rfl rfl rfl ((by(try simp only[List.length_append,List.length_cons,List.length_nil]);first|omega|(simp only[ls];omega)))) ?_
    refine aS 14 rfl (jA rfl rfl rfl ((by(try simp only[List.length_append,List.length_cons,List.length_nil]);first|omega|(simp only[ls];omega)))) ?_
    refine aS 15 rfl (az rfl b6 rfl aY aX) (ay 16 rfl (fun ah Sz=>aw rfl aG (Sz.suf.bc 0 rfl rfl)) (dQ 17 rfl (fun ah Sz=>dZ rfl rfl rfl rfl rfl xy Sz (yN ((ga d.ae i).c) ((by omega)) Sz.aT)) ?_))
    refine aS 18 rfl (jA rfl rfl rfl ((by(try simp only[List.length_append,List.length_cons,List.length_nil]);first|omega|(simp only[ls];omega)))) ?_
    refine aS 19 rfl (jA rfl rfl rfl ((by(try simp only[List.length_append,List.length_cons,List.length_nil]);first|omega|(simp only[ls];omega)))) ?_
    refine aS 20 rfl (az rfl b6 rfl aY aX) (ay 21 rfl (fun ah Sz=>aw rfl aG (Sz.suf.bc 0 rfl rfl)) (dQ 22 rfl (fun ah Sz=>dZ rfl rfl rfl rfl rfl xy Sz (yN ((ga d.ae i).d) ((by omega)) Sz.aT)) ?_))
    refine aS 23 rfl (jA rfl rfl rfl ((by(try simp only[List.length_append,List.length_cons,List.length_nil]);first|omega|(simp only[ls];omega)))) ?_
    refine aS 24 rfl (jA rfl rfl rfl ((by(try simp only[List.length_append,List.length_cons,List.length_nil]);first|omega|(simp only[ls];omega)))) ?_
    refine aK 0 [25] rfl (cD (fun BL gM=>(bE (aW [1,3,4] rfl (aH (af 1 rfl (ag rfl (bj rfl) (af 1 rfl (aB ?_)))))))))
    refine br ?_
    intro au aq
    refine⟨_,?fK,⟨i+1,(((((((((((s9++([32,88]:List UInt8))++([43]:List UInt8))++([91]:List UInt8))++(fL ((ga d.ae i).a)))++([44]:List UInt8))++(fL ((ga d.ae i).b)))++([44]:List UInt8))++(fL ((ga d.ae i).c)))++([44]:List UInt8))++(fL ((ga d.ae i).d)))++([93]:List UInt8)),rfl,aq.su rfl,gM.pick [1] [_] (by decide) ⟨rfl,trivial⟩,?dv,?dL,?jl⟩⟩
    case dv=>omega
    case dL=>(rw[na d.ae i (by omega),List.map_append,List.map_append,List.flatten_append,<-vV];exact Sd _ _ _ (by unfold tZ;first|(rw[if_pos (by assumption)];rfl)|(rw[if_neg (by rw[rB];decide)];rfl)))
    case jl=>(simp only[List.length_append,List.length_cons,List.length_nil];omega)
    case fK=>omega
   ·refine aV (aW [1,3,4,5,6] rfl ?_)
    have OB:1<=(ga d.ae i).a/\(ga d.ae i).a<=2*(d.ae.length:Int):=ey hab (show i<d.ae.length by omega) (k:=0) (by omega)
    have OA:1<=(ga d.ae i).b/\(ga d.ae i).b<=2*(d.ae.length:Int):=ey hab (show i<d.ae.length by omega) (k:=1) (by omega)
    have Oz:1<=(ga d.ae i).c/\(ga d.ae i).c<=2*(d.ae.length:Int):=ey hab (show i<d.ae.length by omega) (k:=2) (by omega)
    have Oy:1<=(ga d.ae i).d/\(ga d.ae i).d<=2*(d.ae.length:Int):=ey hab (show i<d.ae.length by omega) (k:=3) (by omega)
    obtain⟨aiZ,aiY,aiX,aiW⟩:=L9 hab hn (show i<d.ae.length by omega)
    refine dH S4 26 ?_
    clear S4
    refine aK 25 [0] rfl (aS 1 rfl (jA rfl rfl rfl ((by(try simp only[List.length_append,List.length_cons,List.length_nil]);first|omega|(simp only[ls];omega)))) ?_)
    refine aK 23 [2] rfl (aS 3 rfl (jA rfl rfl rfl ((by(try simp only[List.length_append,List.length_cons,List.length_nil]);first|omega|(simp only[ls];omega)))) ?_)
    refine aS 4 rfl (jA rfl rfl rfl ((by(try simp only[List.length_append,List.length_cons,List.length_nil]);first|omega|(simp only[ls];omega)))) ?_
    refine aS 5 rfl (az rfl b6 rfl aY aX) (ay 6 rfl (fun ah Sz=>aw rfl aG (Sz.suf.bc 0 rfl rfl)) (dQ 7 rfl (fun ah Sz=>dZ rfl rfl rfl rfl rfl xy Sz (yN ((ga d.ae i).a) ((by omega)) Sz.aT)) ?_))
    refine aS 8 rfl (jA rfl rfl rfl ((by(try simp only[List.length_append,List.length_cons,List.length_nil]);first|omega|(simp only[ls];omega)))) ?_
    refine aS 9 rfl (jA rfl rfl rfl ((by(try simp only[List.length_append,List.length_cons,List.length_nil]);first|omega|(simp only[ls];omega)))) ?_
    refine aS 10 rfl (az rfl b6 rfl aY aX) (ay 11 rfl (fun ah Sz=>aw rfl aG (Sz.suf.bc 0 rfl rfl)) (dQ 12 rfl (fun ah Sz=>dZ rfl rfl rfl rfl rfl xy Sz (yN ((ga d.ae i).b) ((by omega)) Sz.aT)) ?_))
    refine aS 13 rfl (jA rfl rfl rfl ((by(try simp only[List.length_append,List.length_cons,List.length_nil]);first|omega|(simp only[ls];omega)))) ?_
    refine aS 14 rfl (jA rfl rfl rfl ((by(try simp only[List.length_append,List.length_cons,List.length_nil]);first|omega|(simp only[ls];omega)))) ?_
    refine aS 15 rfl (az rfl b6 rfl aY aX) (ay 16 rfl (fun ah Sz=>aw rfl aG (Sz.suf.bc 0 rfl rfl)) (dQ 17 rfl (fun ah Sz=>dZ rfl rfl rfl rfl rfl xy Sz (yN ((ga d.ae i).c) ((by omega)) Sz.aT)) ?_))
    refine aS 18 rfl (jA rfl rfl rfl ((by(try simp only[List.length_append,List.length_cons,List.length_nil]);first|omega|(simp only[ls];omega)))) ?_
    refine aS 19 rfl (jA rfl rfl rfl ((by(try simp only[List.length_append,List.length_cons,List.length_nil]);first|omega|(simp only[ls];omega)))) ?_
    refine aS 20 rfl (az rfl b6 rfl aY aX) (ay 21 rfl (fun ah Sz=>aw rfl aG (Sz.suf.bc 0 rfl rfl)) (dQ 22 rfl (fun ah Sz=>dZ rfl rfl rfl rfl rfl xy Sz (yN ((ga d.ae i).d) ((by omega)) Sz.aT)) ?_))
    refine aS 23 rfl (jA rfl rfl rfl ((by(try simp only[List.length_append,List.length_cons,List.length_nil]);first|omega|(simp only[ls];omega)))) ?_
    refine aS 24 rfl (jA rfl rfl rfl ((by(try simp only[List.length_append,List.length_cons,List.length_nil]);first|omega|(simp only[ls];omega)))) ?_
    refine aK 0 [25] rfl (cD (fun GG kV=>(bE (aW [1,3,4] rfl (aH (af 1 rfl (ag rfl (bj rfl) (af 1 rfl (aB ?_)))))))))
    refine br ?_
    intro au aq
    refine⟨_,?kr,⟨i+1,(((((((((((s9++([32,88]:List UInt8))++([45]:List UInt8))++([91]:List UInt8))++(fL ((ga d.ae i).a)))++([44]:List UInt8))++(fL ((ga d.ae i).b)))++([44]:List UInt8))++(fL ((ga d.ae i).c)))++([44]:List UInt8))++(fL ((ga d.ae i).d)))++([93]:List UInt8)),rfl,aq.su rfl,kV.pick [1] [_] (by decide) ⟨rfl,trivial⟩,?fg,?fR,?ko⟩⟩
    case fg=>omega
    case fR=>(rw[na d.ae i (by omega),List.map_append,List.map_append,List.flatten_append,<-vV];exact Sd _ _ _ (by unfold tZ;first|(rw[if_pos (by assumption)];rfl)|(rw[if_neg (by rw[rB];decide)];rfl)))
    case ko=>(simp only[List.length_append,List.length_cons,List.length_nil];omega)
    case kr=>omega
  ·refine bX rfl (bC [1,3] rfl (ar (af 1 rfl (aB (bK (bg ?_))))))
   refine ck (fun aZ au aR=>∃(j:Nat) (s8:List UInt8),aZ=d.loops.toNat-j/\Env 57 [(1,.pointer (some ⟨aP,0,none⟩)),(3,.string (sB s8)),(7,.int .i64 (j:Int))] au/\SH aR M X [Rs.box aP 24 [.slice bz d.ae.length bw,.int .i64 d.loops]]/\(j:Int)<=d.loops/\s8=((d.ae.map nO).map ([32]++·)).flatten++(List.replicate j [32,79]).flatten/\s8.length<=256+2*j) rfl ?_ ?_
   ·intro au aq
    refine⟨_,⟨0,s9,rfl,aq.su rfl,S2.pick [0] [_] (by decide) ⟨rfl,trivial⟩,?fJ,?fZ,?lX⟩⟩
    case fJ=>omega
    case fZ=>(have e9:i=d.ae.length:=(by omega);rw[vV,e9,List.take_length,List.replicate_zero,List.flatten_nil,List.append_nil])
    case lX=>omega
   ·rintro m2 a2 PD ⟨j,s8,rfl,cU,nz,hj,hs8,am8⟩
    clear S2
    refine cy cU ?_
    clear cU a2
    refine cJ (ar (af 1 rfl (ag rfl (az rfl aM rfl aY aX) (ag rfl (aw rfl aG (nz.bc 0 rfl rfl)) (af 1 rfl (ax [1,3,7,50] rfl ?_))))))
    refine bp rfl (fun ajD=>?_) (fun ajD=>?_)
    ·refine aV (bC [1,3,7] rfl (bg (aH (af 1 rfl (ag rfl (jA rfl rfl rfl ((by(try simp only[List.length_append,List.length_cons,List.length_nil]);first|omega|(simp only[ls];omega)))) ?_)))))
     refine af 1 rfl (aB (bE (aW [1,3,7] rfl (aH (af 1 rfl (ag rfl (bj rfl) (af 1 rfl (aB ?_))))))))
     refine br ?_
     intro au aq
     refine⟨_,?jq,⟨j+1,(s8++([32,79]:List UInt8)),rfl,aq.su rfl,nz.pick [0] [_] (by decide) ⟨rfl,trivial⟩,?fI,?fY,?lW⟩⟩
     case fI=>omega
     case fY=>(rw[hs8,List.replicate_succ',List.flatten_append,List.append_assoc];rfl)
     case lW=>(simp only[List.length_append,List.length_cons,List.length_nil];omega)
     case jq=>omega
    ·refine bX rfl (bC [3] rfl ?_)
     have hs7:s8=allT d:=by rw[hs8,U2,show j=d.loops.toNat by omega]
     have hpos:1<=s8.length:=by rw[hs7];exact hne
     refine aH (af 1 rfl (ag rfl (aaT rfl rfl rfl xY ((hpos))) (af 1 rfl (ax [2] rfl (bU hC rfl ?_)))))
     exact⟨_,rfl,(nz.pick [] [] (by decide) trivial),(by rw[hs7];rfl)⟩
end Go.Proofs.YtcohmplpgcddiaaGreatDoor
namespace Go.Proofs.YtcohmplpgcddiaaGreatDoor
open Go.ChangeShapes Go.WideShapes Go.ChangeAt Go.RowKit
structure Cf where
 nu:List Int
 od:List Int
 co:List Int
def gW(d:Dg)(x k:Nat):Nat:=(aF d (aL d x k) (bO d x k)).2
def eP(d:Dg)(c:Nat)(s:Cf)(k:Nat):Cf:=
 if ga s.nu (bB d c k)<0 then⟨s.nu.set (bB d c k) (s.od.length:Int),s.od++[(bB d c k:Int)],s.co++[(s.od.length:Int),(gW d c k:Int)]⟩
 else⟨s.nu,s.od,s.co++[ga s.nu (bB d c k),(gW d c k:Int)]⟩
def cfK(d:Dg)(c:Nat)(s:Cf):Nat->Cf
 |0=>s
 |k+1=>eP d c (cfK d c s k) k
def kF(x:Cr):Int:=if x.plus=true then 1 else 0
def tA(d:Dg)(s:Cf)(i:Nat):Cf:=cfK d (ga s.od i).toNat ⟨s.nu,s.od,s.co++[kF (ga d.ae (ga s.od i).toNat)]⟩ 4
def zL(d:Dg)(st:Nat):Cf:=⟨(List.replicate d.ae.length (-1)).set st 0,[(st:Int)],[]⟩
def eH(d:Dg)(st:Nat):Nat->Cf
 |0=>zL d st
 |i+1=>if i<(eH d st i).od.length then tA d (eH d st i) i else eH d st i
def fF(d:Dg)(st:Nat):Cf:=eH d st d.ae.length
structure pn(d:Dg)(st:Nat)(s:Cf):Prop where
 nl:s.nu.length=d.ae.length
 od:∀j,j<s.od.length->0<=ga s.od j/\(ga s.od j).toNat<d.ae.length/\ga s.nu (ga s.od j).toNat=(j:Int)
 nu:∀x,x<d.ae.length->-1<=ga s.nu x/\ga s.nu x<(s.od.length:Int)/\(0<=ga s.nu x->ga s.od (ga s.nu x).toNat=(x:Int))
 pc:∀x,x<d.ae.length->0<=ga s.nu x->cg d x=cg d st
 sn:0<=ga s.nu st
 ps:0<s.od.length
theorem MU{d:Dg}{st:Nat}(hs:st<d.ae.length):pn d st (zL d st):=by
 have hg:∀x,x<d.ae.length->ga ((List.replicate d.ae.length (-1:Int)).set st 0) x=if st=x then 0 else -1:=fun x hx=>by
  rw[eX _ _ _ _ (by simpa using hs),rZ _ _ _ hx]
 refine⟨by simp[zL],fun j hj=>?_,fun x hx=>?_,fun x hx h=>?_,?_,by simp[zL]⟩
 ·have hj':j<1:=hj
  obtain rfl:j=0:=by omega
  show 0<=(st:Int)/\((st:Int)).toNat<_/\ga ((List.replicate d.ae.length (-1:Int)).set st 0) ((st:Int)).toNat=_
  rw[Int.toNat_natCast,hg _ hs,if_pos rfl]
  exact⟨by omega,hs,rfl⟩
 ·show -1<=ga ((List.replicate d.ae.length (-1:Int)).set st 0) x/\ga ((List.replicate d.ae.length (-1:Int)).set st 0) x<1/\(0<=ga ((List.replicate d.ae.length (-1:Int)).set st 0) x->ga [(st:Int)] (ga ((List.replicate d.ae.length (-1:Int)).set st 0) x).toNat=_)
  rw[hg x hx]
  split
  ·rename_i e;subst e;exact⟨by omega,by omega,fun _=>rfl⟩
  ·exact⟨by omega,by omega,fun h=>by omega⟩
 ·replace h:0<=ga ((List.replicate d.ae.length (-1:Int)).set st 0) x:=h
  rw[hg x hx]at h
  split at h
  ·rename_i e;subst e;rfl
  ·omega
 ·show 0<=ga ((List.replicate d.ae.length (-1:Int)).set st 0) st
  rw[hg st hs,if_pos rfl];exact Int.le_refl _
structure mb(s t:Cf):Prop where
 nu:∀x,0<=ga s.nu x->ga t.nu x=ga s.nu x
 od:∃l,t.od=s.od++l
theorem mb.refl(s:Cf):mb s s:=⟨fun _ _=>rfl,[],by simp⟩
theorem mb.trans{s t u:Cf}(h:mb s t)(k:mb t u):mb s u:=⟨fun x hx=>by rw[k.nu x (by rw[h.nu x hx];exact hx),h.nu x hx],by
 obtain⟨l,e⟩:=h.od
 obtain⟨m,e2⟩:=k.od
 exact⟨l++m,by rw[e2,e,List.append_assoc]⟩⟩
theorem mb.at_{s t:Cf}(h:mb s t){j:Nat}(hj:j<s.od.length):ga t.od j=ga s.od j:=by
 obtain⟨l,e⟩:=h.od
 rw[e,lS _ _ _ hj]
theorem mb.len{s t:Cf}(h:mb s t):s.od.length<=t.od.length:=by
 obtain⟨l,e⟩:=h.od
 rw[e,List.length_append];omega
theorem kx{d:Dg}(hab:aO d=true){st c k:Nat}{s:Cf}(h:pn d st s)(hc:c<d.ae.length)(hp:cg d c=cg d st)(hk:k<4):
  pn d st (eP d c s k)/\mb s (eP d c s k)/\0<=ga (eP d c s k).nu (bB d c k)/\(eP d c s k).co.length=s.co.length+2:=by
 have hn:=vk hab hc hk
 have hnl:=h.nl
 unfold eP
 split
 ·rename_i hneg
  have hg:∀x,ga (s.nu.set (bB d c k) (s.od.length:Int)) x=if bB d c k=x then(s.od.length:Int)else ga s.nu x:=fun x=>eX _ _ _ _ (by omega)
  refine⟨⟨by simpa using h.nl,fun j hj=>?_,fun x hx=>?_,fun x hx h9=>?_,?_,by show 0<(s.od++_).length;simp⟩,⟨fun x hx=>?_,_,rfl⟩,?_,by simp⟩
  ·have hj':j<(s.od++[((bB d c k:Nat):Int)]).length:=hj
   show 0<=ga (s.od++[((bB d c k:Nat):Int)]) j/\(ga (s.od++[((bB d c k:Nat):Int)]) j).toNat<_/\ga (s.nu.set (bB d c k) (s.od.length:Int)) (ga (s.od++[((bB d c k:Nat):Int)]) j).toNat=_
   rw[List.length_append,List.length_singleton]at hj'
   by_cases e:j<s.od.length
   ·obtain⟨o1,o2,o3⟩:=h.od j e
    rw[lS _ _ _ e,hg]
    refine⟨o1,o2,?_⟩
    rw[if_neg (fun e2=>by rw[e2,o3]at hneg;omega)]
    exact o3
   ·obtain rfl:j=s.od.length:=by omega
    rw[nC _ _ _ (Nat.le_refl _),Nat.sub_self]
    show 0<=((bB d c k:Nat):Int)/\(((bB d c k:Nat):Int)).toNat<_/\ga (s.nu.set (bB d c k) (s.od.length:Int)) (((bB d c k:Nat):Int)).toNat=_
    rw[Int.toNat_natCast,hg,if_pos rfl]
    exact⟨by omega,hn,rfl⟩
  ·show -1<=ga (s.nu.set (bB d c k) (s.od.length:Int)) x/\ga (s.nu.set (bB d c k) (s.od.length:Int)) x<((s.od++[((bB d c k:Nat):Int)]).length:Int)/\(0<=ga (s.nu.set (bB d c k) (s.od.length:Int)) x->ga (s.od++[((bB d c k:Nat):Int)]) (ga (s.nu.set (bB d c k) (s.od.length:Int)) x).toNat=_)
   rw[hg,List.length_append,List.length_singleton]
   split
   ·rename_i e;subst e
    refine⟨by omega,by omega,fun _=>?_⟩
    rw[Int.toNat_natCast,nC _ _ _ (Nat.le_refl _),Nat.sub_self];rfl
   ·obtain⟨o1,o2,o3⟩:=h.nu x hx
    refine⟨o1,by omega,fun h0=>?_⟩
    rw[lS _ _ _ (by omega)]
    exact o3 h0
  ·replace h9:0<=ga (s.nu.set (bB d c k) (s.od.length:Int)) x:=h9
   rw[hg]at h9
   split at h9
   ·rename_i e;subst e;rw[Vl hab hc hk];exact hp
   ·exact h.pc x hx h9
  ·show 0<=ga (s.nu.set (bB d c k) (s.od.length:Int)) st
   rw[hg]
   split
   ·omega
   ·exact h.sn
  ·show ga (s.nu.set (bB d c k) (s.od.length:Int)) x=_
   rw[hg,if_neg (fun e=>by subst e;omega)]
  ·show 0<=ga (s.nu.set (bB d c k) (s.od.length:Int)) (bB d c k)
   rw[hg,if_pos rfl];omega
 ·rename_i hneg
  exact⟨⟨h.nl,h.od,h.nu,h.pc,h.sn,h.ps⟩,⟨fun _ _=>rfl,[],by simp⟩,by show 0<=ga s.nu _;omega,by simp⟩
theorem afD{d:Dg}(hab:aO d=true){st c:Nat}{s:Cf}(h:pn d st s)(hc:c<d.ae.length)(hp:cg d c=cg d st)(k:Nat)(hk:k<=4):
  pn d st (cfK d c s k)/\mb s (cfK d c s k)/\(∀j,j<k->0<=ga (cfK d c s k).nu (bB d c j))/\(cfK d c s k).co.length=s.co.length+2*k:=by
 induction k with
 |zero=>exact⟨h,mb.refl s,fun j hj=>by omega,rfl⟩
 |succ k ih=>
  obtain⟨i1,i2,i3,i4⟩:=ih (by omega)
  obtain⟨j1,j2,j3,j4⟩:=kx hab (k:=k) i1 hc hp (by omega)
  refine⟨j1,i2.trans j2,fun j hj=>?_,?_⟩
  ·by_cases e:j=k
   ·subst e;exact j3
   ·have:=i3 j (by omega)
    show 0<=ga (eP d c (cfK d c s k) k).nu (bB d c j)
    rw[j2.nu _ this];exact this
  ·show(eP d c (cfK d c s k) k).co.length=_
   rw[j4,i4];omega
theorem I5{d:Dg}(hab:aO d=true){st:Nat}(hs:st<d.ae.length)(i:Nat):pn d st (eH d st i)/\
  (∀j,j<i->j<(eH d st i).od.length->∀k,k<4->0<=ga (eH d st i).nu (bB d (ga (eH d st i).od j).toNat k))/\(eH d st i).co.length=9*min i (eH d st i).od.length:=by
 induction i with
 |zero=>exact⟨MU hs,fun j hj=>by omega,by simp[eH,zL]⟩
 |succ i ih=>
  obtain⟨i1,i2,i3⟩:=ih
  rw[eH]
  split
  ·rename_i hlt
   obtain⟨o1,o2,o3⟩:=i1.od i hlt
   have hp:cg d (ga (eH d st i).od i).toNat=cg d st:=i1.pc _ o2 (by rw[o3];omega)
   obtain⟨k1,k2,k3,k4⟩:=afD hab (s:=⟨(eH d st i).nu,(eH d st i).od,(eH d st i).co++[kF (ga d.ae (ga (eH d st i).od i).toNat)]⟩) ⟨i1.nl,i1.od,i1.nu,i1.pc,i1.sn,i1.ps⟩ o2 hp 4 (Nat.le_refl _)
   have hl:=k2.len
   replace hl:(eH d st i).od.length<=(tA d (eH d st i) i).od.length:=hl
   refine⟨k1,fun j hj hj2 k hk=>?_,?_⟩
   ·by_cases e:j=i
    ·subst e
     have e2:ga (tA d (eH d st j) j).od j=ga (eH d st j).od j:=k2.at_ hlt
     rw[e2]
     exact k3 k hk
    ·have e2:ga (tA d (eH d st i) i).od j=ga (eH d st i).od j:=k2.at_ (by show j<(eH d st i).od.length;omega)
     have:=i2 j (by omega) (by omega) k hk
     rw[e2]
     have e3:=k2.nu _ this
     show 0<=ga (tA d (eH d st i) i).nu _
     rw[show ga (tA d (eH d st i) i).nu (bB d (ga (eH d st i).od j).toNat k)=_ from e3];exact this
   ·show(tA d (eH d st i) i).co.length=_
    have k4':(tA d (eH d st i) i).co.length=((eH d st i).co++[kF (ga d.ae (ga (eH d st i).od i).toNat)]).length+2*4:=k4
    rw[k4',List.length_append,i3,List.length_singleton,Nat.min_eq_left (by omega),Nat.min_eq_left (by omega)]
    omega
  ·rename_i hlt
   refine⟨i1,fun j hj hj2 k hk=>i2 j (by omega) hj2 k hk,?_⟩
   rw[i3,Nat.min_eq_right (by omega),Nat.min_eq_right (by omega)]
theorem pn.td{d:Dg}{st:Nat}{s:Cf}(h:pn d st s):s.od.Nodup:=by
 rw[List.nodup_iff_pairwise_ne,List.pairwise_iff_getElem]
 intro i j hi hj hij e
 obtain⟨_,_,o1⟩:=h.od i hi
 obtain⟨_,_,o2⟩:=h.od j hj
 rw[cZ hi]at o1
 rw[cZ hj,<-e,o1]at o2
 omega
theorem pn.le{d:Dg}{st:Nat}{s:Cf}(h:pn d st s):s.od.length<=d.ae.length:=by
 have:=nK (ys:=(List.range d.ae.length).map fun x:Nat=>(x:Int)) h.td (fun y hy=>by
  obtain⟨j,hj,rfl⟩:=List.mem_iff_getElem.1 hy
  obtain⟨o1,o2,_⟩:=h.od j hj
  rw[cZ hj]at o1 o2
  exact List.mem_map.2 ⟨(s.od[j]).toNat,List.mem_range.2 o2,by omega⟩)
 simpa using this
theorem U1{d:Dg}{st i:Nat}(h:(eH d st i).od.length<=i)(j:Nat)(hj:i<=j):eH d st j=eH d st i:=by
 induction j with
 |zero=>obtain rfl:i=0:=(by omega);rfl
 |succ j ih=>
  by_cases e:i=j+1
  ·rw[e]
  ·have:=ih (by omega)
   rw[eH,this,if_neg (by omega)]
theorem CK{d:Dg}(hab:aO d=true){st:Nat}(hs:st<d.ae.length):(fF d st).od.length=(ga (bD d) (cg d st)).length/\(fF d st).co.length=9*(fF d st).od.length/\(fF d st).od.length<=d.ae.length:=by
 unfold fF
 obtain⟨h,hcl,oG⟩:=I5 hab hs d.ae.length
 have hle:=h.le
 obtain⟨p1,p2,_⟩:=mZ hab hs
 obtain⟨p3,c0,_,_,p4⟩:=(oY hab).el _ p1
 have XV:∀x k,x<d.ae.length->k<4->0<=ga (eH d st d.ae.length).nu x->0<=ga (eH d st d.ae.length).nu (bB d x k):=fun x k hx hk h0=>by
  obtain⟨n1,n2,n3⟩:=h.nu x hx
  have e:=n3 h0
  have:=hcl (ga (eH d st d.ae.length).nu x).toNat (by have h0':0<=ga (eH d st d.ae.length).nu x:=h0;omega) (by have h0':0<=ga (eH d st d.ae.length).nu x:=h0;omega) k hk
  rw[e,Int.toNat_natCast]at this
  exact this
 have hZ:∀y,y<d.ae.length->cg d st=cg d y->0<=ga (eH d st d.ae.length).nu y:=fun y hy e=>
  RD hab (fun x=>0<=ga (eH d st d.ae.length).nu x) (fun x k hx hk=>⟨XV x k hx hk,fun h9=>by
   obtain⟨k',hk',e2⟩:=IX hab x k hx hk
   have:=XV (bB d x k) k' (vk hab hx hk) hk' h9
   rwa [e2]at this⟩) hs hy e h.sn
 refine⟨?_,?_,hle⟩
 ·apply Nat.le_antisymm
  ·exact nK h.td fun y hy=>by
    obtain⟨j,hj,rfl⟩:=List.mem_iff_getElem.1 hy
    obtain⟨o1,o2,o3⟩:=h.od j hj
    rw[cZ hj]at o1 o2 o3
    obtain⟨_,q2,_⟩:=mZ hab o2
    have e:=h.pc _ o2 (by rw[o3];omega)
    rw[e,Int.toNat_of_nonneg o1]at q2
    exact q2
  ·exact nK p3 fun y hy=>by
    obtain⟨z,rfl,hz,_⟩:=p4 y hy
    have e:=(tL hab p1 hy).2
    have h0:=hZ z hz e.symm
    obtain⟨n1,n2,n3⟩:=h.nu z hz
    have e2:=n3 h0
    have h0':0<=ga (eH d st d.ae.length).nu z:=h0
    rw[<-e2]
    exact cY (by omega)
 ·show(eH d st d.ae.length).co.length=9*(eH d st d.ae.length).od.length
  rw[oG,Nat.min_eq_right hle]
end Go.Proofs.YtcohmplpgcddiaaGreatDoor
