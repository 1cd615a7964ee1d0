/- Part 13 of the proof of the law KhovanovTells: the walks through its functions and the plain laws that they need. -/
import Derived.Test.YthppkofceancjaaGreatKhX12
set_option linter.unusedSimpArgs false
set_option linter.unusedVariables false
noncomputable section
namespace Go.Proofs.YthppkofceancjaaGreat
open Go.ChangeShapes Go.WideShapes Go.ChangeAt Go.RowKit
structure Vw where
 o:eO
 k:eO
instance :Inhabited Vw:=⟨⟨default,default⟩⟩
def lZ:Cd Vw:=⟨fun x=>[.slice x.o.A x.o.n x.o.c,.slice x.k.A x.k.n x.k.c],2,48,170,⟨⟨none,0,0⟩,⟨none,0,0⟩⟩,fun _=>rfl,by
 intro x u hu;simp at hu;rcases hu with rfl|rfl<;>rfl⟩
theorem yT:fN Tryz.prog 166 lZ:=⟨.agg [.slice none 0 0,.slice none 0 0].toArray,uu,by kernel_rfl,rfl,by decide,by decide⟩
abbrev OK:=List Int×List Int
def kA(N:Hp)(vs:List Vw)(ks:List OK):Prop:=vs.length=ks.length/\∀i,i<ks.length->(ga vs i).o.n=(ga ks i).1.length/\aB Uh N (ga vs i).o.A (ga vs i).o.c (ga ks i).1/\(ga vs i).k.n=(ga ks i).2.length/\aB Uh N (ga vs i).k.A (ga vs i).k.c (ga ks i).2
theorem kA.mono{N N':Hp}{vs:List Vw}{ks:List OK}(h:kA N vs ks)(k:N.le N'):kA N' vs ks:=⟨h.1,fun i hi=>⟨(h.2 i hi).1,(h.2 i hi).2.1.mono k,(h.2 i hi).2.2.1,(h.2 i hi).2.2.2.mono k⟩⟩
theorem kA.bN{N:Hp}:kA N [] []:=⟨rfl,fun i hi=>absurd hi (Nat.not_lt_zero _)⟩
theorem kA.snoc{N:Hp}{vs:List Vw}{ks:List OK}(h:kA N vs ks){A B:Option Addr}{a b:Nat}{xs ys:List Int}(hx:aB Uh N A a xs)(hy:aB Uh N B b ys):kA N (vs++[⟨⟨A,xs.length,a⟩,⟨B,ys.length,b⟩⟩]) (ks++[(xs,ys)]):=by
 refine⟨by simp[h.1],fun i hi=>?_⟩
 rw[List.length_append,List.length_singleton]at hi
 have hl:=h.1
 by_cases e:i<ks.length
 ·rw[pE _ _ _ e,pE _ _ _ (by omega)];exact h.2 i e
 ·obtain rfl:i=ks.length:=by omega
  rw[tU _ _ _ (Nat.le_refl _),tU _ _ _ (by omega),hl,Nat.sub_self]
  exact⟨rfl,hx,rfl,hy⟩
theorem SH.ao5{w:World}{M:Hp}{X:Fr}{H H':List Rs}{i g:Nat}{E:TypeId}{l:List Value}(S:SH w M X H)(hi:nth H i=some (Rs.box g E l))(hH:H.set i Rs.emp=H'):∃M',M.le M'/\SH w M' X H'/\bQ M' g E l:=by
 obtain⟨h1,h2,h3⟩:=S.uZ hi hH
 refine⟨_,h1,h2,?_⟩
 have h4:hp w g=some (.cells l.toArray E (0,0)):=S.get hi
 unfold bQ
 rw[h3 g (by simp[Rs.box]),h4]
def l9(d:Dg)(K:Nat):List OK:=(List.range K).map fun s=>(kC d av s,dG d s)
theorem vZ(d:Dg)(K:Nat):(l9 d K).length=K:=by unfold l9;rw[List.length_map,List.length_range]
theorem amR(d:Dg)(K:Nat):l9 d (K+1)=l9 d K++[(kC d av K,dG d K)]:=by unfold l9;rw[List.range_succ,List.map_append];rfl
theorem amS(d:Dg){K s:Nat}(h:s<K):ga (l9 d K) s=(kC d av s,dG d s):=by
 unfold l9
 rw[kH _ _ _ (by rw[List.length_range];exact h),bV (by rw[List.length_range];exact h),List.getElem_range]
def eX(d:Dg):Int:=if ia d=0 then(if 6<d.ae.length\/2<d.loops then 2 else 0)else ia d
def CuM(N:Hp)(d:Dg)(g gs:Nat)(cA iA oA:Option Addr)(cc ic oc:Nat)(sA:Option Addr)(sc:Nat)(vs:List Vw):Prop:=bQ N g 168 [.pointer (some ⟨gs,0,none⟩),.slice sA vs.length sc]/\ShM N d gs cA iA oA cc ic oc/\aB lZ N sA sc vs/\kA N vs (l9 d (KS d))
def aqw(d:Dg)(v:Value)(N:Hp):Prop:=
 (eX d≠0/\v=.tuple [.pointer none,.int .i64 (eX d)].toArray)\/
 (eX d=0/\∃g gs cA iA oA cc ic oc sA sc vs,v=.tuple [.pointer (some ⟨g,0,none⟩),.int .i64 0].toArray/\CuM N d g gs cA iA oA cc ic oc sA sc vs)
noncomputable def Qq:=Tryz.f56.body.getD .skip
def awi:=cL Qq
def Qp:=cR Qq
def awh:=cL Qp
def Qo:=cR Qp
def Qn:=cL Qo
def G8:=cR Qo
def G7:=cL Qn
def agX:=cL G7
def G6:=cR G7
def G5:=cL G6
def G3:=cR G6
def awg:=cL G5
def awf:=cR G5
def awe:=cL G3
def Qm:=cR G3
def Ql:=cL Qm
def awd:=cR Qm
def awc:=cL Ql
def awb:=cR Ql
def awa:=cL G8
def Qk:=cR G8
def Qj:=cL Qk
def Qi:=cR Qk
def av9:=cL Qj
def agW:=cR Qj
def agV:=cL agW
def Qh:=cL agV
def av8:=cL Qh
def Qg:=cR Qh
def Qf:=cL Qg
def Qe:=cR Qg
def av7:=cL Qf
def av6:=cR Qf
def agU:=cL Qe
def av5:=cR Qe
def Qd:=cL agU
def av4:=cL Qd
def av3:=cR Qd
def av2:=cL Qi
def av1:=cR Qi
set_option maxHeartbeats 2000000 in
set_option maxRecDepth 10000 in
theorem amD{w:World}{M:Hp}{X:Fr}(d:Dg){aV:Option Addr}{aU:Nat}(ay:aB bw (M.un X.h) aV aU d.ae)(S:SH w M X []):Ct Tryz.prog 56 [.agg [.slice aV d.ae.length aU,.int .i64 d.loops].toArray] w M X (aqw d):=by
 unfold Ct
 have jH:d.ae.length*40<=140737488355328:=ay.room
 refine Up (b:=Qq) Tryz.func56 rfl Tryz.ntmps56 rfl (fun C hC=>(bu [(0,_)] ⟨rfl,trivial⟩ (U1 awi Qp rfl rfl rfl (U0 rfl (ar 0 1 rfl rfl rfl (cU (l:=[_,_]) rfl rfl rfl rfl rfl S ?_))))))
 intro aI w1 S1;clear S
 refine af 1 2 rfl rfl (U3 rfl (ah [1] rfl (U2 (U1 awh Qo rfl rfl rfl (U0 rfl (ag 0 rfl (Uc (us:=[_,_]) rfl rfl bg rfl dM (S1.aY (i:=0) rfl ⟨rfl,rfl,trivial⟩)) (ar 1 2 rfl rfl rfl (dt rfl rfl rfl rfl rfl rfl rfl asC S1 (aoB d (ay.mono S1.Uq) S1.aR) ?_))))))))
 intro mP w2 M1 hle1 S2 jg;clear S1
 replace ay:=ay.mono (Hp.U6 hle1 S2.mx)
 rcases jg with⟨yH,rfl⟩|⟨yH,g1,aBW,aA8,aA4,aBU,aA6,aA2,rfl,ni,qL,qK,qJ⟩
 ·refine af 2 1 rfl rfl (ag 3 rfl (Ug rfl rfl rfl) (ag 4 rfl (Ug rfl rfl rfl) (af 5 2 rfl rfl (U3 rfl (ah [4,5] rfl (U2 (U1 Qn G8 rfl rfl rfl (U7 G7 0 rfl rfl rfl ?_))))))))
  refine U1 agX G6 rfl rfl rfl (U0 rfl (af 0 1 rfl rfl (ag 1 rfl (gG rfl rfl rfl) (af 2 1 rfl rfl (U3 rfl (ah [4,5,13] rfl (U2 ?_)))))))
  refine Ua G5 G3 rfl rfl rfl rfl (fun Ms=>?_) (fun Ms=>?_)
  ·refine U1 awg awf rfl rfl rfl (U0 rfl (af 0 3 rfl rfl (U3 rfl (ah [2,3] rfl (U2 (Us hC [_,_] rfl rfl ⟨rfl,rfl,trivial⟩ ?_))))))
   refine⟨_,rfl,_,hle1,(S2.pick [] [] (by decide) trivial),?_⟩
   have e0:eX d=ia d:=by unfold eX;rw[if_neg yH]
   exact .inl ⟨by rw[e0];exact yH,by rw[e0];rfl⟩
  ·exfalso;omega
 ·obtain⟨hmo,hpl⟩:=acU yH
  obtain⟨hn,hab,arI,arH⟩:=Gj hmo
  refine af 2 1 rfl rfl (ag 3 rfl (Ug rfl rfl rfl) (ag 4 rfl (Ug rfl rfl rfl) (af 5 2 rfl rfl (U3 rfl (ah [4,5] rfl (U2 (U1 Qn G8 rfl rfl rfl (U7 G7 0 rfl rfl rfl ?_))))))))
  refine U1 agX G6 rfl rfl rfl (U0 rfl (af 0 1 rfl rfl (ag 1 rfl (gG rfl rfl rfl) (af 2 1 rfl rfl (U3 rfl (ah [4,5,13] rfl (U2 ?_)))))))
  refine Ua G5 G3 rfl rfl rfl rfl (fun Ms=>?_) (fun Ms=>?_)
  ·exfalso;omega
  ·refine U1 awe Qm rfl rfl rfl (U0 rfl (af 0 1 rfl rfl (ag 1 rfl (Ur rfl rfl) (ag 2 rfl (U4 rfl rfl jM rfl (lY) (lN)) (ag 3 rfl (U4 rfl rfl bg rfl (dV) (dS)) (ag 4 rfl (U5 rfl rfl bF rfl (ni.cell S2.m rfl)) (ag 5 rfl (Uv rfl rfl rfl rfl rfl rfl bF) (ag 6 rfl (rT rfl rfl rfl) ?_))))))))
   refine af 7 1 rfl rfl ?_
   refine mA (k':=15) (d:=32) (decide ((6<(d.ae.length:Int))\/(2<d.loops))) [(4,_)] ⟨rfl,trivial⟩ (fun afN=>?_) ?_
   ·refine Uy (t:=25) rfl (fun Md=>?_) (fun Md=>?_)
    ·refine af 8 6 rfl rfl (af 14 1 rfl rfl ?_)
     exact cZ 32 (.bool (decide ((6<(d.ae.length:Int))\/(2<d.loops)))) rfl (congrArg Value.bool (decide_eq_true (.inl Md)).symm) (fH [(32,_),(4,_)] ⟨rfl,rfl,trivial⟩ afN)
    ·refine af 8 1 rfl rfl (aP 9 10 rfl rfl rfl rfl rfl rfl rfl rfl (U8 rfl rfl (Ur rfl rfl) (aP 10 11 rfl rfl rfl rfl rfl rfl rfl rfl (U8 rfl rfl (U4 rfl rfl jM rfl (lY) (lN)) (aP 11 12 rfl rfl rfl rfl rfl rfl rfl rfl (U8 rfl rfl (U4 rfl rfl bg rfl (aL) (aJ)) (aP 12 13 rfl rfl rfl rfl rfl rfl rfl rfl (U8 rfl rfl (U5 rfl rfl aw rfl (ni.cell S2.m rfl)) (aP 13 14 rfl rfl rfl rfl rfl rfl rfl rfl (U8 rfl rfl (rT rfl rfl rfl) (af 14 1 rfl rfl ?_)))))))))))
     exact cZ 32 (.bool (decide ((6<(d.ae.length:Int))\/(2<d.loops)))) rfl (congrArg Value.bool (decide_eq_decide.2 ⟨.inr,fun h=>h.resolve_left Md⟩)) (fH [(32,_),(4,_)] ⟨rfl,rfl,trivial⟩ afN)
   ·refine af 15 1 rfl rfl (U3 rfl (ah [4,17] rfl (U2 ?_)))
    refine Ua Ql awd rfl rfl rfl rfl (fun xu=>?_) (fun xu=>?_)
    ·refine U1 awc awb rfl rfl rfl (U0 rfl (af 0 2 rfl rfl (U3 rfl (ah [2,3] rfl (U2 (Us hC [_,_] rfl rfl ⟨rfl,rfl,trivial⟩ ?_))))))
     refine⟨_,rfl,_,hle1,(S2.pick [] [] (by decide) trivial),?_⟩
     have e0:eX d=2:=by unfold eX;rw[if_pos yH,if_pos (by omega)]
     exact .inl ⟨by rw[e0];decide,by rw[e0];rfl⟩
    ·refine Ub rfl (Ul (ah [4] rfl (U2 (U1 awa Qk rfl rfl rfl ?_))))
     have vk:d.ae.length<=6:=by omega
     have h64:=si vk
     have h2p:=Nat.two_pow_pos d.ae.length
     refine U0 rfl (af 0 1 rfl rfl (ag 1 rfl (run_build (l:=[_,_]) rfl rfl aoW rfl rfl) (ar 2 3 rfl rfl rfl (cU (l:=[_,_]) rfl rfl rfl rfl rfl S2 ?_))))
     intro bq w3 S3;clear S2
     refine af 3 1 rfl rfl (U3 rfl (ah [4,6] rfl (U2 (U1 Qj Qi rfl rfl rfl (U1 av9 agW rfl rfl rfl (U0 rfl (af 0 1 rfl rfl (ag 1 rfl (Ur rfl rfl) ?_))))))))
     refine ag 2 rfl (U4 rfl rfl jM rfl (lY) (lN)) (ag 3 rfl (U4 rfl rfl bg rfl (dV) (dS)) (ag 4 rfl (U5 rfl rfl bF rfl (ni.cell S3.m rfl)) (ag 5 rfl (Uv rfl rfl rfl rfl rfl rfl bF) (ag 6 rfl (vM (n:=d.ae.length) rfl rfl rfl (by first|omega|(simp only[ls];omega))) ?_))))
     refine af 7 1 rfl rfl (U3 rfl (ah [6,42,43] rfl (U2 (U7 agV 1 rfl rfl rfl ?_))))
     have S4:=S3.gL lZ;clear S3
     refine Ui (fun aF ak aA=>∃(k:Nat) (vs:List Vw) (ks:List OK) (LJ:Value) (M2:Hp),M1.le M2/\aF=2^d.ae.length-k/\Env 60 [(6,.pointer (some ⟨bq,0,none⟩)),(42,.int .i64 ((2^d.ae.length:Nat):Int)),(43,.int .i64 (k:Int))] ak/\SH aA M2 X [Rs.row lZ LJ vs,Rs.box bq 168 [.pointer (some ⟨g1,0,none⟩),LJ]]/\k<=2^d.ae.length/\ks=l9 d k/\kA M2 vs ks) rfl ?_ ?_
     ·intro ak ai
      refine⟨_,⟨0,[],([]),_,_,Hp.le_refl _,rfl,ai.sub ⟨rfl,rfl,rfl,trivial⟩,S4.pick [0,1] [_,_] (by decide) ⟨rfl,rfl,trivial⟩,?bn,?bE,?ez⟩⟩
      case bn=>omega
      case bE=>rfl
      case ez=>exact kA.bN
     ·rintro m1 a1 w4 ⟨k,vs,ks,LJ,M2,hle2,rfl,aQ,S5,hk,hks,tj⟩
      clear S4
      refine aW aQ (c:=Qh) rfl ?_
      clear aQ a1
      replace ay:=ay.mono (Hp.U6 hle2 S5.mx)
      replace ni:=ni.mono hle2
      replace qL:=qL.mono hle2
      replace qK:=qK.mono hle2
      replace qJ:=qJ.mono hle2
      have hkl:ks.length=k:=by rw[hks,vZ]
      have hvl:=tj.1
      refine U1 av8 Qg rfl rfl rfl (U0 rfl (ag 0 rfl (Un rfl rfl rfl) (U3 rfl (U2 (U1 Qf Qe rfl rfl rfl ?_)))))
      refine Ua av7 av6 rfl rfl rfl rfl (fun Cz=>?_) (fun Cz=>?_)
      ·refine Ub rfl (ah [6,42,43] rfl (U2 (U1 agU av5 rfl rfl rfl (U7 Qd 2 rfl rfl rfl (U1 av4 av3 rfl rfl rfl (U0 rfl (af 0 2 rfl rfl (U3 rfl ?_))))))))
       refine ah [6,42,43,7] rfl (U2 (cM rfl (by kernel_rfl) S5 13 rfl ?_))
       clear S5
       refine aq 0 12 rfl (by kernel_rfl) (fun _=>run_move rfl rfl) ?_
       refine aq 1 11 rfl (by kernel_rfl) (fun _=>run_move rfl rfl) ?_
       refine aq 2 10 rfl (by kernel_rfl) (fun _=>Ur rfl rfl) ?_
       refine aq 3 9 rfl (by kernel_rfl) (fun _=>U4 rfl rfl lG rfl (xe) (wK)) ?_
       refine au 4 8 rfl (by kernel_rfl) (fun _ _ _ aj Sz=>.inl (U5 rfl rfl uu rfl (Sz.suf.aG (i:=1) rfl rfl))) ?_
       refine aq 5 7 rfl (by kernel_rfl) (fun _=>run_move rfl rfl) ?_
       refine aq 6 6 rfl (by kernel_rfl) (fun _=>run_move rfl rfl) ?_
       refine dv (i:=7) 5 rfl (by kernel_rfl) rfl rfl (fun q8 bX=>?_)
       refine(dt rfl rfl rfl rfl rfl rfl rfl asz bX (aow d k (SH.kz (N:=[]) (i:=1) bX rfl rfl) (ni.mono (Hp.fG _ _)) (qL.mono (Hp.fG _ _)) (qK.mono (Hp.fG _ _)) (qJ.mono (Hp.fG _ _)) vk hab bX.aR) ?_)
       intro LG zx M11 kS bT Cc;clear bX
       replace ay:=ay.mono (Hp.U6 kS bT.mx)
       replace ni:=ni.mono kS
       replace qL:=qL.mono kS
       replace qK:=qK.mono kS
       replace qJ:=qJ.mono kS
       replace tj:=tj.mono kS
       obtain⟨A1,c1,A2,c2,rfl,hr1,hr2⟩:=Cc
       refine bU.grow [] (kS) bT ?_;clear bT
       change WA _ _ _ _ _ _ _ _ _ _ _ _ [_,_]
       refine acg (dv (i:=8) 4 rfl (by kernel_rfl) rfl rfl (fun Hm dK=>?_))
       refine(Uf (C:=lZ) (l:=[_,_]) rfl rfl rfl rfl yT rfl rfl rfl rfl dK ?_)
       intro dD zw fZ;clear dK
       refine bU.grow [_] (Hp.le_refl _) fZ ?_;clear fZ
       change WA _ _ _ _ _ _ _ _ _ _ _ _ [_,_,_]
       refine dv (i:=9) 3 rfl (by kernel_rfl) rfl rfl (fun Hk qG=>?_)
       refine(Ux (C:=lZ) (i:=1) (q:=0) (⟨(⟨A1,(kC d av k).length,c1⟩:eO),(⟨A2,(dG d k).length,c2⟩:eO)⟩:Vw) rfl rfl rfl rfl rfl rfl rfl rfl yT qG rfl rfl rfl (by show(_+1)*48<=_;first|omega|(simp only[ls];omega)) ?_)
       intro azF Hj lD;clear qG
       have iq:=lD.pick [1,2] [_,_] (by decide) ⟨rfl,rfl,trivial⟩;clear lD
       have hz1:=tj.snoc hr1 hr2
       refine bU.turn (by kernel_rfl) iq ?_;clear iq
       change WA _ _ _ _ _ _ _ _ _ _ _ _ [_,_]
       refine aq 10 2 rfl (by kernel_rfl) (fun _=>Ur rfl rfl) ?_
       refine aq 11 1 rfl (by kernel_rfl) (fun _=>U4 rfl rfl lG rfl (xe) (wK)) ?_
       refine dv (i:=12) 0 rfl (by kernel_rfl) rfl rfl (fun UJ il=>?_)
       refine(Uo (i:=1) (us:=[_]) (l':=[_,_]) (H':=[_,_]) rfl rfl il rfl rfl rfl (il.yM (i:=0) rfl) aoT rfl (py (il.one (i:=0) rfl) rfl) rfl rfl ?_)
       intro Dd fQ;clear il
       refine bU.turn (by kernel_rfl) fQ ?_;clear fQ
       change WA _ _ _ _ _ _ _ _ _ _ _ _ [_,_]
       refine cF (by kernel_rfl) (fun zu jF=>?_)
       refine Ul (ah [6,42,43] rfl (U2 (U0 rfl (ag 0 rfl (Ud rfl rfl rfl (by first|omega|(simp only[ls];omega))) ?_))))
       refine af 1 1 rfl rfl (U3 rfl (Ut ?_))
       intro ak ai
       refine⟨_,?bG,⟨k+1,_,(ks++[((kC d av k),(dG d k))]),_,_,(hle2.trans kS),rfl,ai.sub ⟨rfl,rfl,rfl,trivial⟩,jF.pick [0,1] [_,_] (by decide) ⟨rfl,rfl,trivial⟩,?bk,?bD,?fL⟩⟩
       case bk=>omega
       case bD=>(rw[hks,amR])
       case fL=>exact hz1
       case bG=>omega
      ·refine Uk rfl rfl (ah [6] rfl (U2 (U1 av2 av1 rfl rfl rfl ?_)))
       obtain⟨M17,wU,fB,⟨A3,c3,e1,hr3⟩⟩:=S5.gW (i:=0) (H':=[_,_]) rfl rfl (by show _*48<=_;first|omega|(simp only[ls];omega))
       clear S5;subst e1
       replace ay:=ay.mono (Hp.U6 wU fB.mx)
       replace ni:=ni.mono wU
       replace qL:=qL.mono wU
       replace qK:=qK.mono wU
       replace qJ:=qJ.mono wU
       replace tj:=tj.mono wU
       obtain⟨M18,uA,ki,ar1⟩:=fB.ao5 (i:=1) (H':=[_,_]) rfl rfl;clear fB
       replace ay:=ay.mono (Hp.U6 uA ki.mx)
       replace ni:=ni.mono uA
       replace qL:=qL.mono uA
       replace qK:=qK.mono uA
       replace qJ:=qJ.mono uA
       replace tj:=tj.mono uA
       replace hr3:=hr3.mono uA
       refine U0 rfl (af 0 3 rfl rfl (U3 rfl (ah [2,3] rfl (U2 (Us hC [_,_] rfl rfl ⟨rfl,rfl,trivial⟩ ?_)))))
       refine⟨_,rfl,_,((hle1.trans hle2).trans wU).trans uA,(ki.pick [] [] (by decide) trivial),?_⟩
       have e0:eX d=0:=by unfold eX;rw[if_pos yH,if_neg (by omega)]
       have e9:k=KS d:=by unfold KS;omega
       rw[e9]at hks
       exact .inr ⟨e0,_,_,_,_,_,_,_,_,_,_,_,rfl,ar1,⟨ni,qL,qK,qJ⟩,hr3,by rw[<-hks];exact tj⟩
end Go.Proofs.YthppkofceancjaaGreat
namespace Go.Proofs.YthppkofceancjaaGreat
open Go.ChangeShapes Go.WideShapes Go.ChangeAt Go.RowKit
set_option maxRecDepth 100000 in
theorem alx:(List.range 16384).all (fun x=>decide (ocR (x:Int)=(dm 14 x:Int)))=true:=by decide+kernel
theorem alv{x:Nat}(h:x<16384):ocR (x:Int)=(dm 64 x:Int):=by
 rw[D5 (w:=14) (v:=64) (M:=x) h (by decide)]
 exact of_decide_eq_true (List.all_eq_true.1 alx x (List.mem_range.2 h))
theorem yB{d:Dg}(h:Uu d=true)(s:Nat){x:Nat}(h0:1<=x)(hx:x<=2*d.ae.length)(hr:kR d av s x=x):kI d s x<(dG d s).length/\ga (dG d s) (kI d s x)=(x:Int)/\∀j,j<kI d s x->ga (dG d s) j≠(x:Int):=by
 have hl:=jC h s h0 hx
 have hg:∀j,j<kM d s->ga (dG d s) j=((ga (dx d s) j:Nat):Int):=fun j hj=>by
  unfold dG mQ
  rw[kH _ _ _ (by have:=Ju d s;unfold dx at this;omega)]
  rfl
 refine⟨by rw[AR];exact hl,by rw[hg _ hl,JX h s h0 hx hr],fun j hj e=>?_⟩
 rw[hg j (by omega)]at e
 obtain⟨_,_,_,g4⟩:=z8 h s (show j<kM d s by omega)
 rw[show ga (dx d s) j=x by omega]at g4
 omega
theorem amZ{d:Dg}(h:Uu d=true)(s:Nat){j:Nat}(hj:j<kM d s):ga (dG d s) j=((ga (dx d s) j:Nat):Int):=by
 unfold dG mQ
 rw[kH _ _ _ (by have:=Ju d s;unfold dx at this;omega)]
 rfl
theorem Hh{d:Dg}{N:Hp}{vs:List Vw}(hz:kA N vs (l9 d (KS d))){s:Nat}(hs:s<KS d):(ga vs s).o.n=(kC d av s).length/\aB Uh N (ga vs s).o.A (ga vs s).o.c (kC d av s)/\(ga vs s).k.n=(dG d s).length/\aB Uh N (ga vs s).k.A (ga vs s).k.c (dG d s):=by
 have:=hz.2 s (by rw[vZ];exact hs)
 rw[amS d hs]at this
 exact this
theorem amv(m u:Nat):decide (((m/2^u%2:Nat):Int)=1)=m.testBit u:=by
 have:=rL m u
 unfold aD at this
 cases e:m.testBit u with
 |true=>rw[decide_eq_true (by have:=this.2 e;omega)]
 |false=>rw[decide_eq_false (fun h=>by have:=this.1 (by omega);rw[e]at this;cases this)]
noncomputable def Qc:=Tryz.f185.body.getD .skip
def av0:=cL Qc
def Qb:=cR Qc
def avZ:=cL Qb
def Qa:=cR Qb
def avY:=cL Qa
def P9:=cR Qa
def avX:=cL P9
def P8:=cR P9
def avW:=cL P8
def P7:=cR P8
def avV:=cL P7
def P6:=cR P7
def avU:=cL P6
def P5:=cR P6
def avT:=cL P5
def avS:=cR P5
set_option maxRecDepth 10000 in
theorem amB{w:World}{M:Hp}{X:Fr}(x:Nat)(hx:x<16384)(S:SH w M X []):Cq Tryz.prog 185 [.int .u64 (x:Int)] w M X (fun u=>u=.int .i64 ((dm 64 x:Nat):Int)):=by
 unfold Cq
 refine Up (b:=Qc) Tryz.func185 rfl Tryz.ntmps185 rfl (fun C hC=>(bu [(0,_)] ⟨rfl,trivial⟩ (U1 av0 Qb rfl rfl rfl (U0 rfl (af 0 1 rfl rfl (U3 rfl (ah [0] rfl (U2 (U1 avZ Qa rfl rfl rfl ?_)))))))))
 refine U0 rfl (af 0 1 rfl rfl (ag 1 rfl (vW rfl rfl rfl (by decide)) ?_))
 refine ag 2 rfl (vH rfl rfl rfl) (af 3 1 rfl rfl (ag 4 rfl (vH rfl rfl rfl) (ag 5 rfl (yf rfl rfl rfl) (af 6 1 rfl rfl (U3 rfl (ah [0] rfl (U2 (U1 avY P9 rfl rfl rfl ?_))))))))
 refine eZ 0 (.int .u64 (UY x)) rfl rfl (U0 rfl (af 0 1 rfl rfl (ag 1 rfl (vW rfl rfl rfl (by decide)) ?_)))
 refine ag 2 rfl (vH rfl rfl rfl) (af 3 1 rfl rfl (ag 4 rfl (vH rfl rfl rfl) (ag 5 rfl (yf rfl rfl rfl) (af 6 1 rfl rfl (U3 rfl (ah [0] rfl (U2 (U1 avX P8 rfl rfl rfl ?_))))))))
 refine eZ 0 (.int .u64 (UX x)) rfl rfl (U0 rfl (af 0 1 rfl rfl (ag 1 rfl (vW rfl rfl rfl (by decide)) ?_)))
 refine af 2 1 rfl rfl (ag 3 rfl (yf rfl rfl rfl) (ag 4 rfl (vH rfl rfl rfl) (af 5 1 rfl rfl (U3 rfl (ah [0] rfl (U2 (U1 avW P7 rfl rfl rfl (eZ 0 (.int .u64 (UW x)) rfl rfl ?_))))))))
 refine U0 rfl (af 0 2 rfl rfl (ag 2 rfl (vW rfl rfl rfl (by decide)) ?_))
 refine ag 3 rfl (yf rfl rfl rfl) (af 4 1 rfl rfl (U3 rfl (ah [0] rfl (U2 (U1 avV P6 rfl rfl rfl (eZ 0 (.int .u64 (UU x)) rfl rfl (U0 rfl (af 0 2 rfl rfl ?_))))))))
 refine ag 2 rfl (vW rfl rfl rfl (by decide)) ?_
 refine ag 3 rfl (yf rfl rfl rfl) (af 4 1 rfl rfl (U3 rfl (ah [0] rfl (U2 (U1 avU P5 rfl rfl rfl (eZ 0 (.int .u64 (UT x)) rfl rfl (U0 rfl (af 0 2 rfl rfl ?_))))))))
 refine ag 2 rfl (vW rfl rfl rfl (by decide)) ?_
 refine ag 3 rfl (yf rfl rfl rfl) (af 4 1 rfl rfl (U3 rfl (ah [0] rfl (U2 (U1 avT avS rfl rfl rfl (eZ 0 (.int .u64 (oc6 x)) rfl rfl (U0 rfl (af 0 1 rfl rfl ?_))))))))
 refine ag 1 rfl (aaQ rfl rfl ⟨_,KR⟩ aw) (ag 2 rfl (vH rfl rfl rfl) (af 3 1 rfl rfl (U3 rfl (ah [2] rfl (U2 (Us hC [_] rfl rfl ⟨rfl,trivial⟩ ?_))))))
 exact⟨_,rfl,(S.pick [] [] (by decide) trivial),(congrArg (Value.int .i64) (alv hx))⟩
noncomputable def P4:=Tryz.f146.body.getD .skip
def avR:=cL P4
def PZ:=cR P4
def agT:=cL PZ
def PY:=cR PZ
def avQ:=cR agT
def avP:=cL PY
def avO:=cR PY
set_option maxRecDepth 10000 in
theorem ae2{w:World}{M:Hp}{X:Fr}(x:Nat)(hx:x<16384)(S:SH w M X []):Cq Tryz.prog 146 [.int .u64 (x:Int)] w M X (fun u=>u=.int .i64 ((dm 64 x:Nat):Int)):=by
 unfold Cq
 refine Up (b:=P4) Tryz.func146 rfl Tryz.ntmps146 rfl (fun C hC=>(bu [(0,_)] ⟨rfl,trivial⟩ (U1 avR PZ rfl rfl rfl (U0 rfl (af 0 1 rfl rfl (U3 rfl (ah [0] rfl (U2 (U1 agT PY rfl rfl rfl ?_)))))))))
 refine jq avQ rfl rfl rfl (Ub rfl (U2 (U1 avP avO rfl rfl rfl (U0 rfl (af 0 1 rfl rfl (ar 1 2 rfl rfl rfl (gJ rfl rfl rfl rfl rfl rfl rfl aqg S (amB x (hx) S.aR) ?_)))))))
 rintro _ w1 S1 rfl;clear S
 refine af 2 1 rfl rfl (U3 rfl (ah [2] rfl (U2 (Us hC [_] rfl rfl ⟨rfl,trivial⟩ ?_))))
 exact⟨_,rfl,(S1.pick [] [] (by decide) trivial),rfl⟩
noncomputable def PX:=Tryz.f149.body.getD .skip
def avN:=cL PX
def PW:=cR PX
def PV:=cL PW
def PU:=cR PW
def avM:=cL PV
def agS:=cR PV
def agR:=cL agS
def PS:=cL agR
def avL:=cL PS
def PR:=cR PS
def PQ:=cL PR
def PO:=cR PR
def avK:=cL PQ
def avJ:=cR PQ
def agQ:=cL PO
def avI:=cR PO
def PN:=cL agQ
def avH:=cL PN
def PL:=cR PN
def avG:=cL PL
def PK:=cR PL
def PJ:=cL PK
def avF:=cR PK
def avE:=cL PJ
def avD:=cR PJ
def avC:=cL PU
def avB:=cR PU
set_option maxRecDepth 10000 in
theorem acd{w:World}{M:Hp}{X:Fr}(s:List Int){sA:Option Addr}{sc:Nat}(v:Int)(hs:aB Uh (M.un X.h) sA sc s){q0:Nat}(hq1:q0<s.length)(hq2:ga s q0=v)(xO:∀j,j<q0->ga s j≠v)(S:SH w M X []):Cq Tryz.prog 149 [.slice sA s.length sc,.int .i64 v] w M X (fun u=>u=.int .i64 (q0:Int)):=by
 unfold Cq
 have aA0:s.length*8<=140737488355328:=hs.room
 refine Up (b:=PX) Tryz.func149 rfl Tryz.ntmps149 rfl (fun C hC=>(bu [(0,_),(1,_)] ⟨rfl,rfl,trivial⟩ (U1 avN PW rfl rfl rfl (U0 rfl (af 0 1 rfl rfl (U3 rfl (ah [0,1] rfl (U2 (U1 PV PU rfl rfl rfl ?_)))))))))
 refine U1 avM agS rfl rfl rfl (U0 rfl (af 0 1 rfl rfl (ag 1 rfl (Uv rfl rfl rfl rfl rfl rfl cI) (af 2 1 rfl rfl (U3 rfl (ah [0,1,7,8] rfl (U2 (U7 agR 0 rfl rfl rfl ?_))))))))
 refine Ui (fun aF ak aA=>∃(i:Nat),aF=s.length-1*i/\Env 19 [(0,.slice sA s.length sc),(1,.int .i64 v),(7,.int .i64 (s.length:Int)),(8,.int .i64 (i:Int))] ak/\SH aA M X []/\i<=q0) rfl ?_ ?_
 ·intro ak ai
  refine⟨_,⟨0,rfl,ai.sub ⟨rfl,rfl,rfl,rfl,trivial⟩,S.pick [] [] (by decide) trivial,?bn⟩⟩
  case bn=>omega
 ·rintro m1 a1 w1 ⟨i,rfl,aQ,S1,hi⟩
  clear S
  refine aW aQ (c:=PS) rfl ?_
  clear aQ a1
  refine U1 avL PR rfl rfl rfl (U0 rfl (ag 0 rfl (Un rfl rfl rfl) (U3 rfl (U2 (U1 PQ PO rfl rfl rfl ?_)))))
  refine Ua avK avJ rfl rfl rfl rfl (fun qm=>?_) (fun qm=>?_)
  ·refine Ub rfl (ah [0,1,7,8] rfl (U2 (U1 agQ avI rfl rfl rfl (U7 PN 1 rfl rfl rfl (U1 avH PL rfl rfl rfl (U0 rfl (af 0 2 rfl rfl (U3 rfl ?_))))))))
   refine ah [0,1,7,8,5] rfl (U2 (U1 avG PK rfl rfl rfl (U0 rfl (af 0 3 rfl rfl (ag 3 rfl (U9 (C:=Uh) i rfl rfl rfl aS (by first|rfl|omega) hs (by first|omega|(simp only[ls];omega))) ?_)))))
   refine ag 4 rfl (U5 rfl rfl aw rfl (hs.cell S1.um (i:=i) (by first|omega|(simp only[ls];omega)) 0 rfl rfl)) ?_
   refine ag 5 rfl (Uz rfl rfl rfl) (U3 rfl (ah [0,1,7,8,5,16] rfl (U2 ?_)))
   refine Ua PJ avF rfl rfl rfl rfl (fun CG=>?_) (fun CG=>?_)
   ·refine U1 avE avD rfl rfl rfl (U0 rfl (af 0 2 rfl rfl (U3 rfl (ah [4] rfl (U2 (Us hC [_] rfl rfl ⟨rfl,trivial⟩ ?_))))))
    exact⟨_,rfl,(S1.pick [] [] (by decide) trivial),(congrArg (Value.int .i64) (by have:¬i<q0:=fun h=>xO i h (by omega);omega))⟩
   ·refine Ub rfl (Ul (ah [0,1,7,8] rfl (U2 (U0 rfl (ag 0 rfl (Ud rfl rfl rfl (by first|omega|(simp only[ls];omega))) ?_)))))
    refine af 1 1 rfl rfl (U3 rfl (Ut ?_))
    intro ak ai
    refine⟨_,?bG,⟨i+1,rfl,ai.sub ⟨rfl,rfl,rfl,rfl,trivial⟩,S1.pick [] [] (by decide) trivial,?bk⟩⟩
    case bk=>(by_cases e:i=q0;(subst e;omega);omega)
    case bG=>omega
  ·refine Uk rfl rfl (Uw [] trivial (U2 (U1 avC avB rfl rfl rfl (U0 rfl (af 0 1 rfl rfl (U3 rfl (U2 (Us hC [_] rfl rfl ⟨rfl,trivial⟩ ?_))))))))
   exact⟨_,rfl,(S1.pick [] [] (by decide) trivial),(absurd hq1 (by omega))⟩
noncomputable def PI:=Tryz.f97.body.getD .skip
def avA:=cL PI
def PH:=cR PI
def avz:=cL PH
def avy:=cR PH
set_option maxHeartbeats 1000000 in
set_option maxRecDepth 10000 in
theorem ad6{w:World}{M:Hp}{X:Fr}(d:Dg){bp:Nat}{cA iA oA:Option Addr}{cc ic oc:Nat}{fP:Nat}{sA:Option Addr}{sc:Nat}{vs:List Vw}(s:Nat)(hcb:bQ (M.un X.h) fP 168 [.pointer (some ⟨bp,0,none⟩),.slice sA vs.length sc])(aH:bQ (M.un X.h) bp 70 [.slice cA d.ae.length cc,.int .i64 d.loops,.slice iA (aN d false (4*d.ae.length)).length ic,.slice oA (aN d true (4*d.ae.length)).length oc])(hsc:aB bw (M.un X.h) cA cc d.ae)(hsi:aB cw (M.un X.h) iA ic (aN d false (4*d.ae.length)))(aM:aB cw (M.un X.h) oA oc (aN d true (4*d.ae.length)))(hst:aB lZ (M.un X.h) sA sc vs)(hz:kA (M.un X.h) vs (l9 d (KS d))){L:Nat}(hn:d.ae.length<=6)(hab:Uu d=true)(hL:d.loops=(L:Int))(hL2:L<=2)(hs:s<KS d)(S:SH w M X []):Cq Tryz.prog 97 [.pointer (some ⟨fP,0,none⟩),.int .i64 (s:Int)] w M X (fun u=>u=.int .i64 ((aT d L s:Nat):Int)):=by
 unfold Cq
 have hvl:vs.length=KS d:=hz.1.trans (vZ d _)
 have h64:KS d<=64:=si hn
 obtain⟨hs1,hs2,hs3,hs4⟩:=Hh hz hs
 have hrl:=AR d s
 have zM:=sk (d:=d) s
 refine Up (b:=PI) Tryz.func97 rfl Tryz.ntmps97 rfl (fun C hC=>(bu [(0,_),(1,_)] ⟨rfl,rfl,trivial⟩ (U1 avA PH rfl rfl rfl (U0 rfl (af 0 1 rfl rfl (U3 rfl (ah [0,1] rfl (U2 (U1 avz avy rfl rfl rfl ?_)))))))))
 refine cM rfl (by kernel_rfl) S 19 rfl ?_
 clear S
 refine aq 0 18 rfl (by kernel_rfl) (fun _=>run_move rfl rfl) ?_
 refine aq 1 17 rfl (by kernel_rfl) (fun _=>Ur rfl rfl) ?_
 refine aq 2 16 rfl (by kernel_rfl) (fun _=>U4 rfl rfl lG rfl (xe) (wK)) ?_
 refine au 3 15 rfl (by kernel_rfl) (fun _ _ _ aj Sz=>.inl (U5 rfl rfl uu rfl ((hcb.mono (Hp.U6 aj Sz.mx)).cell Sz.um rfl))) ?_
 refine aq 4 14 rfl (by kernel_rfl) (fun _=>run_move rfl rfl) ?_
 refine au 5 13 rfl (by kernel_rfl) (fun _ _ _ aj Sz=>.inl (U9 (C:=lZ) s rfl rfl rfl yT (by first|rfl|omega) (hst.mono (Hp.U6 aj Sz.mx)) (by first|omega|(simp only[ls];omega)))) ?_
 refine aq 6 12 rfl (by kernel_rfl) (fun _=>U4 rfl rfl ko rfl (oO) (oK)) ?_
 refine au 7 11 rfl (by kernel_rfl) (fun _ _ _ aj Sz=>.inl (U5 rfl rfl cI rfl ((hst.mono (Hp.U6 aj Sz.mx)).cell Sz.um (i:=s) (by first|omega|(simp only[ls];omega)) 1 rfl rfl))) ?_
 refine FL 12 (.slice ((ga vs s).k.A) (dG d s).length ((ga vs s).k.c)) rfl (congrArg (fun n=>Value.slice _ n _) hs3) (au 8 10 rfl (by kernel_rfl) (fun _ _ _ aj Sz=>.inl (Uv rfl rfl rfl rfl rfl rfl cI)) ?_)
 refine aq 9 9 rfl (by kernel_rfl) (fun _=>run_move rfl rfl) ?_
 refine aq 10 8 rfl (by kernel_rfl) (fun _=>Ur rfl rfl) ?_
 refine aq 11 7 rfl (by kernel_rfl) (fun _=>U4 rfl rfl lG rfl (xy) (xk)) ?_
 refine au 12 6 rfl (by kernel_rfl) (fun _ _ _ aj Sz=>.inl (U5 rfl rfl qP rfl ((hcb.mono (Hp.U6 aj Sz.mx)).cell Sz.um rfl))) ?_
 refine aq 13 5 rfl (by kernel_rfl) (fun _=>Ur rfl rfl) ?_
 refine aq 14 4 rfl (by kernel_rfl) (fun _=>U4 rfl rfl jM rfl (lY) (lN)) ?_
 refine aq 15 3 rfl (by kernel_rfl) (fun _=>U4 rfl rfl bg rfl (aL) (aJ)) ?_
 refine au 16 2 rfl (by kernel_rfl) (fun _ _ _ aj Sz=>.inl (U5 rfl rfl aw rfl ((aH.mono (Hp.U6 aj Sz.mx)).cell Sz.um rfl))) ?_
 refine aq 17 1 rfl (by kernel_rfl) (fun _=>Ud rfl rfl rfl (by first|omega|(simp only[ls];omega))) ?_
 refine aq 18 0 rfl (by kernel_rfl) (fun _=>run_assign rfl rfl) ?_
 refine cF (by kernel_rfl) (fun Hj qG=>?_)
 refine ah [4] rfl (U2 (Us hC [_] rfl rfl ⟨rfl,trivial⟩ ?_))
 exact⟨_,rfl,(qG.pick [] [] (by decide) trivial),(congrArg (Value.int .i64) (by rw[AR,hL];unfold aT;omega))⟩
end Go.Proofs.YthppkofceancjaaGreat
namespace Go.Proofs.YthppkofceancjaaGreat
open Go.ChangeShapes Go.WideShapes Go.ChangeAt Go.RowKit
noncomputable def PG:=Tryz.f98.body.getD .skip
def avx:=cL PG
def PF:=cR PG
def avw:=cL PF
def PE:=cR PF
def PD:=cL PE
def PA:=cR PE
def avv:=cL PD
def agP:=cR PD
def agO:=cL agP
def Pz:=cL agO
def avu:=cL Pz
def Py:=cR Pz
def Px:=cL Py
def Pv:=cR Py
def avt:=cL Px
def avs:=cR Px
def agN:=cL Pv
def avr:=cR Pv
def Pt:=cL agN
def avq:=cL Pt
def Ps:=cR Pt
def avp:=cL Ps
def Pr:=cR Ps
def avo:=cL Pr
def avn:=cR Pr
def avm:=cL PA
def Pp:=cR PA
def avl:=cL Pp
def Po:=cR Pp
def avk:=cL Po
def avj:=cR Po
set_option maxHeartbeats 1000000 in
set_option maxRecDepth 10000 in
theorem EL{w:World}{M:Hp}{X:Fr}(d:Dg){bp:Nat}{cA iA oA:Option Addr}{cc ic oc:Nat}{fP:Nat}{sA:Option Addr}{sc:Nat}{vs:List Vw}(s mk:Nat)(hcb:bQ (M.un X.h) fP 168 [.pointer (some ⟨bp,0,none⟩),.slice sA vs.length sc])(aH:bQ (M.un X.h) bp 70 [.slice cA d.ae.length cc,.int .i64 d.loops,.slice iA (aN d false (4*d.ae.length)).length ic,.slice oA (aN d true (4*d.ae.length)).length oc])(hsc:aB bw (M.un X.h) cA cc d.ae)(hsi:aB cw (M.un X.h) iA ic (aN d false (4*d.ae.length)))(aM:aB cw (M.un X.h) oA oc (aN d true (4*d.ae.length)))(hst:aB lZ (M.un X.h) sA sc vs)(hz:kA (M.un X.h) vs (l9 d (KS d))){L:Nat}(hn:d.ae.length<=6)(hab:Uu d=true)(hL:d.loops=(L:Int))(hL2:L<=2)(hs:s<KS d)(hmk:mk<16384)(S:SH w M X []):Cq Tryz.prog 98 [.pointer (some ⟨fP,0,none⟩),.agg [.int .i64 (s:Int),.int .i64 (mk:Int)].toArray] w M X (fun u=>u=.agg [.int .i64 (gV d L s mk).1,.int .i64 (gV d L s mk).2].toArray):=by
 unfold Cq
 have hvl:vs.length=KS d:=hz.1.trans (vZ d _)
 have h64:KS d<=64:=si hn
 refine Up (b:=PG) Tryz.func98 rfl Tryz.ntmps98 rfl (fun C hC=>(bu [(0,_),(1,_)] ⟨rfl,rfl,trivial⟩ (U1 avx PF rfl rfl rfl (U0 rfl (ar 0 1 rfl rfl rfl (cU (l:=[_,_]) rfl rfl rfl rfl rfl S ?_))))))
 intro aI w1 S1;clear S
 refine ar 1 2 rfl rfl rfl (dh (l:=[_,_]) rfl rfl rfl KQ rfl S1 ?_)
 intro bq w2 S2;clear S1
 refine U3 rfl (ah [0,3,4] rfl (U2 (U1 avw PE rfl rfl rfl (U0 rfl (af 0 1 rfl rfl (U3 rfl (U2 (U1 PD PA rfl rfl rfl ?_))))))))
 refine U1 avv agP rfl rfl rfl (U0 rfl (af 0 1 rfl rfl (ag 1 rfl (Ur rfl rfl) (ag 2 rfl (U4 rfl rfl lG rfl (xy) (xk)) (ag 3 rfl (U5 rfl rfl qP rfl (hcb.cell S2.um rfl)) (ag 4 rfl (Ur rfl rfl) (ag 5 rfl (U4 rfl rfl jM rfl (lY) (lN)) (ag 6 rfl (U4 rfl rfl bg rfl (dV) (dS)) ?_))))))))
 refine ag 7 rfl (U5 rfl rfl bF rfl (aH.cell S2.um rfl)) (ag 8 rfl (Uv rfl rfl rfl rfl rfl rfl bF) (af 9 1 rfl rfl (U3 rfl (ah [0,3,4,5,18,19,20] rfl (U2 (U7 agO 0 rfl rfl rfl ?_))))))
 refine Ui (fun aF ak aA=>∃(k:Nat) (pl:Int),aF=d.ae.length-k/\Env 66 [(0,.pointer (some ⟨fP,0,none⟩)),(3,.pointer (some ⟨aI,0,none⟩)),(4,.pointer (some ⟨bq,0,none⟩)),(5,.int .i64 pl),(18,.slice cA d.ae.length cc),(19,.int .i64 (d.ae.length:Int)),(20,.int .i64 (k:Int))] ak/\SH aA M X [Rs.box bq 116 [.int .i64 0,.int .i64 0],Rs.box aI 176 [.int .i64 (s:Int),.int .i64 (mk:Int)]]/\k<=d.ae.length/\pl=(((cn (fun c=>(ga d.ae c).plus) k):Nat):Int)/\pl<=k) rfl ?_ ?_
 ·intro ak ai
  refine⟨_,⟨0,_,rfl,ai.sub ⟨rfl,rfl,rfl,rfl,rfl,rfl,rfl,trivial⟩,S2.pick [0,1] [_,_] (by decide) ⟨rfl,rfl,trivial⟩,?bn,?bE,?ez⟩⟩
  case bn=>omega
  case bE=>rfl
  case ez=>omega
 ·rintro m1 a1 w3 ⟨k,pl,rfl,aQ,S3,hk,hpl,hpk⟩
  clear S2
  refine aW aQ (c:=Pz) rfl ?_
  clear aQ a1
  refine U1 avu Py rfl rfl rfl (U0 rfl (ag 0 rfl (Un rfl rfl rfl) (U3 rfl (U2 (U1 Px Pv rfl rfl rfl ?_)))))
  refine Ua avt avs rfl rfl rfl rfl (fun CC=>?_) (fun CC=>?_)
  ·refine Ub rfl (ah [0,3,4,5,18,19,20] rfl (U2 (U1 agN avr rfl rfl rfl (U7 Pt 1 rfl rfl rfl (U1 avq Ps rfl rfl rfl (U0 rfl (ag 0 rfl (U9 (C:=bw) k rfl rfl rfl mH (by first|rfl|omega) hsc (by first|omega|(simp only[ls];omega))) ?_)))))))
   refine ag 1 rfl (Uc (us:=[_,_,_,_,_]) rfl rfl bR rfl kT (hsc.fV S3.um (e:=k) (by first|omega|(simp only[ls];omega)) (j:=0) ⟨rfl,rfl,rfl,rfl,rfl,trivial⟩)) ?_
   refine ar 2 3 rfl rfl rfl (dh (l:=[_,_,_,_,_]) rfl rfl rfl y5 rfl S3 ?_)
   intro dD w4 S4;clear S3
   refine ar 3 4 rfl rfl rfl (Uo (i:=0) (us:=[_,_,_,_,_]) (l':=[_,_,_,_,_]) (H':=[_,_,_]) rfl rfl S4 rfl rfl rfl rfl kT rfl rfl rfl rfl ?_)
   intro w5 S5;clear S4
   refine U3 rfl (ah [0,3,4,5,18,19,20,7] rfl (U2 (U1 avp Pr rfl rfl rfl (U0 rfl (ag 0 rfl (U4 rfl rfl bR rfl (rF) (rh)) (ag 1 rfl (U5 rfl rfl gD rfl (S5.aG (i:=0) rfl rfl)) (U3 rfl (ah [0,3,4,5,18,19,20,25] rfl ?_))))))))
   refine U2 ?_
   refine dH avo avn rfl rfl rfl rfl (fun ky=>?_) (fun ky=>?_)
   ·refine U0 rfl (af 0 1 rfl rfl (ag 1 rfl (Ud rfl rfl rfl (by first|omega|(simp only[ls];omega))) ?_))
    refine af 2 1 rfl rfl (U3 rfl (Ul (ah [0,3,4,5,18,19,20] rfl (U2 (U0 rfl (ag 0 rfl (Ud rfl rfl rfl (by first|omega|(simp only[ls];omega))) ?_))))))
    refine af 1 1 rfl rfl (U3 rfl (Ut ?_))
    intro ak ai
    refine⟨_,?bG,⟨k+1,pl+1,rfl,ai.sub ⟨rfl,rfl,rfl,rfl,rfl,rfl,rfl,trivial⟩,S5.pick [1,2] [_,_] (by decide) ⟨rfl,rfl,trivial⟩,?bk,?bD,?fL⟩⟩
    case bk=>omega
    case bD=>(rw[cn,hpl];first|(rw[if_pos ky];rfl)|(rw[if_neg (by rw[ky];decide)];rfl))
    case fL=>omega
    case bG=>omega
   ·refine Ub rfl (Ul (ah [0,3,4,5,18,19,20] rfl (U2 (U0 rfl (ag 0 rfl (Ud rfl rfl rfl (by first|omega|(simp only[ls];omega))) ?_)))))
    refine af 1 1 rfl rfl (U3 rfl (Ut ?_))
    intro ak ai
    refine⟨_,?fM,⟨k+1,pl,rfl,ai.sub ⟨rfl,rfl,rfl,rfl,rfl,rfl,rfl,trivial⟩,S5.pick [1,2] [_,_] (by decide) ⟨rfl,rfl,trivial⟩,?cu,?cN,?jb⟩⟩
    case cu=>omega
    case cN=>(rw[cn,hpl];first|(rw[if_pos ky];rfl)|(rw[if_neg (by rw[ky];decide)];rfl))
    case jb=>omega
    case fM=>omega
  ·refine Uk rfl rfl (ah [0,3,4,5] rfl (U2 (U1 avm Pp rfl rfl rfl ?_)))
   have LW:pl=((mR d:Nat):Int):=by rw[hpl,show k=d.ae.length by omega];rfl
   refine U0 rfl (af 0 1 rfl rfl (ag 1 rfl (Ur rfl rfl) (ag 2 rfl (U4 rfl rfl lG rfl (xy) (xk)) (ag 3 rfl (U5 rfl rfl qP rfl (hcb.cell S3.um rfl)) (ag 4 rfl (Ur rfl rfl) (ag 5 rfl (U4 rfl rfl jM rfl (lY) (lN)) (ag 6 rfl (U4 rfl rfl bg rfl (dV) (dS)) (ag 7 rfl (U5 rfl rfl bF rfl (aH.cell S3.um rfl)) ?_))))))))
   refine ag 8 rfl (Uv rfl rfl rfl rfl rfl rfl bF) (af 9 1 rfl rfl (ag 10 rfl (qy rfl rfl rfl (by first|omega|(simp only[ls];omega))) ?_))
   refine af 11 1 rfl rfl (U3 rfl (ah [0,3,4,5,8] rfl (U2 (U1 avl Po rfl rfl rfl (cM rfl (by kernel_rfl) S3 10 rfl ?_)))))
   clear S3
   refine aq 0 9 rfl (by kernel_rfl) (fun _=>U4 rfl rfl dZ rfl (aL) (aJ)) ?_
   refine au 1 8 rfl (by kernel_rfl) (fun _ _ _ aj Sz=>.inl (U5 rfl rfl aw rfl (Sz.suf.aG (i:=1) rfl rfl))) ?_
   refine au 2 7 rfl (by kernel_rfl) (fun _ _ _ aj Sz=>.inl (aaP (s:=s) rfl rfl ⟨_,aw⟩ FM (by first|omega|(simp only[ls];omega)))) ?_
   refine au 3 6 rfl (by kernel_rfl) (fun _ _ _ aj Sz=>jT rfl rfl rfl rfl rfl aeR Sz (ae2 s ((by omega)) Sz.aR)) ?_
   have apL:=ud s
   refine aq 4 5 rfl (by kernel_rfl) (fun _=>U4 rfl rfl dZ rfl (aL) (aJ)) ?_
   refine au 5 4 rfl (by kernel_rfl) (fun _ _ _ aj Sz=>.inl (U5 rfl rfl aw rfl (Sz.suf.aG (i:=1) rfl rfl))) ?_
   refine au 6 3 rfl (by kernel_rfl) (fun _ _ _ aj Sz=>.inl (aaP (s:=mk) rfl rfl ⟨_,aw⟩ FM (by first|omega|(simp only[ls];omega)))) ?_
   refine au 7 2 rfl (by kernel_rfl) (fun _ _ _ aj Sz=>jT rfl rfl rfl rfl rfl aeR Sz (ae2 mk ((by omega)) Sz.aR)) ?_
   have apK:=ud mk
   refine aq 8 1 rfl (by kernel_rfl) (fun _=>run_assign rfl rfl) ?_
   refine aq 9 0 rfl (by kernel_rfl) (fun _=>run_assign rfl rfl) ?_
   refine cF (by kernel_rfl) (fun Hm cO=>?_)
   refine ah [0,3,4,5,8,9,10] rfl (U2 (U1 avk avj rfl rfl rfl (U0 rfl (af 0 2 rfl rfl (ag 2 rfl (qy rfl rfl rfl (by first|omega|(simp only[ls];omega))) ?_)))))
   refine af 3 1 rfl rfl (ag 4 rfl (pj rfl rfl rfl (by first|omega|(simp only[ls];omega))) ?_)
   refine af 5 1 rfl rfl (ag 6 rfl (U4 rfl rfl dZ rfl (aL) (aJ)) (ag 7 rfl (U5 rfl rfl aw rfl (cO.aG (i:=1) rfl rfl)) (ar 8 9 rfl rfl rfl (gJ rfl rfl rfl rfl rfl rfl rfl afP cO (ad6 d s (hcb.mono cO.Uq) (aH.mono cO.Uq) (hsc.mono cO.Uq) (hsi.mono cO.Uq) (aM.mono cO.Uq) (hst.mono cO.Uq) (hz.mono cO.Uq) hn hab hL hL2 (by omega) cO.aR) ?_))))
   rintro _ zw dK rfl;clear cO
   have azN:aT d L s<=14:=pR hn hL2 _
   refine ag 9 rfl (qy rfl rfl rfl (by first|omega|(simp only[ls];omega))) ?_
   refine af 10 1 rfl rfl (ag 11 rfl (Ud rfl rfl rfl (by first|omega|(simp only[ls];omega))) ?_)
   refine af 12 1 rfl rfl (ag 13 rfl (Ud rfl rfl rfl (by first|omega|(simp only[ls];omega))) ?_)
   refine af 14 1 rfl rfl (ag 15 rfl (pj rfl rfl rfl (by first|omega|(simp only[ls];omega))) ?_)
   refine ag 16 rfl (qy rfl rfl rfl (by first|omega|(simp only[ls];omega))) ?_
   refine ag 17 rfl (run_build (l:=[_,_]) rfl rfl aeu rfl rfl) (ar 18 19 rfl rfl rfl (Uo (i:=0) (us:=[_,_]) (l':=[_,_]) (H':=[_,_]) rfl rfl dK rfl rfl rfl rfl BM rfl rfl rfl rfl ?_))
   intro Hl fZ;clear dK
   refine U3 rfl (ah [4] rfl (U2 (Us hC [_] rfl rfl ⟨⟨_,rfl,oa (us:=[_,_]) uw rfl BM (fZ.aY (i:=0) rfl ⟨rfl,rfl,trivial⟩)⟩,trivial⟩ ?_)))
   exact⟨_,rfl,(fZ.pick [] [] (by decide) trivial),(by rw[LW];unfold gV;generalize dm 64 s=a9;generalize dm 64 mk=b9;generalize aT d L s=c9;generalize mR d=e9;rfl)⟩
noncomputable def Pn:=Tryz.f147.body.getD .skip
def avi:=cL Pn
def Pm:=cR Pn
def avh:=cL Pm
def avg:=cR Pm
set_option maxHeartbeats 1000000 in
set_option maxRecDepth 10000 in
theorem FC{w:World}{M:Hp}{X:Fr}(d:Dg){bp:Nat}{cA iA oA:Option Addr}{cc ic oc:Nat}{fP:Nat}{sA:Option Addr}{sc:Nat}{vs:List Vw}(s mk:Nat)(r:Nat)(hcb:bQ (M.un X.h) fP 168 [.pointer (some ⟨bp,0,none⟩),.slice sA vs.length sc])(aH:bQ (M.un X.h) bp 70 [.slice cA d.ae.length cc,.int .i64 d.loops,.slice iA (aN d false (4*d.ae.length)).length ic,.slice oA (aN d true (4*d.ae.length)).length oc])(hsc:aB bw (M.un X.h) cA cc d.ae)(hsi:aB cw (M.un X.h) iA ic (aN d false (4*d.ae.length)))(aM:aB cw (M.un X.h) oA oc (aN d true (4*d.ae.length)))(hst:aB lZ (M.un X.h) sA sc vs)(hz:kA (M.un X.h) vs (l9 d (KS d))){L:Nat}(hn:d.ae.length<=6)(hab:Uu d=true)(hL:d.loops=(L:Int))(hL2:L<=2)(hs:s<KS d)(h0:1<=r)(hr:r<=2*d.ae.length)(Ve:kR d av s r=r)(S:SH w M X []):Cq Tryz.prog 147 [.pointer (some ⟨fP,0,none⟩),.agg [.int .i64 (s:Int),.int .i64 (mk:Int)].toArray,.int .i64 (r:Int)] w M X (fun u=>u=.bool (mk.testBit (kI d s r))):=by
 unfold Cq
 have hvl:vs.length=KS d:=hz.1.trans (vZ d _)
 have h64:KS d<=64:=si hn
 obtain⟨hs1,hs2,hs3,hs4⟩:=Hh hz hs
 have hkl:=jC hab s h0 hr
 have zM:=sk (d:=d) s
 refine Up (b:=Pn) Tryz.func147 rfl Tryz.ntmps147 rfl (fun C hC=>(bu [(0,_),(1,_),(2,_)] ⟨rfl,rfl,rfl,trivial⟩ (U1 avi Pm rfl rfl rfl (U0 rfl (ar 0 1 rfl rfl rfl (cU (l:=[_,_]) rfl rfl rfl rfl rfl S ?_))))))
 intro aI w1 S1;clear S
 refine af 1 1 rfl rfl (U3 rfl (ah [0,2,4] rfl (U2 (U1 avh avg rfl rfl rfl (cM rfl (by kernel_rfl) S1 17 rfl ?_)))))
 clear S1
 refine aq 0 16 rfl (by kernel_rfl) (fun _=>U4 rfl rfl dZ rfl (aL) (aJ)) ?_
 refine au 1 15 rfl (by kernel_rfl) (fun _ _ _ aj Sz=>.inl (U5 rfl rfl aw rfl (Sz.suf.aG (i:=0) rfl rfl))) ?_
 refine aq 2 14 rfl (by kernel_rfl) (fun _=>run_move rfl rfl) ?_
 refine aq 3 13 rfl (by kernel_rfl) (fun _=>Ur rfl rfl) ?_
 refine aq 4 12 rfl (by kernel_rfl) (fun _=>U4 rfl rfl lG rfl (xe) (wK)) ?_
 refine au 5 11 rfl (by kernel_rfl) (fun _ _ _ aj Sz=>.inl (U5 rfl rfl uu rfl ((hcb.mono (Hp.U6 aj Sz.mx)).cell Sz.um rfl))) ?_
 refine aq 6 10 rfl (by kernel_rfl) (fun _=>U4 rfl rfl dZ rfl (aL) (aJ)) ?_
 refine au 7 9 rfl (by kernel_rfl) (fun _ _ _ aj Sz=>.inl (U5 rfl rfl aw rfl (Sz.suf.aG (i:=0) rfl rfl))) ?_
 refine au 8 8 rfl (by kernel_rfl) (fun _ _ _ aj Sz=>.inl (U9 (C:=lZ) s rfl rfl rfl yT (by first|rfl|omega) (hst.mono (Hp.U6 aj Sz.mx)) (by first|omega|(simp only[ls];omega)))) ?_
 refine aq 9 7 rfl (by kernel_rfl) (fun _=>U4 rfl rfl ko rfl (oO) (oK)) ?_
 refine au 10 6 rfl (by kernel_rfl) (fun _ _ _ aj Sz=>.inl (U5 rfl rfl cI rfl ((hst.mono (Hp.U6 aj Sz.mx)).cell Sz.um (i:=s) (by first|omega|(simp only[ls];omega)) 1 rfl rfl))) ?_
 refine aq 11 5 rfl (by kernel_rfl) (fun _=>run_move rfl rfl) ?_
 refine FL 17 (.slice ((ga vs s).k.A) (dG d s).length ((ga vs s).k.c)) rfl (congrArg (fun n=>Value.slice _ n _) hs3) (au 12 4 rfl (by kernel_rfl) (fun _ _ _ aj Sz=>jT rfl rfl rfl rfl rfl aeQ Sz (acd (dG d s) (r:Int) ((hs4.mono (Hp.U6 aj Sz.mx)).mono Sz.Uq) (yB hab s h0 hr Ve).1 (yB hab s h0 hr Ve).2.1 (yB hab s h0 hr Ve).2.2 Sz.aR)) ?_)
 refine aq 13 3 rfl (by kernel_rfl) (fun _=>tN (s:=mk) (n:=(kI d s r)) rfl rfl rfl (by first|omega|(simp only[ls];omega))) ?_
 refine aq 14 2 rfl (by kernel_rfl) (fun _=>vK (s:=(mk/2^(kI d s r))) rfl rfl rfl) ?_
 refine aq 15 1 rfl (by kernel_rfl) (fun _=>Uz rfl rfl rfl) ?_
 refine aq 16 0 rfl (by kernel_rfl) (fun _=>run_assign rfl rfl) ?_
 refine cF (by kernel_rfl) (fun Hk iu=>?_)
 refine ah [6] rfl (U2 (Us hC [_] rfl rfl ⟨rfl,trivial⟩ ?_))
 exact⟨_,rfl,(iu.pick [] [] (by decide) trivial),(congrArg Value.bool (amv mk (kI d s r)))⟩
end Go.Proofs.YthppkofceancjaaGreat
namespace Go.Proofs.YthppkofceancjaaGreat
open Go.ChangeShapes Go.WideShapes Go.ChangeAt Go.RowKit
def iE(d:Dg)(tt bm:Nat)(rs:List Int):Nat:=rs.foldl (fun a (r:Int)=>a ||| 2^kI d tt r.toNat) bm
theorem amK{d:Dg}{tt bm i:Nat}{rs:List Int}(hi:i<rs.length):iE d tt bm (rs.take (i+1))=iE d tt bm (rs.take i) ||| 2^kI d tt (ga rs i).toNat:=by
 unfold iE
 rw[kJ rs i hi,List.foldl_append];rfl
theorem alO{a b:Nat}(h1:a<16384)(h2:b<16384):a ||| b<16384:=Nat.or_lt_two_pow (n:=14) h1 h2
noncomputable def Pk:=Tryz.f148.body.getD .skip
def avf:=cL Pk
def Pj:=cR Pk
def ave:=cL Pj
def Ph:=cR Pj
def Pg:=cL Ph
def Pf:=cR Ph
def avd:=cL Pg
def agM:=cR Pg
def agL:=cL agM
def Pc:=cL agL
def avc:=cL Pc
def Pb:=cR Pc
def O9:=cL Pb
def O8:=cR Pb
def avb:=cL O9
def ava:=cR O9
def agK:=cL O8
def au9:=cR O8
def O7:=cL agK
def au8:=cL O7
def au7:=cR O7
def au6:=cL Pf
def au5:=cR Pf
set_option maxHeartbeats 1000000 in
set_option maxRecDepth 10000 in
theorem ur{w:World}{M:Hp}{X:Fr}(rs:List Int){UQ:Option Addr}{UO:Nat}(d:Dg)(tt bm:Nat){gbb:Nat}{tE:Nat}{ov:Value}{rA:Option Addr}{rc:Nat}(hrs:aB Uh (M.un X.h) UQ UO rs)(hbb:bQ (M.un X.h) gbb 176 [.int .i64 (tt:Int),.int .i64 (bm:Int)])(iK:bQ (M.un X.h) tE 170 [ov,.slice rA (dG d tt).length rc])(hrg:aB Uh (M.un X.h) rA rc (dG d tt))(hn:d.ae.length<=6)(hab:Uu d=true)(hbm:bm<16384)(hR:∀i,i<rs.length->0<=ga rs i/\1<=(ga rs i).toNat/\(ga rs i).toNat<=2*d.ae.length/\kR d av tt (ga rs i).toNat=(ga rs i).toNat)(S:SH w M X []):Cq Tryz.prog 148 [.slice UQ rs.length UO,.pointer (some ⟨gbb,0,none⟩),.pointer (some ⟨tE,0,none⟩)] w M X (fun u=>u=.agg [.int .i64 (tt:Int),.int .i64 ((iE d tt bm rs:Nat):Int)].toArray):=by
 unfold Cq
 have azI:rs.length*8<=140737488355328:=hrs.room
 refine Up (b:=Pk) Tryz.func148 rfl Tryz.ntmps148 rfl (fun C hC=>(bu [(0,_),(1,_),(2,_)] ⟨rfl,rfl,rfl,trivial⟩ (U1 avf Pj rfl rfl rfl (U0 rfl (ar 0 1 rfl rfl rfl (dh (l:=[_,_]) rfl rfl rfl yO rfl S ?_))))))
 intro aI w1 S1;clear S
 refine U3 rfl (U2 (U1 ave Ph rfl rfl rfl (U0 rfl (ag 0 rfl (Uc (us:=[_,_]) rfl rfl dZ rfl gY (hbb.cells S1.um ⟨rfl,rfl,trivial⟩)) (ar 1 2 rfl rfl rfl (dh (l:=[_,_]) rfl rfl rfl yO rfl S1 ?_))))))
 intro bq w2 S2;clear S1
 refine ar 2 3 rfl rfl rfl (Uo (i:=0) (us:=[_,_]) (l':=[_,_]) (H':=[_,_]) rfl rfl S2 rfl rfl rfl rfl gY rfl rfl rfl rfl ?_)
 intro w3 S3;clear S2
 refine U3 rfl (ah [0,2,4,5] rfl (U2 (U1 Pg Pf rfl rfl rfl (U1 avd agM rfl rfl rfl (U0 rfl (af 0 1 rfl rfl (ag 1 rfl (Uv rfl rfl rfl rfl rfl rfl cI) (af 2 1 rfl rfl ?_))))))))
 refine U3 rfl (ah [2,4,5,9,10,11] rfl (U2 (U7 agL 0 rfl rfl rfl ?_)))
 refine Ui (fun aF ak aA=>∃(i:Nat) (ac:Nat),aF=rs.length-1*i/\Env 26 [(2,.pointer (some ⟨tE,0,none⟩)),(4,.pointer (some ⟨aI,0,none⟩)),(5,.pointer (some ⟨bq,0,none⟩)),(9,.slice UQ rs.length UO),(10,.int .i64 (rs.length:Int)),(11,.int .i64 (i:Int))] ak/\SH aA M X [Rs.box bq 176 [.int .i64 (tt:Int),.int .i64 (ac:Int)],Rs.box aI 176 [.int .i64 0,.int .i64 0]]/\i<=rs.length/\ac=iE d tt bm (rs.take i)/\ac<16384) rfl ?_ ?_
 ·intro ak ai
  refine⟨_,⟨0,bm,rfl,ai.sub ⟨rfl,rfl,rfl,rfl,rfl,rfl,trivial⟩,S3.pick [0,1] [_,_] (by decide) ⟨rfl,rfl,trivial⟩,?bn,?bE,?ez⟩⟩
  case bn=>omega
  case bE=>(rw[List.take_zero];rfl)
  case ez=>exact hbm
 ·rintro m1 a1 w4 ⟨i,ac,rfl,aQ,S4,hi,kF,hal⟩
  clear S3
  refine aW aQ (c:=Pc) rfl ?_
  clear aQ a1
  refine U1 avc Pb rfl rfl rfl (U0 rfl (ag 0 rfl (Un rfl rfl rfl) (U3 rfl (U2 (U1 O9 O8 rfl rfl rfl ?_)))))
  refine Ua avb ava rfl rfl rfl rfl (fun nG=>?_) (fun nG=>?_)
  ·refine Ub rfl (ah [2,4,5,9,10,11] rfl (U2 (U1 agK au9 rfl rfl rfl (U7 O7 1 rfl rfl rfl (U1 au8 au7 rfl rfl rfl (U0 rfl (ag 0 rfl (U9 (C:=Uh) i rfl rfl rfl aS (by first|rfl|omega) hrs (by first|omega|(simp only[ls];omega))) ?_)))))))
   refine ag 1 rfl (U5 rfl rfl aw rfl (hrs.cell S4.um (i:=i) (by first|omega|(simp only[ls];omega)) 0 rfl rfl)) ?_
   refine af 2 1 rfl rfl (U3 rfl (ah [2,4,5,9,10,11,7] rfl (U2 ?_)))
   obtain⟨Vv,o8,rB,xS⟩:=hR i (by omega)
   refine eZ 7 (.int .i64 ((ga rs i).toNat:Int)) rfl (int_eq (by omega)) ?_
   have hkl:=jC hab tt o8 rB
   have zM:=sk (d:=d) tt
   have hp2:2^kI d tt (ga rs i).toNat<=2^12:=Nat.pow_le_pow_right (by decide) (by omega)
   refine cM rfl (by kernel_rfl) S4 10 rfl ?_
   clear S4
   refine aq 0 9 rfl (by kernel_rfl) (fun _=>U4 rfl rfl dZ rfl (aL) (aJ)) ?_
   refine au 1 8 rfl (by kernel_rfl) (fun _ _ _ aj Sz=>.inl (U5 rfl rfl aw rfl (Sz.suf.aG (i:=0) rfl rfl))) ?_
   refine aq 2 7 rfl (by kernel_rfl) (fun _=>U4 rfl rfl ko rfl (oO) (oK)) ?_
   refine au 3 6 rfl (by kernel_rfl) (fun _ _ _ aj Sz=>.inl (U5 rfl rfl cI rfl ((iK.mono (Hp.U6 aj Sz.mx)).cell Sz.um rfl))) ?_
   refine aq 4 5 rfl (by kernel_rfl) (fun _=>run_move rfl rfl) ?_
   refine au 5 4 rfl (by kernel_rfl) (fun _ _ _ aj Sz=>jT rfl rfl rfl rfl rfl aeQ Sz (acd (dG d tt) ((ga rs i).toNat:Int) ((hrg.mono (Hp.U6 aj Sz.mx)).mono Sz.Uq) (yB hab tt o8 rB xS).1 (yB hab tt o8 rB xS).2.1 (yB hab tt o8 rB xS).2.2 Sz.aR)) ?_
   refine aq 6 3 rfl (by kernel_rfl) (fun _=>vM (n:=(kI d tt (ga rs i).toNat)) rfl rfl (congrArg (fun z=>some (Value.int IntKind.i64 z)) (show((kI d tt (ga rs i).toNat:Nat):Int)=((kI d tt (ga rs i).toNat:Nat):Int) by omega)) (by first|omega|(simp only[ls];omega))) ?_
   refine aq 7 2 rfl (by kernel_rfl) (fun _=>Jt (s:=ac) (r:=(2^(kI d tt (ga rs i).toNat))) rfl rfl rfl (by first|omega|(simp only[ls];omega)) (by first|omega|(simp only[ls];omega))) ?_
   refine aq 8 1 rfl (by kernel_rfl) (fun _=>U4 rfl rfl dZ rfl (aL) (aJ)) ?_
   refine dv (i:=9) 0 rfl (by kernel_rfl) rfl rfl (fun De bT=>?_)
   refine(Uo (i:=0) (us:=[_]) (l':=[_,_]) (H':=[_,_]) rfl rfl bT rfl rfl rfl rfl dw rfl rfl rfl rfl ?_)
   intro Hm cO;clear bT
   refine bU.turn (by kernel_rfl) cO ?_;clear cO
   change WA _ _ _ _ _ _ _ _ _ _ _ _ [_,_]
   refine cF (by kernel_rfl) (fun zw dK=>?_)
   refine Ul (ah [2,4,5,9,10,11] rfl (U2 (U0 rfl (ag 0 rfl (Ud rfl rfl rfl (by first|omega|(simp only[ls];omega))) ?_))))
   refine af 1 1 rfl rfl (U3 rfl (Ut ?_))
   intro ak ai
   refine⟨_,?bG,⟨i+1,ac ||| (2^(kI d tt (ga rs i).toNat)),rfl,ai.sub ⟨rfl,rfl,rfl,rfl,rfl,rfl,trivial⟩,dK.pick [0,1] [_,_] (by decide) ⟨rfl,rfl,trivial⟩,?bk,?bD,?fL⟩⟩
   case bk=>omega
   case bD=>(rw[amK (by omega),kF])
   case fL=>exact alO hal (by omega)
   case bG=>omega
  ·refine Uk rfl rfl (ah [4,5] rfl (U2 (U1 au6 au5 rfl rfl rfl (U0 rfl (ag 0 rfl (Uc (us:=[_,_]) rfl rfl dZ rfl gY (S4.aY (i:=0) rfl ⟨rfl,rfl,trivial⟩)) (ar 1 2 rfl rfl rfl (Uo (i:=1) (us:=[_,_]) (l':=[_,_]) (H':=[_,_]) rfl rfl S4 rfl rfl rfl rfl gY rfl rfl rfl rfl ?_)))))))
   intro Hl fZ;clear S4
   refine U3 rfl (ah [4] rfl (U2 (Us hC [_] rfl rfl ⟨⟨_,rfl,oa (us:=[_,_]) dZ rfl gY (fZ.aY (i:=1) rfl ⟨rfl,rfl,trivial⟩)⟩,trivial⟩ ?_)))
   exact⟨_,rfl,(fZ.pick [] [] (by decide) trivial),(by have e9:i=rs.length:=(by omega);rw[e9,List.take_length]at kF;rw[kF];rfl)⟩
end Go.Proofs.YthppkofceancjaaGreat
namespace Go.Proofs.YthppkofceancjaaGreat
open Go.ChangeShapes Go.WideShapes Go.ChangeAt Go.RowKit
theorem am6{s k:Nat}(h:aD s k=0):s ||| 2^k=s+2^k:=by
 have hb:s.testBit k=false:=by
  cases e:s.testBit k with
  |false=>rfl
  |true=>rw[(rL s k).2 e]at h;cases h
 refine(Nat.eq_of_testBit_eq fun i=>?_).symm
 rw[Nat.testBit_or,Nat.testBit_two_pow,Nat.add_comm]
 rcases Nat.lt_trichotomy i k with h1|h1|h1
 ·rw[Nat.testBit_two_pow_add_gt h1,decide_eq_false (show¬k=i by omega),Bool.or_false]
 ·subst h1;rw[Nat.testBit_two_pow_add_eq,hb,decide_eq_true rfl];rfl
 ·rw[decide_eq_false (show¬k=i by omega),Bool.or_false]
  have h0:s/2^k%2=0:=h
  rw[Nat.testBit_eq_decide_div_mod_eq,Nat.testBit_eq_decide_div_mod_eq]
  have hp:=Nat.two_pow_pos k
  have e1:(2^k+s)/2^(k+1)=s/2^(k+1):=by
   rw[Nat.pow_succ,<-Nat.div_div_eq_div_mul,<-Nat.div_div_eq_div_mul,Nat.add_div_left _ hp]
   omega
  have e2:∀x,x/2^i=x/2^(k+1)/2^(i-(k+1)):=fun x=>by
   rw[Nat.div_div_eq_div_mul,<-Nat.pow_add,show k+1+(i-(k+1))=i by omega]
  rw[e2 (2^k+s),e2 s,e1]
theorem adp{d:Dg}{L s t mk:Nat}(hm:mk<2^aT d L s)(ht:aT d L t<=14):mk/2^kM d s*2^kM d t<16384:=by
 have h1:mk/2^kM d s<2^L:=by
  refine(Nat.div_lt_iff_lt_mul (Nat.two_pow_pos _)).2 ?_
  rw[<-Nat.pow_add,Nat.add_comm];exact hm
 have h2:2^(L+kM d t)<=2^14:=Nat.pow_le_pow_right (by decide) (by unfold aT at ht;omega)
 have h3:=(Nat.mul_lt_mul_right (Nat.two_pow_pos (kM d t))).2 h1
 rw[<-Nat.pow_add]at h3
 omega
theorem aeq{d:Dg}{L s t k mk:Nat}(hm:mk<2^aT d L s)(ht:aT d L t<=14):∀i,i<=kM d t->tB d s t k mk i<16384
 |0,_=>adp hm ht
 |i+1,h=>by
  have ih:=aeq (k:=k) hm ht i (by omega)
  rw[tB]
  split
  ·refine Nat.or_lt_two_pow (n:=14) ih ?_
   exact Nat.pow_lt_pow_right (by decide) (by unfold aT at ht;omega)
  ·exact ih
theorem ajY{d:Dg}(h:Uu d=true){k s t i:Nat}(F:uW d k s t)(hi:i<kM d t)(h0:ga (dx d t) i≠kR d av t (aK d k 0))(h2:ga (dx d t) i≠kR d av t (aK d k 2)):kR d av s (ga (dx d t) i)=ga (dx d t) i:=by
 obtain⟨g1,g2,g3,g4⟩:=z8 h t hi
 obtain⟨_,_,t1,t2⟩:=BA h F
 obtain⟨_,f⟩:=I5 h F.k_ (u:=t) (v:=s) (fun c hc=>(F.eq c hc).symm) (y:=ga (dx d t) i) (by omega) fun j hj=>by
  rw[g3]
  have:j=0\/j=1\/j=2\/j=3:=by omega
  rcases this with rfl|rfl|rfl|rfl
  ·exact fun e=>h0 e.symm
  ·rw[t1];exact fun e=>h2 e.symm
  ·exact fun e=>h2 e.symm
  ·rw[t2];exact fun e=>h0 e.symm
 rw[f,g3]
def fg(d:Dg)(s k mk:Nat):List Pq:=(dY d s (s+2^k) k mk).map fun m=>⟨((s+2^k:Nat):Int),((m:Nat):Int)⟩
theorem sY(d:Dg)(t b:Nat):iE d t b []=b:=rfl
theorem sX(d:Dg)(t b:Nat)(r:Int):iE d t b [r]=b ||| 2^kI d t r.toNat:=rfl
theorem dE{d:Dg}(h:Uu d=true)(s:Nat){x:Nat}(h0:1<=x)(hx:x<=2*d.ae.length):kI d s (kR d av s x)=kI d s x:=by
 obtain⟨p1,p2⟩:=pJ h s h0 hx
 exact(nZ h s p1 (by omega) h0 hx).2 (iW h av s (x:=x) (by omega)).2.2
theorem wR{d:Dg}(h:Uu d=true){t x:Nat}(h0:1<=x)(hx:x<=2*d.ae.length):∀i,i<[((kR d av t x:Nat):Int)].length->0<=ga [((kR d av t x:Nat):Int)] i/\1<=(ga [((kR d av t x:Nat):Int)] i).toNat/\(ga [((kR d av t x:Nat):Int)] i).toNat<=2*d.ae.length/\kR d av t (ga [((kR d av t x:Nat):Int)] i).toNat=(ga [((kR d av t x:Nat):Int)] i).toNat:=fun i hi=>by
 have e:i=0:=by simpa using hi
 subst e
 obtain⟨p1,p2⟩:=pJ h t h0 hx
 have:=(iW h av t (x:=x) (by omega)).2.2
 show 0<=((kR d av t x:Nat):Int)/\1<=((kR d av t x:Nat):Int).toNat/\((kR d av t x:Nat):Int).toNat<=_/\kR d av t ((kR d av t x:Nat):Int).toNat=((kR d av t x:Nat):Int).toNat
 rw[Int.toNat_natCast]
 exact⟨by omega,p1,by omega,this⟩
noncomputable def O6:=Tryz.f99.body.getD .skip
def au4:=cL O6
def O5:=cR O6
def au3:=cL O5
def O4:=cR O5
def au2:=cL O4
def O3:=cR O4
def au1:=cL O3
def O2:=cR O3
def au0:=cL O2
def O1:=cR O2
def auZ:=cL O1
def O0:=cR O1
def OZ:=cL O0
def OY:=cR O0
def auY:=cL OZ
def agJ:=cR OZ
def agI:=cL agJ
def OX:=cL agI
def auX:=cL OX
def OW:=cR OX
def OV:=cL OW
def OU:=cR OW
def auW:=cL OV
def auV:=cR OV
def agH:=cL OU
def auU:=cR OU
def OT:=cL agH
def auT:=cL OT
def OS:=cR OT
def auS:=cL OS
def OQ:=cR OS
def auR:=cL OQ
def agG:=cR OQ
def auQ:=cL OY
def OP:=cR OY
def agF:=cL OP
def OO:=cR OP
def OM:=cL agF
def auP:=cL OM
def OL:=cR OM
def OJ:=cL OL
def OI:=cR OL
def OH:=cL OJ
def OG:=cR OJ
def auO:=cL OH
def agE:=cR OH
def OE:=cL agE
def auN:=cL OE
def OD:=cR OE
def OC:=cL OD
def G0:=cR OD
def auM:=cL OC
def auL:=cR OC
def agD:=cL G0
def GZ:=cR G0
def zk:=cL GZ
def agC:=cR GZ
def GY:=cL zk
def GX:=cR zk
def agB:=cL OG
def agA:=cR OG
def auK:=cL OI
def OB:=cR OI
def OA:=cL OB
def auJ:=cR OB
def auI:=cL OA
def auH:=cR OA
def auG:=cL OO
def auF:=cR OO
set_option maxHeartbeats 4000000 in
set_option maxRecDepth 10000 in
theorem aox{w:World}{M:Hp}{X:Fr}(d:Dg){bp:Nat}{cA iA oA:Option Addr}{cc ic oc:Nat}{fP:Nat}{sA:Option Addr}{sc:Nat}{vs:List Vw}(s mk:Nat)(k:Nat)(hcb:bQ (M.un X.h) fP 168 [.pointer (some ⟨bp,0,none⟩),.slice sA vs.length sc])(aH:bQ (M.un X.h) bp 70 [.slice cA d.ae.length cc,.int .i64 d.loops,.slice iA (aN d false (4*d.ae.length)).length ic,.slice oA (aN d true (4*d.ae.length)).length oc])(hsc:aB bw (M.un X.h) cA cc d.ae)(hsi:aB cw (M.un X.h) iA ic (aN d false (4*d.ae.length)))(aM:aB cw (M.un X.h) oA oc (aN d true (4*d.ae.length)))(hst:aB lZ (M.un X.h) sA sc vs)(hz:kA (M.un X.h) vs (l9 d (KS d))){L:Nat}(hn:d.ae.length<=6)(hab:Uu d=true)(hL:d.loops=(L:Int))(hL2:L<=2)(hs:s<KS d)(hmk:mk<2^aT d L s)(hk:k<d.ae.length)(hb:aD s k=0)(S:SH w M X []):Ct Tryz.prog 99 [.pointer (some ⟨fP,0,none⟩),.agg [.int .i64 (s:Int),.int .i64 (mk:Int)].toArray,.int .i64 (k:Int)] w M X (fun u N=>∃A c,u=.slice A (fg d s k mk).length c/\aB cQ N A c (fg d s k mk)):=by
 unfold Ct
 have hvl:vs.length=KS d:=hz.1.trans (vZ d _)
 have h64:KS d<=64:=si hn
 obtain⟨hs1,hs2,hs3,hs4⟩:=Hh hz hs
 have F:=AX (d:=d) hk hb
 have htk:(s+2^k)<KS d:=AG hs hk hb
 obtain⟨ht1,ht2,ht3,eH⟩:=Hh hz htk
 have hop:=am6 hb
 have arq:=pR hn hL2 s
 have Ch:=pR hn hL2 (s+2^k)
 have h2k:2^k<=2^6:=Nat.pow_le_pow_right (by decide) (by omega)
 have hrs:=AR d s
 have hrt:=AR d (s+2^k)
 have hks:=sk (d:=d) s
 have hkt:=sk (d:=d) (s+2^k)
 have hsh:=adp (t:=(s+2^k)) hmk Ch
 have tq:=fun i h=>aeq (k:=k) hmk Ch i h
 have Gs:mk<16384:=Nat.lt_of_lt_of_le hmk (Nat.pow_le_pow_right (by decide) arq:2^aT d L s<=2^14)
 have b0:=iL hab hk (i:=0) (by omega)
 have b2:=iL hab hk (i:=2) (by omega)
 have q0:=iW hab av s (x:=aK d k 0) (by omega)
 have q2:=iW hab av s (x:=aK d k 2) (by omega)
 have u0:=iW hab av (s+2^k) (x:=aK d k 0) (by omega)
 have u2:=iW hab av (s+2^k) (x:=aK d k 2) (by omega)
 have p0:=pJ hab s b0.1 b0.2
 have p2:=pJ hab s b2.1 b2.2
 have v0:=pJ hab (s+2^k) b0.1 b0.2
 have v2:=pJ hab (s+2^k) b2.1 b2.2
 have LU:1<=(ga d.ae k).a/\(ga d.ae k).a<=2*(d.ae.length:Int):=iN hab hk (k:=0) (by omega)
 have LS:1<=(ga d.ae k).c/\(ga d.ae k).c<=2*(d.ae.length:Int):=iN hab hk (k:=2) (by omega)
 have sN:(kC d av s).length=2*d.ae.length+1:=yh _ _ _ _
 have sL:(kC d av (s+2^k)).length=2*d.ae.length+1:=yh _ _ _ _
 refine Up (b:=O6) Tryz.func99 rfl Tryz.ntmps99 rfl (fun C hC=>(bu [(0,_),(1,_),(2,_)] ⟨rfl,rfl,rfl,trivial⟩ (U1 au4 O5 rfl rfl rfl (U0 rfl (ar 0 1 rfl rfl rfl (cU (l:=[_,_]) rfl rfl rfl rfl rfl S ?_))))))
 intro aI w1 S1;clear S
 refine af 1 1 rfl rfl (U3 rfl (ah [0,2,4] rfl (U2 (U1 au3 O4 rfl rfl rfl (cM rfl (by kernel_rfl) S1 19 rfl ?_)))))
 clear S1
 refine aq 0 18 rfl (by kernel_rfl) (fun _=>run_move rfl rfl) ?_
 refine aq 1 17 rfl (by kernel_rfl) (fun _=>Ur rfl rfl) ?_
 refine aq 2 16 rfl (by kernel_rfl) (fun _=>U4 rfl rfl lG rfl (xy) (xk)) ?_
 refine au 3 15 rfl (by kernel_rfl) (fun _ _ _ aj Sz=>.inl (U5 rfl rfl qP rfl ((hcb.mono (Hp.U6 aj Sz.mx)).cell Sz.um rfl))) ?_
 refine aq 4 14 rfl (by kernel_rfl) (fun _=>Ur rfl rfl) ?_
 refine aq 5 13 rfl (by kernel_rfl) (fun _=>U4 rfl rfl jM rfl (lY) (lN)) ?_
 refine aq 6 12 rfl (by kernel_rfl) (fun _=>U4 rfl rfl bg rfl (dV) (dS)) ?_
 refine au 7 11 rfl (by kernel_rfl) (fun _ _ _ aj Sz=>.inl (U5 rfl rfl bF rfl ((aH.mono (Hp.U6 aj Sz.mx)).cell Sz.um rfl))) ?_
 refine aq 8 10 rfl (by kernel_rfl) (fun _=>run_move rfl rfl) ?_
 refine au 9 9 rfl (by kernel_rfl) (fun _ _ _ aj Sz=>.inl (U9 (C:=bw) k rfl rfl rfl mH (by first|rfl|omega) (hsc.mono (Hp.U6 aj Sz.mx)) (by first|omega|(simp only[ls];omega)))) ?_
 refine au 10 8 rfl (by kernel_rfl) (fun _ _ _ aj Sz=>.inl (Uc (us:=[_,_,_,_,_]) rfl rfl bR rfl kT ((hsc.mono (Hp.U6 aj Sz.mx)).fV Sz.um (e:=k) (by first|omega|(simp only[ls];omega)) (j:=0) ⟨rfl,rfl,rfl,rfl,rfl,trivial⟩))) ?_
 refine aq 11 7 rfl (by kernel_rfl) (fun _=>U4 rfl rfl dZ rfl (aL) (aJ)) ?_
 refine au 12 6 rfl (by kernel_rfl) (fun _ _ _ aj Sz=>.inl (U5 rfl rfl aw rfl (Sz.suf.aG (i:=0) rfl rfl))) ?_
 refine aq 13 5 rfl (by kernel_rfl) (fun _=>run_move rfl rfl) ?_
 refine aq 14 4 rfl (by kernel_rfl) (fun _=>vM (n:=k) rfl rfl rfl (by first|omega|(simp only[ls];omega))) ?_
 refine aq 15 3 rfl (by kernel_rfl) (fun _=>Jt (s:=s) (r:=(2^k)) rfl rfl rfl (by first|omega|(simp only[ls];omega)) (by first|omega|(simp only[ls];omega))) ?_
 refine dv (i:=16) 2 rfl (by kernel_rfl) rfl rfl (fun Hk iu=>?_)
 refine(dh (l:=[_,_,_,_,_]) rfl rfl rfl y5 rfl iu ?_)
 intro bq Hj qG;clear iu
 refine bU.grow [_] (Hp.le_refl _) qG ?_;clear qG
 change WA _ _ _ _ _ _ _ _ _ _ _ _ [_,_]
 refine dv (i:=17) 1 rfl (by kernel_rfl) rfl rfl (fun w22 iq=>?_)
 refine(Uo (i:=0) (us:=[_,_,_,_,_]) (l':=[_,_,_,_,_]) (H':=[_,_]) rfl rfl iq rfl rfl rfl rfl kT rfl rfl rfl rfl ?_)
 intro UK rQ;clear iq
 refine bU.grow [_] (Hp.le_refl _) rQ ?_;clear rQ
 change WA _ _ _ _ _ _ _ _ _ _ _ _ [_,_]
 refine aq 18 0 rfl (by kernel_rfl) (fun _=>run_assign rfl rfl) ?_
 refine cF (by kernel_rfl) (fun Dd gK=>?_)
 refine ah [0,4,7,8] rfl (U2 (U1 au2 O3 rfl rfl rfl ?_))
 refine uh (fun ak aA=>∃(VG:Nat) (tE:Nat),Env 165 [(0,.pointer (some ⟨fP,0,none⟩)),(4,.pointer (some ⟨aI,0,none⟩)),(7,.pointer (some ⟨bq,0,none⟩)),(8,.int .i64 ((s+2^k:Nat):Int)),(9,.pointer (some ⟨VG,0,none⟩)),(10,.pointer (some ⟨tE,0,none⟩))] ak/\SH aA M X [Rs.box VG 170 [.slice ((ga vs s).o.A) (kC d av s).length ((ga vs s).o.c),.slice ((ga vs s).k.A) (dG d s).length ((ga vs s).k.c)],Rs.box tE 170 [.slice ((ga vs (s+2^k)).o.A) (kC d av (s+2^k)).length ((ga vs (s+2^k)).o.c),.slice ((ga vs (s+2^k)).k.A) (dG d (s+2^k)).length ((ga vs (s+2^k)).k.c)],Rs.box bq 77 [.int .i64 ((ga d.ae k).a),.int .i64 ((ga d.ae k).b),.int .i64 ((ga d.ae k).c),.int .i64 ((ga d.ae k).d),.bool ((ga d.ae k).plus)],Rs.box aI 176 [.int .i64 (s:Int),.int .i64 (mk:Int)]]) ?_ ?_
 ·refine eZ 8 (.int .i64 ((s+2^k:Nat):Int)) rfl (int_eq (by rw[hop])) ?_
  refine cM rfl (by kernel_rfl) gK 19 rfl ?_
  clear gK
  refine aq 0 18 rfl (by kernel_rfl) (fun _=>run_move rfl rfl) ?_
  refine aq 1 17 rfl (by kernel_rfl) (fun _=>Ur rfl rfl) ?_
  refine aq 2 16 rfl (by kernel_rfl) (fun _=>U4 rfl rfl lG rfl (xe) (wK)) ?_
  refine au 3 15 rfl (by kernel_rfl) (fun _ _ _ aj Sz=>.inl (U5 rfl rfl uu rfl ((hcb.mono (Hp.U6 aj Sz.mx)).cell Sz.um rfl))) ?_
  refine aq 4 14 rfl (by kernel_rfl) (fun _=>U4 rfl rfl dZ rfl (aL) (aJ)) ?_
  refine au 5 13 rfl (by kernel_rfl) (fun _ _ _ aj Sz=>.inl (U5 rfl rfl aw rfl (Sz.suf.aG (i:=1) rfl rfl))) ?_
  refine au 6 12 rfl (by kernel_rfl) (fun _ _ _ aj Sz=>.inl (U9 (C:=lZ) s rfl rfl rfl yT (by first|rfl|omega) (hst.mono (Hp.U6 aj Sz.mx)) (by first|omega|(simp only[ls];omega)))) ?_
  refine au 7 11 rfl (by kernel_rfl) (fun _ _ _ aj Sz=>.inl (Uc (us:=[_,_]) rfl rfl ko rfl qI ((hst.mono (Hp.U6 aj Sz.mx)).fV Sz.um (e:=s) (by first|omega|(simp only[ls];omega)) (j:=0) ⟨rfl,rfl,trivial⟩))) ?_
  refine aq 8 10 rfl (by kernel_rfl) (fun _=>run_move rfl rfl) ?_
  refine aq 9 9 rfl (by kernel_rfl) (fun _=>Ur rfl rfl) ?_
  refine aq 10 8 rfl (by kernel_rfl) (fun _=>U4 rfl rfl lG rfl (xe) (wK)) ?_
  refine au 11 7 rfl (by kernel_rfl) (fun _ _ _ aj Sz=>.inl (U5 rfl rfl uu rfl ((hcb.mono (Hp.U6 aj Sz.mx)).cell Sz.um rfl))) ?_
  refine aq 12 6 rfl (by kernel_rfl) (fun _=>run_move rfl rfl) ?_
  refine au 13 5 rfl (by kernel_rfl) (fun _ _ _ aj Sz=>.inl (U9 (C:=lZ) (s+2^k) rfl rfl rfl yT (by first|rfl|omega) (hst.mono (Hp.U6 aj Sz.mx)) (by first|omega|(simp only[ls];omega)))) ?_
  refine au 14 4 rfl (by kernel_rfl) (fun _ _ _ aj Sz=>.inl (Uc (us:=[_,_]) rfl rfl ko rfl qI ((hst.mono (Hp.U6 aj Sz.mx)).fV Sz.um (e:=s+2^k) (by first|omega|(simp only[ls];omega)) (j:=0) ⟨rfl,rfl,trivial⟩))) ?_
  refine amL (i:=15) (j:=16) 3 rfl rfl (by kernel_rfl) rfl rfl rfl rfl (fun UG En=>?_) (fun UG En=>?_)
  ·refine(dh (l:=[_,_]) rfl rfl rfl yP rfl En ?_)
   intro dD w45 S45;clear En
   refine bU.grow [_] (Hp.le_refl _) S45 ?_;clear S45
   change WA _ _ _ _ _ _ _ _ _ _ _ _ [_,_,_]
   refine dv (i:=16) 2 rfl (by kernel_rfl) rfl rfl (fun UF vU=>?_)
   refine(dh (l:=[_,_]) rfl rfl rfl yP rfl vU ?_)
   intro jR w48 qF;clear vU
   refine bU.grow [_,_] (Hp.le_refl _) qF ?_;clear qF
   change WA _ _ _ _ _ _ _ _ _ _ _ _ [_,_,_,_]
   refine dv (i:=17) 1 rfl (by kernel_rfl) rfl rfl (fun w50 rO=>?_)
   refine(Uo (i:=1) (us:=[_,_]) (l':=[_,_]) (H':=[_,_,_,_]) rfl rfl rO rfl rfl rfl rfl qI rfl rfl rfl rfl ?_)
   intro w51 vT;clear rO
   refine bU.grow [_,_] (Hp.le_refl _) vT ?_;clear vT
   change WA _ _ _ _ _ _ _ _ _ _ _ _ [_,_,_,_]
   refine dv (i:=18) 0 rfl (by kernel_rfl) rfl rfl (fun w53 S53=>?_)
   refine(Uo (i:=0) (us:=[_,_]) (l':=[_,_]) (H':=[_,_,_,_]) rfl rfl S53 rfl rfl rfl rfl qI rfl rfl rfl rfl ?_)
   intro w54 El;clear S53
   refine bU.grow [_,_] (Hp.le_refl _) El ?_;clear El
   change WA _ _ _ _ _ _ _ _ _ _ _ _ [_,_,_,_]
   refine cF (by kernel_rfl) (fun w55 Ad=>?_)
   refine Ut ?_
   rw[hs1,hs3]at Ad
   rw[ht1,ht3]at Ad
   intro ak ai
   refine⟨_,_,ai.sub ⟨rfl,rfl,rfl,rfl,rfl,rfl,trivial⟩,Ad.pick [1,0,2,3] [_,_,_,_] (by decide) ⟨rfl,rfl,rfl,rfl,trivial⟩⟩
  ·refine(dh (l:=[_,_]) rfl rfl rfl yP rfl En ?_)
   intro rD w56 x9;clear En
   refine bU.grow [_] (Hp.le_refl _) x9 ?_;clear x9
   change WA _ _ _ _ _ _ _ _ _ _ _ _ [_,_,_]
   refine dv (i:=15) 2 rfl (by kernel_rfl) rfl rfl (fun w58 Ek=>?_)
   refine(dh (l:=[_,_]) rfl rfl rfl yP rfl Ek ?_)
   intro gb6 w59 pG;clear Ek
   refine bU.grow [_,_] (Hp.le_refl _) pG ?_;clear pG
   change WA _ _ _ _ _ _ _ _ _ _ _ _ [_,_,_,_]
   refine dv (i:=17) 1 rfl (by kernel_rfl) rfl rfl (fun w61 od=>?_)
   refine(Uo (i:=0) (us:=[_,_]) (l':=[_,_]) (H':=[_,_,_,_]) rfl rfl od rfl rfl rfl rfl qI rfl rfl rfl rfl ?_)
   intro w62 tX;clear od
   refine bU.grow [_,_] (Hp.le_refl _) tX ?_;clear tX
   change WA _ _ _ _ _ _ _ _ _ _ _ _ [_,_,_,_]
   refine dv (i:=18) 0 rfl (by kernel_rfl) rfl rfl (fun w64 S64=>?_)
   refine(Uo (i:=1) (us:=[_,_]) (l':=[_,_]) (H':=[_,_,_,_]) rfl rfl S64 rfl rfl rfl rfl qI rfl rfl rfl rfl ?_)
   intro UE mY;clear S64
   refine bU.grow [_,_] (Hp.le_refl _) mY ?_;clear mY
   change WA _ _ _ _ _ _ _ _ _ _ _ _ [_,_,_,_]
   refine cF (by kernel_rfl) (fun w66 tW=>?_)
   refine Ut ?_
   rw[hs1,hs3]at tW
   rw[ht1,ht3]at tW
   intro ak ai
   refine⟨_,_,ai.sub ⟨rfl,rfl,rfl,rfl,rfl,rfl,trivial⟩,tW.pick [0,1,2,3] [_,_,_,_] (by decide) ⟨rfl,rfl,rfl,rfl,trivial⟩⟩
 ·rintro a1 zu ⟨VG,tE,aQ,il⟩
  clear gK
  refine uy aQ ?_
  clear aQ a1
  refine U2 (U1 au1 O2 rfl rfl rfl (cM rfl (by kernel_rfl) il 14 rfl ?_))
  clear il
  refine aq 0 13 rfl (by kernel_rfl) (fun _=>U4 rfl rfl ko rfl (oO) (oK)) ?_
  refine au 1 12 rfl (by kernel_rfl) (fun _ _ _ aj Sz=>.inl (U5 rfl rfl cI rfl (Sz.suf.aG (i:=0) rfl rfl))) ?_
  refine aq 2 11 rfl (by kernel_rfl) (fun _=>U4 rfl rfl bR rfl (aL) (aJ)) ?_
  refine au 3 10 rfl (by kernel_rfl) (fun _ _ _ aj Sz=>.inl (U5 rfl rfl aw rfl (Sz.suf.aG (i:=2) rfl rfl))) ?_
  refine au 4 9 rfl (by kernel_rfl) (fun _ _ _ aj Sz=>.inl (U9 (C:=Uh) (((ga d.ae k).a).toNat) rfl rfl rfl aS (by first|rfl|omega) (hs2.mono (Hp.U6 aj Sz.mx)) (by first|omega|(simp only[ls];omega)))) ?_
  refine au 5 8 rfl (by kernel_rfl) (fun _ _ _ aj Sz=>.inl (U5 rfl rfl aw rfl ((hs2.mono (Hp.U6 aj Sz.mx)).cell Sz.um (i:=((ga d.ae k).a).toNat) (by first|omega|(simp only[ls];omega)) 0 rfl rfl))) ?_
  refine aq 6 7 rfl (by kernel_rfl) (fun _=>U4 rfl rfl ko rfl (oO) (oK)) ?_
  refine au 7 6 rfl (by kernel_rfl) (fun _ _ _ aj Sz=>.inl (U5 rfl rfl cI rfl (Sz.suf.aG (i:=0) rfl rfl))) ?_
  refine aq 8 5 rfl (by kernel_rfl) (fun _=>U4 rfl rfl bR rfl (aL) (aJ)) ?_
  refine au 9 4 rfl (by kernel_rfl) (fun _ _ _ aj Sz=>.inl (U5 rfl rfl aw rfl (Sz.suf.aG (i:=2) rfl rfl))) ?_
  refine au 10 3 rfl (by kernel_rfl) (fun _ _ _ aj Sz=>.inl (U9 (C:=Uh) (((ga d.ae k).c).toNat) rfl rfl rfl aS (by first|rfl|omega) (hs2.mono (Hp.U6 aj Sz.mx)) (by first|omega|(simp only[ls];omega)))) ?_
  refine au 11 2 rfl (by kernel_rfl) (fun _ _ _ aj Sz=>.inl (U5 rfl rfl aw rfl ((hs2.mono (Hp.U6 aj Sz.mx)).cell Sz.um (i:=((ga d.ae k).c).toNat) (by first|omega|(simp only[ls];omega)) 0 rfl rfl))) ?_
  refine aq 12 1 rfl (by kernel_rfl) (fun _=>run_assign rfl rfl) ?_
  refine aq 13 0 rfl (by kernel_rfl) (fun _=>run_assign rfl rfl) ?_
  refine cF (by kernel_rfl) (fun w81 Ei=>?_)
  refine ah [0,4,7,8,9,10,11,12] rfl (U2 (U1 au0 O1 rfl rfl rfl (cM rfl (by kernel_rfl) Ei 14 rfl ?_)))
  clear Ei
  refine aq 0 13 rfl (by kernel_rfl) (fun _=>U4 rfl rfl ko rfl (oO) (oK)) ?_
  refine au 1 12 rfl (by kernel_rfl) (fun _ _ _ aj Sz=>.inl (U5 rfl rfl cI rfl (Sz.suf.aG (i:=1) rfl rfl))) ?_
  refine aq 2 11 rfl (by kernel_rfl) (fun _=>U4 rfl rfl bR rfl (aL) (aJ)) ?_
  refine au 3 10 rfl (by kernel_rfl) (fun _ _ _ aj Sz=>.inl (U5 rfl rfl aw rfl (Sz.suf.aG (i:=2) rfl rfl))) ?_
  refine au 4 9 rfl (by kernel_rfl) (fun _ _ _ aj Sz=>.inl (U9 (C:=Uh) (((ga d.ae k).a).toNat) rfl rfl rfl aS (by first|rfl|omega) (ht2.mono (Hp.U6 aj Sz.mx)) (by first|omega|(simp only[ls];omega)))) ?_
  refine au 5 8 rfl (by kernel_rfl) (fun _ _ _ aj Sz=>.inl (U5 rfl rfl aw rfl ((ht2.mono (Hp.U6 aj Sz.mx)).cell Sz.um (i:=((ga d.ae k).a).toNat) (by first|omega|(simp only[ls];omega)) 0 rfl rfl))) ?_
  refine aq 6 7 rfl (by kernel_rfl) (fun _=>U4 rfl rfl ko rfl (oO) (oK)) ?_
  refine au 7 6 rfl (by kernel_rfl) (fun _ _ _ aj Sz=>.inl (U5 rfl rfl cI rfl (Sz.suf.aG (i:=1) rfl rfl))) ?_
  refine aq 8 5 rfl (by kernel_rfl) (fun _=>U4 rfl rfl bR rfl (aL) (aJ)) ?_
  refine au 9 4 rfl (by kernel_rfl) (fun _ _ _ aj Sz=>.inl (U5 rfl rfl aw rfl (Sz.suf.aG (i:=2) rfl rfl))) ?_
  refine au 10 3 rfl (by kernel_rfl) (fun _ _ _ aj Sz=>.inl (U9 (C:=Uh) (((ga d.ae k).c).toNat) rfl rfl rfl aS (by first|rfl|omega) (ht2.mono (Hp.U6 aj Sz.mx)) (by first|omega|(simp only[ls];omega)))) ?_
  refine au 11 2 rfl (by kernel_rfl) (fun _ _ _ aj Sz=>.inl (U5 rfl rfl aw rfl ((ht2.mono (Hp.U6 aj Sz.mx)).cell Sz.um (i:=((ga d.ae k).c).toNat) (by first|omega|(simp only[ls];omega)) 0 rfl rfl))) ?_
  refine aq 12 1 rfl (by kernel_rfl) (fun _=>run_assign rfl rfl) ?_
  refine aq 13 0 rfl (by kernel_rfl) (fun _=>run_assign rfl rfl) ?_
  refine cF (by kernel_rfl) (fun w96 Ee=>?_)
  refine ah [0,4,8,9,10,11,12,13,14] rfl (U2 (U1 auZ O0 rfl rfl rfl (eZ 11 (.int .i64 ((kR d av s (aK d k 0):Nat):Int)) rfl (int_eq q0.1) (eZ 12 (.int .i64 ((kR d av s (aK d k 2):Nat):Int)) rfl (int_eq q2.1) (eZ 13 (.int .i64 ((kR d av (s+2^k) (aK d k 0):Nat):Int)) rfl (int_eq u0.1) (eZ 14 (.int .i64 ((kR d av (s+2^k) (aK d k 2):Nat):Int)) rfl (int_eq u2.1) ?_))))))
  have arw:mk/2^(dG d s).length*2^(dG d (s+2^k)).length=tB d s (s+2^k) k mk 0:=by rw[hrs,hrt];rfl
  have aBi:mk/2^(dG d s).length*2^(dG d (s+2^k)).length<16384:=by rw[hrs,hrt];exact hsh
  refine cM rfl (by kernel_rfl) Ee 14 rfl ?_
  clear Ee
  refine aq 0 13 rfl (by kernel_rfl) (fun _=>run_move rfl rfl) ?_
  refine aq 1 12 rfl (by kernel_rfl) (fun _=>U4 rfl rfl dZ rfl (aL) (aJ)) ?_
  refine au 2 11 rfl (by kernel_rfl) (fun _ _ _ aj Sz=>.inl (U5 rfl rfl aw rfl (Sz.suf.aG (i:=3) rfl rfl))) ?_
  refine aq 3 10 rfl (by kernel_rfl) (fun _=>U4 rfl rfl ko rfl (oO) (oK)) ?_
  refine au 4 9 rfl (by kernel_rfl) (fun _ _ _ aj Sz=>.inl (U5 rfl rfl cI rfl (Sz.suf.aG (i:=0) rfl rfl))) ?_
  refine au 5 8 rfl (by kernel_rfl) (fun _ _ _ aj Sz=>.inl (Uv rfl rfl rfl rfl rfl rfl cI)) ?_
  refine aq 6 7 rfl (by kernel_rfl) (fun _=>tN (s:=mk) (n:=((dG d s).length)) rfl rfl rfl (by first|omega|(simp only[ls];omega))) ?_
  refine aq 7 6 rfl (by kernel_rfl) (fun _=>U4 rfl rfl ko rfl (oO) (oK)) ?_
  refine au 8 5 rfl (by kernel_rfl) (fun _ _ _ aj Sz=>.inl (U5 rfl rfl cI rfl (Sz.suf.aG (i:=1) rfl rfl))) ?_
  refine au 9 4 rfl (by kernel_rfl) (fun _ _ _ aj Sz=>.inl (Uv rfl rfl rfl rfl rfl rfl cI)) ?_
  refine aq 10 3 rfl (by kernel_rfl) (fun _=>Ay (v:=(mk/2^((dG d s).length))) (n:=((dG d (s+2^k)).length)) rfl rfl rfl (by first|omega|(simp only[ls];omega)) (by first|omega|(simp only[ls];omega))) ?_
  refine au 11 2 rfl (by kernel_rfl) (fun _ _ _ aj Sz=>.inl (run_build (l:=[_,_]) rfl rfl aet rfl rfl)) ?_
  refine dv (i:=12) 1 rfl (by kernel_rfl) rfl rfl (fun aAE C5=>?_)
  refine(dh (l:=[_,_]) rfl rfl rfl yO rfl C5 ?_)
  intro HI aqU C4;clear C5
  refine bU.grow [_] (Hp.le_refl _) C4 ?_;clear C4
  change WA _ _ _ _ _ _ _ _ _ _ _ _ [_,_,_,_,_]
  refine dv (i:=13) 0 rfl (by kernel_rfl) rfl rfl (fun aAC C3=>?_)
  refine(Uo (i:=0) (us:=[_,_]) (l':=[_,_]) (H':=[_,_,_,_,_]) rfl rfl C3 rfl rfl rfl rfl gY rfl rfl rfl rfl ?_)
  intro LF xD;clear C3
  refine bU.grow [_] (Hp.le_refl _) xD ?_;clear xD
  change WA _ _ _ _ _ _ _ _ _ _ _ _ [_,_,_,_,_]
  refine cF (by kernel_rfl) (fun aAB zo=>?_)
  refine ah [0,4,10,11,12,13,14,15] rfl (U2 (U1 OZ OY rfl rfl rfl (U1 auY agJ rfl rfl rfl ?_)))
  rw[arw]at zo
  refine U0 rfl (ag 0 rfl (U4 rfl rfl ko rfl (oO) (oK)) (ag 1 rfl (U5 rfl rfl cI rfl (zo.aG (i:=2) rfl rfl)) (ag 2 rfl (Uv rfl rfl rfl rfl rfl rfl cI) (af 3 1 rfl rfl (U3 rfl (ah [0,4,10,11,12,13,14,15,89,90,91] rfl (U2 (U7 agI 0 rfl rfl rfl ?_))))))))
  refine Ui (fun aF ak aA=>∃(i:Nat),aF=kM d (s+2^k) -1*i/\Env 165 [(0,.pointer (some ⟨fP,0,none⟩)),(4,.pointer (some ⟨aI,0,none⟩)),(10,.pointer (some ⟨tE,0,none⟩)),(11,.int .i64 ((kR d av s (aK d k 0):Nat):Int)),(12,.int .i64 ((kR d av s (aK d k 2):Nat):Int)),(13,.int .i64 ((kR d av (s+2^k) (aK d k 0):Nat):Int)),(14,.int .i64 ((kR d av (s+2^k) (aK d k 2):Nat):Int)),(15,.pointer (some ⟨HI,0,none⟩)),(89,.slice ((ga vs (s+2^k)).k.A) (dG d (s+2^k)).length ((ga vs (s+2^k)).k.c)),(90,.int .i64 ((dG d (s+2^k)).length:Int)),(91,.int .i64 (i:Int))] ak/\SH aA M X [Rs.box HI 176 [.int .i64 ((s+2^k:Nat):Int),.int .i64 ((tB d s (s+2^k) k mk i:Nat):Int)],Rs.box tE 170 [.slice ((ga vs (s+2^k)).o.A) (kC d av (s+2^k)).length ((ga vs (s+2^k)).o.c),.slice ((ga vs (s+2^k)).k.A) (dG d (s+2^k)).length ((ga vs (s+2^k)).k.c)],Rs.box aI 176 [.int .i64 (s:Int),.int .i64 (mk:Int)]]/\i<=kM d (s+2^k)) rfl ?_ ?_
  ·intro ak ai
   refine⟨_,⟨0,rfl,ai.sub ⟨rfl,rfl,rfl,rfl,rfl,rfl,rfl,rfl,rfl,rfl,rfl,trivial⟩,zo.pick [0,2,4] [_,_,_] (by decide) ⟨rfl,rfl,rfl,trivial⟩,?cu⟩⟩
   case cu=>omega
  ·rintro m1 a2 aAA ⟨i,rfl,bS,dC,hi⟩
   clear zo
   refine aW bS (c:=OX) rfl ?_
   clear bS a2
   have aBf:=tq i hi
   refine U1 auX OW rfl rfl rfl (U0 rfl (ag 0 rfl (Un rfl rfl rfl) (U3 rfl (U2 (U1 OV OU rfl rfl rfl ?_)))))
   refine Ua auW auV rfl rfl rfl rfl (fun ar4=>?_) (fun ar4=>?_)
   ·refine Ub rfl (ah [0,4,10,11,12,13,14,15,89,90,91] rfl (U2 (U1 agH auU rfl rfl rfl (U7 OT 1 rfl rfl rfl (U1 auT OS rfl rfl rfl (U0 rfl (af 0 1 rfl rfl (ag 1 rfl (U9 (C:=Uh) i rfl rfl rfl aS (by first|rfl|omega) eH (by first|omega|(simp only[ls];omega))) ?_))))))))
    refine ag 2 rfl (U5 rfl rfl aw rfl (eH.cell dC.um (i:=i) (by first|omega|(simp only[ls];omega)) 0 rfl rfl)) ?_
    refine af 3 2 rfl rfl (U3 rfl (ah [0,4,10,11,12,13,14,15,89,90,91,16,17] rfl (U2 (U1 auS OQ rfl rfl rfl (eZ 17 (.int .i64 (((ga (dx d (s+2^k)) i):Nat):Int)) rfl (int_eq (amZ hab (s+2^k) (by omega))) ?_)))))
    have hgi:=z8 hab (s+2^k) (show i<kM d (s+2^k) by omega)
    have hpi:2^i<=2^13:=Nat.pow_le_pow_right (by decide) (by omega)
    refine U0 rfl (af 0 2 rfl rfl (ag 2 rfl (gG rfl rfl rfl) (af 3 1 rfl rfl ?_)))
    refine mA (k':=8) (d:=103) (decide (((((ga (dx d (s+2^k)) i):Nat):Int)≠((kR d av (s+2^k) (aK d k 0):Nat):Int))/\((((ga (dx d (s+2^k)) i):Nat):Int)≠((kR d av (s+2^k) (aK d k 2):Nat):Int)))) [(0,_),(4,_),(10,_),(11,_),(12,_),(13,_),(14,_),(15,_),(89,_),(90,_),(91,_),(16,_),(17,_)] ⟨rfl,rfl,rfl,rfl,rfl,rfl,rfl,rfl,rfl,rfl,rfl,rfl,rfl,trivial⟩ (fun aeL=>?_) ?_
    ·refine Uy (t:=99) rfl (fun L4=>?_) (fun L4=>?_)
     ·refine af 4 2 rfl rfl (aP 6 7 rfl rfl rfl rfl rfl rfl rfl rfl (U8 rfl rfl (gG rfl rfl rfl) (af 7 1 rfl rfl ?_)))
      exact cZ 103 (.bool (decide (((((ga (dx d (s+2^k)) i):Nat):Int)≠((kR d av (s+2^k) (aK d k 0):Nat):Int))/\((((ga (dx d (s+2^k)) i):Nat):Int)≠((kR d av (s+2^k) (aK d k 2):Nat):Int))))) rfl (congrArg Value.bool (decide_eq_decide.2 ⟨fun h=>⟨L4,h⟩,fun h=>h.2⟩)) (fH [(103,_),(0,_),(4,_),(10,_),(11,_),(12,_),(13,_),(14,_),(15,_),(89,_),(90,_),(91,_),(16,_),(17,_)] ⟨rfl,rfl,rfl,rfl,rfl,rfl,rfl,rfl,rfl,rfl,rfl,rfl,rfl,rfl,trivial⟩ aeL)
     ·refine af 4 4 rfl rfl ?_
      exact cZ 103 (.bool (decide (((((ga (dx d (s+2^k)) i):Nat):Int)≠((kR d av (s+2^k) (aK d k 0):Nat):Int))/\((((ga (dx d (s+2^k)) i):Nat):Int)≠((kR d av (s+2^k) (aK d k 2):Nat):Int))))) rfl (congrArg Value.bool (decide_eq_false (fun h=>L4 h.1)).symm) (fH [(103,_),(0,_),(4,_),(10,_),(11,_),(12,_),(13,_),(14,_),(15,_),(89,_),(90,_),(91,_),(16,_),(17,_)] ⟨rfl,rfl,rfl,rfl,rfl,rfl,rfl,rfl,rfl,rfl,rfl,rfl,rfl,rfl,trivial⟩ aeL)
    ·refine af 8 1 rfl rfl ?_
     refine Uy (t:=104) rfl (fun apR=>?_) (fun apR=>?_)
     ·refine af 9 1 rfl rfl (aP 10 11 rfl rfl rfl rfl rfl rfl rfl rfl (U8 rfl rfl (Uc (us:=[_,_]) rfl rfl dZ rfl gY (dC.aY (i:=2) rfl ⟨rfl,rfl,trivial⟩)) (af 11 1 rfl rfl (aP 12 13 rfl rfl rfl rfl rfl rfl rfl rfl (gJ rfl rfl rfl rfl rfl rfl rfl F6 dC (FC d s mk (ga (dx d (s+2^k)) i) (hcb.mono dC.Uq) (aH.mono dC.Uq) (hsc.mono dC.Uq) (hsi.mono dC.Uq) (aM.mono dC.Uq) (hst.mono dC.Uq) (hz.mono dC.Uq) hn hab hL hL2 (by omega) (by omega) (by omega) (ajY hab F (by omega) (by omega) (by omega)) dC.aR) ?_)))))
      rintro _ ae6 xC rfl;clear dC
      refine af 13 1 rfl rfl (U3 rfl (ah [0,4,10,11,12,13,14,15,89,90,91,16,109] rfl (U2 ?_)))
      refine dH auR agG rfl rfl rfl rfl (fun Lp=>?_) (fun Lp=>?_)
      ·refine cM rfl (by kernel_rfl) xC 7 rfl ?_
       clear xC
       refine aq 0 6 rfl (by kernel_rfl) (fun _=>U4 rfl rfl dZ rfl (aL) (aJ)) ?_
       refine au 1 5 rfl (by kernel_rfl) (fun _ _ _ aj Sz=>.inl (U5 rfl rfl aw rfl (Sz.suf.aG (i:=0) rfl rfl))) ?_
       refine aq 2 4 rfl (by kernel_rfl) (fun _=>run_move rfl rfl) ?_
       refine aq 3 3 rfl (by kernel_rfl) (fun _=>vM (n:=i) rfl rfl rfl (by first|omega|(simp only[ls];omega))) ?_
       refine aq 4 2 rfl (by kernel_rfl) (fun _=>Jt (s:=(tB d s (s+2^k) k mk i)) (r:=(2^i)) rfl rfl rfl (by first|omega|(simp only[ls];omega)) (by first|omega|(simp only[ls];omega))) ?_
       refine aq 5 1 rfl (by kernel_rfl) (fun _=>U4 rfl rfl dZ rfl (aL) (aJ)) ?_
       refine dv (i:=6) 0 rfl (by kernel_rfl) rfl rfl (fun aAu uV=>?_)
       refine(Uo (i:=0) (us:=[_]) (l':=[_,_]) (H':=[_,_,_]) rfl rfl uV rfl rfl rfl rfl dw rfl rfl rfl rfl ?_)
       intro aAt ah2;clear uV
       refine bU.turn (by kernel_rfl) ah2 ?_;clear ah2
       change WA _ _ _ _ _ _ _ _ _ _ _ _ [_,_,_]
       refine cF (by kernel_rfl) (fun aAs CW=>?_)
       refine Ul (ah [0,4,10,11,12,13,14,15,89,90,91] rfl (U2 ?_))
       have hnew:tB d s (s+2^k) k mk (i+1)=tB d s (s+2^k) k mk i ||| 2^i:=by rw[tB,if_pos (by unfold xG;rw[decide_eq_true (by omega),decide_eq_true (by omega),Bool.true_and,Bool.true_and];first|assumption|simp_all)]
       rw[<-hnew]at CW
       refine U0 rfl (ag 0 rfl (Ud rfl rfl rfl (by first|omega|(simp only[ls];omega))) ?_)
       refine af 1 1 rfl rfl (U3 rfl (Ut ?_))
       intro ak ai
       refine⟨_,?jf,⟨i+1,rfl,ai.sub ⟨rfl,rfl,rfl,rfl,rfl,rfl,rfl,rfl,rfl,rfl,rfl,trivial⟩,CW.pick [0,1,2] [_,_,_] (by decide) ⟨rfl,rfl,rfl,trivial⟩,?dL⟩⟩
       case dL=>omega
       case jf=>omega
      ·refine Ub rfl (Ul (ah [0,4,10,11,12,13,14,15,89,90,91] rfl (U2 ?_)))
       have hnew:tB d s (s+2^k) k mk (i+1)=tB d s (s+2^k) k mk i:=by rw[tB,if_neg (by unfold xG;intro h9;rw[Bool.and_eq_true,Bool.and_eq_true,decide_eq_true_iff,decide_eq_true_iff]at h9;obtain⟨e1,e2,e3⟩:=h9;first|omega|(rw[Lp]at e3;cases e3)|simp_all)]
       rw[<-hnew]at xC
       refine U0 rfl (ag 0 rfl (Ud rfl rfl rfl (by first|omega|(simp only[ls];omega))) ?_)
       refine af 1 1 rfl rfl (U3 rfl (Ut ?_))
       intro ak ai
       refine⟨_,?je,⟨i+1,rfl,ai.sub ⟨rfl,rfl,rfl,rfl,rfl,rfl,rfl,rfl,rfl,rfl,rfl,trivial⟩,xC.pick [0,1,2] [_,_,_] (by decide) ⟨rfl,rfl,rfl,trivial⟩,?ei⟩⟩
       case ei=>omega
       case je=>omega
     ·refine af 9 5 rfl rfl (U3 rfl (ah [0,4,10,11,12,13,14,15,89,90,91,16,109] rfl (U2 (jq agG rfl rfl rfl (Ub rfl (Ul (ah [0,4,10,11,12,13,14,15,89,90,91] rfl (U2 ?_))))))))
      have hnew:tB d s (s+2^k) k mk (i+1)=tB d s (s+2^k) k mk i:=by rw[tB,if_neg (by unfold xG;intro h9;rw[Bool.and_eq_true,Bool.and_eq_true,decide_eq_true_iff,decide_eq_true_iff]at h9;obtain⟨e1,e2,e3⟩:=h9;first|omega|(rw[Lp]at e3;cases e3)|simp_all)]
      rw[<-hnew]at dC
      refine U0 rfl (ag 0 rfl (Ud rfl rfl rfl (by first|omega|(simp only[ls];omega))) ?_)
      refine af 1 1 rfl rfl (U3 rfl (Ut ?_))
      intro ak ai
      refine⟨_,?lS,⟨i+1,rfl,ai.sub ⟨rfl,rfl,rfl,rfl,rfl,rfl,rfl,rfl,rfl,rfl,rfl,trivial⟩,dC.pick [0,1,2] [_,_,_] (by decide) ⟨rfl,rfl,rfl,trivial⟩,?fJ⟩⟩
      case fJ=>omega
      case lS=>omega
   ·refine Uk rfl rfl (ah [0,4,10,11,12,13,14,15] rfl (U2 (U1 auQ OP rfl rfl rfl ?_)))
    have hie:i=kM d (s+2^k):=by omega
    rw[hie]at dC
    refine U0 rfl (ag 0 rfl (Eb (vs:=[_,_]) rfl rfl rfl rfl) (af 1 1 rfl rfl (U3 rfl (ah [0,4,11,12,13,14,18] rfl (U2 (U1 agF OO rfl rfl rfl (U7 OM 2 rfl rfl rfl (U1 auP OL rfl rfl rfl ?_))))))))
    refine U0 rfl (af 0 2 rfl rfl (ag 2 rfl (gG rfl rfl rfl) (af 3 1 rfl rfl (U3 rfl (ah [0,4,11,12,13,14,18,118] rfl (U2 ?_))))))
    refine Ua OJ OI rfl rfl rfl rfl (fun apZ=>?_) (fun apZ=>?_)
    ·have hne:kR d av s (aK d k 0)≠kR d av s (aK d k 2):=by omega
     refine U1 OH OG rfl rfl rfl (U1 auO agE rfl rfl rfl (cM rfl (by kernel_rfl) dC 10 rfl ?_))
     clear dC
     refine aq 0 9 rfl (by kernel_rfl) (fun _=>run_move rfl rfl) ?_
     refine au 1 8 rfl (by kernel_rfl) (fun _ _ _ aj Sz=>.inl (Uc (us:=[_,_]) rfl rfl dZ rfl gY (Sz.suf.aY (i:=2) rfl ⟨rfl,rfl,trivial⟩))) ?_
     refine aq 2 7 rfl (by kernel_rfl) (fun _=>run_move rfl rfl) ?_
     refine au 3 6 rfl (by kernel_rfl) (fun _ _ _ aj Sz=>jT rfl rfl rfl rfl rfl F6 Sz (FC d s mk (kR d av s (aK d k 0)) ((hcb.mono (Hp.U6 aj Sz.mx)).mono Sz.Uq) ((aH.mono (Hp.U6 aj Sz.mx)).mono Sz.Uq) ((hsc.mono (Hp.U6 aj Sz.mx)).mono Sz.Uq) ((hsi.mono (Hp.U6 aj Sz.mx)).mono Sz.Uq) ((aM.mono (Hp.U6 aj Sz.mx)).mono Sz.Uq) ((hst.mono (Hp.U6 aj Sz.mx)).mono Sz.Uq) ((hz.mono (Hp.U6 aj Sz.mx)).mono Sz.Uq) hn hab hL hL2 (by omega) p0.1 (by omega) q0.2.2 Sz.aR)) ?_
     refine aq 4 5 rfl (by kernel_rfl) (fun _=>run_move rfl rfl) ?_
     refine au 5 4 rfl (by kernel_rfl) (fun _ _ _ aj Sz=>.inl (Uc (us:=[_,_]) rfl rfl dZ rfl gY (Sz.suf.aY (i:=2) rfl ⟨rfl,rfl,trivial⟩))) ?_
     refine aq 6 3 rfl (by kernel_rfl) (fun _=>run_move rfl rfl) ?_
     refine au 7 2 rfl (by kernel_rfl) (fun _ _ _ aj Sz=>jT rfl rfl rfl rfl rfl F6 Sz (FC d s mk (kR d av s (aK d k 2)) ((hcb.mono (Hp.U6 aj Sz.mx)).mono Sz.Uq) ((aH.mono (Hp.U6 aj Sz.mx)).mono Sz.Uq) ((hsc.mono (Hp.U6 aj Sz.mx)).mono Sz.Uq) ((hsi.mono (Hp.U6 aj Sz.mx)).mono Sz.Uq) ((aM.mono (Hp.U6 aj Sz.mx)).mono Sz.Uq) ((hst.mono (Hp.U6 aj Sz.mx)).mono Sz.Uq) ((hz.mono (Hp.U6 aj Sz.mx)).mono Sz.Uq) hn hab hL hL2 (by omega) p2.1 (by omega) q2.2.2 Sz.aR)) ?_
     refine aq 8 1 rfl (by kernel_rfl) (fun _=>run_assign rfl rfl) ?_
     refine aq 9 0 rfl (by kernel_rfl) (fun _=>run_assign rfl rfl) ?_
     refine cF (by kernel_rfl) (fun aqM eU=>?_)
     refine ah [13,18,19,20] rfl (U2 (U7 OE 3 rfl rfl rfl (U1 auN OD rfl rfl rfl (U0 rfl (af 0 2 rfl rfl ?_)))))
     refine Ap (t:=132) rfl (fun apQ=>?_) (fun apQ=>?_)
     ·refine af 2 3 rfl rfl (U3 rfl (ah [13,18,19,20,130] rfl (U2 ?_)))
      refine dH OC G0 rfl rfl rfl rfl (fun apY=>?_) (fun apY=>?_)
      ·refine U1 auM auL rfl rfl rfl (U0 rfl (af 0 2 rfl rfl (ar 2 3 rfl rfl rfl (Uf (C:=Uh) (l:=[_]) rfl rfl rfl rfl aS rfl rfl rfl rfl eU ?_))))
       intro gb8 aAp q7;clear eU
       have hr1:=q7.JB (C:=Uh) (z:=((kR d av (s+2^k) (aK d k 0):Nat):Int)) (i:=0) rfl rfl (by decide)
       refine ar 3 4 rfl rfl rfl (ui rfl rfl rfl rfl rfl rfl rfl uG q7 (ur ([((kR d av (s+2^k) (aK d k 0):Nat):Int)]) d (s+2^k) (tB d s (s+2^k) k mk (kM d (s+2^k))) hr1 (SH.kz (N:=[]) (i:=1) q7 rfl rfl) (SH.kz (N:=[]) (i:=2) q7 rfl rfl) (eH.mono q7.Uq) hn hab (tq _ (Nat.le_refl _)) (wR hab b0.1 b0.2) q7.aR) ?_)
       rintro _ aqL CV rfl;clear q7
       refine ar 4 5 rfl rfl rfl (Uf (C:=cQ) (l:=[_,_]) rfl rfl rfl rfl na rfl rfl rfl rfl CV ?_)
       intro gb9 aqK oW;clear CV
       refine af 5 1 rfl rfl (U3 rfl (ah [6] rfl (U2 ?_)))
       obtain⟨C8,oz,gP,hr2⟩:=oW.yD (C:=cQ) (z:=(⟨((s+2^k:Nat):Int),((iE d (s+2^k) (tB d s (s+2^k) k mk (kM d (s+2^k))) ([((kR d av (s+2^k) (aK d k 0):Nat):Int)]):Nat):Int)⟩:Pq)) (i:=0) (H':=[_,_,_,_,_]) rfl rfl rfl (by decide)
       clear oW
       replace aH:=aH.mono (Hp.U6 oz gP.mx)
       replace hsc:=hsc.mono (Hp.U6 oz gP.mx)
       replace hsi:=hsi.mono (Hp.U6 oz gP.mx)
       replace aM:=aM.mono (Hp.U6 oz gP.mx)
       replace hcb:=hcb.mono (Hp.U6 oz gP.mx)
       replace hst:=hst.mono (Hp.U6 oz gP.mx)
       replace hz:=hz.mono (Hp.U6 oz gP.mx)
       replace hs2:=hs2.mono (Hp.U6 oz gP.mx)
       replace hs4:=hs4.mono (Hp.U6 oz gP.mx)
       replace ht2:=ht2.mono (Hp.U6 oz gP.mx)
       replace eH:=eH.mono (Hp.U6 oz gP.mx)
       refine Us hC [_] rfl rfl ⟨rfl,trivial⟩ ?_
       refine⟨_,rfl,_,oz,(gP.pick [] [] (by decide) trivial),?_⟩
       have e9:fg d s k mk=[(⟨((s+2^k:Nat):Int),((iE d (s+2^k) (tB d s (s+2^k) k mk (kM d (s+2^k))) ([((kR d av (s+2^k) (aK d k 0):Nat):Int)]):Nat):Int)⟩:Pq)]:=by
        unfold fg dY
        have z0:=dE hab (s+2^k) b0.1 b0.2
        have z2:=dE hab (s+2^k) b2.1 b2.2
        clear hz hcb hst aH hsc hsi aM hs2 hs4 ht2 eH q0 q2 u0 u2 sN sL
        simp_all[dE hab s b0.1 b0.2,dE hab s b2.1 b2.2,sY,sX]
       rw[e9]
       exact⟨_,_,rfl,hr2⟩
      ·refine U1 agD GZ rfl rfl rfl (U0 rfl (af 0 2 rfl rfl ?_))
       refine Ap (t:=142) rfl (fun Le=>?_) (fun Le=>?_)
       ·refine af 2 3 rfl rfl (U3 rfl (ah [18,140] rfl (U2 (rM zk rfl rfl rfl (U1 GY GX rfl rfl rfl (U0 rfl (af 0 1 rfl rfl (ar 1 2 rfl rfl rfl (ui rfl rfl rfl rfl rfl rfl rfl uG eU (ur ([]) d (s+2^k) (tB d s (s+2^k) k mk (kM d (s+2^k))) aB.bN (SH.kz (N:=[]) (i:=0) eU rfl rfl) (SH.kz (N:=[]) (i:=1) eU rfl rfl) (eH.mono eU.Uq) hn hab (tq _ (Nat.le_refl _)) (by intro j hj;simp at hj) eU.aR) ?_)))))))))
        rintro _ aqJ uU rfl;clear eU
        refine ar 2 3 rfl rfl rfl (Uf (C:=cQ) (l:=[_,_]) rfl rfl rfl rfl na rfl rfl rfl rfl uU ?_)
        intro aBS aAo p9;clear uU
        refine af 3 1 rfl rfl (U3 rfl (ah [6] rfl (U2 ?_)))
        obtain⟨azr,jJ,iU,hr3⟩:=p9.yD (C:=cQ) (z:=(⟨((s+2^k:Nat):Int),((iE d (s+2^k) (tB d s (s+2^k) k mk (kM d (s+2^k))) ([]):Nat):Int)⟩:Pq)) (i:=0) (H':=[_,_,_,_]) rfl rfl rfl (by decide)
        clear p9
        replace aH:=aH.mono (Hp.U6 jJ iU.mx)
        replace hsc:=hsc.mono (Hp.U6 jJ iU.mx)
        replace hsi:=hsi.mono (Hp.U6 jJ iU.mx)
        replace aM:=aM.mono (Hp.U6 jJ iU.mx)
        replace hcb:=hcb.mono (Hp.U6 jJ iU.mx)
        replace hst:=hst.mono (Hp.U6 jJ iU.mx)
        replace hz:=hz.mono (Hp.U6 jJ iU.mx)
        replace hs2:=hs2.mono (Hp.U6 jJ iU.mx)
        replace hs4:=hs4.mono (Hp.U6 jJ iU.mx)
        replace ht2:=ht2.mono (Hp.U6 jJ iU.mx)
        replace eH:=eH.mono (Hp.U6 jJ iU.mx)
        refine Us hC [_] rfl rfl ⟨rfl,trivial⟩ ?_
        refine⟨_,rfl,_,jJ,(iU.pick [] [] (by decide) trivial),?_⟩
        have e9:fg d s k mk=[(⟨((s+2^k:Nat):Int),((iE d (s+2^k) (tB d s (s+2^k) k mk (kM d (s+2^k))) ([]):Nat):Int)⟩:Pq)]:=by
         unfold fg dY
         have z0:=dE hab (s+2^k) b0.1 b0.2
         have z2:=dE hab (s+2^k) b2.1 b2.2
         clear hz hcb hst aH hsc hsi aM hs2 hs4 ht2 eH q0 q2 u0 u2 sN sL
         simp_all[dE hab s b0.1 b0.2,dE hab s b2.1 b2.2,sY,sX]
        rw[e9]
        exact⟨_,_,rfl,hr3⟩
       ·refine af 2 3 rfl rfl (U3 rfl (ah [18,140] rfl (U2 ?_)))
        refine dH zk agC rfl rfl rfl rfl (fun Ll=>?_) (fun Ll=>?_)
        ·refine U1 GY GX rfl rfl rfl (U0 rfl (af 0 1 rfl rfl (ar 1 2 rfl rfl rfl (ui rfl rfl rfl rfl rfl rfl rfl uG eU (ur ([]) d (s+2^k) (tB d s (s+2^k) k mk (kM d (s+2^k))) aB.bN (SH.kz (N:=[]) (i:=0) eU rfl rfl) (SH.kz (N:=[]) (i:=1) eU rfl rfl) (eH.mono eU.Uq) hn hab (tq _ (Nat.le_refl _)) (by intro j hj;simp at hj) eU.aR) ?_))))
         rintro _ aAn CU rfl;clear eU
         refine ar 2 3 rfl rfl rfl (Uf (C:=cQ) (l:=[_,_]) rfl rfl rfl rfl na rfl rfl rfl rfl CU ?_)
         intro aBR aAm oV;clear CU
         refine af 3 1 rfl rfl (U3 rfl (ah [6] rfl (U2 ?_)))
         obtain⟨azq,ow,fR,hr4⟩:=oV.yD (C:=cQ) (z:=(⟨((s+2^k:Nat):Int),((iE d (s+2^k) (tB d s (s+2^k) k mk (kM d (s+2^k))) ([]):Nat):Int)⟩:Pq)) (i:=0) (H':=[_,_,_,_]) rfl rfl rfl (by decide)
         clear oV
         replace aH:=aH.mono (Hp.U6 ow fR.mx)
         replace hsc:=hsc.mono (Hp.U6 ow fR.mx)
         replace hsi:=hsi.mono (Hp.U6 ow fR.mx)
         replace aM:=aM.mono (Hp.U6 ow fR.mx)
         replace hcb:=hcb.mono (Hp.U6 ow fR.mx)
         replace hst:=hst.mono (Hp.U6 ow fR.mx)
         replace hz:=hz.mono (Hp.U6 ow fR.mx)
         replace hs2:=hs2.mono (Hp.U6 ow fR.mx)
         replace hs4:=hs4.mono (Hp.U6 ow fR.mx)
         replace ht2:=ht2.mono (Hp.U6 ow fR.mx)
         replace eH:=eH.mono (Hp.U6 ow fR.mx)
         refine Us hC [_] rfl rfl ⟨rfl,trivial⟩ ?_
         refine⟨_,rfl,_,ow,(fR.pick [] [] (by decide) trivial),?_⟩
         have e9:fg d s k mk=[(⟨((s+2^k:Nat):Int),((iE d (s+2^k) (tB d s (s+2^k) k mk (kM d (s+2^k))) ([]):Nat):Int)⟩:Pq)]:=by
          unfold fg dY
          have z0:=dE hab (s+2^k) b0.1 b0.2
          have z2:=dE hab (s+2^k) b2.1 b2.2
          clear hz hcb hst aH hsc hsi aM hs2 hs4 ht2 eH q0 q2 u0 u2 sN sL
          simp_all[dE hab s b0.1 b0.2,dE hab s b2.1 b2.2,sY,sX]
         rw[e9]
         exact⟨_,_,rfl,hr4⟩
        ·refine Ub rfl (Ul (Uw [] trivial (U2 (U1 agB agA rfl rfl rfl (U0 rfl (af 0 1 rfl rfl (U3 rfl (U2 ?_))))))))
         refine Us hC [_] rfl rfl ⟨rfl,trivial⟩ ?_
         refine⟨_,rfl,_,Hp.le_refl _,(eU.pick [] [] (by decide) trivial),?_⟩
         have e9:fg d s k mk=[]:=by
          unfold fg dY
          have z0:=dE hab (s+2^k) b0.1 b0.2
          have z2:=dE hab (s+2^k) b2.1 b2.2
          clear hz hcb hst aH hsc hsi aM hs2 hs4 ht2 eH q0 q2 u0 u2 sN sL
          simp_all[dE hab s b0.1 b0.2,dE hab s b2.1 b2.2,sY,sX]
         rw[e9]
         exact⟨_,_,rfl,aB.bN⟩
     ·refine af 2 3 rfl rfl (U3 rfl (ah [13,18,19,20,130] rfl (U2 (jq G0 rfl rfl rfl (U1 agD GZ rfl rfl rfl (U0 rfl (af 0 2 rfl rfl ?_)))))))
      refine Ap (t:=142) rfl (fun Le=>?_) (fun Le=>?_)
      ·refine af 2 3 rfl rfl (U3 rfl (ah [18,140] rfl (U2 (rM zk rfl rfl rfl (U1 GY GX rfl rfl rfl (U0 rfl (af 0 1 rfl rfl (ar 1 2 rfl rfl rfl (ui rfl rfl rfl rfl rfl rfl rfl uG eU (ur ([]) d (s+2^k) (tB d s (s+2^k) k mk (kM d (s+2^k))) aB.bN (SH.kz (N:=[]) (i:=0) eU rfl rfl) (SH.kz (N:=[]) (i:=1) eU rfl rfl) (eH.mono eU.Uq) hn hab (tq _ (Nat.le_refl _)) (by intro j hj;simp at hj) eU.aR) ?_)))))))))
       rintro _ aAl uT rfl;clear eU
       refine ar 2 3 rfl rfl rfl (Uf (C:=cQ) (l:=[_,_]) rfl rfl rfl rfl na rfl rfl rfl rfl uT ?_)
       intro aBQ aAk zm;clear uT
       refine af 3 1 rfl rfl (U3 rfl (ah [6] rfl (U2 ?_)))
       obtain⟨aB2,gX,ji,jQ⟩:=zm.yD (C:=cQ) (z:=(⟨((s+2^k:Nat):Int),((iE d (s+2^k) (tB d s (s+2^k) k mk (kM d (s+2^k))) ([]):Nat):Int)⟩:Pq)) (i:=0) (H':=[_,_,_,_]) rfl rfl rfl (by decide)
       clear zm
       replace aH:=aH.mono (Hp.U6 gX ji.mx)
       replace hsc:=hsc.mono (Hp.U6 gX ji.mx)
       replace hsi:=hsi.mono (Hp.U6 gX ji.mx)
       replace aM:=aM.mono (Hp.U6 gX ji.mx)
       replace hcb:=hcb.mono (Hp.U6 gX ji.mx)
       replace hst:=hst.mono (Hp.U6 gX ji.mx)
       replace hz:=hz.mono (Hp.U6 gX ji.mx)
       replace hs2:=hs2.mono (Hp.U6 gX ji.mx)
       replace hs4:=hs4.mono (Hp.U6 gX ji.mx)
       replace ht2:=ht2.mono (Hp.U6 gX ji.mx)
       replace eH:=eH.mono (Hp.U6 gX ji.mx)
       refine Us hC [_] rfl rfl ⟨rfl,trivial⟩ ?_
       refine⟨_,rfl,_,gX,(ji.pick [] [] (by decide) trivial),?_⟩
       have e9:fg d s k mk=[(⟨((s+2^k:Nat):Int),((iE d (s+2^k) (tB d s (s+2^k) k mk (kM d (s+2^k))) ([]):Nat):Int)⟩:Pq)]:=by
        unfold fg dY
        have z0:=dE hab (s+2^k) b0.1 b0.2
        have z2:=dE hab (s+2^k) b2.1 b2.2
        clear hz hcb hst aH hsc hsi aM hs2 hs4 ht2 eH q0 q2 u0 u2 sN sL
        simp_all[dE hab s b0.1 b0.2,dE hab s b2.1 b2.2,sY,sX]
       rw[e9]
       exact⟨_,_,rfl,jQ⟩
      ·refine af 2 3 rfl rfl (U3 rfl (ah [18,140] rfl (U2 ?_)))
       refine dH zk agC rfl rfl rfl rfl (fun Ll=>?_) (fun Ll=>?_)
       ·refine U1 GY GX rfl rfl rfl (U0 rfl (af 0 1 rfl rfl (ar 1 2 rfl rfl rfl (ui rfl rfl rfl rfl rfl rfl rfl uG eU (ur ([]) d (s+2^k) (tB d s (s+2^k) k mk (kM d (s+2^k))) aB.bN (SH.kz (N:=[]) (i:=0) eU rfl rfl) (SH.kz (N:=[]) (i:=1) eU rfl rfl) (eH.mono eU.Uq) hn hab (tq _ (Nat.le_refl _)) (by intro j hj;simp at hj) eU.aR) ?_))))
        rintro _ aAj qZ rfl;clear eU
        refine ar 2 3 rfl rfl rfl (Uf (C:=cQ) (l:=[_,_]) rfl rfl rfl rfl na rfl rfl rfl rfl qZ ?_)
        intro aBP aAi CT;clear qZ
        refine af 3 1 rfl rfl (U3 rfl (ah [6] rfl (U2 ?_)))
        obtain⟨aB1,jI,oU,nS⟩:=CT.yD (C:=cQ) (z:=(⟨((s+2^k:Nat):Int),((iE d (s+2^k) (tB d s (s+2^k) k mk (kM d (s+2^k))) ([]):Nat):Int)⟩:Pq)) (i:=0) (H':=[_,_,_,_]) rfl rfl rfl (by decide)
        clear CT
        replace aH:=aH.mono (Hp.U6 jI oU.mx)
        replace hsc:=hsc.mono (Hp.U6 jI oU.mx)
        replace hsi:=hsi.mono (Hp.U6 jI oU.mx)
        replace aM:=aM.mono (Hp.U6 jI oU.mx)
        replace hcb:=hcb.mono (Hp.U6 jI oU.mx)
        replace hst:=hst.mono (Hp.U6 jI oU.mx)
        replace hz:=hz.mono (Hp.U6 jI oU.mx)
        replace hs2:=hs2.mono (Hp.U6 jI oU.mx)
        replace hs4:=hs4.mono (Hp.U6 jI oU.mx)
        replace ht2:=ht2.mono (Hp.U6 jI oU.mx)
        replace eH:=eH.mono (Hp.U6 jI oU.mx)
        refine Us hC [_] rfl rfl ⟨rfl,trivial⟩ ?_
        refine⟨_,rfl,_,jI,(oU.pick [] [] (by decide) trivial),?_⟩
        have e9:fg d s k mk=[(⟨((s+2^k:Nat):Int),((iE d (s+2^k) (tB d s (s+2^k) k mk (kM d (s+2^k))) ([]):Nat):Int)⟩:Pq)]:=by
         unfold fg dY
         have z0:=dE hab (s+2^k) b0.1 b0.2
         have z2:=dE hab (s+2^k) b2.1 b2.2
         clear hz hcb hst aH hsc hsi aM hs2 hs4 ht2 eH q0 q2 u0 u2 sN sL
         simp_all[dE hab s b0.1 b0.2,dE hab s b2.1 b2.2,sY,sX]
        rw[e9]
        exact⟨_,_,rfl,nS⟩
       ·refine Ub rfl (Ul (Uw [] trivial (U2 (U1 agB agA rfl rfl rfl (U0 rfl (af 0 1 rfl rfl (U3 rfl (U2 ?_))))))))
        refine Us hC [_] rfl rfl ⟨rfl,trivial⟩ ?_
        refine⟨_,rfl,_,Hp.le_refl _,(eU.pick [] [] (by decide) trivial),?_⟩
        have e9:fg d s k mk=[]:=by
         unfold fg dY
         have z0:=dE hab (s+2^k) b0.1 b0.2
         have z2:=dE hab (s+2^k) b2.1 b2.2
         clear hz hcb hst aH hsc hsi aM hs2 hs4 ht2 eH q0 q2 u0 u2 sN sL
         simp_all[dE hab s b0.1 b0.2,dE hab s b2.1 b2.2,sY,sX]
        rw[e9]
        exact⟨_,_,rfl,aB.bN⟩
    ·have hne:kR d av s (aK d k 0)=kR d av s (aK d k 2):=by omega
     refine U1 auK OB rfl rfl rfl (U0 rfl (af 0 1 rfl rfl (ag 1 rfl (Uc (us:=[_,_]) rfl rfl dZ rfl gY (dC.aY (i:=2) rfl ⟨rfl,rfl,trivial⟩)) (af 2 1 rfl rfl (ar 3 4 rfl rfl rfl (gJ rfl rfl rfl rfl rfl rfl rfl F6 dC (FC d s mk (kR d av s (aK d k 0)) (hcb.mono dC.Uq) (aH.mono dC.Uq) (hsc.mono dC.Uq) (hsi.mono dC.Uq) (aM.mono dC.Uq) (hst.mono dC.Uq) (hz.mono dC.Uq) hn hab hL hL2 (by omega) p0.1 (by omega) q0.2.2 dC.aR) ?_))))))
     rintro _ aAh uS rfl;clear dC
     refine af 4 1 rfl rfl (U3 rfl (ah [13,14,18,148] rfl (U2 ?_)))
     refine dH OA auJ rfl rfl rfl rfl (fun Lj=>?_) (fun Lj=>?_)
     ·rw[dE hab s b0.1 b0.2]at Lj
      refine U1 auI auH rfl rfl rfl (U0 rfl (af 0 2 rfl rfl (ar 2 3 rfl rfl rfl (Uf (C:=Uh) (l:=[_]) rfl rfl rfl rfl aS rfl rfl rfl rfl uS ?_))))
      intro aBO aAg xB;clear uS
      have tA:=xB.JB (C:=Uh) (z:=((kR d av (s+2^k) (aK d k 0):Nat):Int)) (i:=0) rfl rfl (by decide)
      refine ar 3 4 rfl rfl rfl (ui rfl rfl rfl rfl rfl rfl rfl uG xB (ur ([((kR d av (s+2^k) (aK d k 0):Nat):Int)]) d (s+2^k) (tB d s (s+2^k) k mk (kM d (s+2^k))) tA (SH.kz (N:=[]) (i:=1) xB rfl rfl) (SH.kz (N:=[]) (i:=2) xB rfl rfl) (eH.mono xB.Uq) hn hab (tq _ (Nat.le_refl _)) (wR hab b0.1 b0.2) xB.aR) ?_)
      rintro _ aAf ah0 rfl;clear xB
      refine af 4 2 rfl rfl (ar 6 7 rfl rfl rfl (Uf (C:=Uh) (l:=[_]) rfl rfl rfl rfl aS rfl rfl rfl rfl ah0 ?_))
      intro aBN aAe xA;clear ah0
      have Ds:=xA.JB (C:=Uh) (z:=((kR d av (s+2^k) (aK d k 2):Nat):Int)) (i:=0) rfl rfl (by decide)
      refine ar 7 8 rfl rfl rfl (ui rfl rfl rfl rfl rfl rfl rfl uG xA (ur ([((kR d av (s+2^k) (aK d k 2):Nat):Int)]) d (s+2^k) (tB d s (s+2^k) k mk (kM d (s+2^k))) Ds (SH.kz (N:=[]) (i:=2) xA rfl rfl) (SH.kz (N:=[]) (i:=3) xA rfl rfl) (eH.mono xA.Uq) hn hab (tq _ (Nat.le_refl _)) (wR hab b2.1 b2.2) xA.aR) ?_)
      rintro _ aAd ahZ rfl;clear xA
      refine ar 8 9 rfl rfl rfl (aac (C:=cQ) (l:=[_,_,_,_]) (pl:=[(0,2),(2,2)]) rfl rfl rfl rfl na rfl rfl rfl rfl rfl ahZ ?_)
      intro aBM aqI ahY;clear ahZ
      refine af 9 1 rfl rfl (U3 rfl (ah [6] rfl (U2 ?_)))
      have ahX:=ahY.KM (C:=cQ) [(⟨((s+2^k:Nat):Int),((iE d (s+2^k) (tB d s (s+2^k) k mk (kM d (s+2^k))) ([((kR d av (s+2^k) (aK d k 0):Nat):Int)]):Nat):Int)⟩:Pq),(⟨((s+2^k:Nat):Int),((iE d (s+2^k) (tB d s (s+2^k) k mk (kM d (s+2^k))) ([((kR d av (s+2^k) (aK d k 2):Nat):Int)]):Nat):Int)⟩:Pq)] (i:=0) (H':=[_,_,_,_,_,_]) rfl rfl (by simp) rfl;clear ahY
      obtain⟨aB0,jr,oQ,⟨_,_,eE,Vf⟩⟩:=ahX.gW (i:=0) (H':=[_,_,_,_,_,_]) rfl rfl (by show 2*_<=_;decide);clear ahX;injection eE with VI _ VH;subst VI;subst VH
      replace aH:=aH.mono (Hp.U6 jr oQ.mx)
      replace hsc:=hsc.mono (Hp.U6 jr oQ.mx)
      replace hsi:=hsi.mono (Hp.U6 jr oQ.mx)
      replace aM:=aM.mono (Hp.U6 jr oQ.mx)
      replace hcb:=hcb.mono (Hp.U6 jr oQ.mx)
      replace hst:=hst.mono (Hp.U6 jr oQ.mx)
      replace hz:=hz.mono (Hp.U6 jr oQ.mx)
      replace hs2:=hs2.mono (Hp.U6 jr oQ.mx)
      replace hs4:=hs4.mono (Hp.U6 jr oQ.mx)
      replace ht2:=ht2.mono (Hp.U6 jr oQ.mx)
      replace eH:=eH.mono (Hp.U6 jr oQ.mx)
      refine Us hC [_] rfl rfl ⟨rfl,trivial⟩ ?_
      refine⟨_,rfl,_,jr,(oQ.pick [] [] (by decide) trivial),?_⟩
      have e9:fg d s k mk=[(⟨((s+2^k:Nat):Int),((iE d (s+2^k) (tB d s (s+2^k) k mk (kM d (s+2^k))) ([((kR d av (s+2^k) (aK d k 0):Nat):Int)]):Nat):Int)⟩:Pq),(⟨((s+2^k:Nat):Int),((iE d (s+2^k) (tB d s (s+2^k) k mk (kM d (s+2^k))) ([((kR d av (s+2^k) (aK d k 2):Nat):Int)]):Nat):Int)⟩:Pq)]:=by
       unfold fg dY
       have z0:=dE hab (s+2^k) b0.1 b0.2
       have z2:=dE hab (s+2^k) b2.1 b2.2
       clear hz hcb hst aH hsc hsi aM hs2 hs4 ht2 eH q0 q2 u0 u2 sN sL
       simp_all[dE hab s b0.1 b0.2,dE hab s b2.1 b2.2,sY,sX]
      rw[e9]
      exact⟨_,_,rfl,Vf⟩
     ·rw[dE hab s b0.1 b0.2]at Lj
      refine Ub rfl (Ul (ah [18] rfl (U2 (U1 auG auF rfl rfl rfl (U0 rfl (af 0 1 rfl rfl (ar 1 2 rfl rfl rfl (ui rfl rfl rfl rfl rfl rfl rfl uG uS (ur ([]) d (s+2^k) (tB d s (s+2^k) k mk (kM d (s+2^k))) aB.bN (SH.kz (N:=[]) (i:=0) uS rfl rfl) (SH.kz (N:=[]) (i:=1) uS rfl rfl) (eH.mono uS.Uq) hn hab (tq _ (Nat.le_refl _)) (by intro j hj;simp at hj) uS.aR) ?_))))))))
      rintro _ aqH ahW rfl;clear uS
      refine ar 2 3 rfl rfl rfl (Uf (C:=cQ) (l:=[_,_]) rfl rfl rfl rfl na rfl rfl rfl rfl ahW ?_)
      intro aBL aqG ahV;clear ahW
      refine af 3 1 rfl rfl (U3 rfl (ah [6] rfl (U2 ?_)))
      obtain⟨aBZ,ot,l6,arz⟩:=ahV.yD (C:=cQ) (z:=(⟨((s+2^k:Nat):Int),((iE d (s+2^k) (tB d s (s+2^k) k mk (kM d (s+2^k))) ([]):Nat):Int)⟩:Pq)) (i:=0) (H':=[_,_,_,_]) rfl rfl rfl (by decide)
      clear ahV
      replace aH:=aH.mono (Hp.U6 ot l6.mx)
      replace hsc:=hsc.mono (Hp.U6 ot l6.mx)
      replace hsi:=hsi.mono (Hp.U6 ot l6.mx)
      replace aM:=aM.mono (Hp.U6 ot l6.mx)
      replace hcb:=hcb.mono (Hp.U6 ot l6.mx)
      replace hst:=hst.mono (Hp.U6 ot l6.mx)
      replace hz:=hz.mono (Hp.U6 ot l6.mx)
      replace hs2:=hs2.mono (Hp.U6 ot l6.mx)
      replace hs4:=hs4.mono (Hp.U6 ot l6.mx)
      replace ht2:=ht2.mono (Hp.U6 ot l6.mx)
      replace eH:=eH.mono (Hp.U6 ot l6.mx)
      refine Us hC [_] rfl rfl ⟨rfl,trivial⟩ ?_
      refine⟨_,rfl,_,ot,(l6.pick [] [] (by decide) trivial),?_⟩
      have e9:fg d s k mk=[(⟨((s+2^k:Nat):Int),((iE d (s+2^k) (tB d s (s+2^k) k mk (kM d (s+2^k))) ([]):Nat):Int)⟩:Pq)]:=by
       unfold fg dY
       have z0:=dE hab (s+2^k) b0.1 b0.2
       have z2:=dE hab (s+2^k) b2.1 b2.2
       clear hz hcb hst aH hsc hsi aM hs2 hs4 ht2 eH q0 q2 u0 u2 sN sL
       simp_all[dE hab s b0.1 b0.2,dE hab s b2.1 b2.2,sY,sX]
      rw[e9]
      exact⟨_,_,rfl,arz⟩
end Go.Proofs.YthppkofceancjaaGreat
