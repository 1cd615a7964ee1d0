/- Part 9 of the proof of the law KhovanovTells: the walks through its functions and the plain laws that they need. -/
import Derived.Test.YthppkofceancjaaGreatKhX8
set_option linter.unusedSimpArgs false
set_option linter.unusedVariables false
noncomputable section
namespace Go.Proofs.YthppkofceancjaaGreat
open Go.ChangeShapes Go.WideShapes Go.ChangeAt Go.RowKit
noncomputable def ZF:=Tryz.f62.body.getD .skip
def Zns:=cL ZF
def ZE:=cR ZF
def Znu:=cL ZE
def ZC:=cR ZE
def Znw:=cL ZC
def ZB:=cR ZC
def ZA:=cL ZB
def Y9:=cR ZB
def Zo0:=cL ZA
def Zo1:=cR ZA
def Zo2:=cL Zo1
def Y8:=cL Zo2
def Y7:=cL Y8
def Y6:=cR Y8
def Zo6:=cL Y7
def Y5:=cR Y7
def Zo8:=cL Y5
def Zo9:=cR Y5
def Zoa:=cL Y6
def Zob:=cR Y6
def Y4:=cL Zoa
def Y3:=cL Y4
def Y2:=cR Y4
def Zof:=cL Y3
def Y1:=cR Y3
def Zoh:=cL Y1
def Zoi:=cR Y1
def Zoj:=cL Y2
def Y0:=cR Y2
def Zol:=cL Y0
def YZ:=cR Y0
def Zon:=cL YZ
def YY:=cR YZ
def Zop:=cL YY
def YX:=cR YY
def Zor:=cL YX
def YW:=cR YX
def YV:=cL YW
def YU:=cR YW
def Zov:=cL YV
def Zow:=cR YV
def Zox:=cL Zow
def YT:=cL Zox
def YS:=cL YT
def YR:=cR YT
def Zp1:=cL YS
def YQ:=cR YS
def Zp3:=cL YQ
def Zp4:=cR YQ
def Zp5:=cL YR
def Zp6:=cR YR
def Zp7:=cL Zp5
def YP:=cL YU
def YO:=cR YU
def Zpa:=cL YP
def Zpb:=cR YP
def Zpc:=cL Zpb
def YN:=cL Zpc
def YM:=cL YN
def YL:=cR YN
def Zpg:=cL YM
def YK:=cR YM
def Zpi:=cL YK
def Zpj:=cR YK
def Zpk:=cL YL
def Zpl:=cR YL
def YJ:=cL Zpk
def Zpn:=cL YJ
def YI:=cR YJ
def Zpp:=cL YI
def Zpq:=cR YI
def Zpr:=cL YO
def YH:=cR YO
def Zpt:=cL YH
def YG:=cR YH
def YF:=cL YG
def YE:=cR YG
def Zpx:=cL YF
def YD:=cR YF
def Zpz:=cL YD
def Zq0:=cR YD
def H8:=cL YE
def H7:=cR YE
def Zq3:=cL H8
def H6:=cR H8
def Zq5:=cL H6
def Zq6:=cR H6
def D3:=cL H7
def DZ:=cR H7
def YC:=cL D3
def DY:=cR D3
def YB:=cL DY
def YA:=cR DY
def H5:=cL DZ
def DX:=cR DZ
def DW:=cL DX
def zY:=cL DW
def zX:=cL zY
def zW:=cR zY
def H3:=cL zX
def zV:=cR zX
def HV:=cL zV
def HT:=cR zV
def HR:=cL zW
def Yz:=cR zW
def DV:=cL HR
def Yy:=cL DV
def DU:=cR DV
def Yx:=cL DU
def DT:=cR DU
def Yw:=cL DT
def DS:=cR DT
def DR:=cL DS
def Yv:=cR DS
def Yu:=cL DR
def HQ:=cR DR
def HP:=cL HQ
def DN:=cL HP
def DM:=cL DN
def DL:=cR DN
def Yt:=cL DM
def DK:=cR DM
def Yr:=cL DK
def Yq:=cR DK
def HM:=cL DL
def Yp:=cR DL
def Yo:=cL HM
def Zrb:=cL Y9
def Zrc:=cR Y9
set_option maxHeartbeats 4000000 in
set_option maxRecDepth 10000 in
theorem azt{w:World}{M:Hp}{X:Fr}(d:Dg){aV:Option Addr}{aU:Nat}(s mn:Nat)(ay:aB bw (M.un X.h) aV aU d.ae){L:Nat}(hn:d.ae.length<=6)(hab:Uu d=true)(hL:d.loops=(L:Int))(hL2:L<=2)(hs:s<64)(Dx:mn<2^62)(S:SH w M X []):Ct Tryz.prog 62 [.agg [.slice aV d.ae.length aU,.int .i64 d.loops].toArray,.agg [.int .i64 (s:Int),.int .i64 (mn:Int)].toArray] w M X (fun u N=>∃A c,u=.slice A (fq d L s mn d.ae.length).length c/\aB dW N A c (fq d L s mn d.ae.length)):=by
 unfold Ct
 have jH:d.ae.length*40<=140737488355328:=ay.room
 refine Up (b:=ZF) Tryz.func62 rfl Tryz.ntmps62 rfl (fun C hC=>(bu [(0,_),(1,_)] ⟨rfl,rfl,trivial⟩ (U1 Zns ZE rfl rfl rfl (U0 rfl (ar 0 1 rfl rfl rfl (cU (l:=[_,_]) rfl rfl rfl rfl rfl S ?_))))))
 intro aI w1 S1;clear S
 refine ar 1 2 rfl rfl rfl (cU (l:=[_,_]) rfl rfl rfl rfl rfl S1 ?_)
 intro bq w2 S2;clear S1
 refine af 2 1 rfl rfl (U3 rfl (ah [2,3] rfl (U2 (U1 Znu ZC rfl rfl rfl (U0 rfl (af 0 1 rfl rfl (U3 rfl (U2 ?_))))))))
 refine U1 Znw ZB rfl rfl rfl (U0 rfl (ag 0 rfl (Uc (us:=[_,_]) rfl rfl bg rfl dM (S2.aY (i:=1) rfl ⟨rfl,rfl,trivial⟩)) (ag 1 rfl (U4 rfl rfl mC rfl (aL) (aJ)) (ag 2 rfl (U5 rfl rfl aw rfl (S2.aG (i:=0) rfl rfl)) (ar 3 4 rfl rfl rfl (dt rfl rfl rfl rfl rfl rfl rfl LA S2 (IC d s (ay.mono S2.Uq) (by omega) hab hL (by omega) S2.aR) ?_))))))
 intro Df w3 M1 hle1 S3 p7;clear S2
 replace ay:=ay.mono (Hp.U6 hle1 S3.mx)
 obtain⟨A1,c1,rfl,hr1⟩:=p7
 have azT:=E2 d L s
 have az1:=sk (d:=d) s
 refine af 4 1 rfl rfl (ag 5 rfl (Ug rfl rfl rfl) (ag 6 rfl (Ug rfl rfl rfl) (af 7 2 rfl rfl (U3 rfl (ah [2,3,5,6] rfl (U2 (U1 ZA Y9 rfl rfl rfl (U1 Zo0 Zo1 rfl rfl rfl ?_))))))))
 refine U0 rfl (af 0 1 rfl rfl (U3 rfl (U2 (U7 Zo2 0 rfl rfl rfl ?_))))
 have S4:=S3.gL dW;clear S3
 refine Ui (fun aF ak aA=>∃(k:Nat) (ou:List Pq) (aZ:Value) (M2:Hp),M1.le M2/\aF=d.ae.length-k/\Env 216 [(2,.pointer (some ⟨aI,0,none⟩)),(3,.pointer (some ⟨bq,0,none⟩)),(5,aZ),(6,.slice A1 (aO d L s).length c1),(8,.int .i64 (k:Int))] ak/\SH aA M2 X [Rs.row dW aZ ou,Rs.box bq 127 [.int .i64 (s:Int),.int .i64 (mn:Int)],Rs.box aI 24 [.slice aV d.ae.length aU,.int .i64 d.loops]]/\k<=d.ae.length/\ou=fq d L s mn k) rfl ?_ ?_
 ·intro ak ai
  refine⟨_,⟨0,[],_,_,Hp.le_refl _,rfl,ai.sub ⟨rfl,rfl,rfl,rfl,rfl,trivial⟩,S4.pick [0,1,2] [_,_,_] (by decide) ⟨rfl,rfl,rfl,trivial⟩,?bn,?bE⟩⟩
  case bn=>omega
  case bE=>rfl
 ·rintro m1 a1 w4 ⟨k,ou,aZ,M2,hle2,rfl,aQ,S5,hk,j5⟩
  clear S4
  refine aW aQ (c:=Y8) rfl ?_
  clear aQ a1
  replace ay:=ay.mono (Hp.U6 hle2 S5.mx)
  replace hr1:=hr1.mono hle2
  have aBu:ou.length<=2*k:=by rw[j5];exact acZ d L s mn k
  refine U1 Y7 Y6 rfl rfl rfl (U1 Zo6 Y5 rfl rfl rfl (U0 rfl (af 0 1 rfl rfl (ag 1 rfl (U4 rfl rfl bg rfl (dV) (dS)) (ag 2 rfl (U5 rfl rfl bF rfl (S5.aG (i:=2) rfl rfl)) (ag 3 rfl (Uv rfl rfl rfl rfl rfl rfl bF) (ag 4 rfl (Un rfl rfl rfl) (U3 rfl ?_))))))))
  refine ah [2,3,5,6,8,35] rfl (U2 ?_)
  refine Ua Zo8 Zo9 rfl rfl rfl rfl (fun sO=>?_) (fun sO=>?_)
  ·refine Ub rfl (ah [2,3,5,6,8] rfl (U2 (U1 Zoa Zob rfl rfl rfl (U7 Y4 1 rfl rfl rfl (U1 Y3 Y2 rfl rfl rfl (U1 Zof Y1 rfl rfl rfl (U0 rfl (ag 0 rfl (U4 rfl rfl mC rfl (aL) (aJ)) ?_))))))))
   refine ag 1 rfl (U5 rfl rfl aw rfl (S5.aG (i:=1) rfl rfl)) (af 2 1 rfl rfl (ag 3 rfl (tN (s:=s) (n:=k) rfl rfl rfl (by first|omega|(simp only[ls];omega))) ?_))
   refine ag 4 rfl (vK (s:=(s/2^k)) rfl rfl rfl) (ag 5 rfl (Uz rfl rfl rfl) (U3 rfl (ah [2,3,5,6,8,43] rfl (U2 ?_))))
   refine Ua Zoh Zoi rfl rfl rfl rfl (fun asj=>?_) (fun asj=>?_)
   ·refine Uk rfl rfl (ah [2,3,5,6,8] rfl (U2 (U0 rfl (af 0 1 rfl rfl (ag 1 rfl (Ud rfl rfl rfl (by first|omega|(simp only[ls];omega))) ?_)))))
    refine af 2 1 rfl rfl (U3 rfl (Ut ?_))
    intro ak ai
    refine⟨_,?bG,⟨k+1,ou,_,_,(hle2),rfl,ai.sub ⟨rfl,rfl,rfl,rfl,rfl,trivial⟩,S5.pick [0,1,2] [_,_,_] (by decide) ⟨rfl,rfl,rfl,trivial⟩,?bk,?bD⟩⟩
    case bk=>omega
    case bD=>first|(rw[Ba d L s mn k (by unfold aD;omega)];exact j5)|(rw[lU,show i=mk.length by omega,List.take_length,wA,yu d L s mn k zj,hmk,j5])
    case bG=>omega
   ·refine Ub rfl (ah [2,3,5,6,8] rfl (U2 (U1 Zoj Y0 rfl rfl rfl ?_)))
    have LU:1<=(ga d.ae k).a/\(ga d.ae k).a<=2*(d.ae.length:Int):=iN hab (show k<d.ae.length by omega) (k:=0) (by omega)
    have afl:1<=(ga d.ae k).b/\(ga d.ae k).b<=2*(d.ae.length:Int):=iN hab (show k<d.ae.length by omega) (k:=1) (by omega)
    have LS:1<=(ga d.ae k).c/\(ga d.ae k).c<=2*(d.ae.length:Int):=iN hab (show k<d.ae.length by omega) (k:=2) (by omega)
    have afk:1<=(ga d.ae k).d/\(ga d.ae k).d<=2*(d.ae.length:Int):=iN hab (show k<d.ae.length by omega) (k:=3) (by omega)
    have zj:aD s k=0:=by unfold aD;omega
    have F:=AX (d:=d) (show k<d.ae.length by omega) zj
    have h2k:2^k<=2^6:=Nat.pow_le_pow_right (by decide) (by omega)
    have aBK:=Nat.two_pow_pos k
    have Ch:=pR hn hL2 (s+2^k)
    replace Ch:kM d (s+2^k)+L<=14:=Ch
    refine U0 rfl (ag 0 rfl (U4 rfl rfl bg rfl (dV) (dS)) (ag 1 rfl (U5 rfl rfl bF rfl (S5.aG (i:=2) rfl rfl)) (af 2 1 rfl rfl (ag 3 rfl (U9 (C:=bw) k rfl rfl rfl mH (by first|rfl|omega) ay (by first|omega|(simp only[ls];omega))) ?_))))
    refine ag 4 rfl (Uc (us:=[_,_,_,_,_]) rfl rfl bR rfl kT (ay.fV S5.um (e:=k) (by first|omega|(simp only[ls];omega)) (j:=0) ⟨rfl,rfl,rfl,rfl,rfl,trivial⟩)) ?_
    refine ar 5 6 rfl rfl rfl (dh (l:=[_,_,_,_,_]) rfl rfl rfl y5 rfl S5 ?_)
    intro dD w5 S6;clear S5
    refine ar 6 7 rfl rfl rfl (Uo (i:=0) (us:=[_,_,_,_,_]) (l':=[_,_,_,_,_]) (H':=[_,_,_,_]) rfl rfl S6 rfl rfl rfl rfl kT rfl rfl rfl rfl ?_)
    intro w6 S7;clear S6
    refine U3 rfl (ah [2,3,5,6,8,9] rfl (U2 (U1 Zol YZ rfl rfl rfl (cM rfl (by kernel_rfl) S7 6 rfl ?_))))
    clear S7
    refine aq 0 5 rfl (by kernel_rfl) (fun _=>U4 rfl rfl mC rfl (aL) (aJ)) ?_
    refine au 1 4 rfl (by kernel_rfl) (fun _ _ _ aj Sz=>.inl (U5 rfl rfl aw rfl (Sz.suf.aG (i:=2) rfl rfl))) ?_
    refine aq 2 3 rfl (by kernel_rfl) (fun _=>run_move rfl rfl) ?_
    refine aq 3 2 rfl (by kernel_rfl) (fun _=>vM (n:=k) rfl rfl rfl (by first|omega|(simp only[ls];omega))) ?_
    refine aq 4 1 rfl (by kernel_rfl) (fun _=>Ud rfl rfl rfl (by first|omega|(simp only[ls];omega))) ?_
    refine aq 5 0 rfl (by kernel_rfl) (fun _=>run_assign rfl rfl) ?_
    refine cF (by kernel_rfl) (fun q8 bX=>?_)
    refine ah [2,3,5,6,8,9,10] rfl (U2 (U1 Zon YY rfl rfl rfl (eZ 10 (.int .i64 ((s+2^k:Nat):Int)) rfl (int_eq (by omega)) ?_)))
    refine U0 rfl (ag 0 rfl (Uc (us:=[_,_]) rfl rfl bg rfl dM (bX.aY (i:=3) rfl ⟨rfl,rfl,trivial⟩)) (af 1 1 rfl rfl (ar 2 3 rfl rfl rfl (dt rfl rfl rfl rfl rfl rfl rfl LA bX (IC d (s+2^k) (ay.mono bX.Uq) (by omega) hab hL (by omega) bX.aR) ?_))))
    intro LG zx M9 iR bT Cc;clear bX
    replace ay:=ay.mono (Hp.U6 iR bT.mx)
    replace hr1:=hr1.mono iR
    obtain⟨A2,c2,rfl,hr2⟩:=Cc
    have azR:=E2 d L (s+2^k)
    have azZ:=sk (d:=d) (s+2^k)
    refine af 3 1 rfl rfl (ag 4 rfl (Ug rfl rfl rfl) (ag 5 rfl (Ug rfl rfl rfl) (af 6 2 rfl rfl (U3 rfl (ah [2,3,5,6,8,9,10,11,12] rfl (U2 (U1 Zop YX rfl rfl rfl ?_)))))))
    have qj:ga (aO d L s) (ga d.ae k).a.toNat=((kI d s (aK d k 0):Nat):Int):=by rw[wq _ _ _ (by omega) (by omega),rU hab (by omega)];rfl
    have hpc:ga (aO d L s) (ga d.ae k).c.toNat=((kI d s (aK d k 2):Nat):Int):=by rw[wq _ _ _ (by omega) (by omega),rU hab (by omega)];rfl
    have hqa:ga (aO d L (s+2^k)) (ga d.ae k).a.toNat=((kI d (s+2^k) (aK d k 0):Nat):Int):=by rw[wq _ _ _ (by omega) (by omega),rU hab (by omega)];rfl
    have hqc:ga (aO d L (s+2^k)) (ga d.ae k).c.toNat=((kI d (s+2^k) (aK d k 2):Nat):Int):=by rw[wq _ _ _ (by omega) (by omega),rU hab (by omega)];rfl
    have azV:(kI d (s+2^k) (aK d k 0))<kM d (s+2^k):=jC hab _ (iL hab F.k_ (by omega)).1 (iL hab F.k_ (by omega)).2
    have azU:(kI d (s+2^k) (aK d k 2))<kM d (s+2^k):=jC hab _ (iL hab F.k_ (by omega)).1 (iL hab F.k_ (by omega)).2
    have azX:(kI d s (aK d k 0))<kM d s:=jC hab _ (iL hab F.k_ (by omega)).1 (iL hab F.k_ (by omega)).2
    have azW:(kI d s (aK d k 2))<kM d s:=jC hab _ (iL hab F.k_ (by omega)).1 (iL hab F.k_ (by omega)).2
    refine cM rfl (by kernel_rfl) bT 12 rfl ?_
    clear bT
    refine aq 0 11 rfl (by kernel_rfl) (fun _=>run_move rfl rfl) ?_
    refine aq 1 10 rfl (by kernel_rfl) (fun _=>U4 rfl rfl bR rfl (aL) (aJ)) ?_
    refine au 2 9 rfl (by kernel_rfl) (fun _ _ _ aj Sz=>.inl (U5 rfl rfl aw rfl (Sz.suf.aG (i:=0) rfl rfl))) ?_
    refine au 3 8 rfl (by kernel_rfl) (fun _ _ _ aj Sz=>.inl (U9 (C:=Uh) (((ga d.ae k).a).toNat) rfl rfl rfl aS (by first|rfl|omega) (hr1.mono aj) (by first|omega|(simp only[ls];omega)))) ?_
    refine au 4 7 rfl (by kernel_rfl) (fun _ _ _ aj Sz=>.inl (U5 rfl rfl aw rfl ((hr1.mono aj).cell Sz.m (i:=((ga d.ae k).a).toNat) (by first|omega|(simp only[ls];omega)) 0 rfl rfl))) ?_
    refine aq 5 6 rfl (by kernel_rfl) (fun _=>run_move rfl rfl) ?_
    refine aq 6 5 rfl (by kernel_rfl) (fun _=>U4 rfl rfl bR rfl (aL) (aJ)) ?_
    refine au 7 4 rfl (by kernel_rfl) (fun _ _ _ aj Sz=>.inl (U5 rfl rfl aw rfl (Sz.suf.aG (i:=0) rfl rfl))) ?_
    refine au 8 3 rfl (by kernel_rfl) (fun _ _ _ aj Sz=>.inl (U9 (C:=Uh) (((ga d.ae k).c).toNat) rfl rfl rfl aS (by first|rfl|omega) (hr1.mono aj) (by first|omega|(simp only[ls];omega)))) ?_
    refine au 9 2 rfl (by kernel_rfl) (fun _ _ _ aj Sz=>.inl (U5 rfl rfl aw rfl ((hr1.mono aj).cell Sz.m (i:=((ga d.ae k).c).toNat) (by first|omega|(simp only[ls];omega)) 0 rfl rfl))) ?_
    refine aq 10 1 rfl (by kernel_rfl) (fun _=>run_assign rfl rfl) ?_
    refine aq 11 0 rfl (by kernel_rfl) (fun _=>run_assign rfl rfl) ?_
    refine cF (by kernel_rfl) (fun Dc jF=>?_)
    refine ah [2,3,5,6,8,9,10,11,12,13,14] rfl (U2 (U1 Zor YW rfl rfl rfl (eZ 13 (.int .i64 ((kI d s (aK d k 0):Nat):Int)) rfl (int_eq qj) (eZ 14 (.int .i64 ((kI d s (aK d k 2):Nat):Int)) rfl (int_eq hpc) (U0 rfl (af 0 1 rfl rfl (ar 1 2 rfl rfl rfl (rJ (C:=Uh) (kM d (s+2^k)+L) rfl rfl rfl rfl rfl aS (by first|rfl|omega) (by show _*8<=_;first|omega|(simp only[ls];omega)) jF ?_))))))))
    intro jZ UI fB;clear jF
    refine af 2 1 rfl rfl (U3 rfl (ah [2,3,5,6,8,9,10,11,12,13,14,15] rfl (U2 (U1 YV YU rfl rfl rfl (U1 Zov Zow rfl rfl rfl (U0 rfl (af 0 1 rfl rfl (U3 rfl ?_))))))))
    refine U2 (U7 Zox 2 rfl rfl rfl ?_)
    refine Ui (fun aF ak aA=>∃(r:Nat) (rs:List Int) (dO:Value),aF=kM d (s+2^k)+L-r/\Env 216 [(2,.pointer (some ⟨aI,0,none⟩)),(3,.pointer (some ⟨bq,0,none⟩)),(5,aZ),(6,.slice A1 (aO d L s).length c1),(8,.int .i64 (k:Int)),(9,.pointer (some ⟨dD,0,none⟩)),(10,.int .i64 ((s+2^k:Nat):Int)),(11,.slice A2 (aO d L (s+2^k)).length c2),(12,.int .i64 ((kM d (s+2^k)+L:Nat):Int)),(13,.int .i64 ((kI d s (aK d k 0):Nat):Int)),(14,.int .i64 ((kI d s (aK d k 2):Nat):Int)),(15,dO),(16,.int .i64 (r:Int))] ak/\SH aA M9 X [Rs.row Uh dO rs,Rs.box dD 77 [.int .i64 ((ga d.ae k).a),.int .i64 ((ga d.ae k).b),.int .i64 ((ga d.ae k).c),.int .i64 ((ga d.ae k).d),.bool ((ga d.ae k).plus)],Rs.row dW aZ ou,Rs.box bq 127 [.int .i64 (s:Int),.int .i64 (mn:Int)],Rs.box aI 24 [.slice aV d.ae.length aU,.int .i64 d.loops]]/\r<=kM d (s+2^k)+L/\rs.length=kM d (s+2^k)+L/\(∀x,x<r->ga rs x=-1)) rfl ?_ ?_
    ·intro ak ai
     refine⟨_,⟨0,_,_,rfl,ai.sub ⟨rfl,rfl,rfl,rfl,rfl,rfl,rfl,rfl,rfl,rfl,rfl,rfl,rfl,trivial⟩,fB.pick [0,1,2,3,4] [_,_,_,_,_] (by decide) ⟨rfl,rfl,rfl,rfl,rfl,trivial⟩,?cu,?cN,?jb⟩⟩
     case cu=>omega
     case cN=>(rw[List.length_replicate]<;>omega)
     case jb=>(intro x hx;omega)
    ·rintro m2 a2 UH ⟨r,rs,dO,rfl,bS,ki,hr,hrl,hrg⟩
     clear fB
     refine aW bS (c:=YT) rfl ?_
     clear bS a2
     refine U1 YS YR rfl rfl rfl (U1 Zp1 YQ rfl rfl rfl (U0 rfl (af 0 2 rfl rfl (ag 2 rfl (Un rfl rfl rfl) (U3 rfl (ah [2,3,5,6,8,9,10,11,12,13,14,15,16,74] rfl (U2 ?_)))))))
     refine Ua Zp3 Zp4 rfl rfl rfl rfl (fun ar9=>?_) (fun ar9=>?_)
     ·refine Ub rfl (ah [2,3,5,6,8,9,10,11,12,13,14,15,16] rfl (U2 (U1 Zp5 Zp6 rfl rfl rfl (U7 Zp7 3 rfl rfl rfl (U0 rfl (af 0 2 rfl rfl (ag 2 rfl (Ue (C:=Uh) (i:=0) r rfl rfl rfl aS ki rfl (by first|rfl|omega) (by first|omega|(simp only[ls];omega))) ?_)))))))
      refine ar 3 4 rfl rfl rfl (ij (C:=Uh) (i:=0) (e:=r) (j:=0) (us:=[_]) (H':=[_,_,_,_,_]) (-1) rfl rfl ki rfl (by first|omega|(simp only[ls];omega)) rfl rfl rfl dw rfl rfl rfl rfl ?_)
      intro w30 rP;clear ki
      refine U3 rfl (Ul (ah [2,3,5,6,8,9,10,11,12,13,14,15,16] rfl (U2 (U0 rfl (af 0 1 rfl rfl (ag 1 rfl (Ud rfl rfl rfl (by first|omega|(simp only[ls];omega))) ?_))))))
      refine af 2 1 rfl rfl (U3 rfl (Ut ?_))
      intro ak ai
      refine⟨_,?jf,⟨r+1,rs.set r (-1),_,rfl,ai.sub ⟨rfl,rfl,rfl,rfl,rfl,rfl,rfl,rfl,rfl,rfl,rfl,rfl,rfl,trivial⟩,rP.pick [0,1,2,3,4] [_,_,_,_,_] (by decide) ⟨rfl,rfl,rfl,rfl,rfl,trivial⟩,?dL,?ek,?lJ⟩⟩
      case dL=>omega
      case ek=>(rw[List.length_set];exact hrl)
      case lJ=>(intro x hx;rw[bB _ _ _ _ (by omega)];by_cases e:r=x;(rw[if_pos (by omega)]);(rw[if_neg (by omega)];exact hrg x (by omega)))
      case jf=>omega
     ·refine Uk rfl rfl (ah [2,3,5,6,8,9,10,11,12,13,14,15] rfl (U2 (U1 YP YO rfl rfl rfl (U1 Zpa Zpb rfl rfl rfl (U0 rfl (af 0 1 rfl rfl (U3 rfl (U2 ?_))))))))
      refine U7 Zpc 4 rfl rfl rfl ?_
      refine Ui (fun aF ak aA=>∃(x:Nat) (rt:List Int) (dO:Value),aF=(2*d.ae.length+1+L) -x/\Env 216 [(2,.pointer (some ⟨aI,0,none⟩)),(3,.pointer (some ⟨bq,0,none⟩)),(5,aZ),(6,.slice A1 (aO d L s).length c1),(8,.int .i64 (k:Int)),(9,.pointer (some ⟨dD,0,none⟩)),(10,.int .i64 ((s+2^k:Nat):Int)),(11,.slice A2 (aO d L (s+2^k)).length c2),(12,.int .i64 ((kM d (s+2^k)+L:Nat):Int)),(13,.int .i64 ((kI d s (aK d k 0):Nat):Int)),(14,.int .i64 ((kI d s (aK d k 2):Nat):Int)),(15,dO),(17,.int .i64 (x:Int))] ak/\SH aA M9 X [Rs.row Uh dO rt,Rs.box dD 77 [.int .i64 ((ga d.ae k).a),.int .i64 ((ga d.ae k).b),.int .i64 ((ga d.ae k).c),.int .i64 ((ga d.ae k).d),.bool ((ga d.ae k).plus)],Rs.row dW aZ ou,Rs.box bq 127 [.int .i64 (s:Int),.int .i64 (mn:Int)],Rs.box aI 24 [.slice aV d.ae.length aU,.int .i64 d.loops]]/\(1<=x/\x<=(2*d.ae.length+1+L))/\pH d L s (s+2^k) k mn x rt) rfl ?_ ?_
      ·intro ak ai
       refine⟨_,⟨1,_,_,rfl,ai.sub ⟨rfl,rfl,rfl,rfl,rfl,rfl,rfl,rfl,rfl,rfl,rfl,rfl,rfl,trivial⟩,ki.pick [0,1,2,3,4] [_,_,_,_,_] (by decide) ⟨rfl,rfl,rfl,rfl,rfl,trivial⟩,?ei,?fK⟩⟩
       case ei=>omega
       case fK=>exact pH.mb hab hrl (fun y hy=>hrg y (by omega))
      ·rintro m3 a3 w31 ⟨x,rt,dO,rfl,cW,og,hx,hrt⟩
       clear ki
       refine aW cW (c:=YN) rfl ?_
       clear cW a3
       have aBk:=hrt.1
       refine U1 YM YL rfl rfl rfl (U1 Zpg YK rfl rfl rfl (U0 rfl (af 0 2 rfl rfl (ag 2 rfl (Uv rfl rfl rfl rfl rfl rfl cI) (ag 3 rfl (Un rfl rfl rfl) (U3 rfl (ah [2,3,5,6,8,9,10,11,12,13,14,15,17,83] rfl (U2 ?_))))))))
       refine Ua Zpi Zpj rfl rfl rfl rfl (fun Mi=>?_) (fun Mi=>?_)
       ·refine Ub rfl (ah [2,3,5,6,8,9,10,11,12,13,14,15,17] rfl (U2 (U1 Zpk Zpl rfl rfl rfl (U7 YJ 5 rfl rfl rfl (U1 Zpn YI rfl rfl rfl ?_)))))
        have hx1:ga (aO d L s) x=((eG d s x:Nat):Int):=wq d L s hx.1 (by omega)
        have hx2:ga (aO d L (s+2^k)) x=((eG d (s+2^k) x:Nat):Int):=wq d L (s+2^k) hx.1 (by omega)
        have hx3:=J4 (L:=L) (s:=s) hab hx.1 (by omega)
        have hx4:=J4 (L:=L) (s:=(s+2^k)) hab hx.1 (by omega)
        refine U0 rfl (af 0 2 rfl rfl (ag 2 rfl (U9 (C:=Uh) x rfl rfl rfl aS (by first|rfl|omega) hr1 (by first|omega|(simp only[ls];omega))) ?_))
        refine ag 3 rfl (U5 rfl rfl aw rfl (hr1.cell og.m (i:=x) (by first|omega|(simp only[ls];omega)) 0 rfl rfl)) ?_
        refine af 4 1 rfl rfl (ag 5 rfl (gG rfl rfl rfl) (af 6 1 rfl rfl ?_))
        refine mA (k':=14) (d:=99) (decide (((ga (aO d L s) x)≠((kI d s (aK d k 0):Nat):Int))/\((ga (aO d L s) x)≠((kI d s (aK d k 2):Nat):Int)))) [(2,_),(3,_),(5,_),(6,_),(8,_),(9,_),(10,_),(11,_),(12,_),(13,_),(14,_),(15,_),(17,_)] ⟨rfl,rfl,rfl,rfl,rfl,rfl,rfl,rfl,rfl,rfl,rfl,rfl,rfl,trivial⟩ (fun afK=>?_) ?_
        ·refine Uy (t:=92) rfl (fun L5=>?_) (fun L5=>?_)
         ·refine af 7 2 rfl rfl (aP 9 10 rfl rfl rfl rfl rfl rfl rfl rfl (U8 rfl rfl (U9 (C:=Uh) x rfl rfl rfl aS (by first|rfl|omega) hr1 (by first|omega|(simp only[ls];omega))) ?_))
          refine aP 10 11 rfl rfl rfl rfl rfl rfl rfl rfl (U8 rfl rfl (U5 rfl rfl aw rfl (hr1.cell og.m (i:=x) (by first|omega|(simp only[ls];omega)) 0 rfl rfl)) ?_)
          refine af 11 1 rfl rfl (aP 12 13 rfl rfl rfl rfl rfl rfl rfl rfl (U8 rfl rfl (gG rfl rfl rfl) (af 13 1 rfl rfl ?_)))
          exact cZ 99 (.bool (decide (((ga (aO d L s) x)≠((kI d s (aK d k 0):Nat):Int))/\((ga (aO d L s) x)≠((kI d s (aK d k 2):Nat):Int))))) rfl (congrArg Value.bool (decide_eq_decide.2 ⟨fun h=>⟨L5,h⟩,fun h=>h.2⟩)) (fH [(99,_),(2,_),(3,_),(5,_),(6,_),(8,_),(9,_),(10,_),(11,_),(12,_),(13,_),(14,_),(15,_),(17,_)] ⟨rfl,rfl,rfl,rfl,rfl,rfl,rfl,rfl,rfl,rfl,rfl,rfl,rfl,rfl,trivial⟩ afK)
         ·refine af 7 6 rfl rfl (af 13 1 rfl rfl ?_)
          exact cZ 99 (.bool (decide (((ga (aO d L s) x)≠((kI d s (aK d k 0):Nat):Int))/\((ga (aO d L s) x)≠((kI d s (aK d k 2):Nat):Int))))) rfl (congrArg Value.bool (decide_eq_false (fun h=>L5 h.1)).symm) (fH [(99,_),(2,_),(3,_),(5,_),(6,_),(8,_),(9,_),(10,_),(11,_),(12,_),(13,_),(14,_),(15,_),(17,_)] ⟨rfl,rfl,rfl,rfl,rfl,rfl,rfl,rfl,rfl,rfl,rfl,rfl,rfl,rfl,trivial⟩ afK)
        ·refine U3 rfl (ah [2,3,5,6,8,9,10,11,12,13,14,15,17,99] rfl (U2 ?_))
         refine Ua Zpp Zpq rfl rfl rfl rfl (fun ar2=>?_) (fun ar2=>?_)
         ·refine cM rfl (by kernel_rfl) og 15 rfl ?_
          clear og
          refine aq 0 14 rfl (by kernel_rfl) (fun _=>run_move rfl rfl) ?_
          refine aq 1 13 rfl (by kernel_rfl) (fun _=>run_move rfl rfl) ?_
          refine aq 2 12 rfl (by kernel_rfl) (fun _=>run_move rfl rfl) ?_
          refine au 3 11 rfl (by kernel_rfl) (fun _ _ _ aj Sz=>.inl (U9 (C:=Uh) x rfl rfl rfl aS (by first|rfl|omega) (hr2.mono aj) (by first|omega|(simp only[ls];omega)))) ?_
          refine au 4 10 rfl (by kernel_rfl) (fun _ _ _ aj Sz=>.inl (U5 rfl rfl aw rfl ((hr2.mono aj).cell Sz.m (i:=x) (by first|omega|(simp only[ls];omega)) 0 rfl rfl))) ?_
          refine aq 5 9 rfl (by kernel_rfl) (fun _=>U4 rfl rfl mC rfl (aL) (aJ)) ?_
          refine au 6 8 rfl (by kernel_rfl) (fun _ _ _ aj Sz=>.inl (U5 rfl rfl aw rfl (Sz.suf.aG (i:=3) rfl rfl))) ?_
          refine aq 7 7 rfl (by kernel_rfl) (fun _=>run_move rfl rfl) ?_
          refine aq 8 6 rfl (by kernel_rfl) (fun _=>run_move rfl rfl) ?_
          refine au 9 5 rfl (by kernel_rfl) (fun _ _ _ aj Sz=>.inl (U9 (C:=Uh) x rfl rfl rfl aS (by first|rfl|omega) (hr1.mono aj) (by first|omega|(simp only[ls];omega)))) ?_
          refine au 10 4 rfl (by kernel_rfl) (fun _ _ _ aj Sz=>.inl (U5 rfl rfl aw rfl ((hr1.mono aj).cell Sz.m (i:=x) (by first|omega|(simp only[ls];omega)) 0 rfl rfl))) ?_
          refine aq 11 3 rfl (by kernel_rfl) (fun _=>tN (s:=mn) (n:=((ga (aO d L s) x).toNat)) rfl rfl (congrArg (fun z=>some (Value.int IntKind.i64 z)) (show ga (aO d L s) x=(((ga (aO d L s) x).toNat:Nat):Int) by omega)) (by first|omega|(simp only[ls];omega))) ?_
          refine aq 12 2 rfl (by kernel_rfl) (fun _=>vK (s:=(mn/2^((ga (aO d L s) x).toNat))) rfl rfl rfl) ?_
          refine au 13 1 rfl (by kernel_rfl) (fun _ _ _ aj Sz=>.inl (Ue (C:=Uh) (i:=0) ((ga (aO d L (s+2^k)) x).toNat) rfl rfl rfl aS Sz.suf rfl (by first|rfl|omega) (by first|omega|(simp only[ls];omega)))) ?_
          refine dv (i:=14) 0 rfl (by kernel_rfl) rfl rfl (fun UF qF=>?_)
          refine(ij (C:=Uh) (i:=0) (e:=(ga (aO d L (s+2^k)) x).toNat) (j:=0) (us:=[_]) (H':=[_,_,_,_,_]) (((mn/2^((ga (aO d L s) x).toNat))%2:Nat):Int) rfl rfl qF rfl (by first|omega|(simp only[ls];omega)) rfl rfl rfl dw rfl rfl rfl rfl ?_)
          intro w48 Em;clear qF
          refine bU.turn (by kernel_rfl) Em ?_;clear Em
          change WA _ _ _ _ _ _ _ _ _ _ _ _ [_,_,_,_,_]
          refine cF (by kernel_rfl) (fun w49 rO=>?_)
          refine Ul (ah [2,3,5,6,8,9,10,11,12,13,14,15,17] rfl (U2 (U0 rfl (af 0 1 rfl rfl (ag 1 rfl (Ud rfl rfl rfl (by first|omega|(simp only[ls];omega))) ?_)))))
          refine af 2 1 rfl rfl (U3 rfl (Ut ?_))
          intro ak ai
          refine⟨_,?lS,⟨x+1,rt.set ((ga (aO d L (s+2^k)) x).toNat) (((mn/2^((ga (aO d L s) x).toNat))%2:Nat):Int),_,rfl,ai.sub ⟨rfl,rfl,rfl,rfl,rfl,rfl,rfl,rfl,rfl,rfl,rfl,rfl,rfl,trivial⟩,rO.pick [0,1,2,3,4] [_,_,_,_,_] (by decide) ⟨rfl,rfl,rfl,rfl,rfl,trivial⟩,?fJ,?gu⟩⟩
          case fJ=>omega
          case gu=>first|exact hrt.far hab F hx.1 (by omega) (by omega) (by omega) (by omega) (by rw[hx1];rfl)|exact hrt.near hab F hx.1 (by omega) (by omega)
          case lS=>omega
         ·refine Ub rfl (Ul (ah [2,3,5,6,8,9,10,11,12,13,14,15,17] rfl (U2 (U0 rfl (af 0 1 rfl rfl (ag 1 rfl (Ud rfl rfl rfl (by first|omega|(simp only[ls];omega))) ?_))))))
          refine af 2 1 rfl rfl (U3 rfl (Ut ?_))
          intro ak ai
          refine⟨_,?nB,⟨x+1,rt,_,rfl,ai.sub ⟨rfl,rfl,rfl,rfl,rfl,rfl,rfl,rfl,rfl,rfl,rfl,rfl,rfl,trivial⟩,og.pick [0,1,2,3,4] [_,_,_,_,_] (by decide) ⟨rfl,rfl,rfl,rfl,rfl,trivial⟩,?gq,?gj⟩⟩
          case gq=>omega
          case gj=>first|exact hrt.far hab F hx.1 (by omega) (by omega) (by omega) (by omega) (by rw[hx1];rfl)|exact hrt.near hab F hx.1 (by omega) (by omega)
          case nB=>omega
       ·refine Uk rfl rfl (ah [2,3,5,6,8,9,10,11,12,13,14,15] rfl (U2 (U1 Zpr YH rfl rfl rfl (cM rfl (by kernel_rfl) og 12 rfl ?_))))
        clear og
        refine aq 0 11 rfl (by kernel_rfl) (fun _=>U4 rfl rfl mC rfl (aL) (aJ)) ?_
        refine au 1 10 rfl (by kernel_rfl) (fun _ _ _ aj Sz=>.inl (U5 rfl rfl aw rfl (Sz.suf.aG (i:=3) rfl rfl))) ?_
        refine aq 2 9 rfl (by kernel_rfl) (fun _=>run_move rfl rfl) ?_
        refine aq 3 8 rfl (by kernel_rfl) (fun _=>tN (s:=mn) (n:=(kI d s (aK d k 0))) rfl rfl rfl (by first|omega|(simp only[ls];omega))) ?_
        refine aq 4 7 rfl (by kernel_rfl) (fun _=>vK (s:=(mn/2^(kI d s (aK d k 0)))) rfl rfl rfl) ?_
        refine aq 5 6 rfl (by kernel_rfl) (fun _=>U4 rfl rfl mC rfl (aL) (aJ)) ?_
        refine au 6 5 rfl (by kernel_rfl) (fun _ _ _ aj Sz=>.inl (U5 rfl rfl aw rfl (Sz.suf.aG (i:=3) rfl rfl))) ?_
        refine aq 7 4 rfl (by kernel_rfl) (fun _=>run_move rfl rfl) ?_
        refine aq 8 3 rfl (by kernel_rfl) (fun _=>tN (s:=mn) (n:=(kI d s (aK d k 2))) rfl rfl rfl (by first|omega|(simp only[ls];omega))) ?_
        refine aq 9 2 rfl (by kernel_rfl) (fun _=>vK (s:=(mn/2^(kI d s (aK d k 2)))) rfl rfl rfl) ?_
        refine aq 10 1 rfl (by kernel_rfl) (fun _=>run_assign rfl rfl) ?_
        refine aq 11 0 rfl (by kernel_rfl) (fun _=>run_assign rfl rfl) ?_
        refine cF (by kernel_rfl) (fun w62 ik=>?_)
        refine ah [2,3,5,6,8,9,10,11,12,13,14,15,18,19] rfl (U2 (U1 Zpt YG rfl rfl rfl (eZ 18 (.int .i64 ((aD mn (kI d s (aK d k 0)):Nat):Int)) rfl rfl (eZ 19 (.int .i64 ((aD mn (kI d s (aK d k 2)):Nat):Int)) rfl rfl ?_))))
        have hb0:=jS mn (kI d s (aK d k 0))
        have hb2:=jS mn (kI d s (aK d k 2))
        refine U0 rfl (af 0 1 rfl rfl (U3 rfl (ah [2,3,5,6,8,9,10,11,12,13,14,15,18,19,20] rfl (U2 (U1 YF YE rfl rfl rfl (U1 Zpx YD rfl rfl rfl (U0 rfl (af 0 2 rfl rfl ?_))))))))
        refine ag 2 rfl (gG rfl rfl rfl) (af 3 1 rfl rfl ?_)
        refine mA (k':=9) (d:=132) (decide ((((kI d s (aK d k 0):Nat):Int)≠((kI d s (aK d k 2):Nat):Int))/\((((aD mn (kI d s (aK d k 0)):Nat):Int)+((aD mn (kI d s (aK d k 2)):Nat):Int))<2))) [(2,_),(3,_),(5,_),(6,_),(8,_),(9,_),(10,_),(11,_),(12,_),(13,_),(14,_),(15,_),(18,_),(19,_),(20,_)] ⟨rfl,rfl,rfl,rfl,rfl,rfl,rfl,rfl,rfl,rfl,rfl,rfl,rfl,rfl,rfl,trivial⟩ (fun aeK=>?_) ?_
        ·refine Uy (t:=127) rfl (fun Lf=>?_) (fun Lf=>?_)
         ·refine af 4 2 rfl rfl (aP 6 7 rfl rfl rfl rfl rfl rfl rfl rfl (U8 rfl rfl (Ud rfl rfl rfl (by first|omega|(simp only[ls];omega))) ?_))
          refine aP 7 8 rfl rfl rfl rfl rfl rfl rfl rfl (U8 rfl rfl (Un rfl rfl rfl) (af 8 1 rfl rfl ?_))
          exact cZ 132 (.bool (decide ((((kI d s (aK d k 0):Nat):Int)≠((kI d s (aK d k 2):Nat):Int))/\((((aD mn (kI d s (aK d k 0)):Nat):Int)+((aD mn (kI d s (aK d k 2)):Nat):Int))<2)))) rfl (congrArg Value.bool (decide_eq_decide.2 ⟨fun h=>⟨Lf,h⟩,fun h=>h.2⟩)) (fH [(132,_),(2,_),(3,_),(5,_),(6,_),(8,_),(9,_),(10,_),(11,_),(12,_),(13,_),(14,_),(15,_),(18,_),(19,_),(20,_)] ⟨rfl,rfl,rfl,rfl,rfl,rfl,rfl,rfl,rfl,rfl,rfl,rfl,rfl,rfl,rfl,rfl,trivial⟩ aeK)
         ·refine af 4 5 rfl rfl ?_
          exact cZ 132 (.bool (decide ((((kI d s (aK d k 0):Nat):Int)≠((kI d s (aK d k 2):Nat):Int))/\((((aD mn (kI d s (aK d k 0)):Nat):Int)+((aD mn (kI d s (aK d k 2)):Nat):Int))<2)))) rfl (congrArg Value.bool (decide_eq_false (fun h=>Lf h.1)).symm) (fH [(132,_),(2,_),(3,_),(5,_),(6,_),(8,_),(9,_),(10,_),(11,_),(12,_),(13,_),(14,_),(15,_),(18,_),(19,_),(20,_)] ⟨rfl,rfl,rfl,rfl,rfl,rfl,rfl,rfl,rfl,rfl,rfl,rfl,rfl,rfl,rfl,rfl,trivial⟩ aeK)
        ·refine U3 rfl (ah [2,3,5,6,8,9,10,11,12,13,14,15,18,19,20,132] rfl (U2 ?_))
         refine Ua Zpz Zq0 rfl rfl rfl rfl (fun apX=>?_) (fun apX=>?_)
         ·refine U0 rfl (af 0 3 rfl rfl (ag 3 rfl (Ud rfl rfl rfl (by first|omega|(simp only[ls];omega))) ?_))
          refine af 4 2 rfl rfl (ag 6 rfl (Ud rfl rfl rfl (by first|omega|(simp only[ls];omega))) ?_)
          refine ag 7 rfl (xZ (l:=[_,_]) (pl:=[(0,1),(1,1)]) rfl rfl ja BH dw rfl rfl rfl) (ar 8 9 rfl rfl rfl (Uf (C:=bW) (l:=[_,_]) rfl rfl rfl rfl fI rfl rfl rfl rfl ik ?_))
          intro jR w63 S64;clear ik
          have mY:=S64.gL bW;clear S64
          refine ar 9 10 rfl rfl rfl (Ux (C:=bW) (i:=0) (q:=1) (⟨((aD mn (kI d s (aK d k 0)):Nat):Int)+((aD mn (kI d s (aK d k 2)):Nat):Int),((aD mn (kI d s (aK d k 0)):Nat):Int)+((aD mn (kI d s (aK d k 2)):Nat):Int)⟩:Pq) rfl rfl rfl rfl rfl rfl rfl rfl fI mY rfl rfl rfl (by show(_+1)*16<=_;first|omega|(simp only[ls];omega)) ?_)
          intro zy w64 tW;clear mY
          have x8:=tW.pick [0,2,3,4,5,6] [_,_,_,_,_,_] (by decide) ⟨rfl,rfl,rfl,rfl,rfl,rfl,trivial⟩;clear tW
          refine af 10 1 rfl rfl (U3 rfl (ah [2,3,5,6,8,9,10,11,12,13,14,15,18,20] rfl (U2 (U1 H8 H7 rfl rfl rfl (U1 Zq3 H6 rfl rfl rfl (U0 rfl (af 0 2 rfl rfl (ag 2 rfl (Uz rfl rfl rfl) ?_))))))))
          refine af 3 1 rfl rfl ?_
          refine mA (k':=7) (d:=149) (decide ((((kI d s (aK d k 0):Nat):Int)=((kI d s (aK d k 2):Nat):Int))/\(((aD mn (kI d s (aK d k 0)):Nat):Int)=1))) [(2,_),(3,_),(5,_),(6,_),(8,_),(9,_),(10,_),(11,_),(12,_),(13,_),(14,_),(15,_),(18,_),(20,_)] ⟨rfl,rfl,rfl,rfl,rfl,rfl,rfl,rfl,rfl,rfl,rfl,rfl,rfl,rfl,trivial⟩ (fun Ce=>?_) ?_
          ·refine Uy (t:=146) rfl (fun wV=>?_) (fun wV=>?_)
           ·refine af 4 1 rfl rfl (aP 5 6 rfl rfl rfl rfl rfl rfl rfl rfl (U8 rfl rfl (Uz rfl rfl rfl) (af 6 1 rfl rfl ?_)))
            exact cZ 149 (.bool (decide ((((kI d s (aK d k 0):Nat):Int)=((kI d s (aK d k 2):Nat):Int))/\(((aD mn (kI d s (aK d k 0)):Nat):Int)=1)))) rfl (congrArg Value.bool (decide_eq_decide.2 ⟨fun h=>⟨wV,h⟩,fun h=>h.2⟩)) (fH [(149,_),(2,_),(3,_),(5,_),(6,_),(8,_),(9,_),(10,_),(11,_),(12,_),(13,_),(14,_),(15,_),(18,_),(20,_)] ⟨rfl,rfl,rfl,rfl,rfl,rfl,rfl,rfl,rfl,rfl,rfl,rfl,rfl,rfl,rfl,trivial⟩ Ce)
           ·refine af 4 3 rfl rfl ?_
            exact cZ 149 (.bool (decide ((((kI d s (aK d k 0):Nat):Int)=((kI d s (aK d k 2):Nat):Int))/\(((aD mn (kI d s (aK d k 0)):Nat):Int)=1)))) rfl (congrArg Value.bool (decide_eq_false (fun h=>wV h.1)).symm) (fH [(149,_),(2,_),(3,_),(5,_),(6,_),(8,_),(9,_),(10,_),(11,_),(12,_),(13,_),(14,_),(15,_),(18,_),(20,_)] ⟨rfl,rfl,rfl,rfl,rfl,rfl,rfl,rfl,rfl,rfl,rfl,rfl,rfl,rfl,rfl,trivial⟩ Ce)
          ·refine U3 rfl (ah [2,3,5,6,8,9,10,11,12,13,14,15,18,20,149] rfl (U2 ?_))
           refine Ua Zq5 Zq6 rfl rfl rfl rfl (fun Li=>?_) (fun Li=>?_)
           ·exfalso;omega
           ·refine Ub rfl (ah [2,3,5,6,8,9,10,11,12,13,14,15,18,20] rfl (U2 (U1 D3 DZ rfl rfl rfl (U1 YC DY rfl rfl rfl (U0 rfl (af 0 2 rfl rfl (ag 2 rfl (Uz rfl rfl rfl) (af 3 1 rfl rfl ?_))))))))
            refine mA (k':=7) (d:=160) (decide ((((kI d s (aK d k 0):Nat):Int)=((kI d s (aK d k 2):Nat):Int))/\(((aD mn (kI d s (aK d k 0)):Nat):Int)=0))) [(2,_),(3,_),(5,_),(6,_),(8,_),(9,_),(10,_),(11,_),(12,_),(15,_),(18,_),(20,_)] ⟨rfl,rfl,rfl,rfl,rfl,rfl,rfl,rfl,rfl,rfl,rfl,rfl,trivial⟩ (fun uD=>?_) ?_
            ·refine Uy (t:=157) rfl (fun pW=>?_) (fun pW=>?_)
             ·refine af 4 1 rfl rfl (aP 5 6 rfl rfl rfl rfl rfl rfl rfl rfl (U8 rfl rfl (Uz rfl rfl rfl) (af 6 1 rfl rfl ?_)))
              exact cZ 160 (.bool (decide ((((kI d s (aK d k 0):Nat):Int)=((kI d s (aK d k 2):Nat):Int))/\(((aD mn (kI d s (aK d k 0)):Nat):Int)=0)))) rfl (congrArg Value.bool (decide_eq_decide.2 ⟨fun h=>⟨pW,h⟩,fun h=>h.2⟩)) (fH [(160,_),(2,_),(3,_),(5,_),(6,_),(8,_),(9,_),(10,_),(11,_),(12,_),(15,_),(18,_),(20,_)] ⟨rfl,rfl,rfl,rfl,rfl,rfl,rfl,rfl,rfl,rfl,rfl,rfl,rfl,trivial⟩ uD)
             ·refine af 4 3 rfl rfl ?_
              exact cZ 160 (.bool (decide ((((kI d s (aK d k 0):Nat):Int)=((kI d s (aK d k 2):Nat):Int))/\(((aD mn (kI d s (aK d k 0)):Nat):Int)=0)))) rfl (congrArg Value.bool (decide_eq_false (fun h=>pW h.1)).symm) (fH [(160,_),(2,_),(3,_),(5,_),(6,_),(8,_),(9,_),(10,_),(11,_),(12,_),(15,_),(18,_),(20,_)] ⟨rfl,rfl,rfl,rfl,rfl,rfl,rfl,rfl,rfl,rfl,rfl,rfl,rfl,trivial⟩ uD)
            ·refine U3 rfl (ah [2,3,5,6,8,9,10,11,12,15,20,160] rfl (U2 ?_))
             refine Ua YB YA rfl rfl rfl rfl (fun Cb=>?_) (fun Cb=>?_)
             ·exfalso;omega
             ·refine Ub rfl (ah [2,3,5,6,8,9,10,11,12,15,20] rfl (U2 (U1 H5 DX rfl rfl rfl ?_)))
              have pZ:([])++[(⟨((aD mn (kI d s (aK d k 0)):Nat):Int)+((aD mn (kI d s (aK d k 2)):Nat):Int),((aD mn (kI d s (aK d k 0)):Nat):Int)+((aD mn (kI d s (aK d k 2)):Nat):Int)⟩:Pq)]=gZ (kI d s (aK d k 0)) (kI d s (aK d k 2)) (aD mn (kI d s (aK d k 0))) (aD mn (kI d s (aK d k 2))):=by unfold gZ;rw[if_pos (show kI d s (aK d k 0)≠kI d s (aK d k 2) by omega),if_pos (by omega)]<;>rfl
              rw[pZ]at x8
              have Ck:(gZ (kI d s (aK d k 0)) (kI d s (aK d k 2)) (aD mn (kI d s (aK d k 0))) (aD mn (kI d s (aK d k 2)))).length<=2:=EO _ _ _ _
              have p5:=J5 (p:=(kI d s (aK d k 0))) (q:=(kI d s (aK d k 2))) hb0 hb2
              obtain⟨mk,hmk⟩:∃mk,mk=gZ (kI d s (aK d k 0)) (kI d s (aK d k 2)) (aD mn (kI d s (aK d k 0))) (aD mn (kI d s (aK d k 2))):=⟨_,rfl⟩
              rw[<-hmk]at x8 Ck p5;clear pZ
              refine U0 rfl (af 0 1 rfl rfl (U3 rfl (U2 (U7 DW 6 rfl rfl rfl ?_))))
              refine Ui (fun aF ak aA=>∃(i:Nat) (ru:List Int) (fO:List Pq) (dO:Value) (aZ:Value),aF=mk.length-i/\Env 216 [(2,.pointer (some ⟨aI,0,none⟩)),(3,.pointer (some ⟨bq,0,none⟩)),(5,aZ),(6,.slice A1 (aO d L s).length c1),(8,.int .i64 (k:Int)),(9,.pointer (some ⟨dD,0,none⟩)),(10,.int .i64 ((s+2^k:Nat):Int)),(11,.slice A2 (aO d L (s+2^k)).length c2),(12,.int .i64 ((kM d (s+2^k)+L:Nat):Int)),(15,dO),(20,zy),(21,.int .i64 (i:Int))] ak/\SH aA M9 X [Rs.row bW zy mk,Rs.row Uh dO ru,Rs.box dD 77 [.int .i64 ((ga d.ae k).a),.int .i64 ((ga d.ae k).b),.int .i64 ((ga d.ae k).c),.int .i64 ((ga d.ae k).d),.bool ((ga d.ae k).plus)],Rs.row dW aZ fO,Rs.box bq 127 [.int .i64 (s:Int),.int .i64 (mn:Int)],Rs.box aI 24 [.slice aV d.ae.length aU,.int .i64 d.loops]]/\i<=mk.length/\rR d L s (s+2^k) k mn ru/\fO=ou++(mk.take i).map (qw d L s mn (s+2^k) k)) rfl ?_ ?_
              ·intro ak ai
               refine⟨_,⟨0,_,ou,_,_,rfl,ai.sub ⟨rfl,rfl,rfl,rfl,rfl,rfl,rfl,rfl,rfl,rfl,rfl,rfl,trivial⟩,x8.pick [0,1,2,3,4,5] [_,_,_,_,_,_] (by decide) ⟨rfl,rfl,rfl,rfl,rfl,rfl,trivial⟩,?iy,?iw,?np⟩⟩
               case iy=>omega
               case iw=>(have e9:x=(2*d.ae.length+1+L):=(by omega);rw[e9]at hrt;exact hrt.end_ hab)
               case np=>simp
              ·rintro m4 a4 UE ⟨i,ru,fO,dO,aZ,rfl,kE,x7,hi,nR,lU⟩
               clear x8
               refine aW kE (c:=zY) rfl ?_
               clear kE a4
               have LV:=nR.1
               have Lb:fO.length<=2*k+i:=by rw[lU,List.length_append,List.length_map,List.length_take];omega
               refine U1 zX zW rfl rfl rfl (U1 H3 zV rfl rfl rfl (U0 rfl (af 0 2 rfl rfl (ag 2 rfl (kL (C:=bW) (i:=0) rfl rfl rfl rfl rfl rfl fI x7 rfl) (ag 3 rfl (Un rfl rfl rfl) (U3 rfl (ah [2,3,5,6,8,9,10,11,12,15,20,21,169] rfl (U2 ?_))))))))
               refine Ua HV HT rfl rfl rfl rfl (fun wW=>?_) (fun wW=>?_)
               ·refine Ub rfl (ah [2,3,5,6,8,9,10,11,12,15,20,21] rfl (U2 (U1 HR Yz rfl rfl rfl (U7 DV 7 rfl rfl rfl (U1 Yy DU rfl rfl rfl (cM rfl (by kernel_rfl) x7 13 rfl ?_))))))
                clear x7
                refine aq 0 12 rfl (by kernel_rfl) (fun _=>run_move rfl rfl) ?_
                refine aq 1 11 rfl (by kernel_rfl) (fun _=>run_move rfl rfl) ?_
                refine aq 2 10 rfl (by kernel_rfl) (fun _=>U4 rfl rfl bR rfl (aL) (aJ)) ?_
                refine au 3 9 rfl (by kernel_rfl) (fun _ _ _ aj Sz=>.inl (U5 rfl rfl aw rfl (Sz.suf.aG (i:=2) rfl rfl))) ?_
                refine au 4 8 rfl (by kernel_rfl) (fun _ _ _ aj Sz=>.inl (U9 (C:=Uh) (((ga d.ae k).a).toNat) rfl rfl rfl aS (by first|rfl|omega) (hr2.mono aj) (by first|omega|(simp only[ls];omega)))) ?_
                refine au 5 7 rfl (by kernel_rfl) (fun _ _ _ aj Sz=>.inl (U5 rfl rfl aw rfl ((hr2.mono aj).cell Sz.m (i:=((ga d.ae k).a).toNat) (by first|omega|(simp only[ls];omega)) 0 rfl rfl))) ?_
                refine aq 6 6 rfl (by kernel_rfl) (fun _=>run_move rfl rfl) ?_
                refine aq 7 5 rfl (by kernel_rfl) (fun _=>run_move rfl rfl) ?_
                refine au 8 4 rfl (by kernel_rfl) (fun _ _ _ aj Sz=>.inl (Ue (C:=bW) (i:=0) i rfl rfl rfl fI Sz.suf rfl (by first|rfl|omega) (by first|omega|(simp only[ls];omega)))) ?_
                refine au 9 3 rfl (by kernel_rfl) (fun _ _ _ aj Sz=>.inl (rN (e:=0) (k:=1) rfl rfl rfl ja dw (by first|rfl|omega) (by first|omega|(simp only[ls];omega)))) ?_
                refine au 10 2 rfl (by kernel_rfl) (fun _ _ _ aj Sz=>.inl (U5 rfl rfl aw rfl (Sz.suf.cK (i:=0) (e:=i) (j:=0) rfl (by first|omega|(simp only[ls];omega)) rfl rfl))) ?_
                refine au 11 1 rfl (by kernel_rfl) (fun _ _ _ aj Sz=>.inl (Ue (C:=Uh) (i:=1) ((ga (aO d L (s+2^k)) (((ga d.ae k).a).toNat)).toNat) rfl rfl rfl aS Sz.suf rfl (by first|rfl|omega) (by first|omega|(simp only[ls];omega)))) ?_
                refine dv (i:=12) 0 rfl (by kernel_rfl) rfl rfl (fun w79 Eh=>?_)
                refine(ij (C:=Uh) (i:=1) (e:=(ga (aO d L (s+2^k)) (((ga d.ae k).a).toNat)).toNat) (j:=0) (us:=[_]) (H':=[_,_,_,_,_,_]) ((ga mk i).p) rfl rfl Eh rfl (by first|omega|(simp only[ls];omega)) rfl rfl rfl dw rfl rfl rfl rfl ?_)
                intro w80 Ab;clear Eh
                refine bU.turn (by kernel_rfl) Ab ?_;clear Ab
                change WA _ _ _ _ _ _ _ _ _ _ _ _ [_,_,_,_,_,_]
                refine cF (by kernel_rfl) (fun w81 Eg=>?_)
                refine ah [2,3,5,6,8,9,10,11,12,15,20,21] rfl (U2 (U1 Yx DT rfl rfl rfl (cM rfl (by kernel_rfl) Eg 13 rfl ?_)))
                clear Eg
                refine aq 0 12 rfl (by kernel_rfl) (fun _=>run_move rfl rfl) ?_
                refine aq 1 11 rfl (by kernel_rfl) (fun _=>run_move rfl rfl) ?_
                refine aq 2 10 rfl (by kernel_rfl) (fun _=>U4 rfl rfl bR rfl (aL) (aJ)) ?_
                refine au 3 9 rfl (by kernel_rfl) (fun _ _ _ aj Sz=>.inl (U5 rfl rfl aw rfl (Sz.suf.aG (i:=2) rfl rfl))) ?_
                refine au 4 8 rfl (by kernel_rfl) (fun _ _ _ aj Sz=>.inl (U9 (C:=Uh) (((ga d.ae k).c).toNat) rfl rfl rfl aS (by first|rfl|omega) (hr2.mono aj) (by first|omega|(simp only[ls];omega)))) ?_
                refine au 5 7 rfl (by kernel_rfl) (fun _ _ _ aj Sz=>.inl (U5 rfl rfl aw rfl ((hr2.mono aj).cell Sz.m (i:=((ga d.ae k).c).toNat) (by first|omega|(simp only[ls];omega)) 0 rfl rfl))) ?_
                refine aq 6 6 rfl (by kernel_rfl) (fun _=>run_move rfl rfl) ?_
                refine aq 7 5 rfl (by kernel_rfl) (fun _=>run_move rfl rfl) ?_
                refine au 8 4 rfl (by kernel_rfl) (fun _ _ _ aj Sz=>.inl (Ue (C:=bW) (i:=0) i rfl rfl rfl fI Sz.suf rfl (by first|rfl|omega) (by first|omega|(simp only[ls];omega)))) ?_
                refine au 9 3 rfl (by kernel_rfl) (fun _ _ _ aj Sz=>.inl (rN (e:=1) (k:=1) rfl rfl rfl ja dw (by first|rfl|omega) (by first|omega|(simp only[ls];omega)))) ?_
                refine au 10 2 rfl (by kernel_rfl) (fun _ _ _ aj Sz=>.inl (U5 rfl rfl aw rfl (Sz.suf.cK (i:=0) (e:=i) (j:=1) rfl (by first|omega|(simp only[ls];omega)) rfl rfl))) ?_
                refine au 11 1 rfl (by kernel_rfl) (fun _ _ _ aj Sz=>.inl (Ue (C:=Uh) (i:=1) ((ga (aO d L (s+2^k)) (((ga d.ae k).c).toNat)).toNat) rfl rfl rfl aS Sz.suf rfl (by first|rfl|omega) (by first|omega|(simp only[ls];omega)))) ?_
                refine dv (i:=12) 0 rfl (by kernel_rfl) rfl rfl (fun w95 Ed=>?_)
                refine(ij (C:=Uh) (i:=1) (e:=(ga (aO d L (s+2^k)) (((ga d.ae k).c).toNat)).toNat) (j:=0) (us:=[_]) (H':=[_,_,_,_,_,_]) ((ga mk i).q) rfl rfl Ed rfl (by first|omega|(simp only[ls];omega)) rfl rfl rfl dw rfl rfl rfl rfl ?_)
                intro w96 S99;clear Ed
                refine bU.turn (by kernel_rfl) S99 ?_;clear S99
                change WA _ _ _ _ _ _ _ _ _ _ _ _ [_,_,_,_,_,_]
                refine cF (by kernel_rfl) (fun w97 ah6=>?_)
                refine ah [2,3,5,6,8,9,10,11,12,15,20,21] rfl (U2 (U1 Yw DS rfl rfl rfl ?_))
                have hval:=nR.val hab (show k<d.ae.length by omega) (i:=(ga (aO d L (s+2^k)) (ga d.ae k).a.toNat).toNat) (j:=(ga (aO d L (s+2^k)) (ga d.ae k).c.toNat).toNat) (by unfold mJ;omega) (by unfold mG;omega) (fw (ga mk i).p) (fw (ga mk i).q) (v:=(ga mk i).p) (w:=(ga mk i).q) (p5 i (by omega)).1 (p5 i (by omega)).2
                refine U0 rfl (af 0 1 rfl rfl (U3 rfl (U2 (U1 DR Yv rfl rfl rfl (U1 Yu HQ rfl rfl rfl (U0 rfl (af 0 1 rfl rfl (U3 rfl ?_))))))))
                refine U2 (U7 HP 8 rfl rfl rfl ?_)
                refine Ui (fun aF ak aA=>∃(q:Nat) (mi:Nat),aF=kM d (s+2^k)+L-q/\Env 216 [(2,.pointer (some ⟨aI,0,none⟩)),(3,.pointer (some ⟨bq,0,none⟩)),(5,aZ),(6,.slice A1 (aO d L s).length c1),(8,.int .i64 (k:Int)),(9,.pointer (some ⟨dD,0,none⟩)),(10,.int .i64 ((s+2^k:Nat):Int)),(11,.slice A2 (aO d L (s+2^k)).length c2),(12,.int .i64 ((kM d (s+2^k)+L:Nat):Int)),(15,dO),(20,zy),(21,.int .i64 (i:Int)),(22,.int .i64 (mi:Int)),(23,.int .i64 (q:Int))] ak/\SH aA M9 X [Rs.row bW zy mk,Rs.row Uh dO ((ru.set ((ga (aO d L (s+2^k)) (((ga d.ae k).a).toNat)).toNat) ((ga mk i).p)).set ((ga (aO d L (s+2^k)) (((ga d.ae k).c).toNat)).toNat) ((ga mk i).q)),Rs.box dD 77 [.int .i64 ((ga d.ae k).a),.int .i64 ((ga d.ae k).b),.int .i64 ((ga d.ae k).c),.int .i64 ((ga d.ae k).d),.bool ((ga d.ae k).plus)],Rs.row dW aZ fO,Rs.box bq 127 [.int .i64 (s:Int),.int .i64 (mn:Int)],Rs.box aI 24 [.slice aV d.ae.length aU,.int .i64 d.loops]]/\q<=kM d (s+2^k)+L/\mi=bsum (o9 d s (s+2^k) k mn (fw (ga mk i).p) (fw (ga mk i).q)) q/\mi<2^q/\q<=14) rfl ?_ ?_
                ·intro ak ai
                 refine⟨_,⟨0,0,rfl,ai.sub ⟨rfl,rfl,rfl,rfl,rfl,rfl,rfl,rfl,rfl,rfl,rfl,rfl,rfl,rfl,trivial⟩,ah6.pick [0,1,2,3,4,5] [_,_,_,_,_,_] (by decide) ⟨rfl,rfl,rfl,rfl,rfl,rfl,trivial⟩,?nk,?nj,?wM,?K3⟩⟩
                 case nk=>omega
                 case nj=>rfl
                 case wM=>decide
                 case K3=>omega
                ·rintro m5 a5 w98 ⟨q,mi,rfl,ql,C7,hq,jl,zL,Ci⟩
                 clear ah6
                 refine aW ql (c:=DN) rfl ?_
                 clear ql a5
                 have hpw:2^q<=2^14:=Nat.pow_le_pow_right (by decide) Ci
                 have hbl:=LB (o9 d s (s+2^k) k mn (fw (ga mk i).p) (fw (ga mk i).q) q)
                 have hmul:(bI (o9 d s (s+2^k) k mn (fw (ga mk i).p) (fw (ga mk i).q) q)).toNat*2^q<=2^q:=by have:=Nat.mul_le_mul_right (2^q) hbl.2;omega
                 refine U1 DM DL rfl rfl rfl (U1 Yt DK rfl rfl rfl (U0 rfl (af 0 2 rfl rfl (ag 2 rfl (Un rfl rfl rfl) (U3 rfl (ah [2,3,5,6,8,9,10,11,12,15,20,21,22,23,198] rfl (U2 ?_)))))))
                 refine Ua Yr Yq rfl rfl rfl rfl (fun Ca=>?_) (fun Ca=>?_)
                 ·refine Ub rfl (ah [2,3,5,6,8,9,10,11,12,15,20,21,22,23] rfl (U2 (U1 HM Yp rfl rfl rfl (U7 Yo 9 rfl rfl rfl ?_))))
                  have u9:=hval q (by omega)
                  have hvm:(ga ((ru.set ((ga (aO d L (s+2^k)) (((ga d.ae k).a).toNat)).toNat) ((ga mk i).p)).set ((ga (aO d L (s+2^k)) (((ga d.ae k).c).toNat)).toNat) ((ga mk i).q)) q).toNat*2^q<=2^q:=by rw[u9];exact hmul
                  refine U0 rfl (af 0 3 rfl rfl (ag 3 rfl (Ue (C:=Uh) (i:=1) q rfl rfl rfl aS C7 rfl (by first|rfl|omega) (by first|omega|(simp only[ls];omega))) ?_))
                  refine ag 4 rfl (U5 rfl rfl aw rfl (C7.cK (i:=1) (e:=q) (j:=0) rfl (by first|omega|(simp only[ls];omega)) rfl rfl)) ?_
                  refine af 5 1 rfl rfl (ag 6 rfl (Ay (v:=((ga ((ru.set ((ga (aO d L (s+2^k)) (((ga d.ae k).a).toNat)).toNat) ((ga mk i).p)).set ((ga (aO d L (s+2^k)) (((ga d.ae k).c).toNat)).toNat) ((ga mk i).q)) q).toNat)) (n:=q) rfl (congrArg (fun z=>some (Value.int IntKind.i64 z)) (show ga ((ru.set ((ga (aO d L (s+2^k)) (((ga d.ae k).a).toNat)).toNat) ((ga mk i).p)).set ((ga (aO d L (s+2^k)) (((ga d.ae k).c).toNat)).toNat) ((ga mk i).q)) q=(((ga ((ru.set ((ga (aO d L (s+2^k)) (((ga d.ae k).a).toNat)).toNat) ((ga mk i).p)).set ((ga (aO d L (s+2^k)) (((ga d.ae k).c).toNat)).toNat) ((ga mk i).q)) q).toNat:Nat):Int) by omega)) rfl (by first|omega|(simp only[ls];omega)) (by first|omega|(simp only[ls];omega))) ?_)
                  refine ag 7 rfl (Ud rfl rfl rfl (by first|omega|(simp only[ls];omega))) ?_
                  refine af 8 1 rfl rfl (U3 rfl (Ul (ah [2,3,5,6,8,9,10,11,12,15,20,21,22,23] rfl (U2 (eZ 22 (.int .i64 ((mi+(ga ((ru.set ((ga (aO d L (s+2^k)) (((ga d.ae k).a).toNat)).toNat) ((ga mk i).p)).set ((ga (aO d L (s+2^k)) (((ga d.ae k).c).toNat)).toNat) ((ga mk i).q)) q).toNat*2^q:Nat):Int)) rfl (int_eq (by omega)) ?_)))))
                  refine U0 rfl (af 0 1 rfl rfl (ag 1 rfl (Ud rfl rfl rfl (by first|omega|(simp only[ls];omega))) ?_))
                  refine af 2 1 rfl rfl (U3 rfl (Ut ?_))
                  intro ak ai
                  refine⟨_,?wT,⟨q+1,mi+(ga ((ru.set ((ga (aO d L (s+2^k)) (((ga d.ae k).a).toNat)).toNat) ((ga mk i).p)).set ((ga (aO d L (s+2^k)) (((ga d.ae k).c).toNat)).toNat) ((ga mk i).q)) q).toNat*2^q,rfl,ai.sub ⟨rfl,rfl,rfl,rfl,rfl,rfl,rfl,rfl,rfl,rfl,rfl,rfl,rfl,rfl,trivial⟩,C7.pick [0,1,2,3,4,5] [_,_,_,_,_,_] (by decide) ⟨rfl,rfl,rfl,rfl,rfl,rfl,trivial⟩,?pN,?pM,?rZ,?Bt⟩⟩
                  case pN=>omega
                  case pM=>(rw[JM,<-jl,u9])
                  case rZ=>(rw[Nat.pow_succ];omega)
                  case Bt=>omega
                  case wT=>omega
                 ·refine Uk rfl rfl (ah [2,3,5,6,8,9,10,11,12,15,20,21,22] rfl (U2 (U0 rfl (af 0 3 rfl rfl (ag 3 rfl (run_build (l:=[_,_]) rfl rfl FQ rfl rfl) (ar 4 5 rfl rfl rfl (Uf (C:=dW) (l:=[_,_]) rfl rfl rfl rfl lH rfl rfl rfl rfl C7 ?_)))))))
                  intro rD w99 sQ;clear C7
                  refine ar 5 6 rfl rfl rfl (Ux (C:=dW) (i:=4) (q:=0) (⟨((s+2^k:Nat):Int),(mi:Int)⟩:Pq) rfl rfl rfl rfl rfl rfl rfl rfl lH sQ rfl rfl rfl (by show(_+1)*16<=_;first|omega|(simp only[ls];omega)) ?_)
                  intro sH aqX ah5;clear sQ
                  have azn:=ah5.pick [1,2,3,4,5,6] [_,_,_,_,_,_] (by decide) ⟨rfl,rfl,rfl,rfl,rfl,rfl,trivial⟩;clear ah5
                  refine af 6 1 rfl rfl (U3 rfl (Ul (ah [2,3,5,6,8,9,10,11,12,15,20,21] rfl (U2 (U0 rfl (af 0 1 rfl rfl (ag 1 rfl (Ud rfl rfl rfl (by first|omega|(simp only[ls];omega))) ?_)))))))
                  refine af 2 1 rfl rfl (U3 rfl (Ut ?_))
                  intro ak ai
                  refine⟨_,?wS,⟨i+1,(ru.set ((ga (aO d L (s+2^k)) (((ga d.ae k).a).toNat)).toNat) ((ga mk i).p)).set ((ga (aO d L (s+2^k)) (((ga d.ae k).c).toNat)).toNat) ((ga mk i).q),fO++[(⟨((s+2^k:Nat):Int),(mi:Int)⟩:Pq)],_,_,rfl,ai.sub ⟨rfl,rfl,rfl,rfl,rfl,rfl,rfl,rfl,rfl,rfl,rfl,rfl,trivial⟩,azn.pick [0,1,2,3,4,5] [_,_,_,_,_,_] (by decide) ⟨rfl,rfl,rfl,rfl,rfl,rfl,trivial⟩,?pL,?pK,?rY⟩⟩
                  case pL=>omega
                  case pK=>exact nR.put hab (by omega) (by unfold mJ;omega) (by unfold mG;omega) _ _
                  case rY=>(rw[lU,kJ mk i (by omega),List.map_append,<-List.append_assoc];refine congrArg _ ?_;show[Pq.mk _ _]=[qw d L s mn _ k _];unfold qw;refine congrArg (fun z=>[z]) ?_;rw[<-JI,<-(show q=kM d (s+2^k)+L by omega),<-jl])
                  case wS=>omega
               ·refine Uk rfl rfl (Ul (ah [2,3,5,6,8] rfl (U2 (U0 rfl (af 0 1 rfl rfl (ag 1 rfl (Ud rfl rfl rfl (by first|omega|(simp only[ls];omega))) ?_))))))
                refine af 2 1 rfl rfl (U3 rfl (Ut ?_))
                intro ak ai
                refine⟨_,?wQ,⟨k+1,fO,_,_,(hle2.trans iR),rfl,ai.sub ⟨rfl,rfl,rfl,rfl,rfl,trivial⟩,x7.pick [3,4,5] [_,_,_] (by decide) ⟨rfl,rfl,rfl,trivial⟩,?wy,?wu⟩⟩
                case wy=>omega
                case wu=>first|(rw[Ba d L s mn k (by unfold aD;omega)];exact j5)|(rw[lU,show i=mk.length by omega,List.take_length,wA,yu d L s mn k zj,hmk,j5])
                case wQ=>omega
         ·refine Ub rfl (ah [2,3,5,6,8,9,10,11,12,13,14,15,18,20] rfl (U2 (U1 H8 H7 rfl rfl rfl (U1 Zq3 H6 rfl rfl rfl (U0 rfl (af 0 2 rfl rfl (ag 2 rfl (Uz rfl rfl rfl) (af 3 1 rfl rfl ?_))))))))
          refine mA (k':=7) (d:=149) (decide ((((kI d s (aK d k 0):Nat):Int)=((kI d s (aK d k 2):Nat):Int))/\(((aD mn (kI d s (aK d k 0)):Nat):Int)=1))) [(2,_),(3,_),(5,_),(6,_),(8,_),(9,_),(10,_),(11,_),(12,_),(13,_),(14,_),(15,_),(18,_),(20,_)] ⟨rfl,rfl,rfl,rfl,rfl,rfl,rfl,rfl,rfl,rfl,rfl,rfl,rfl,rfl,trivial⟩ (fun Ce=>?_) ?_
          ·refine Uy (t:=146) rfl (fun wV=>?_) (fun wV=>?_)
           ·refine af 4 1 rfl rfl (aP 5 6 rfl rfl rfl rfl rfl rfl rfl rfl (U8 rfl rfl (Uz rfl rfl rfl) (af 6 1 rfl rfl ?_)))
            exact cZ 149 (.bool (decide ((((kI d s (aK d k 0):Nat):Int)=((kI d s (aK d k 2):Nat):Int))/\(((aD mn (kI d s (aK d k 0)):Nat):Int)=1)))) rfl (congrArg Value.bool (decide_eq_decide.2 ⟨fun h=>⟨wV,h⟩,fun h=>h.2⟩)) (fH [(149,_),(2,_),(3,_),(5,_),(6,_),(8,_),(9,_),(10,_),(11,_),(12,_),(13,_),(14,_),(15,_),(18,_),(20,_)] ⟨rfl,rfl,rfl,rfl,rfl,rfl,rfl,rfl,rfl,rfl,rfl,rfl,rfl,rfl,rfl,trivial⟩ Ce)
           ·refine af 4 3 rfl rfl ?_
            exact cZ 149 (.bool (decide ((((kI d s (aK d k 0):Nat):Int)=((kI d s (aK d k 2):Nat):Int))/\(((aD mn (kI d s (aK d k 0)):Nat):Int)=1)))) rfl (congrArg Value.bool (decide_eq_false (fun h=>wV h.1)).symm) (fH [(149,_),(2,_),(3,_),(5,_),(6,_),(8,_),(9,_),(10,_),(11,_),(12,_),(13,_),(14,_),(15,_),(18,_),(20,_)] ⟨rfl,rfl,rfl,rfl,rfl,rfl,rfl,rfl,rfl,rfl,rfl,rfl,rfl,rfl,rfl,trivial⟩ Ce)
          ·refine U3 rfl (ah [2,3,5,6,8,9,10,11,12,13,14,15,18,20,149] rfl (U2 ?_))
           refine Ua Zq5 Zq6 rfl rfl rfl rfl (fun Li=>?_) (fun Li=>?_)
           ·refine U0 rfl (af 0 1 rfl rfl (ag 1 rfl (xZ (l:=[_,_]) (pl:=[(0,1),(1,1)]) rfl rfl ja BH dw rfl rfl rfl) (ar 2 3 rfl rfl rfl (Uf (C:=bW) (l:=[_,_]) rfl rfl rfl rfl fI rfl rfl rfl rfl ik ?_))))
            intro gb6 aqW C6;clear ik
            have zr:=C6.gL bW;clear C6
            refine ar 3 4 rfl rfl rfl (Ux (C:=bW) (i:=0) (q:=1) (⟨1,1⟩:Pq) rfl rfl rfl rfl rfl rfl rfl rfl fI zr rfl rfl rfl (by show(_+1)*16<=_;first|omega|(simp only[ls];omega)) ?_)
            intro Dj aqV ah4;clear zr
            have He:=ah4.pick [0,2,3,4,5,6] [_,_,_,_,_,_] (by decide) ⟨rfl,rfl,rfl,rfl,rfl,rfl,trivial⟩;clear ah4
            refine af 4 1 rfl rfl (U3 rfl (ah [2,3,5,6,8,9,10,11,12,13,14,15,18,20] rfl (U2 (U1 D3 DZ rfl rfl rfl (U1 YC DY rfl rfl rfl (U0 rfl (af 0 2 rfl rfl (ag 2 rfl (Uz rfl rfl rfl) ?_))))))))
            refine af 3 1 rfl rfl ?_
            refine mA (k':=7) (d:=160) (decide ((((kI d s (aK d k 0):Nat):Int)=((kI d s (aK d k 2):Nat):Int))/\(((aD mn (kI d s (aK d k 0)):Nat):Int)=0))) [(2,_),(3,_),(5,_),(6,_),(8,_),(9,_),(10,_),(11,_),(12,_),(15,_),(18,_),(20,_)] ⟨rfl,rfl,rfl,rfl,rfl,rfl,rfl,rfl,rfl,rfl,rfl,rfl,trivial⟩ (fun uD=>?_) ?_
            ·refine Uy (t:=157) rfl (fun pW=>?_) (fun pW=>?_)
             ·refine af 4 1 rfl rfl (aP 5 6 rfl rfl rfl rfl rfl rfl rfl rfl (U8 rfl rfl (Uz rfl rfl rfl) (af 6 1 rfl rfl ?_)))
              exact cZ 160 (.bool (decide ((((kI d s (aK d k 0):Nat):Int)=((kI d s (aK d k 2):Nat):Int))/\(((aD mn (kI d s (aK d k 0)):Nat):Int)=0)))) rfl (congrArg Value.bool (decide_eq_decide.2 ⟨fun h=>⟨pW,h⟩,fun h=>h.2⟩)) (fH [(160,_),(2,_),(3,_),(5,_),(6,_),(8,_),(9,_),(10,_),(11,_),(12,_),(15,_),(18,_),(20,_)] ⟨rfl,rfl,rfl,rfl,rfl,rfl,rfl,rfl,rfl,rfl,rfl,rfl,rfl,trivial⟩ uD)
             ·refine af 4 3 rfl rfl ?_
              exact cZ 160 (.bool (decide ((((kI d s (aK d k 0):Nat):Int)=((kI d s (aK d k 2):Nat):Int))/\(((aD mn (kI d s (aK d k 0)):Nat):Int)=0)))) rfl (congrArg Value.bool (decide_eq_false (fun h=>pW h.1)).symm) (fH [(160,_),(2,_),(3,_),(5,_),(6,_),(8,_),(9,_),(10,_),(11,_),(12,_),(15,_),(18,_),(20,_)] ⟨rfl,rfl,rfl,rfl,rfl,rfl,rfl,rfl,rfl,rfl,rfl,rfl,rfl,trivial⟩ uD)
            ·refine U3 rfl (ah [2,3,5,6,8,9,10,11,12,15,20,160] rfl (U2 ?_))
             refine Ua YB YA rfl rfl rfl rfl (fun Cb=>?_) (fun Cb=>?_)
             ·exfalso;omega
             ·refine Ub rfl (ah [2,3,5,6,8,9,10,11,12,15,20] rfl (U2 (U1 H5 DX rfl rfl rfl ?_)))
              have pZ:([])++[(⟨1,1⟩:Pq)]=gZ (kI d s (aK d k 0)) (kI d s (aK d k 2)) (aD mn (kI d s (aK d k 0))) (aD mn (kI d s (aK d k 2))):=by unfold gZ;rw[if_neg (by omega),if_pos (by omega)]<;>rfl
              rw[pZ]at He
              have Ck:(gZ (kI d s (aK d k 0)) (kI d s (aK d k 2)) (aD mn (kI d s (aK d k 0))) (aD mn (kI d s (aK d k 2)))).length<=2:=EO _ _ _ _
              have p5:=J5 (p:=(kI d s (aK d k 0))) (q:=(kI d s (aK d k 2))) hb0 hb2
              obtain⟨mk,hmk⟩:∃mk,mk=gZ (kI d s (aK d k 0)) (kI d s (aK d k 2)) (aD mn (kI d s (aK d k 0))) (aD mn (kI d s (aK d k 2))):=⟨_,rfl⟩
              rw[<-hmk]at He Ck p5;clear pZ
              refine U0 rfl (af 0 1 rfl rfl (U3 rfl (U2 (U7 DW 6 rfl rfl rfl ?_))))
              refine Ui (fun aF ak aA=>∃(i:Nat) (ru:List Int) (fO:List Pq) (dO:Value) (aZ:Value),aF=mk.length-i/\Env 216 [(2,.pointer (some ⟨aI,0,none⟩)),(3,.pointer (some ⟨bq,0,none⟩)),(5,aZ),(6,.slice A1 (aO d L s).length c1),(8,.int .i64 (k:Int)),(9,.pointer (some ⟨dD,0,none⟩)),(10,.int .i64 ((s+2^k:Nat):Int)),(11,.slice A2 (aO d L (s+2^k)).length c2),(12,.int .i64 ((kM d (s+2^k)+L:Nat):Int)),(15,dO),(20,Dj),(21,.int .i64 (i:Int))] ak/\SH aA M9 X [Rs.row bW Dj mk,Rs.row Uh dO ru,Rs.box dD 77 [.int .i64 ((ga d.ae k).a),.int .i64 ((ga d.ae k).b),.int .i64 ((ga d.ae k).c),.int .i64 ((ga d.ae k).d),.bool ((ga d.ae k).plus)],Rs.row dW aZ fO,Rs.box bq 127 [.int .i64 (s:Int),.int .i64 (mn:Int)],Rs.box aI 24 [.slice aV d.ae.length aU,.int .i64 d.loops]]/\i<=mk.length/\rR d L s (s+2^k) k mn ru/\fO=ou++(mk.take i).map (qw d L s mn (s+2^k) k)) rfl ?_ ?_
              ·intro ak ai
               refine⟨_,⟨0,_,ou,_,_,rfl,ai.sub ⟨rfl,rfl,rfl,rfl,rfl,rfl,rfl,rfl,rfl,rfl,rfl,rfl,trivial⟩,He.pick [0,1,2,3,4,5] [_,_,_,_,_,_] (by decide) ⟨rfl,rfl,rfl,rfl,rfl,rfl,trivial⟩,?Br,?Bp,?anS⟩⟩
               case Br=>omega
               case Bp=>(have e9:x=(2*d.ae.length+1+L):=(by omega);rw[e9]at hrt;exact hrt.end_ hab)
               case anS=>simp
              ·rintro m6 a6 aAJ ⟨i,ru,fO,dO,aZ,rfl,vr,xE,hi,nR,lU⟩
               clear He
               refine aW vr (c:=zY) rfl ?_
               clear vr a6
               have LV:=nR.1
               have Lb:fO.length<=2*k+i:=by rw[lU,List.length_append,List.length_map,List.length_take];omega
               refine U1 zX zW rfl rfl rfl (U1 H3 zV rfl rfl rfl (U0 rfl (af 0 2 rfl rfl (ag 2 rfl (kL (C:=bW) (i:=0) rfl rfl rfl rfl rfl rfl fI xE rfl) (ag 3 rfl (Un rfl rfl rfl) (U3 rfl (ah [2,3,5,6,8,9,10,11,12,15,20,21,169] rfl (U2 ?_))))))))
               refine Ua HV HT rfl rfl rfl rfl (fun wW=>?_) (fun wW=>?_)
               ·refine Ub rfl (ah [2,3,5,6,8,9,10,11,12,15,20,21] rfl (U2 (U1 HR Yz rfl rfl rfl (U7 DV 7 rfl rfl rfl (U1 Yy DU rfl rfl rfl (cM rfl (by kernel_rfl) xE 13 rfl ?_))))))
                clear xE
                refine aq 0 12 rfl (by kernel_rfl) (fun _=>run_move rfl rfl) ?_
                refine aq 1 11 rfl (by kernel_rfl) (fun _=>run_move rfl rfl) ?_
                refine aq 2 10 rfl (by kernel_rfl) (fun _=>U4 rfl rfl bR rfl (aL) (aJ)) ?_
                refine au 3 9 rfl (by kernel_rfl) (fun _ _ _ aj Sz=>.inl (U5 rfl rfl aw rfl (Sz.suf.aG (i:=2) rfl rfl))) ?_
                refine au 4 8 rfl (by kernel_rfl) (fun _ _ _ aj Sz=>.inl (U9 (C:=Uh) (((ga d.ae k).a).toNat) rfl rfl rfl aS (by first|rfl|omega) (hr2.mono aj) (by first|omega|(simp only[ls];omega)))) ?_
                refine au 5 7 rfl (by kernel_rfl) (fun _ _ _ aj Sz=>.inl (U5 rfl rfl aw rfl ((hr2.mono aj).cell Sz.m (i:=((ga d.ae k).a).toNat) (by first|omega|(simp only[ls];omega)) 0 rfl rfl))) ?_
                refine aq 6 6 rfl (by kernel_rfl) (fun _=>run_move rfl rfl) ?_
                refine aq 7 5 rfl (by kernel_rfl) (fun _=>run_move rfl rfl) ?_
                refine au 8 4 rfl (by kernel_rfl) (fun _ _ _ aj Sz=>.inl (Ue (C:=bW) (i:=0) i rfl rfl rfl fI Sz.suf rfl (by first|rfl|omega) (by first|omega|(simp only[ls];omega)))) ?_
                refine au 9 3 rfl (by kernel_rfl) (fun _ _ _ aj Sz=>.inl (rN (e:=0) (k:=1) rfl rfl rfl ja dw (by first|rfl|omega) (by first|omega|(simp only[ls];omega)))) ?_
                refine au 10 2 rfl (by kernel_rfl) (fun _ _ _ aj Sz=>.inl (U5 rfl rfl aw rfl (Sz.suf.cK (i:=0) (e:=i) (j:=0) rfl (by first|omega|(simp only[ls];omega)) rfl rfl))) ?_
                refine au 11 1 rfl (by kernel_rfl) (fun _ _ _ aj Sz=>.inl (Ue (C:=Uh) (i:=1) ((ga (aO d L (s+2^k)) (((ga d.ae k).a).toNat)).toNat) rfl rfl rfl aS Sz.suf rfl (by first|rfl|omega) (by first|omega|(simp only[ls];omega)))) ?_
                refine dv (i:=12) 0 rfl (by kernel_rfl) rfl rfl (fun ae6 CY=>?_)
                refine(ij (C:=Uh) (i:=1) (e:=(ga (aO d L (s+2^k)) (((ga d.ae k).a).toNat)).toNat) (j:=0) (us:=[_]) (H':=[_,_,_,_,_,_]) ((ga mk i).p) rfl rfl CY rfl (by first|omega|(simp only[ls];omega)) rfl rfl rfl dw rfl rfl rfl rfl ?_)
                intro aqT CX;clear CY
                refine bU.turn (by kernel_rfl) CX ?_;clear CX
                change WA _ _ _ _ _ _ _ _ _ _ _ _ [_,_,_,_,_,_]
                refine cF (by kernel_rfl) (fun aAz uV=>?_)
                refine ah [2,3,5,6,8,9,10,11,12,15,20,21] rfl (U2 (U1 Yx DT rfl rfl rfl (cM rfl (by kernel_rfl) uV 13 rfl ?_)))
                clear uV
                refine aq 0 12 rfl (by kernel_rfl) (fun _=>run_move rfl rfl) ?_
                refine aq 1 11 rfl (by kernel_rfl) (fun _=>run_move rfl rfl) ?_
                refine aq 2 10 rfl (by kernel_rfl) (fun _=>U4 rfl rfl bR rfl (aL) (aJ)) ?_
                refine au 3 9 rfl (by kernel_rfl) (fun _ _ _ aj Sz=>.inl (U5 rfl rfl aw rfl (Sz.suf.aG (i:=2) rfl rfl))) ?_
                refine au 4 8 rfl (by kernel_rfl) (fun _ _ _ aj Sz=>.inl (U9 (C:=Uh) (((ga d.ae k).c).toNat) rfl rfl rfl aS (by first|rfl|omega) (hr2.mono aj) (by first|omega|(simp only[ls];omega)))) ?_
                refine au 5 7 rfl (by kernel_rfl) (fun _ _ _ aj Sz=>.inl (U5 rfl rfl aw rfl ((hr2.mono aj).cell Sz.m (i:=((ga d.ae k).c).toNat) (by first|omega|(simp only[ls];omega)) 0 rfl rfl))) ?_
                refine aq 6 6 rfl (by kernel_rfl) (fun _=>run_move rfl rfl) ?_
                refine aq 7 5 rfl (by kernel_rfl) (fun _=>run_move rfl rfl) ?_
                refine au 8 4 rfl (by kernel_rfl) (fun _ _ _ aj Sz=>.inl (Ue (C:=bW) (i:=0) i rfl rfl rfl fI Sz.suf rfl (by first|rfl|omega) (by first|omega|(simp only[ls];omega)))) ?_
                refine au 9 3 rfl (by kernel_rfl) (fun _ _ _ aj Sz=>.inl (rN (e:=1) (k:=1) rfl rfl rfl ja dw (by first|rfl|omega) (by first|omega|(simp only[ls];omega)))) ?_
                refine au 10 2 rfl (by kernel_rfl) (fun _ _ _ aj Sz=>.inl (U5 rfl rfl aw rfl (Sz.suf.cK (i:=0) (e:=i) (j:=1) rfl (by first|omega|(simp only[ls];omega)) rfl rfl))) ?_
                refine au 11 1 rfl (by kernel_rfl) (fun _ _ _ aj Sz=>.inl (Ue (C:=Uh) (i:=1) ((ga (aO d L (s+2^k)) (((ga d.ae k).c).toNat)).toNat) rfl rfl rfl aS Sz.suf rfl (by first|rfl|omega) (by first|omega|(simp only[ls];omega)))) ?_
                refine dv (i:=12) 0 rfl (by kernel_rfl) rfl rfl (fun ae5 q7=>?_)
                refine(ij (C:=Uh) (i:=1) (e:=(ga (aO d L (s+2^k)) (((ga d.ae k).c).toNat)).toNat) (j:=0) (us:=[_]) (H':=[_,_,_,_,_,_]) ((ga mk i).q) rfl rfl q7 rfl (by first|omega|(simp only[ls];omega)) rfl rfl rfl dw rfl rfl rfl rfl ?_)
                intro aqP CV;clear q7
                refine bU.turn (by kernel_rfl) CV ?_;clear CV
                change WA _ _ _ _ _ _ _ _ _ _ _ _ [_,_,_,_,_,_]
                refine cF (by kernel_rfl) (fun aqO oW=>?_)
                refine ah [2,3,5,6,8,9,10,11,12,15,20,21] rfl (U2 (U1 Yw DS rfl rfl rfl ?_))
                have hval:=nR.val hab (show k<d.ae.length by omega) (i:=(ga (aO d L (s+2^k)) (ga d.ae k).a.toNat).toNat) (j:=(ga (aO d L (s+2^k)) (ga d.ae k).c.toNat).toNat) (by unfold mJ;omega) (by unfold mG;omega) (fw (ga mk i).p) (fw (ga mk i).q) (v:=(ga mk i).p) (w:=(ga mk i).q) (p5 i (by omega)).1 (p5 i (by omega)).2
                refine U0 rfl (af 0 1 rfl rfl (U3 rfl (U2 (U1 DR Yv rfl rfl rfl (U1 Yu HQ rfl rfl rfl (U0 rfl (af 0 1 rfl rfl (U3 rfl ?_))))))))
                refine U2 (U7 HP 8 rfl rfl rfl ?_)
                refine Ui (fun aF ak aA=>∃(q:Nat) (mi:Nat),aF=kM d (s+2^k)+L-q/\Env 216 [(2,.pointer (some ⟨aI,0,none⟩)),(3,.pointer (some ⟨bq,0,none⟩)),(5,aZ),(6,.slice A1 (aO d L s).length c1),(8,.int .i64 (k:Int)),(9,.pointer (some ⟨dD,0,none⟩)),(10,.int .i64 ((s+2^k:Nat):Int)),(11,.slice A2 (aO d L (s+2^k)).length c2),(12,.int .i64 ((kM d (s+2^k)+L:Nat):Int)),(15,dO),(20,Dj),(21,.int .i64 (i:Int)),(22,.int .i64 (mi:Int)),(23,.int .i64 (q:Int))] ak/\SH aA M9 X [Rs.row bW Dj mk,Rs.row Uh dO ((ru.set ((ga (aO d L (s+2^k)) (((ga d.ae k).a).toNat)).toNat) ((ga mk i).p)).set ((ga (aO d L (s+2^k)) (((ga d.ae k).c).toNat)).toNat) ((ga mk i).q)),Rs.box dD 77 [.int .i64 ((ga d.ae k).a),.int .i64 ((ga d.ae k).b),.int .i64 ((ga d.ae k).c),.int .i64 ((ga d.ae k).d),.bool ((ga d.ae k).plus)],Rs.row dW aZ fO,Rs.box bq 127 [.int .i64 (s:Int),.int .i64 (mn:Int)],Rs.box aI 24 [.slice aV d.ae.length aU,.int .i64 d.loops]]/\q<=kM d (s+2^k)+L/\mi=bsum (o9 d s (s+2^k) k mn (fw (ga mk i).p) (fw (ga mk i).q)) q/\mi<2^q/\q<=14) rfl ?_ ?_
                ·intro ak ai
                 refine⟨_,⟨0,0,rfl,ai.sub ⟨rfl,rfl,rfl,rfl,rfl,rfl,rfl,rfl,rfl,rfl,rfl,rfl,rfl,rfl,trivial⟩,oW.pick [0,1,2,3,4,5] [_,_,_,_,_,_] (by decide) ⟨rfl,rfl,rfl,rfl,rfl,rfl,trivial⟩,?Bo,?Bn,?anR,?anQ⟩⟩
                 case Bo=>omega
                 case Bn=>rfl
                 case anR=>decide
                 case anQ=>omega
                ·rintro m7 a7 aqN ⟨q,mi,rfl,vq,gP,hq,jl,zL,Ci⟩
                 clear oW
                 refine aW vq (c:=DN) rfl ?_
                 clear vq a7
                 have hpw:2^q<=2^14:=Nat.pow_le_pow_right (by decide) Ci
                 have hbl:=LB (o9 d s (s+2^k) k mn (fw (ga mk i).p) (fw (ga mk i).q) q)
                 have hmul:(bI (o9 d s (s+2^k) k mn (fw (ga mk i).p) (fw (ga mk i).q) q)).toNat*2^q<=2^q:=by have:=Nat.mul_le_mul_right (2^q) hbl.2;omega
                 refine U1 DM DL rfl rfl rfl (U1 Yt DK rfl rfl rfl (U0 rfl (af 0 2 rfl rfl (ag 2 rfl (Un rfl rfl rfl) (U3 rfl (ah [2,3,5,6,8,9,10,11,12,15,20,21,22,23,198] rfl (U2 ?_)))))))
                 refine Ua Yr Yq rfl rfl rfl rfl (fun Ca=>?_) (fun Ca=>?_)
                 ·refine Ub rfl (ah [2,3,5,6,8,9,10,11,12,15,20,21,22,23] rfl (U2 (U1 HM Yp rfl rfl rfl (U7 Yo 9 rfl rfl rfl ?_))))
                  have u9:=hval q (by omega)
                  have hvm:(ga ((ru.set ((ga (aO d L (s+2^k)) (((ga d.ae k).a).toNat)).toNat) ((ga mk i).p)).set ((ga (aO d L (s+2^k)) (((ga d.ae k).c).toNat)).toNat) ((ga mk i).q)) q).toNat*2^q<=2^q:=by rw[u9];exact hmul
                  refine U0 rfl (af 0 3 rfl rfl (ag 3 rfl (Ue (C:=Uh) (i:=1) q rfl rfl rfl aS gP rfl (by first|rfl|omega) (by first|omega|(simp only[ls];omega))) ?_))
                  refine ag 4 rfl (U5 rfl rfl aw rfl (gP.cK (i:=1) (e:=q) (j:=0) rfl (by first|omega|(simp only[ls];omega)) rfl rfl)) ?_
                  refine af 5 1 rfl rfl (ag 6 rfl (Ay (v:=((ga ((ru.set ((ga (aO d L (s+2^k)) (((ga d.ae k).a).toNat)).toNat) ((ga mk i).p)).set ((ga (aO d L (s+2^k)) (((ga d.ae k).c).toNat)).toNat) ((ga mk i).q)) q).toNat)) (n:=q) rfl (congrArg (fun z=>some (Value.int IntKind.i64 z)) (show ga ((ru.set ((ga (aO d L (s+2^k)) (((ga d.ae k).a).toNat)).toNat) ((ga mk i).p)).set ((ga (aO d L (s+2^k)) (((ga d.ae k).c).toNat)).toNat) ((ga mk i).q)) q=(((ga ((ru.set ((ga (aO d L (s+2^k)) (((ga d.ae k).a).toNat)).toNat) ((ga mk i).p)).set ((ga (aO d L (s+2^k)) (((ga d.ae k).c).toNat)).toNat) ((ga mk i).q)) q).toNat:Nat):Int) by omega)) rfl (by first|omega|(simp only[ls];omega)) (by first|omega|(simp only[ls];omega))) ?_)
                  refine ag 7 rfl (Ud rfl rfl rfl (by first|omega|(simp only[ls];omega))) ?_
                  refine af 8 1 rfl rfl (U3 rfl (Ul (ah [2,3,5,6,8,9,10,11,12,15,20,21,22,23] rfl (U2 (eZ 22 (.int .i64 ((mi+(ga ((ru.set ((ga (aO d L (s+2^k)) (((ga d.ae k).a).toNat)).toNat) ((ga mk i).p)).set ((ga (aO d L (s+2^k)) (((ga d.ae k).c).toNat)).toNat) ((ga mk i).q)) q).toNat*2^q:Nat):Int)) rfl (int_eq (by omega)) ?_)))))
                  refine U0 rfl (af 0 1 rfl rfl (ag 1 rfl (Ud rfl rfl rfl (by first|omega|(simp only[ls];omega))) ?_))
                  refine af 2 1 rfl rfl (U3 rfl (Ut ?_))
                  intro ak ai
                  refine⟨_,?K9,⟨q+1,mi+(ga ((ru.set ((ga (aO d L (s+2^k)) (((ga d.ae k).a).toNat)).toNat) ((ga mk i).p)).set ((ga (aO d L (s+2^k)) (((ga d.ae k).c).toNat)).toNat) ((ga mk i).q)) q).toNat*2^q,rfl,ai.sub ⟨rfl,rfl,rfl,rfl,rfl,rfl,rfl,rfl,rfl,rfl,rfl,rfl,rfl,rfl,trivial⟩,gP.pick [0,1,2,3,4,5] [_,_,_,_,_,_] (by decide) ⟨rfl,rfl,rfl,rfl,rfl,rfl,trivial⟩,?Ks,?Kr,?Kq,?Ko⟩⟩
                  case Ks=>omega
                  case Kr=>(rw[JM,<-jl,u9])
                  case Kq=>(rw[Nat.pow_succ];omega)
                  case Ko=>omega
                  case K9=>omega
                 ·refine Uk rfl rfl (ah [2,3,5,6,8,9,10,11,12,15,20,21,22] rfl (U2 (U0 rfl (af 0 3 rfl rfl (ag 3 rfl (run_build (l:=[_,_]) rfl rfl FQ rfl rfl) (ar 4 5 rfl rfl rfl (Uf (C:=dW) (l:=[_,_]) rfl rfl rfl rfl lH rfl rfl rfl rfl gP ?_)))))))
                  intro HI aAq uU;clear gP
                  refine ar 5 6 rfl rfl rfl (Ux (C:=dW) (i:=4) (q:=0) (⟨((s+2^k:Nat):Int),(mi:Int)⟩:Pq) rfl rfl rfl rfl rfl rfl rfl rfl lH uU rfl rfl rfl (by show(_+1)*16<=_;first|omega|(simp only[ls];omega)) ?_)
                  intro aAS aqM p9;clear uU
                  have iU:=p9.pick [1,2,3,4,5,6] [_,_,_,_,_,_] (by decide) ⟨rfl,rfl,rfl,rfl,rfl,rfl,trivial⟩;clear p9
                  refine af 6 1 rfl rfl (U3 rfl (Ul (ah [2,3,5,6,8,9,10,11,12,15,20,21] rfl (U2 (U0 rfl (af 0 1 rfl rfl (ag 1 rfl (Ud rfl rfl rfl (by first|omega|(simp only[ls];omega))) ?_)))))))
                  refine af 2 1 rfl rfl (U3 rfl (Ut ?_))
                  intro ak ai
                  refine⟨_,?K8,⟨i+1,(ru.set ((ga (aO d L (s+2^k)) (((ga d.ae k).a).toNat)).toNat) ((ga mk i).p)).set ((ga (aO d L (s+2^k)) (((ga d.ae k).c).toNat)).toNat) ((ga mk i).q),fO++[(⟨((s+2^k:Nat):Int),(mi:Int)⟩:Pq)],_,_,rfl,ai.sub ⟨rfl,rfl,rfl,rfl,rfl,rfl,rfl,rfl,rfl,rfl,rfl,rfl,trivial⟩,iU.pick [0,1,2,3,4,5] [_,_,_,_,_,_] (by decide) ⟨rfl,rfl,rfl,rfl,rfl,rfl,trivial⟩,?Kn,?Km,?Kl⟩⟩
                  case Kn=>omega
                  case Km=>exact nR.put hab (by omega) (by unfold mJ;omega) (by unfold mG;omega) _ _
                  case Kl=>(rw[lU,kJ mk i (by omega),List.map_append,<-List.append_assoc];refine congrArg _ ?_;show[Pq.mk _ _]=[qw d L s mn _ k _];unfold qw;refine congrArg (fun z=>[z]) ?_;rw[<-JI,<-(show q=kM d (s+2^k)+L by omega),<-jl])
                  case K8=>omega
               ·refine Uk rfl rfl (Ul (ah [2,3,5,6,8] rfl (U2 (U0 rfl (af 0 1 rfl rfl (ag 1 rfl (Ud rfl rfl rfl (by first|omega|(simp only[ls];omega))) ?_))))))
                refine af 2 1 rfl rfl (U3 rfl (Ut ?_))
                intro ak ai
                refine⟨_,?apI,⟨k+1,fO,_,_,(hle2.trans iR),rfl,ai.sub ⟨rfl,rfl,rfl,rfl,rfl,trivial⟩,xE.pick [3,4,5] [_,_,_] (by decide) ⟨rfl,rfl,rfl,trivial⟩,?Kk,?Kj⟩⟩
                case Kk=>omega
                case Kj=>first|(rw[Ba d L s mn k (by unfold aD;omega)];exact j5)|(rw[lU,show i=mk.length by omega,List.take_length,wA,yu d L s mn k zj,hmk,j5])
                case apI=>omega
           ·refine Ub rfl (ah [2,3,5,6,8,9,10,11,12,13,14,15,18,20] rfl (U2 (U1 D3 DZ rfl rfl rfl (U1 YC DY rfl rfl rfl (U0 rfl (af 0 2 rfl rfl (ag 2 rfl (Uz rfl rfl rfl) (af 3 1 rfl rfl ?_))))))))
            refine mA (k':=7) (d:=160) (decide ((((kI d s (aK d k 0):Nat):Int)=((kI d s (aK d k 2):Nat):Int))/\(((aD mn (kI d s (aK d k 0)):Nat):Int)=0))) [(2,_),(3,_),(5,_),(6,_),(8,_),(9,_),(10,_),(11,_),(12,_),(15,_),(18,_),(20,_)] ⟨rfl,rfl,rfl,rfl,rfl,rfl,rfl,rfl,rfl,rfl,rfl,rfl,trivial⟩ (fun uD=>?_) ?_
            ·refine Uy (t:=157) rfl (fun pW=>?_) (fun pW=>?_)
             ·refine af 4 1 rfl rfl (aP 5 6 rfl rfl rfl rfl rfl rfl rfl rfl (U8 rfl rfl (Uz rfl rfl rfl) (af 6 1 rfl rfl ?_)))
              exact cZ 160 (.bool (decide ((((kI d s (aK d k 0):Nat):Int)=((kI d s (aK d k 2):Nat):Int))/\(((aD mn (kI d s (aK d k 0)):Nat):Int)=0)))) rfl (congrArg Value.bool (decide_eq_decide.2 ⟨fun h=>⟨pW,h⟩,fun h=>h.2⟩)) (fH [(160,_),(2,_),(3,_),(5,_),(6,_),(8,_),(9,_),(10,_),(11,_),(12,_),(15,_),(18,_),(20,_)] ⟨rfl,rfl,rfl,rfl,rfl,rfl,rfl,rfl,rfl,rfl,rfl,rfl,rfl,trivial⟩ uD)
             ·refine af 4 3 rfl rfl ?_
              exact cZ 160 (.bool (decide ((((kI d s (aK d k 0):Nat):Int)=((kI d s (aK d k 2):Nat):Int))/\(((aD mn (kI d s (aK d k 0)):Nat):Int)=0)))) rfl (congrArg Value.bool (decide_eq_false (fun h=>pW h.1)).symm) (fH [(160,_),(2,_),(3,_),(5,_),(6,_),(8,_),(9,_),(10,_),(11,_),(12,_),(15,_),(18,_),(20,_)] ⟨rfl,rfl,rfl,rfl,rfl,rfl,rfl,rfl,rfl,rfl,rfl,rfl,rfl,trivial⟩ uD)
            ·refine U3 rfl (ah [2,3,5,6,8,9,10,11,12,15,20,160] rfl (U2 ?_))
             refine Ua YB YA rfl rfl rfl rfl (fun Cb=>?_) (fun Cb=>?_)
             ·refine U0 rfl (af 0 1 rfl rfl (ag 1 rfl (xZ (l:=[_,_]) (pl:=[(0,1),(1,1)]) rfl rfl ja BH dw rfl rfl rfl) (ag 2 rfl (xZ (l:=[_,_]) (pl:=[(0,1),(1,1)]) rfl rfl ja BH dw rfl rfl rfl) (ar 3 4 rfl rfl rfl (aac (C:=bW) (l:=[_,_,_,_]) (pl:=[(0,2),(2,2)]) rfl rfl rfl rfl fI rfl rfl rfl rfl rfl ik ?_)))))
              intro gb8 aqL oV;clear ik
              have uT:=oV.KM (C:=bW) [(⟨0,1⟩:Pq),(⟨1,0⟩:Pq)] (i:=0) (H':=[_,_,_,_,_,_]) rfl rfl (by simp) rfl;clear oV
              obtain⟨UC,gX,fR,⟨_,_,eE,hr3⟩⟩:=uT.gW (i:=0) (H':=[_,_,_,_,_,_]) rfl rfl (by show 2*_<=_;decide);clear uT;injection eE with VI _ VH;subst VI;subst VH
              replace ay:=ay.mono (Hp.U6 gX fR.mx)
              replace hr1:=hr1.mono gX
              replace hr2:=hr2.mono gX
              have zm:=fR.gL bW;clear fR
              refine ar 4 5 rfl rfl rfl (Aa (C:=bW) (i:=0) rfl rfl rfl rfl rfl rfl rfl rfl fI zm rfl hr3 zm.m (by have h:_*16<=_:=hr3.room;show(0+_)*16<=_;first|omega|(simp only[ls];omega)) ?_)
              intro Di aqK ji;clear zm
              change SH _ _ _ [Rs.row bW Di ([(⟨0,1⟩:Pq),(⟨1,0⟩:Pq)]),_,_,_,_,_,_]at ji
              refine af 5 1 rfl rfl (U3 rfl (ah [2,3,5,6,8,9,10,11,12,15,20] rfl (U2 (U1 H5 DX rfl rfl rfl ?_))))
              have pZ:[(⟨0,1⟩:Pq),(⟨1,0⟩:Pq)]=gZ (kI d s (aK d k 0)) (kI d s (aK d k 2)) (aD mn (kI d s (aK d k 0))) (aD mn (kI d s (aK d k 2))):=by unfold gZ;rw[if_neg (by omega),if_neg (by omega)]<;>rfl
              rw[pZ]at ji
              have Ck:(gZ (kI d s (aK d k 0)) (kI d s (aK d k 2)) (aD mn (kI d s (aK d k 0))) (aD mn (kI d s (aK d k 2)))).length<=2:=EO _ _ _ _
              have p5:=J5 (p:=(kI d s (aK d k 0))) (q:=(kI d s (aK d k 2))) hb0 hb2
              obtain⟨mk,hmk⟩:∃mk,mk=gZ (kI d s (aK d k 0)) (kI d s (aK d k 2)) (aD mn (kI d s (aK d k 0))) (aD mn (kI d s (aK d k 2))):=⟨_,rfl⟩
              rw[<-hmk]at ji Ck p5;clear pZ
              refine U0 rfl (af 0 1 rfl rfl (U3 rfl (U2 (U7 DW 6 rfl rfl rfl ?_))))
              refine Ui (fun aF ak aA=>∃(i:Nat) (ru:List Int) (fO:List Pq) (dO:Value) (aZ:Value),aF=mk.length-i/\Env 216 [(2,.pointer (some ⟨aI,0,none⟩)),(3,.pointer (some ⟨bq,0,none⟩)),(5,aZ),(6,.slice A1 (aO d L s).length c1),(8,.int .i64 (k:Int)),(9,.pointer (some ⟨dD,0,none⟩)),(10,.int .i64 ((s+2^k:Nat):Int)),(11,.slice A2 (aO d L (s+2^k)).length c2),(12,.int .i64 ((kM d (s+2^k)+L:Nat):Int)),(15,dO),(20,Di),(21,.int .i64 (i:Int))] ak/\SH aA UC X [Rs.row bW Di mk,Rs.row Uh dO ru,Rs.box dD 77 [.int .i64 ((ga d.ae k).a),.int .i64 ((ga d.ae k).b),.int .i64 ((ga d.ae k).c),.int .i64 ((ga d.ae k).d),.bool ((ga d.ae k).plus)],Rs.row dW aZ fO,Rs.box bq 127 [.int .i64 (s:Int),.int .i64 (mn:Int)],Rs.box aI 24 [.slice aV d.ae.length aU,.int .i64 d.loops]]/\i<=mk.length/\rR d L s (s+2^k) k mn ru/\fO=ou++(mk.take i).map (qw d L s mn (s+2^k) k)) rfl ?_ ?_
              ·intro ak ai
               refine⟨_,⟨0,_,ou,_,_,rfl,ai.sub ⟨rfl,rfl,rfl,rfl,rfl,rfl,rfl,rfl,rfl,rfl,rfl,rfl,trivial⟩,ji.pick [0,2,3,4,5,6] [_,_,_,_,_,_] (by decide) ⟨rfl,rfl,rfl,rfl,rfl,rfl,trivial⟩,?Ki,?Kh,?Kg⟩⟩
               case Ki=>omega
               case Kh=>(have e9:x=(2*d.ae.length+1+L):=(by omega);rw[e9]at hrt;exact hrt.end_ hab)
               case Kg=>simp
              ·rintro m8 a8 aqJ ⟨i,ru,fO,dO,aZ,rfl,Dz,qZ,hi,nR,lU⟩
               clear ji
               refine aW Dz (c:=zY) rfl ?_
               clear Dz a8
               have LV:=nR.1
               have Lb:fO.length<=2*k+i:=by rw[lU,List.length_append,List.length_map,List.length_take];omega
               refine U1 zX zW rfl rfl rfl (U1 H3 zV rfl rfl rfl (U0 rfl (af 0 2 rfl rfl (ag 2 rfl (kL (C:=bW) (i:=0) rfl rfl rfl rfl rfl rfl fI qZ rfl) (ag 3 rfl (Un rfl rfl rfl) (U3 rfl (ah [2,3,5,6,8,9,10,11,12,15,20,21,169] rfl (U2 ?_))))))))
               refine Ua HV HT rfl rfl rfl rfl (fun wW=>?_) (fun wW=>?_)
               ·refine Ub rfl (ah [2,3,5,6,8,9,10,11,12,15,20,21] rfl (U2 (U1 HR Yz rfl rfl rfl (U7 DV 7 rfl rfl rfl (U1 Yy DU rfl rfl rfl (cM rfl (by kernel_rfl) qZ 13 rfl ?_))))))
                clear qZ
                refine aq 0 12 rfl (by kernel_rfl) (fun _=>run_move rfl rfl) ?_
                refine aq 1 11 rfl (by kernel_rfl) (fun _=>run_move rfl rfl) ?_
                refine aq 2 10 rfl (by kernel_rfl) (fun _=>U4 rfl rfl bR rfl (aL) (aJ)) ?_
                refine au 3 9 rfl (by kernel_rfl) (fun _ _ _ aj Sz=>.inl (U5 rfl rfl aw rfl (Sz.suf.aG (i:=2) rfl rfl))) ?_
                refine au 4 8 rfl (by kernel_rfl) (fun _ _ _ aj Sz=>.inl (U9 (C:=Uh) (((ga d.ae k).a).toNat) rfl rfl rfl aS (by first|rfl|omega) (hr2.mono aj) (by first|omega|(simp only[ls];omega)))) ?_
                refine au 5 7 rfl (by kernel_rfl) (fun _ _ _ aj Sz=>.inl (U5 rfl rfl aw rfl ((hr2.mono aj).cell Sz.m (i:=((ga d.ae k).a).toNat) (by first|omega|(simp only[ls];omega)) 0 rfl rfl))) ?_
                refine aq 6 6 rfl (by kernel_rfl) (fun _=>run_move rfl rfl) ?_
                refine aq 7 5 rfl (by kernel_rfl) (fun _=>run_move rfl rfl) ?_
                refine au 8 4 rfl (by kernel_rfl) (fun _ _ _ aj Sz=>.inl (Ue (C:=bW) (i:=0) i rfl rfl rfl fI Sz.suf rfl (by first|rfl|omega) (by first|omega|(simp only[ls];omega)))) ?_
                refine au 9 3 rfl (by kernel_rfl) (fun _ _ _ aj Sz=>.inl (rN (e:=0) (k:=1) rfl rfl rfl ja dw (by first|rfl|omega) (by first|omega|(simp only[ls];omega)))) ?_
                refine au 10 2 rfl (by kernel_rfl) (fun _ _ _ aj Sz=>.inl (U5 rfl rfl aw rfl (Sz.suf.cK (i:=0) (e:=i) (j:=0) rfl (by first|omega|(simp only[ls];omega)) rfl rfl))) ?_
                refine au 11 1 rfl (by kernel_rfl) (fun _ _ _ aj Sz=>.inl (Ue (C:=Uh) (i:=1) ((ga (aO d L (s+2^k)) (((ga d.ae k).a).toNat)).toNat) rfl rfl rfl aS Sz.suf rfl (by first|rfl|omega) (by first|omega|(simp only[ls];omega)))) ?_
                refine dv (i:=12) 0 rfl (by kernel_rfl) rfl rfl (fun aqI l6=>?_)
                refine(ij (C:=Uh) (i:=1) (e:=(ga (aO d L (s+2^k)) (((ga d.ae k).a).toNat)).toNat) (j:=0) (us:=[_]) (H':=[_,_,_,_,_,_]) ((ga mk i).p) rfl rfl l6 rfl (by first|omega|(simp only[ls];omega)) rfl rfl rfl dw rfl rfl rfl rfl ?_)
                intro aqH ahU;clear l6
                refine bU.turn (by kernel_rfl) ahU ?_;clear ahU
                change WA _ _ _ _ _ _ _ _ _ _ _ _ [_,_,_,_,_,_]
                refine cF (by kernel_rfl) (fun aqG ahT=>?_)
                refine ah [2,3,5,6,8,9,10,11,12,15,20,21] rfl (U2 (U1 Yx DT rfl rfl rfl (cM rfl (by kernel_rfl) ahT 13 rfl ?_)))
                clear ahT
                refine aq 0 12 rfl (by kernel_rfl) (fun _=>run_move rfl rfl) ?_
                refine aq 1 11 rfl (by kernel_rfl) (fun _=>run_move rfl rfl) ?_
                refine aq 2 10 rfl (by kernel_rfl) (fun _=>U4 rfl rfl bR rfl (aL) (aJ)) ?_
                refine au 3 9 rfl (by kernel_rfl) (fun _ _ _ aj Sz=>.inl (U5 rfl rfl aw rfl (Sz.suf.aG (i:=2) rfl rfl))) ?_
                refine au 4 8 rfl (by kernel_rfl) (fun _ _ _ aj Sz=>.inl (U9 (C:=Uh) (((ga d.ae k).c).toNat) rfl rfl rfl aS (by first|rfl|omega) (hr2.mono aj) (by first|omega|(simp only[ls];omega)))) ?_
                refine au 5 7 rfl (by kernel_rfl) (fun _ _ _ aj Sz=>.inl (U5 rfl rfl aw rfl ((hr2.mono aj).cell Sz.m (i:=((ga d.ae k).c).toNat) (by first|omega|(simp only[ls];omega)) 0 rfl rfl))) ?_
                refine aq 6 6 rfl (by kernel_rfl) (fun _=>run_move rfl rfl) ?_
                refine aq 7 5 rfl (by kernel_rfl) (fun _=>run_move rfl rfl) ?_
                refine au 8 4 rfl (by kernel_rfl) (fun _ _ _ aj Sz=>.inl (Ue (C:=bW) (i:=0) i rfl rfl rfl fI Sz.suf rfl (by first|rfl|omega) (by first|omega|(simp only[ls];omega)))) ?_
                refine au 9 3 rfl (by kernel_rfl) (fun _ _ _ aj Sz=>.inl (rN (e:=1) (k:=1) rfl rfl rfl ja dw (by first|rfl|omega) (by first|omega|(simp only[ls];omega)))) ?_
                refine au 10 2 rfl (by kernel_rfl) (fun _ _ _ aj Sz=>.inl (U5 rfl rfl aw rfl (Sz.suf.cK (i:=0) (e:=i) (j:=1) rfl (by first|omega|(simp only[ls];omega)) rfl rfl))) ?_
                refine au 11 1 rfl (by kernel_rfl) (fun _ _ _ aj Sz=>.inl (Ue (C:=Uh) (i:=1) ((ga (aO d L (s+2^k)) (((ga d.ae k).c).toNat)).toNat) rfl rfl rfl aS Sz.suf rfl (by first|rfl|omega) (by first|omega|(simp only[ls];omega)))) ?_
                refine dv (i:=12) 0 rfl (by kernel_rfl) rfl rfl (fun aAc ahS=>?_)
                refine(ij (C:=Uh) (i:=1) (e:=(ga (aO d L (s+2^k)) (((ga d.ae k).c).toNat)).toNat) (j:=0) (us:=[_]) (H':=[_,_,_,_,_,_]) ((ga mk i).q) rfl rfl ahS rfl (by first|omega|(simp only[ls];omega)) rfl rfl rfl dw rfl rfl rfl rfl ?_)
                intro aAb ahR;clear ahS
                refine bU.turn (by kernel_rfl) ahR ?_;clear ahR
                change WA _ _ _ _ _ _ _ _ _ _ _ _ [_,_,_,_,_,_]
                refine cF (by kernel_rfl) (fun aAa ahQ=>?_)
                refine ah [2,3,5,6,8,9,10,11,12,15,20,21] rfl (U2 (U1 Yw DS rfl rfl rfl ?_))
                have hval:=nR.val hab (show k<d.ae.length by omega) (i:=(ga (aO d L (s+2^k)) (ga d.ae k).a.toNat).toNat) (j:=(ga (aO d L (s+2^k)) (ga d.ae k).c.toNat).toNat) (by unfold mJ;omega) (by unfold mG;omega) (fw (ga mk i).p) (fw (ga mk i).q) (v:=(ga mk i).p) (w:=(ga mk i).q) (p5 i (by omega)).1 (p5 i (by omega)).2
                refine U0 rfl (af 0 1 rfl rfl (U3 rfl (U2 (U1 DR Yv rfl rfl rfl (U1 Yu HQ rfl rfl rfl (U0 rfl (af 0 1 rfl rfl (U3 rfl ?_))))))))
                refine U2 (U7 HP 8 rfl rfl rfl ?_)
                refine Ui (fun aF ak aA=>∃(q:Nat) (mi:Nat),aF=kM d (s+2^k)+L-q/\Env 216 [(2,.pointer (some ⟨aI,0,none⟩)),(3,.pointer (some ⟨bq,0,none⟩)),(5,aZ),(6,.slice A1 (aO d L s).length c1),(8,.int .i64 (k:Int)),(9,.pointer (some ⟨dD,0,none⟩)),(10,.int .i64 ((s+2^k:Nat):Int)),(11,.slice A2 (aO d L (s+2^k)).length c2),(12,.int .i64 ((kM d (s+2^k)+L:Nat):Int)),(15,dO),(20,Di),(21,.int .i64 (i:Int)),(22,.int .i64 (mi:Int)),(23,.int .i64 (q:Int))] ak/\SH aA UC X [Rs.row bW Di mk,Rs.row Uh dO ((ru.set ((ga (aO d L (s+2^k)) (((ga d.ae k).a).toNat)).toNat) ((ga mk i).p)).set ((ga (aO d L (s+2^k)) (((ga d.ae k).c).toNat)).toNat) ((ga mk i).q)),Rs.box dD 77 [.int .i64 ((ga d.ae k).a),.int .i64 ((ga d.ae k).b),.int .i64 ((ga d.ae k).c),.int .i64 ((ga d.ae k).d),.bool ((ga d.ae k).plus)],Rs.row dW aZ fO,Rs.box bq 127 [.int .i64 (s:Int),.int .i64 (mn:Int)],Rs.box aI 24 [.slice aV d.ae.length aU,.int .i64 d.loops]]/\q<=kM d (s+2^k)+L/\mi=bsum (o9 d s (s+2^k) k mn (fw (ga mk i).p) (fw (ga mk i).q)) q/\mi<2^q/\q<=14) rfl ?_ ?_
                ·intro ak ai
                 refine⟨_,⟨0,0,rfl,ai.sub ⟨rfl,rfl,rfl,rfl,rfl,rfl,rfl,rfl,rfl,rfl,rfl,rfl,rfl,rfl,trivial⟩,ahQ.pick [0,1,2,3,4,5] [_,_,_,_,_,_] (by decide) ⟨rfl,rfl,rfl,rfl,rfl,rfl,trivial⟩,?Kf,?Ke,?Kc,?Kb⟩⟩
                 case Kf=>omega
                 case Ke=>rfl
                 case Kc=>decide
                 case Kb=>omega
                ·rintro m9 a9 az9 ⟨q,mi,rfl,Vo,CS,hq,jl,zL,Ci⟩
                 clear ahQ
                 refine aW Vo (c:=DN) rfl ?_
                 clear Vo a9
                 have hpw:2^q<=2^14:=Nat.pow_le_pow_right (by decide) Ci
                 have hbl:=LB (o9 d s (s+2^k) k mn (fw (ga mk i).p) (fw (ga mk i).q) q)
                 have hmul:(bI (o9 d s (s+2^k) k mn (fw (ga mk i).p) (fw (ga mk i).q) q)).toNat*2^q<=2^q:=by have:=Nat.mul_le_mul_right (2^q) hbl.2;omega
                 refine U1 DM DL rfl rfl rfl (U1 Yt DK rfl rfl rfl (U0 rfl (af 0 2 rfl rfl (ag 2 rfl (Un rfl rfl rfl) (U3 rfl (ah [2,3,5,6,8,9,10,11,12,15,20,21,22,23,198] rfl (U2 ?_)))))))
                 refine Ua Yr Yq rfl rfl rfl rfl (fun Ca=>?_) (fun Ca=>?_)
                 ·refine Ub rfl (ah [2,3,5,6,8,9,10,11,12,15,20,21,22,23] rfl (U2 (U1 HM Yp rfl rfl rfl (U7 Yo 9 rfl rfl rfl ?_))))
                  have u9:=hval q (by omega)
                  have hvm:(ga ((ru.set ((ga (aO d L (s+2^k)) (((ga d.ae k).a).toNat)).toNat) ((ga mk i).p)).set ((ga (aO d L (s+2^k)) (((ga d.ae k).c).toNat)).toNat) ((ga mk i).q)) q).toNat*2^q<=2^q:=by rw[u9];exact hmul
                  refine U0 rfl (af 0 3 rfl rfl (ag 3 rfl (Ue (C:=Uh) (i:=1) q rfl rfl rfl aS CS rfl (by first|rfl|omega) (by first|omega|(simp only[ls];omega))) ?_))
                  refine ag 4 rfl (U5 rfl rfl aw rfl (CS.cK (i:=1) (e:=q) (j:=0) rfl (by first|omega|(simp only[ls];omega)) rfl rfl)) ?_
                  refine af 5 1 rfl rfl (ag 6 rfl (Ay (v:=((ga ((ru.set ((ga (aO d L (s+2^k)) (((ga d.ae k).a).toNat)).toNat) ((ga mk i).p)).set ((ga (aO d L (s+2^k)) (((ga d.ae k).c).toNat)).toNat) ((ga mk i).q)) q).toNat)) (n:=q) rfl (congrArg (fun z=>some (Value.int IntKind.i64 z)) (show ga ((ru.set ((ga (aO d L (s+2^k)) (((ga d.ae k).a).toNat)).toNat) ((ga mk i).p)).set ((ga (aO d L (s+2^k)) (((ga d.ae k).c).toNat)).toNat) ((ga mk i).q)) q=(((ga ((ru.set ((ga (aO d L (s+2^k)) (((ga d.ae k).a).toNat)).toNat) ((ga mk i).p)).set ((ga (aO d L (s+2^k)) (((ga d.ae k).c).toNat)).toNat) ((ga mk i).q)) q).toNat:Nat):Int) by omega)) rfl (by first|omega|(simp only[ls];omega)) (by first|omega|(simp only[ls];omega))) ?_)
                  refine ag 7 rfl (Ud rfl rfl rfl (by first|omega|(simp only[ls];omega))) ?_
                  refine af 8 1 rfl rfl (U3 rfl (Ul (ah [2,3,5,6,8,9,10,11,12,15,20,21,22,23] rfl (U2 (eZ 22 (.int .i64 ((mi+(ga ((ru.set ((ga (aO d L (s+2^k)) (((ga d.ae k).a).toNat)).toNat) ((ga mk i).p)).set ((ga (aO d L (s+2^k)) (((ga d.ae k).c).toNat)).toNat) ((ga mk i).q)) q).toNat*2^q:Nat):Int)) rfl (int_eq (by omega)) ?_)))))
                  refine U0 rfl (af 0 1 rfl rfl (ag 1 rfl (Ud rfl rfl rfl (by first|omega|(simp only[ls];omega))) ?_))
                  refine af 2 1 rfl rfl (U3 rfl (Ut ?_))
                  intro ak ai
                  refine⟨_,?apD,⟨q+1,mi+(ga ((ru.set ((ga (aO d L (s+2^k)) (((ga d.ae k).a).toNat)).toNat) ((ga mk i).p)).set ((ga (aO d L (s+2^k)) (((ga d.ae k).c).toNat)).toNat) ((ga mk i).q)) q).toNat*2^q,rfl,ai.sub ⟨rfl,rfl,rfl,rfl,rfl,rfl,rfl,rfl,rfl,rfl,rfl,rfl,rfl,rfl,trivial⟩,CS.pick [0,1,2,3,4,5] [_,_,_,_,_,_] (by decide) ⟨rfl,rfl,rfl,rfl,rfl,rfl,trivial⟩,?anM,?anL,?anK,?anJ⟩⟩
                  case anM=>omega
                  case anL=>(rw[JM,<-jl,u9])
                  case anK=>(rw[Nat.pow_succ];omega)
                  case anJ=>omega
                  case apD=>omega
                 ·refine Uk rfl rfl (ah [2,3,5,6,8,9,10,11,12,15,20,21,22] rfl (U2 (U0 rfl (af 0 3 rfl rfl (ag 3 rfl (run_build (l:=[_,_]) rfl rfl FQ rfl rfl) (ar 4 5 rfl rfl rfl (Uf (C:=dW) (l:=[_,_]) rfl rfl rfl rfl lH rfl rfl rfl rfl CS ?_)))))))
                  intro gb9 az8 ahP;clear CS
                  refine ar 5 6 rfl rfl rfl (Ux (C:=dW) (i:=4) (q:=0) (⟨((s+2^k:Nat):Int),(mi:Int)⟩:Pq) rfl rfl rfl rfl rfl rfl rfl rfl lH ahP rfl rfl rfl (by show(_+1)*16<=_;first|omega|(simp only[ls];omega)) ?_)
                  intro aAR az7 ahO;clear ahP
                  have azl:=ahO.pick [1,2,3,4,5,6] [_,_,_,_,_,_] (by decide) ⟨rfl,rfl,rfl,rfl,rfl,rfl,trivial⟩;clear ahO
                  refine af 6 1 rfl rfl (U3 rfl (Ul (ah [2,3,5,6,8,9,10,11,12,15,20,21] rfl (U2 (U0 rfl (af 0 1 rfl rfl (ag 1 rfl (Ud rfl rfl rfl (by first|omega|(simp only[ls];omega))) ?_)))))))
                  refine af 2 1 rfl rfl (U3 rfl (Ut ?_))
                  intro ak ai
                  refine⟨_,?apC,⟨i+1,(ru.set ((ga (aO d L (s+2^k)) (((ga d.ae k).a).toNat)).toNat) ((ga mk i).p)).set ((ga (aO d L (s+2^k)) (((ga d.ae k).c).toNat)).toNat) ((ga mk i).q),fO++[(⟨((s+2^k:Nat):Int),(mi:Int)⟩:Pq)],_,_,rfl,ai.sub ⟨rfl,rfl,rfl,rfl,rfl,rfl,rfl,rfl,rfl,rfl,rfl,rfl,trivial⟩,azl.pick [0,1,2,3,4,5] [_,_,_,_,_,_] (by decide) ⟨rfl,rfl,rfl,rfl,rfl,rfl,trivial⟩,?anI,?anH,?anG⟩⟩
                  case anI=>omega
                  case anH=>exact nR.put hab (by omega) (by unfold mJ;omega) (by unfold mG;omega) _ _
                  case anG=>(rw[lU,kJ mk i (by omega),List.map_append,<-List.append_assoc];refine congrArg _ ?_;show[Pq.mk _ _]=[qw d L s mn _ k _];unfold qw;refine congrArg (fun z=>[z]) ?_;rw[<-JI,<-(show q=kM d (s+2^k)+L by omega),<-jl])
                  case apC=>omega
               ·refine Uk rfl rfl (Ul (ah [2,3,5,6,8] rfl (U2 (U0 rfl (af 0 1 rfl rfl (ag 1 rfl (Ud rfl rfl rfl (by first|omega|(simp only[ls];omega))) ?_))))))
                refine af 2 1 rfl rfl (U3 rfl (Ut ?_))
                intro ak ai
                refine⟨_,?apB,⟨k+1,fO,_,_,((hle2.trans iR).trans gX),rfl,ai.sub ⟨rfl,rfl,rfl,rfl,rfl,trivial⟩,qZ.pick [3,4,5] [_,_,_] (by decide) ⟨rfl,rfl,rfl,trivial⟩,?anF,?anE⟩⟩
                case anF=>omega
                case anE=>first|(rw[Ba d L s mn k (by unfold aD;omega)];exact j5)|(rw[lU,show i=mk.length by omega,List.take_length,wA,yu d L s mn k zj,hmk,j5])
                case apB=>omega
             ·refine Ub rfl (ah [2,3,5,6,8,9,10,11,12,15,20] rfl (U2 (U1 H5 DX rfl rfl rfl ?_)))
              have hmk:[]=gZ (kI d s (aK d k 0)) (kI d s (aK d k 2)) (aD mn (kI d s (aK d k 0))) (aD mn (kI d s (aK d k 2))):=by unfold gZ;rw[if_pos (by omega),if_neg (by omega)]
              obtain⟨mk,pZ⟩:∃mk:List Pq,mk=[]:=⟨_,rfl⟩
              rw[<-pZ]at hmk
              have aBB:mk.length=0:=by rw[pZ];rfl
              refine U0 rfl (af 0 1 rfl rfl (U3 rfl (U2 (U7 DW 6 rfl rfl rfl ?_))))
              refine Ui (fun aF ak aA=>∃(i:Nat) (ru:List Int) (fO:List Pq) (dO:Value) (aZ:Value),aF=mk.length-i/\Env 216 [(2,.pointer (some ⟨aI,0,none⟩)),(3,.pointer (some ⟨bq,0,none⟩)),(5,aZ),(6,.slice A1 (aO d L s).length c1),(8,.int .i64 (k:Int)),(9,.pointer (some ⟨dD,0,none⟩)),(10,.int .i64 ((s+2^k:Nat):Int)),(11,.slice A2 (aO d L (s+2^k)).length c2),(12,.int .i64 ((kM d (s+2^k)+L:Nat):Int)),(15,dO),(20,.slice none 0 0),(21,.int .i64 (i:Int))] ak/\SH aA M9 X [Rs.row Uh dO ru,Rs.box dD 77 [.int .i64 ((ga d.ae k).a),.int .i64 ((ga d.ae k).b),.int .i64 ((ga d.ae k).c),.int .i64 ((ga d.ae k).d),.bool ((ga d.ae k).plus)],Rs.row dW aZ fO,Rs.box bq 127 [.int .i64 (s:Int),.int .i64 (mn:Int)],Rs.box aI 24 [.slice aV d.ae.length aU,.int .i64 d.loops]]/\i<=mk.length/\rR d L s (s+2^k) k mn ru/\fO=ou++(mk.take i).map (qw d L s mn (s+2^k) k)) rfl ?_ ?_
              ·intro ak ai
               refine⟨_,⟨0,_,ou,_,_,rfl,ai.sub ⟨rfl,rfl,rfl,rfl,rfl,rfl,rfl,rfl,rfl,rfl,rfl,rfl,trivial⟩,ik.pick [0,1,2,3,4] [_,_,_,_,_] (by decide) ⟨rfl,rfl,rfl,rfl,rfl,trivial⟩,?anD,?anC,?anB⟩⟩
               case anD=>omega
               case anC=>(have e9:x=(2*d.ae.length+1+L):=(by omega);rw[e9]at hrt;exact hrt.end_ hab)
               case anB=>simp
              ·rintro m10 a10 az6 ⟨i,ru,fO,dO,aZ,rfl,afG,azk,hi,nR,lU⟩
               clear ik
               refine aW afG (c:=zY) rfl ?_
               clear afG a10
               have LV:=nR.1
               have Lb:fO.length<=2*k+i:=by rw[lU,List.length_append,List.length_map,List.length_take];omega
               refine U1 zX zW rfl rfl rfl (U1 H3 zV rfl rfl rfl (U0 rfl (af 0 2 rfl rfl (ag 2 rfl (Uv rfl rfl rfl rfl rfl rfl aeo) (ag 3 rfl (Un rfl rfl rfl) (U3 rfl (ah [2,3,5,6,8,9,10,11,12,15,20,21,169] rfl (U2 ?_))))))))
               refine Ua HV HT rfl rfl rfl rfl (fun wW=>?_) (fun wW=>?_)
               ·exfalso;omega
               ·refine Uk rfl rfl (Ul (ah [2,3,5,6,8] rfl (U2 (U0 rfl (af 0 1 rfl rfl (ag 1 rfl (Ud rfl rfl rfl (by first|omega|(simp only[ls];omega))) ?_))))))
                refine af 2 1 rfl rfl (U3 rfl (Ut ?_))
                intro ak ai
                refine⟨_,?apA,⟨k+1,fO,_,_,(hle2.trans iR),rfl,ai.sub ⟨rfl,rfl,rfl,rfl,rfl,trivial⟩,azk.pick [2,3,4] [_,_,_] (by decide) ⟨rfl,rfl,rfl,trivial⟩,?anA,?anz⟩⟩
                case anA=>omega
                case anz=>first|(rw[Ba d L s mn k (by unfold aD;omega)];exact j5)|(rw[lU,show i=mk.length by omega,List.take_length,wA,yu d L s mn k zj,hmk,j5])
                case apA=>omega
  ·refine Uk rfl rfl (ah [5] rfl (U2 (U1 Zrb Zrc rfl rfl rfl (U0 rfl (af 0 2 rfl rfl (U3 rfl (ah [4] rfl (U2 ?_))))))))
   obtain⟨aBY,Kz,ahN,⟨A3,c3,e1,hr4⟩⟩:=S5.gW (i:=0) (H':=[_,_,_]) rfl rfl (by show _*16<=_;first|omega|(simp only[ls];omega))
   clear S5;subst e1
   replace ay:=ay.mono (Hp.U6 Kz ahN.mx)
   replace hr1:=hr1.mono Kz
   refine Us hC [_] rfl rfl ⟨rfl,trivial⟩ ?_
   refine⟨_,rfl,_,(hle1.trans hle2).trans Kz,(ahN.pick [] [] (by decide) trivial),?_⟩
   have e9:k=d.ae.length:=by omega
   rw[e9]at j5
   rw[<-j5]
   exact⟨_,_,rfl,hr4⟩
end Go.Proofs.YthppkofceancjaaGreat
namespace Go.Proofs.YthppkofceancjaaGreat
open Go.RowKit
def pU(r:List Bool):Int:=match jD r with|none=>-1|some l=>(l:Int)
theorem akl{r:List Bool}{c:Nat}(h:∀j,j<c->ga r j=false)(hc:c<r.length)(e:ga r c=true):jD r=some c:=by
 unfold jD
 rw[List.findIdx?_eq_some_iff_getElem]
 refine⟨hc,by rw[<-bV hc];exact e,fun j hj=>?_⟩
 have:=h j hj
 rw[bV (by omega)]at this
 simp[this]
theorem alQ{r:List Bool}(h:∀j,j<r.length->ga r j=false):jD r=none:=by
 unfold jD
 rw[List.findIdx?_eq_none_iff]
 intro x hx
 obtain⟨j,hj,rfl⟩:=List.getElem_of_mem hx
 have:=h j hj
 rw[bV hj]at this
 simp[this]
theorem ajf{r:List Bool}{c:Nat}(h:∀j,j<c->ga r j=false)(hc:c<r.length)(e:ga r c=true):(c:Int)=pU r:=by unfold pU;rw[akl h hc e]
theorem akm{r:List Bool}(h:∀j,j<r.length->ga r j=false):(-1:Int)=pU r:=by unfold pU;rw[alQ h]
theorem aje{r:List Bool}(h:pU r<0):jD r=none:=by
 unfold pU at h
 cases e:jD r with
 |none=>rfl
 |some l=>rw[e]at h;dsimp only at h;omega
theorem ajd{r:List Bool}(h:¬pU r<0):∃l:Nat,jD r=some l/\pU r=(l:Int)/\l<r.length:=by
 unfold pU at h ⊢
 cases e:jD r with
 |none=>rw[e]at h;exact absurd (by decide) h
 |some l=>exact⟨l,rfl,rfl,(aau e).1⟩
def vC(tb:List (List Bool))(i l j:Nat):List Bool:=if ga (ga tb j) l=true then ku (ga tb j) (ga tb i)else ga tb j
theorem ald{tb:List (List Bool)}{i m:Nat}(hl:tb.length=m)(hi:i<m)(h:jD (ga tb i)=none):rkD (m-i) (tb.drop i)=rkD (m-(i+1)) (tb.drop (i+1)):=by
 rw[show m-i=(m-(i+1))+1 by omega,List.drop_eq_getElem_cons (by omega),<-bV]
 show(match jD (ga tb i)with|none=>_|some l=>_)=_
 rw[h]
theorem alc{tb tc:List (List Bool)}{i l m:Nat}(hl:tb.length=m)(hl2:tc.length=m)(hi:i<m)(h:jD (ga tb i)=some l)(hg:∀j,j<m->ga tc j=if i<j/\j<m then vC tb i l j else ga tb j):rkD (m-i) (tb.drop i)=1+rkD (m-(i+1)) (tc.drop (i+1)):=by
 have e:tc.drop (i+1)=(tb.drop (i+1)).map fun q=>if ga q l=true then ku q (ga tb i)else q:=by
  refine List.ext_getElem (by simp[hl,hl2]) fun j h1 h2=>?_
  rw[List.getElem_map,List.getElem_drop,List.getElem_drop]
  have hj:i+1+j<m:=by rw[List.length_drop]at h1;omega
  have:=hg (i+1+j) hj
  rw[if_pos (by omega),bV (by omega)]at this
  rw[this]
  unfold vC
  rw[bV (xs:=tb) (i:=i+1+j) (by omega)]
 rw[e,show m-i=(m-(i+1))+1 by omega,List.drop_eq_getElem_cons (by omega),<-bV]
 show(match jD (ga tb i)with|none=>_|some l=>_)=_
 rw[h]
theorem aok{tb:List (List Bool)}{i l j N:Nat}(h1:(ga tb i).length=N)(h2:(ga tb j).length=N):(vC tb i l j).length=N:=by
 unfold vC
 split
 ·rw[Al (by omega)];exact h2
 ·exact h2
theorem aoj{tb:List (List Bool)}{r:List Bool}{i l k N:Nat}(hb:ga (ga tb k) l=true)(h1:(ga tb i).length=N)(h2:(ga tb k).length=N)(hr:r.length=N)(hg:∀x,x<N->ga r x=if x<N then(ga (ga tb k) x !=ga (ga tb i) x)else ga (ga tb k) x):r=vC tb i l k:=by
 unfold vC
 rw[if_pos hb]
 refine yI (by rw[Al (by omega)];omega) fun x hx=>?_
 rw[hg x (by omega),if_pos (by omega),Jm (by omega)]
end Go.Proofs.YthppkofceancjaaGreat
