/- Part 15 of the proof of the law KhovanovTells: the walks through its functions and the plain laws that they need. -/
import Derived.Test.YthppkofceancjaaGreatKhX14
import Derived.Lib.SmallJoins
import Derived.Deep.Slices
import Derived.Deep.Fields
import Derived.ChangeSame
set_option linter.unusedSimpArgs false
set_option linter.unusedVariables false
noncomputable section
namespace Go.Proofs.YthppkofceancjaaGreat
open Go.ChangeShapes Go.WideShapes Go.ChangeAt Go.RowKit
def Lk(d:Dg):Nat:=d.loops.toNat
theorem Je{d:Dg}(h:eX d=0):d.ae.length<=6/\Uu d=true/\d.loops=((Lk d:Nat):Int)/\Lk d<=2/\iM d=true:=by
 unfold eX at h
 split at h
 ·rename_i h0
  split at h
  ·cases h
  ·rename_i h1
   obtain⟨h2,h3⟩:=acU h0
   rw[IQ,Bool.and_eq_true,decide_eq_true_iff]at h2
   obtain⟨⟨_,l0,l1,l2⟩,hab⟩:=h2
   unfold Lk
   exact⟨by omega,hab,by omega,by omega,h3⟩
 ·exact absurd h (by assumption)
theorem amb(d:Dg):(jx d 6=0/\2<d.loops/\eX d=2)\/(¬(jx d 6=0/\2<d.loops)/\eX d=jx d 6):=by
 unfold eX jx
 by_cases h0:ia d=0
 ·rw[if_pos h0,if_pos h0]
  by_cases h1:6<d.ae.length
  ·rw[if_pos h1,if_pos (.inl h1)];right;exact⟨by omega,rfl⟩
  ·rw[if_neg h1]
   by_cases h2:2<d.loops
   ·rw[if_pos (.inr h2)];left;exact⟨rfl,h2,rfl⟩
   ·rw[if_neg (by omega)];right;exact⟨by omega,rfl⟩
 ·rw[if_neg h0,if_neg h0];right;exact⟨by omega,rfl⟩
theorem alh(dn:List (Pq×Int))(k:Pq)(v:Int):qE (dn++[(k,v)])=qE dn++[(⟨k.p,k.q⟩,v)]:=by unfold qE;rw[List.map_append];rfl
theorem aeA(dn:List (Pq×Int))(k:Pq)(v:Int):(ib (qE (dn++[(k,v)]))).map tP=(ib (qE dn)).map tP++(if v=0 then[]else[(⟨k.p,k.q,v⟩:T2)]):=by
 rw[alh,akc,List.map_append]
 split<;>rfl
theorem adD{es dn lf:List (Pq×Int)}(h:qb es)(hp:(dn++lf).Perm es):((ib (qE dn)).map tP).length<=2199023255553:=by
 have h1:=gI.arj h
 have h2:=hp.length_eq
 have h3:=(yn (qE dn)).length_le
 unfold qE at h1 h3
 rw[List.length_map,List.length_map]at h1
 rw[List.length_map]at h3
 rw[List.length_append]at h2
 rw[List.length_map]
 unfold qE
 omega
def KrR(d:Dg)(u:Value)(N:Hp):Prop:=
 (eX d≠0/\u=.tuple [.slice none 0 0,.int .i64 (eX d)].toArray)\/
 (eX d=0/\∃A c,u=.tuple [.slice A (ct d (Lk d)).length c,.int .i64 0].toArray/\aB bH N A c (ct d (Lk d)))
def EuR(d:Dg)(u:Value)(N:Hp):Prop:=
 (eX d≠0/\u=.tuple [.slice none 0 0,.int .i64 (eX d)].toArray)\/
 (eX d=0/\∃A c l,u=.tuple [.slice A l.length c,.int .i64 0].toArray/\aB eT N A c l/\Can l/\Bd l 400/\mk (pr l)=oN (ct d (Lk d)))
theorem ama{ws:List (Int×Int)}{l:List T2}{i:Nat}(h:mk ws=oN (l.take i))(hi:i<l.length):mk (mp (ga l i).z (wr ((mg (ga l i).z ws).getD 0+wr ((ga l i).c*wr (1-wr (2*((ga l i).x%2)))))) ws)=oN (l.take (i+1)):=by
 rw[aaW,h,aoi,kJ l i hi,abb]
noncomputable def Nt:=Tryz.f23.body.getD .skip
def atG:=cL Nt
def Ns:=cR Nt
def atF:=cL Ns
def Nr:=cR Ns
def GU:=cL Nr
def GR:=cR Nr
def agi:=cL GU
def GQ:=cR GU
def GN:=cL GQ
def agh:=cR GQ
def atE:=cL GN
def atD:=cR GN
def atC:=cL GR
def Nq:=cR GR
def Np:=cL Nq
def Nn:=cR Nq
def atB:=cL Np
def agf:=cR Np
def age:=cL agf
def Nl:=cL age
def atA:=cL Nl
def Nk:=cR Nl
def GM:=cL Nk
def Nj:=cR Nk
def atz:=cL GM
def aty:=cR GM
def atx:=cL Nn
def Ni:=cR Nn
def atw:=cL Ni
def atv:=cR Ni
def Nh:=cL Nj
def atu:=cL Nh
def Ng:=cR Nh
def att:=cL Ng
def Nf:=cR Ng
def atr:=cL Nf
def atq:=cR Nf
set_option maxHeartbeats 1000000 in
set_option maxRecDepth 10000 in
theorem aca{w:World}{M:Hp}{X:Fr}(d:Dg){aV:Option Addr}{aU:Nat}(ay:aB bw (M.un X.h) aV aU d.ae)(S:SH w M X []):Ct Tryz.prog 23 [.agg [.slice aV d.ae.length aU,.int .i64 d.loops].toArray] w M X (KrR d):=by
 unfold Ct
 have jH:d.ae.length*40<=140737488355328:=ay.room
 refine Up (b:=Nt) Tryz.func23 rfl Tryz.ntmps23 rfl (fun C hC=>(bu [(0,_)] ⟨rfl,trivial⟩ (U1 atG Ns rfl rfl rfl (U0 rfl (ar 0 1 rfl rfl rfl (cU (l:=[_,_]) rfl rfl rfl rfl rfl S ?_))))))
 intro aI w1 S1;clear S
 refine af 1 2 rfl rfl (U3 rfl (ah [1] rfl (U2 (U1 atF Nr rfl rfl rfl (U0 rfl (ag 0 rfl (Uc (us:=[_,_]) rfl rfl bg rfl dM (S1.aY (i:=0) rfl ⟨rfl,rfl,trivial⟩)) (ar 1 2 rfl rfl rfl (dt rfl rfl rfl rfl rfl rfl rfl asM S1 (amD d (ay.mono S1.Uq) S1.aR) ?_))))))))
 intro mP w2 M1 hle1 S2 jg;clear S1
 replace ay:=ay.mono (Hp.U6 hle1 S2.mx)
 rcases jg with⟨Bw,rfl⟩|⟨Bw,g1,g2,aBV,aA7,aA3,aBT,aA5,aA1,aAU,aAT,aAO,rfl,hcb,⟨aH,hsc,hsi,aM⟩,hst,hz⟩
 ·refine af 2 1 rfl rfl (ag 3 rfl (Ug rfl rfl rfl) (ag 4 rfl (Ug rfl rfl rfl) (af 5 2 rfl rfl (U3 rfl (ah [4,5] rfl (U2 (U1 GU GR rfl rfl rfl (U1 agi GQ rfl rfl rfl ?_))))))))
  refine U0 rfl (af 0 1 rfl rfl (ag 1 rfl (gG rfl rfl rfl) (U3 rfl (ah [4,5,15] rfl (U2 ?_)))))
  refine Ua GN agh rfl rfl rfl rfl (fun iD=>?_) (fun iD=>?_)
  ·refine U1 atE atD rfl rfl rfl (U0 rfl (af 0 3 rfl rfl (U3 rfl (ah [2,3] rfl (U2 (Us hC [_,_] rfl rfl ⟨rfl,rfl,trivial⟩ ?_))))))
   refine⟨_,rfl,_,hle1,(S2.pick [] [] (by decide) trivial),?_⟩
   exact .inl ⟨Bw,rfl⟩
  ·exfalso;exact iD Bw
 ·obtain⟨hn,hab,hL,hL2,hpl⟩:=Je Bw
  obtain⟨hlB,tD,hlT⟩:=Ea (d:=d) hn hL2
  refine af 2 1 rfl rfl (ag 3 rfl (Ug rfl rfl rfl) (ag 4 rfl (Ug rfl rfl rfl) (af 5 2 rfl rfl (U3 rfl (ah [4,5] rfl (U2 (U1 GU GR rfl rfl rfl (U1 agi GQ rfl rfl rfl ?_))))))))
  refine U0 rfl (af 0 1 rfl rfl (ag 1 rfl (gG rfl rfl rfl) (U3 rfl (ah [4,5,15] rfl (U2 ?_)))))
  refine Ua GN agh rfl rfl rfl rfl (fun iD=>?_) (fun iD=>?_)
  ·exfalso;exact iD rfl
  ·refine Ub rfl (ah [4] rfl (U2 (U1 atC Nq rfl rfl rfl (U0 rfl (af 0 1 rfl rfl (U3 rfl (U2 (U1 Np Nn rfl rfl rfl ?_))))))))
   refine U1 atB agf rfl rfl rfl (U0 rfl (af 0 1 rfl rfl (ar 1 2 rfl rfl rfl (dt rfl rfl rfl rfl rfl rfl rfl asL S2 (akK d (hcb.mono (Hp.fG _ _)) (aH.mono (Hp.fG _ _)) (hsc.mono (Hp.fG _ _)) (hsi.mono (Hp.fG _ _)) (aM.mono (Hp.fG _ _)) (hst.mono (Hp.fG _ _)) (hz.mono (Hp.fG _ _)) hn hab hL hL2 hpl S2.aR) ?_))))
   intro Df w3 M2 hle2 S3 p7;clear S2
   replace ay:=ay.mono (Hp.U6 hle2 S3.mx)
   replace hcb:=hcb.mono hle2
   replace aH:=aH.mono hle2
   replace hsc:=hsc.mono hle2
   replace hsi:=hsi.mono hle2
   replace aM:=aM.mono hle2
   replace hst:=hst.mono hle2
   replace hz:=hz.mono hle2
   obtain⟨g3,nW,rfl,fp,DA,hc0⟩:=p7
   obtain⟨sP,jN,cd⟩:=fp.uQ
   refine ar 2 3 rfl rfl rfl (Am rfl rfl rfl rfl se S3 cd S3.m ?_)
   intro r1 w4 S4;clear S3
   refine U3 rfl (ah [6,19] rfl (U2 (U7 age 0 rfl rfl rfl ?_)))
   have S5:=S4.gL bH;clear S4
   refine Ui (fun aF ak aA=>∃(sn:Array Nat) (dn:List (Pq×Int)) (lf:List (Pq×Int)) (acc:List T2) (aZ:Value),aF=lf.length/\Env 39 [(6,aZ),(19,.pointer (some ⟨r1,0,none⟩))] ak/\SH aA M2 X [Rs.row bH aZ acc,Rs.iV g3 jN r1 sn]/\pI (fun x=>Value.agg (dN.f x).toArray) (Value.int .i64) sP sn lf/\(dn++lf).Perm nW/\acc=(ib (qE dn)).map tP) rfl ?_ ?_
   ·intro ak ai
    refine⟨_,⟨#[],[],nW,[],_,rfl,ai.sub ⟨rfl,rfl,trivial⟩,S5.pick [0,1] [_,_] (by decide) ⟨rfl,rfl,trivial⟩,?bn,?bE,?ez⟩⟩
    case bn=>exact cd.Dp
    case bE=>exact List.Perm.refl _
    case ez=>rfl
   ·rintro m1 a1 w5 ⟨sn,dn,lf,acc,aZ,rfl,aQ,S6,hlf,eN,kF⟩
    clear S5
    refine aW aQ (c:=Nl) rfl ?_
    clear aQ a1
    have hal:acc.length<=2199023255553:=by rw[kF];exact adD DA eN
    refine U1 atA Nk rfl rfl rfl (U0 rfl ?_)
    refine ar 0 1 rfl rfl rfl (AK (i:=1) rfl rfl rfl rfl S6 rfl cd S6.m hlf (fun jX=>?_) (fun k1 v1 lR lQ jk w6 jX FX sD S7=>?_))
    ·refine ag 1 rfl (Ug rfl rfl rfl) (U3 rfl (ah [6,19,21] rfl (U2 (U1 GM Nj rfl rfl rfl (jq aty rfl rfl rfl (Uk rfl rfl (ah [6] rfl (U2 ?_))))))))
     refine U1 atx Ni rfl rfl rfl ?_
     obtain rfl:lf=[]:=jX
     have hal:acc.length<=2199023255553:=by rw[kF];exact adD DA eN
     rw[List.append_nil]at eN
     have hpq:(qE dn).Perm (qE nW):=eN.map _
     obtain⟨ls,hls⟩:=acG (ks:=(ib (qE dn)).map Prod.fst) (apb DA hpq)
     have hrow:=ai5 DA hpq hls
     have hout:=ai6 DA hpq hls tD hlB hc0
     have hll:ls.length=acc.length:=by rw[kF,<-hrow,List.length_map]
     have uL:acc=(ls.map (p2 (qE nW))):=by rw[kF,hrow]
     rw[uL]at S6;clear uL
     refine U0 rfl (af 0 1 rfl rfl (ar 1 2 rfl rfl rfl (r8 rfl rfl rfl rfl rfl rfl rfl asK S6 (i:=0) rfl (ak2 (qE nW) (xs:=ls) (by omega) (S6.ng (i:=0) rfl)) ?_)))
     rintro vw7 w7 _ _-S8 ⟨rfl,rfl,rfl⟩;clear S6
     change SH _ _ _ [_,_]at S8
     refine U3 rfl (ah [6] rfl (U2 (U1 atw atv rfl rfl rfl ?_)))
     have uK:(oJ ls).map (p2 (qE nW))=(ct d (Lk d)):=hout
     rw[uK]at S8;clear uK
     have aBl:(ct d (Lk d)).length<=2199023255553:=by have h9:=ajG (N:=2199023255553) (ks:=ls) (l:=(ib (qE dn)).map Prod.fst) (by rw[hls]) (by rw[<-hls,List.length_map];omega);rw[<-hout,List.length_map];rwa [List.length_map]at h9
     refine U0 rfl (af 0 3 rfl rfl (U3 rfl (ah [2,3] rfl (U2 ?_))))
     obtain⟨M3,bt,S9,⟨A1,c1,e1,hr1⟩⟩:=S8.gW (i:=0) (H':=[_,_]) rfl rfl (by show _*24<=_;first|omega|(simp only[ls];omega))
     clear S8;subst e1
     replace ay:=ay.mono (Hp.U6 bt S9.mx)
     replace hcb:=hcb.mono bt
     replace aH:=aH.mono bt
     replace hsc:=hsc.mono bt
     replace hsi:=hsi.mono bt
     replace aM:=aM.mono bt
     replace hst:=hst.mono bt
     replace hz:=hz.mono bt
     replace fp:=fp.mono bt
     replace cd:=cd.mono bt
     refine Us hC [_,_] rfl rfl ⟨rfl,rfl,trivial⟩ ?_
     refine⟨_,rfl,_,(hle1.trans hle2).trans bt,(S9.pick [] [] (by decide) trivial),?_⟩
     exact .inr ⟨Bw,_,_,rfl,hr1⟩
    ·clear S6
     change SH _ _ _ [_,Rs.iV g3 jN r1 jk]at S7
     refine ag 1 rfl (Ug rfl rfl rfl) (U3 rfl (ah [6,19,21] rfl (U2 (U1 GM Nj rfl rfl rfl (rM atz rfl rfl rfl (Ub rfl (ah [6,19] rfl (U2 ?_))))))))
     refine U7 Nh 1 rfl rfl rfl (U1 atu Ng rfl rfl rfl (U0 rfl (ag 0 rfl (Ai (i:=1) rfl rfl S7 rfl cd S7.m sD) (ag 1 rfl (Ug rfl rfl rfl) (ag 2 rfl (Ug rfl rfl rfl) (ar 3 4 rfl rfl rfl (dh (l:=[_,_]) rfl rfl rfl KQ rfl S7 ?_)))))))
     intro bq w8 bM;clear S7
     refine ar 4 5 rfl rfl rfl (Uo (i:=0) (us:=[_,_]) (l':=[_,_]) (H':=[_,_,_]) rfl rfl bM rfl rfl rfl rfl BM rfl rfl rfl rfl ?_)
     intro w9 bJ;clear bM
     refine af 5 1 rfl rfl (U3 rfl (ah [6,19,7,8] rfl (U2 (U1 att Nf rfl rfl rfl (U0 rfl (af 0 1 rfl rfl (ag 1 rfl (gG rfl rfl rfl) (U3 rfl ?_))))))))
     refine ah [6,19,7,8,26] rfl (U2 ?_)
     refine Ua atr atq rfl rfl rfl rfl (fun xq=>?_) (fun xq=>?_)
     ·refine U0 rfl (af 0 1 rfl rfl (ag 1 rfl (U4 rfl rfl uw rfl (aL) (aJ)) (ag 2 rfl (U5 rfl rfl aw rfl (bJ.aG (i:=0) rfl rfl)) (ag 3 rfl (U4 rfl rfl uw rfl (aL) (aJ)) (ag 4 rfl (U5 rfl rfl aw rfl (bJ.aG (i:=0) rfl rfl)) (af 5 1 rfl rfl (ag 6 rfl (run_build (l:=[_,_,_]) rfl rfl zb rfl rfl) (ar 7 8 rfl rfl rfl (Uf (C:=bH) (l:=[_,_,_]) rfl rfl rfl rfl eP rfl rfl rfl rfl bJ ?_)))))))))
      intro dD oZ cB;clear bJ
      refine ar 8 9 rfl rfl rfl (Ux (C:=bH) (i:=2) (q:=0) (⟨k1.p,k1.q,v1⟩:T2) rfl rfl rfl rfl rfl rfl rfl rfl eP cB rfl rfl rfl (by show(_+1)*24<=_;omega) ?_)
      intro sH mO bY;clear cB
      have bX:=bY.pick [1,2,3] [_,_,_] (by decide) ⟨rfl,rfl,rfl,trivial⟩;clear bY
      refine af 9 1 rfl rfl (U3 rfl (Ul (Ut ?_)))
      intro ak ai
      refine⟨_,?bG,⟨jk,dn++[(k1,v1)],lR++lQ,acc++[(⟨k1.p,k1.q,v1⟩:T2)],_,rfl,ai.sub ⟨rfl,rfl,trivial⟩,bX.pick [1,2] [_,_] (by decide) ⟨rfl,rfl,trivial⟩,?bk,?bD,?fL⟩⟩
      case bk=>assumption
      case bD=>(refine List.Perm.trans ?_ eN;simp only[*,List.append_assoc,List.cons_append,List.nil_append];exact(List.perm_append_left_iff _).2 (List.perm_middle.symm))
      case fL=>(rw[aeA,<-kF];first|(rw[if_neg (by assumption)])|(rw[if_pos (by omega),List.append_nil]))
      case bG=>(simp only[*,List.length_append,List.length_cons];omega)
     ·refine Ub rfl (Ul (Ut ?_))
      intro ak ai
      refine⟨_,?fM,⟨jk,dn++[(k1,v1)],lR++lQ,acc,_,rfl,ai.sub ⟨rfl,rfl,trivial⟩,bJ.pick [1,2] [_,_] (by decide) ⟨rfl,rfl,trivial⟩,?cu,?cN,?jb⟩⟩
      case cu=>assumption
      case cN=>(refine List.Perm.trans ?_ eN;simp only[*,List.append_assoc,List.cons_append,List.nil_append];exact(List.perm_append_left_iff _).2 (List.perm_middle.symm))
      case jb=>(rw[aeA,<-kF];first|(rw[if_neg (by assumption)])|(rw[if_pos (by omega),List.append_nil]))
      case fM=>(simp only[*,List.length_append,List.length_cons];omega)
noncomputable def Nc:=Tryz.f24.body.getD .skip
def atp:=cL Nc
def Nb:=cR Nc
def ato:=cL Nb
def Na:=cR Nb
def GL:=cL Na
def GK:=cR Na
def agd:=cL GL
def GJ:=cR GL
def GI:=cL GJ
def agc:=cR GJ
def atn:=cL GI
def atm:=cR GI
def atl:=cL GK
def M0:=cR GK
def MZ:=cL M0
def MX:=cR M0
def atk:=cL MZ
def agb:=cR MZ
def aga:=cL agb
def MW:=cL aga
def atj:=cL MW
def MV:=cR MW
def MU:=cL MV
def MT:=cR MV
def ati:=cL MU
def ath:=cR MU
def af9:=cL MT
def atg:=cR MT
def MS:=cL af9
def atf:=cL MS
def ate:=cR MS
def atd:=cL MX
def atc:=cR MX
set_option maxHeartbeats 1000000 in
set_option maxRecDepth 10000 in
theorem acb{w:World}{M:Hp}{X:Fr}(d:Dg){aV:Option Addr}{aU:Nat}(ay:aB bw (M.un X.h) aV aU d.ae)(S:SH w M X []):Ct Tryz.prog 24 [.agg [.slice aV d.ae.length aU,.int .i64 d.loops].toArray] w M X (EuR d):=by
 unfold Ct
 have jH:d.ae.length*40<=140737488355328:=ay.room
 refine Up (b:=Nc) Tryz.func24 rfl Tryz.ntmps24 rfl (fun C hC=>(bu [(0,_)] ⟨rfl,trivial⟩ (U1 atp Nb rfl rfl rfl (U0 rfl (ar 0 1 rfl rfl rfl (cU (l:=[_,_]) rfl rfl rfl rfl rfl S ?_))))))
 intro aI w1 S1;clear S
 refine af 1 2 rfl rfl (U3 rfl (ah [1] rfl (U2 (U1 ato Na rfl rfl rfl (U0 rfl (ag 0 rfl (Uc (us:=[_,_]) rfl rfl bg rfl dM (S1.aY (i:=0) rfl ⟨rfl,rfl,trivial⟩)) (ar 1 2 rfl rfl rfl (dt rfl rfl rfl rfl rfl rfl rfl afW S1 (aca d (ay.mono S1.Uq) S1.aR) ?_))))))))
 intro mP w2 M1 hle1 S2 jg;clear S1
 replace ay:=ay.mono (Hp.U6 hle1 S2.mx)
 rcases jg with⟨Cm,rfl⟩|⟨Cm,A1,c1,rfl,hr1⟩
 ·refine af 2 1 rfl rfl (ag 3 rfl (Ug rfl rfl rfl) (ag 4 rfl (Ug rfl rfl rfl) (af 5 2 rfl rfl (U3 rfl (ah [4,5] rfl (U2 (U1 GL GK rfl rfl rfl (U1 agd GJ rfl rfl rfl ?_))))))))
  refine U0 rfl (af 0 1 rfl rfl (ag 1 rfl (gG rfl rfl rfl) (U3 rfl (ah [4,5,15] rfl (U2 ?_)))))
  refine Ua GI agc rfl rfl rfl rfl (fun iD=>?_) (fun iD=>?_)
  ·refine U1 atn atm rfl rfl rfl (U0 rfl (af 0 3 rfl rfl (U3 rfl (ah [2,3] rfl (U2 (Us hC [_,_] rfl rfl ⟨rfl,rfl,trivial⟩ ?_))))))
   refine⟨_,rfl,_,hle1,(S2.pick [] [] (by decide) trivial),?_⟩
   exact .inl ⟨Cm,rfl⟩
  ·exfalso;exact iD Cm
 ·obtain⟨vk,hab,hL,hL2,hpl⟩:=Je Cm
  obtain⟨hlB,tD,hlT⟩:=Ea (d:=d) vk hL2
  have hll:=Ji (B:=400) (Nat.le_refl _) tD hlB
  have hn:d.ae.length<=16:=by omega
  refine af 2 1 rfl rfl (ag 3 rfl (Ug rfl rfl rfl) (ag 4 rfl (Ug rfl rfl rfl) (af 5 2 rfl rfl (U3 rfl (ah [4,5] rfl (U2 (U1 GL GK rfl rfl rfl (U1 agd GJ rfl rfl rfl ?_))))))))
  refine U0 rfl (af 0 1 rfl rfl (ag 1 rfl (gG rfl rfl rfl) (U3 rfl (ah [4,5,15] rfl (U2 ?_)))))
  refine Ua GI agc rfl rfl rfl rfl (fun iD=>?_) (fun iD=>?_)
  ·exfalso;exact iD rfl
  ·refine Ub rfl (ah [4] rfl (U2 (U1 atl M0 rfl rfl rfl (U0 rfl (ar 0 1 rfl rfl rfl (vP Int Int (Value.int .i64) (Value.int .i64) rfl rfl rfl S2 ?_))))))
   intro eV w3 S3;clear S2
   refine af 1 1 rfl rfl (U3 rfl (ah [4,6] rfl (U2 (U1 MZ MX rfl rfl rfl (U1 atk agb rfl rfl rfl (U0 rfl (af 0 1 rfl rfl (ag 1 rfl (Uv rfl rfl rfl rfl rfl rfl pY) ?_))))))))
   refine af 2 1 rfl rfl (U3 rfl (ah [6,18,19,20] rfl (U2 (U7 aga 0 rfl rfl rfl ?_))))
   refine Ui (fun aF ak aA=>∃(i:Nat) (ws:List (Int×Int)),aF=(ct d (Lk d)).length-1*i/\Env 40 [(6,.map (some eV)),(18,.slice A1 (ct d (Lk d)).length c1),(19,.int .i64 ((ct d (Lk d)).length:Int)),(20,.int .i64 (i:Int))] ak/\SH aA M1 X [Rs.mp (Value.int .i64) (Value.int .i64) eV ws]/\i<=(ct d (Lk d)).length/\jO ws 400/\mk ws=oN ((ct d (Lk d)).take i)) rfl ?_ ?_
   ·intro ak ai
    refine⟨_,⟨0,[],rfl,ai.sub ⟨rfl,rfl,rfl,rfl,trivial⟩,S3.pick [0] [_] (by decide) ⟨rfl,trivial⟩,?bn,?bE,?ez⟩⟩
    case bn=>omega
    case bE=>exact jO.bN _
    case ez=>rfl
   ·rintro m2 a1 w4 ⟨i,ws,rfl,aQ,S4,hi,hws,hmw⟩
    clear S3
    refine aW aQ (c:=MW) rfl ?_
    clear aQ a1
    refine U1 atj MV rfl rfl rfl (U0 rfl (ag 0 rfl (Un rfl rfl rfl) (U3 rfl (U2 (U1 MU MT rfl rfl rfl ?_)))))
    refine Ua ati ath rfl rfl rfl rfl (fun CC=>?_) (fun CC=>?_)
    ·refine Ub rfl (ah [6,18,19,20] rfl (U2 (U1 af9 atg rfl rfl rfl (U7 MS 1 rfl rfl rfl (U1 atf ate rfl rfl rfl (U0 rfl (ag 0 rfl (U9 (C:=bH) i rfl rfl rfl eP (by first|rfl|omega) hr1 (by first|omega|(simp only[ls];omega))) ?_)))))))
     refine ag 1 rfl (Uc (us:=[_,_,_]) rfl rfl gH rfl za (hr1.fV S4.m (e:=i) (by first|omega|(simp only[ls];omega)) (j:=0) ⟨rfl,rfl,rfl,trivial⟩)) ?_
     refine ar 2 3 rfl rfl rfl (dh (l:=[_,_,_]) rfl rfl rfl ae4 rfl S4 ?_)
     intro bq w5 S5;clear S4
     refine ar 3 4 rfl rfl rfl (Uo (i:=0) (us:=[_,_,_]) (l':=[_,_,_]) (H':=[_,_]) rfl rfl S5 rfl rfl rfl rfl za rfl rfl rfl rfl ?_)
     intro w6 S6;clear S5
     refine U3 rfl (ah [6,18,19,20,8] rfl (U2 (U0 rfl (af 0 1 rfl rfl (ag 1 rfl (U4 rfl rfl gH rfl (aL) (aJ)) (ag 2 rfl (U5 rfl rfl aw rfl (S6.aG (i:=0) rfl rfl)) (ag 3 rfl (qD (kc:=Value.int .i64) (vc:=Value.int .i64) (es:=ws) (k:=((ga (ct d (Lk d)) i).z)) (zv:=0) (i:=1) rfl rfl rfl y8 mS nN S6 rfl) (ag 4 rfl (U4 rfl rfl gH rfl (aL) (aJ)) ?_))))))))
     refine ag 5 rfl (U5 rfl rfl aw rfl (S6.aG (i:=0) rfl rfl)) (ag 6 rfl (U4 rfl rfl gH rfl (aL) (aJ)) (ag 7 rfl (U5 rfl rfl aw rfl (S6.aG (i:=0) rfl rfl)) (ag 8 rfl (vH rfl rfl rfl) (cZ 32 (.int .i64 ((ga (ct d (Lk d)) i).x%2)) rfl (int_eq (ajt _)) (ag 9 rfl (abE rfl rfl rfl) (ag 10 rfl (I4 rfl rfl rfl) (ag 11 rfl (abE rfl rfl rfl) (ag 12 rfl (vX rfl rfl rfl) ?_))))))))
     refine ar 13 14 rfl rfl rfl (tT (kc:=Value.int .i64) (vc:=Value.int .i64) (es:=ws) (k:=((ga (ct d (Lk d)) i).z)) (e:=(wr (((mg ((ga (ct d (Lk d)) i).z) ws).getD 0)+(wr (((ga (ct d (Lk d)) i).c)*(wr (1-(wr (2*((ga (ct d (Lk d)) i).x%2)))))))))) (i:=1) (H':=[_,_]) (.inl rfl) rfl S6 rfl rfl rfl rfl y8 mS rfl ?_)
     intro w7 S7;clear S6
     refine U3 rfl (Ul (ah [6,18,19,20] rfl (U2 (U0 rfl (ag 0 rfl (Ud rfl rfl rfl (by first|omega|(simp only[ls];omega))) ?_)))))
     refine af 1 1 rfl rfl (U3 rfl (Ut ?_))
     have hbi:=LC hlB (i:=i) (by omega)
     intro ak ai
     refine⟨_,?bG,⟨i+1,mp ((ga (ct d (Lk d)) i).z) (wr (((mg ((ga (ct d (Lk d)) i).z) ws).getD 0)+(wr (((ga (ct d (Lk d)) i).c)*(wr (1-(wr (2*((ga (ct d (Lk d)) i).x%2))))))))) ws,rfl,ai.sub ⟨rfl,rfl,rfl,rfl,trivial⟩,S7.pick [1] [_] (by decide) ⟨rfl,trivial⟩,?bk,?bD,?fL⟩⟩
     case bk=>omega
     case bD=>exact alE hws (by omega) (AH _)
     case fL=>exact ama hmw (by omega)
     case bG=>omega
    ·refine Uk rfl rfl (ah [6] rfl (U2 (U1 atd atc rfl rfl rfl ?_)))
     have heu:mk ws=oN (ct d (Lk d)):=by rw[hmw,show i=(ct d (Lk d)).length by omega,List.take_length]
     refine U0 rfl (af 0 1 rfl rfl ?_)
     obtain⟨M2,cG,S8,fp⟩:=S4.Bi (i:=0) (H':=[_]) rfl rfl;clear S4
     replace ay:=ay.mono (Hp.U6 cG S8.mx)
     replace hr1:=hr1.mono cG
     have hw1:Wk M2 eV (400) (mk ws):=⟨_,fp,hws,rfl⟩
     refine ar 1 2 rfl rfl rfl (dt rfl rfl rfl rfl rfl rfl rfl asO S8 (amE hw1 (by omega) S8.aR) ?_)
     intro vw8 w8 M3 bt S9 Mt;clear S8
     replace ay:=ay.mono (Hp.U6 bt S9.mx)
     replace hr1:=hr1.mono bt
     replace fp:=fp.mono bt
     replace hw1:=hw1.mono bt
     obtain⟨A2,c2,l1,rfl,hr2,aeJ,afI,aft⟩:=Mt
     refine af 2 2 rfl rfl (U3 rfl (ah [2,3] rfl (U2 (Us hC [_,_] rfl rfl ⟨rfl,rfl,trivial⟩ ?_))))
     refine⟨_,rfl,_,(hle1.trans cG).trans bt,(S9.pick [] [] (by decide) trivial),?_⟩
     exact .inr ⟨Cm,_,_,_,rfl,hr2,aeJ,afI,(aft.trans heu)⟩
noncomputable def MR:=Tryz.f7.body.getD .skip
def atb:=cL MR
def MQ:=cR MR
def ata:=cL MQ
def MP:=cR MQ
def af8:=cL MP
def GH:=cR MP
def af7:=cL GH
def GG:=cR GH
def GF:=cL GG
def GD:=cR GG
def af6:=cL GF
def GA:=cR GF
def af5:=cL GA
def af4:=cR GA
def CQ:=cL GD
def CP:=cR GD
def MO:=cL CQ
def CO:=cR CQ
def CN:=cL CO
def MN:=cR CO
def af3:=cL CN
def af2:=cR CN
def as9:=cL CP
def ML:=cR CP
def MK:=cL ML
def MJ:=cR ML
def as8:=cL MK
def af1:=cR MK
def af0:=cL af1
def MI:=cL af0
def as7:=cL MI
def MH:=cR MI
def MG:=cL MH
def MF:=cR MH
def as6:=cL MG
def as5:=cR MG
def afZ:=cL MF
def as4:=cR MF
def ME:=cL afZ
def as3:=cL ME
def MD:=cR ME
def as2:=cL MD
def MC:=cR MD
def as1:=cL MC
def as0:=cR MC
def MB:=cL MJ
def MA:=cR MJ
def asZ:=cL MB
def Mz:=cR MB
def asY:=cL Mz
def asX:=cR Mz
def asW:=cL MA
def asV:=cR MA
set_option maxHeartbeats 2000000 in
set_option maxRecDepth 10000 in
theorem aif{w:World}{M:Hp}{X:Fr}(d:Dg){aV:Option Addr}{aU:Nat}(ay:aB bw M aV aU d.ae)(S:SH w M X []):Ct Tryz.prog 7 [.agg [.slice aV d.ae.length aU,.int .i64 d.loops].toArray] w M X (fun u _=>u=.bool true):=by
 unfold Ct
 have jH:d.ae.length*40<=140737488355328:=ay.room
 have hKK:=amb d
 refine Up (b:=MR) Tryz.func7 rfl Tryz.ntmps7 rfl (fun C hC=>(bu [(0,_)] ⟨rfl,trivial⟩ (U1 atb MQ rfl rfl rfl (U0 rfl (ar 0 1 rfl rfl rfl (cU (l:=[_,_]) rfl rfl rfl rfl rfl S ?_))))))
 intro aI w1 S1;clear S
 refine af 1 1 rfl rfl (U3 rfl (ah [1] rfl (U2 (U1 ata MP rfl rfl rfl (U0 rfl (ag 0 rfl (Uc (us:=[_,_]) rfl rfl bg rfl dM (S1.aY (i:=0) rfl ⟨rfl,rfl,trivial⟩)) (ar 1 2 rfl rfl rfl (dt rfl rfl rfl rfl rfl rfl rfl VN S1 (IA d (ay.mono (Hp.fG _ _)) S1.aR) ?_))))))))
 intro mP w2 M1 hle1 S2 jg;clear S1
 replace ay:=ay.mono hle1
 obtain⟨A1,c1,rfl,hr1⟩:=jg
 refine ar 2 3 rfl rfl rfl (dt rfl rfl rfl rfl rfl rfl rfl afW S2 (aca d (hr1.mono (Hp.fG _ _)) S2.aR) ?_)
 intro Df w3 M2 hle2 S3 p7;clear S2
 replace ay:=ay.mono hle2
 replace hr1:=hr1.mono hle2
 rcases p7 with⟨Gt,rfl⟩|⟨Gt,A2,c2,rfl,hr2⟩
 ·refine af 3 1 rfl rfl (ag 4 rfl (Ug rfl rfl rfl) (ag 5 rfl (Ug rfl rfl rfl) (af 6 2 rfl rfl (U3 rfl (ah [1,3,4] rfl (U2 (U1 af8 GH rfl rfl rfl (U0 rfl ?_))))))))
  refine ag 0 rfl (Uc (us:=[_,_]) rfl rfl bg rfl dM (S3.aY (i:=0) rfl ⟨rfl,rfl,trivial⟩)) (ar 1 2 rfl rfl rfl (dt rfl rfl rfl rfl rfl rfl rfl VN S3 (IA d (ay.mono (Hp.fG _ _)) S3.aR) ?_))
  intro UL w4 M3 cG S4 xw;clear S3
  replace ay:=ay.mono cG
  replace hr1:=hr1.mono cG
  obtain⟨A3,c3,rfl,hr3⟩:=xw
  refine ar 2 3 rfl rfl rfl (dt rfl rfl rfl rfl rfl rfl rfl afV S4 (acb d (hr3.mono (Hp.fG _ _)) S4.aR) ?_)
  intro vw5 w5 M4 bt S5 CI;clear S4
  replace ay:=ay.mono bt
  replace hr1:=hr1.mono bt
  replace hr3:=hr3.mono bt
  rcases CI with⟨Cl,rfl⟩|⟨Cl,A4,c4,l1,rfl,hr4,aeJ,afI,aft⟩
  ·refine af 3 1 rfl rfl (ag 4 rfl (Ug rfl rfl rfl) (ag 5 rfl (Ug rfl rfl rfl) (af 6 2 rfl rfl (U3 rfl (ah [1,3,4,5,6] rfl (U2 (U1 af7 GG rfl rfl rfl (U0 rfl ?_))))))))
   refine ag 0 rfl (Uc (us:=[_,_]) rfl rfl bg rfl dM (S5.aY (i:=0) rfl ⟨rfl,rfl,trivial⟩)) (ar 1 2 rfl rfl rfl (dt rfl rfl rfl rfl rfl rfl rfl afX S5 (aeM d 6 (ay.mono (Hp.fG _ _)) S5.aR) ?_))
   intro vw6 w6 M5 kU S6 Mv;clear S5
   replace ay:=ay.mono kU
   replace hr1:=hr1.mono kU
   replace hr3:=hr3.mono kU
   obtain rfl:=Mv
   refine af 2 1 rfl rfl (U3 rfl (ah [1,3,4,5,6,7] rfl (U2 (U1 GF GD rfl rfl rfl (U1 af6 GA rfl rfl rfl (U0 rfl (af 0 1 rfl rfl (ag 1 rfl (Uz rfl rfl rfl) ?_))))))))
   refine af 2 1 rfl rfl ?_
   refine mA (k':=7) (d:=31) (decide (((jx d 6)=0)/\(2<d.loops))) [(1,_),(3,_),(4,_),(5,_),(6,_),(7,_)] ⟨rfl,rfl,rfl,rfl,rfl,rfl,trivial⟩ (fun CK=>?_) ?_
   ·refine Uy (t:=27) rfl (fun p6=>?_) (fun p6=>?_)
    ·refine aP 3 4 rfl rfl rfl rfl rfl rfl rfl rfl (U8 rfl rfl (U4 rfl rfl bg rfl (aL) (aJ)) (aP 4 5 rfl rfl rfl rfl rfl rfl rfl rfl (U8 rfl rfl (U5 rfl rfl aw rfl (S6.aG (i:=0) rfl rfl)) (aP 5 6 rfl rfl rfl rfl rfl rfl rfl rfl (U8 rfl rfl (rT rfl rfl rfl) (af 6 1 rfl rfl ?_))))))
     exact cZ 31 (.bool (decide (((jx d 6)=0)/\(2<d.loops)))) rfl (congrArg Value.bool (decide_eq_decide.2 ⟨fun h=>⟨p6,h⟩,fun h=>h.2⟩)) (fH [(31,_),(1,_),(3,_),(4,_),(5,_),(6,_),(7,_)] ⟨rfl,rfl,rfl,rfl,rfl,rfl,rfl,trivial⟩ CK)
    ·refine af 3 4 rfl rfl ?_
     exact cZ 31 (.bool (decide (((jx d 6)=0)/\(2<d.loops)))) rfl (congrArg Value.bool (decide_eq_false (fun h=>p6 h.1)).symm) (fH [(31,_),(1,_),(3,_),(4,_),(5,_),(6,_),(7,_)] ⟨rfl,rfl,rfl,rfl,rfl,rfl,rfl,trivial⟩ CK)
   ·refine U3 rfl (ah [1,3,4,5,6,7,31] rfl (U2 ?_))
    refine Ua af5 af4 rfl rfl rfl rfl (fun Mp=>?_) (fun Mp=>?_)
    ·refine U0 rfl (af 0 1 rfl rfl (U3 rfl (ah [1,3,4,5,6,7] rfl (U2 (U1 CQ CP rfl rfl rfl (U1 MO CO rfl rfl rfl (U0 rfl (af 0 1 rfl rfl ?_))))))))
     refine ag 1 rfl (gG rfl rfl rfl) (U3 rfl (ah [1,3,4,5,6,7,33] rfl (U2 ?_)))
     refine Ua CN MN rfl rfl rfl rfl (fun xo=>?_) (fun xo=>?_)
     ·refine U1 af3 af2 rfl rfl rfl (U0 rfl (af 0 2 rfl rfl (ag 2 rfl (Uz rfl rfl rfl) (af 3 1 rfl rfl ?_))))
      refine mA (k':=8) (d:=41) (decide (((eX d)=2)/\((eX d)=2))) [(3,_),(5,_),(6,_),(7,_)] ⟨rfl,rfl,rfl,rfl,trivial⟩ (fun CJ=>?_) ?_
      ·refine Uy (t:=37) rfl (fun xn=>?_) (fun xn=>?_)
       ·refine af 4 2 rfl rfl (aP 6 7 rfl rfl rfl rfl rfl rfl rfl rfl (U8 rfl rfl (Uz rfl rfl rfl) (af 7 1 rfl rfl ?_)))
        exact cZ 41 (.bool (decide (((eX d)=2)/\((eX d)=2)))) rfl (congrArg Value.bool (decide_eq_decide.2 ⟨fun h=>⟨xn,h⟩,fun h=>h.2⟩)) (fH [(41,_),(3,_),(5,_),(6,_),(7,_)] ⟨rfl,rfl,rfl,rfl,rfl,trivial⟩ CJ)
       ·refine af 4 4 rfl rfl ?_
        exact cZ 41 (.bool (decide (((eX d)=2)/\((eX d)=2)))) rfl (congrArg Value.bool (decide_eq_false (fun h=>xn h.1)).symm) (fH [(41,_),(3,_),(5,_),(6,_),(7,_)] ⟨rfl,rfl,rfl,rfl,rfl,trivial⟩ CJ)
      ·refine af 8 1 rfl rfl ?_
       refine Uy (t:=42) rfl (fun Mc=>?_) (fun Mc=>?_)
       ·refine af 9 1 rfl rfl (aP 10 11 rfl rfl rfl rfl rfl rfl rfl rfl (U8 rfl rfl (Uv rfl rfl rfl rfl rfl rfl pY) (aP 11 12 rfl rfl rfl rfl rfl rfl rfl rfl (U8 rfl rfl (Uz rfl rfl rfl) (af 12 2 rfl rfl ?_)))))
        refine Uy (t:=47) rfl (fun L9=>?_) (fun L9=>?_)
        ·refine af 14 1 rfl rfl (aP 15 16 rfl rfl rfl rfl rfl rfl rfl rfl (U8 rfl rfl (Uv rfl rfl rfl rfl rfl rfl uI) (aP 16 17 rfl rfl rfl rfl rfl rfl rfl rfl (U8 rfl rfl (Uz rfl rfl rfl) (af 17 2 rfl rfl (U3 rfl (ah [2] rfl (U2 (Us hC [_] rfl rfl ⟨rfl,trivial⟩ ?_)))))))))
         refine⟨_,rfl,_,(((hle1.trans hle2).trans cG).trans bt).trans kU,(S6.pick [] [] (by decide) trivial),?_⟩
         show Value.bool _=_
         refine congrArg Value.bool ?_
         first|rfl|(rw[decide_eq_true_iff];omega)|(simp_all;done)
        ·exfalso;first|omega|(simp_all;done)|contradiction
       ·exfalso;first|omega|(simp_all;done)|contradiction
     ·exfalso;first|omega|(simp_all;done)|contradiction
    ·refine Ub rfl (ah [1,3,4,5,6,7] rfl (U2 (U1 CQ CP rfl rfl rfl (U1 MO CO rfl rfl rfl (U0 rfl (af 0 1 rfl rfl (ag 1 rfl (gG rfl rfl rfl) (U3 rfl ?_))))))))
     refine ah [1,3,4,5,6,7,33] rfl (U2 ?_)
     refine Ua CN MN rfl rfl rfl rfl (fun xo=>?_) (fun xo=>?_)
     ·refine U1 af3 af2 rfl rfl rfl (U0 rfl (af 0 2 rfl rfl (ag 2 rfl (Uz rfl rfl rfl) (af 3 1 rfl rfl ?_))))
      refine mA (k':=8) (d:=41) (decide (((eX d)=(jx d 6))/\((eX d)=(jx d 6)))) [(3,_),(5,_),(6,_),(7,_)] ⟨rfl,rfl,rfl,rfl,trivial⟩ (fun CJ=>?_) ?_
      ·refine Uy (t:=37) rfl (fun xn=>?_) (fun xn=>?_)
       ·refine af 4 2 rfl rfl (aP 6 7 rfl rfl rfl rfl rfl rfl rfl rfl (U8 rfl rfl (Uz rfl rfl rfl) (af 7 1 rfl rfl ?_)))
        exact cZ 41 (.bool (decide (((eX d)=(jx d 6))/\((eX d)=(jx d 6))))) rfl (congrArg Value.bool (decide_eq_decide.2 ⟨fun h=>⟨xn,h⟩,fun h=>h.2⟩)) (fH [(41,_),(3,_),(5,_),(6,_),(7,_)] ⟨rfl,rfl,rfl,rfl,rfl,trivial⟩ CJ)
       ·refine af 4 4 rfl rfl ?_
        exact cZ 41 (.bool (decide (((eX d)=(jx d 6))/\((eX d)=(jx d 6))))) rfl (congrArg Value.bool (decide_eq_false (fun h=>xn h.1)).symm) (fH [(41,_),(3,_),(5,_),(6,_),(7,_)] ⟨rfl,rfl,rfl,rfl,rfl,trivial⟩ CJ)
      ·refine af 8 1 rfl rfl ?_
       refine Uy (t:=42) rfl (fun Mc=>?_) (fun Mc=>?_)
       ·refine af 9 1 rfl rfl (aP 10 11 rfl rfl rfl rfl rfl rfl rfl rfl (U8 rfl rfl (Uv rfl rfl rfl rfl rfl rfl pY) (aP 11 12 rfl rfl rfl rfl rfl rfl rfl rfl (U8 rfl rfl (Uz rfl rfl rfl) (af 12 2 rfl rfl ?_)))))
        refine Uy (t:=47) rfl (fun L9=>?_) (fun L9=>?_)
        ·refine af 14 1 rfl rfl (aP 15 16 rfl rfl rfl rfl rfl rfl rfl rfl (U8 rfl rfl (Uv rfl rfl rfl rfl rfl rfl uI) (aP 16 17 rfl rfl rfl rfl rfl rfl rfl rfl (U8 rfl rfl (Uz rfl rfl rfl) (af 17 2 rfl rfl (U3 rfl (ah [2] rfl (U2 (Us hC [_] rfl rfl ⟨rfl,trivial⟩ ?_)))))))))
         refine⟨_,rfl,_,(((hle1.trans hle2).trans cG).trans bt).trans kU,(S6.pick [] [] (by decide) trivial),?_⟩
         show Value.bool _=_
         refine congrArg Value.bool ?_
         first|rfl|(rw[decide_eq_true_iff];omega)|(simp_all;done)
        ·exfalso;first|omega|(simp_all;done)|contradiction
       ·exfalso;first|omega|(simp_all;done)|contradiction
     ·exfalso;first|omega|(simp_all;done)|contradiction
  ·exact absurd Cl Gt
 ·obtain⟨vk,hab,hL,hL2,hpl⟩:=Je Gt
  obtain⟨hlB,tD,hlT⟩:=Ea (d:=d) vk hL2
  have hll:=Ji (B:=400) (Nat.le_refl _) tD hlB
  have hn:d.ae.length<=16:=by omega
  refine af 3 1 rfl rfl (ag 4 rfl (Ug rfl rfl rfl) (ag 5 rfl (Ug rfl rfl rfl) (af 6 2 rfl rfl (U3 rfl (ah [1,3,4] rfl (U2 (U1 af8 GH rfl rfl rfl (U0 rfl ?_))))))))
  refine ag 0 rfl (Uc (us:=[_,_]) rfl rfl bg rfl dM (S3.aY (i:=0) rfl ⟨rfl,rfl,trivial⟩)) (ar 1 2 rfl rfl rfl (dt rfl rfl rfl rfl rfl rfl rfl VN S3 (IA d (ay.mono (Hp.fG _ _)) S3.aR) ?_))
  intro vw7 w7 M6 qU S7 Mu;clear S3
  replace ay:=ay.mono qU
  replace hr1:=hr1.mono qU
  replace hr2:=hr2.mono qU
  obtain⟨A5,c5,rfl,jQ⟩:=Mu
  refine ar 2 3 rfl rfl rfl (dt rfl rfl rfl rfl rfl rfl rfl afV S7 (acb d (jQ.mono (Hp.fG _ _)) S7.aR) ?_)
  intro vw8 w8 M7 zh S8 Mt;clear S7
  replace ay:=ay.mono zh
  replace hr1:=hr1.mono zh
  replace hr2:=hr2.mono zh
  replace jQ:=jQ.mono zh
  rcases Mt with⟨Cl,rfl⟩|⟨Cl,A6,c6,l2,rfl,nS,apU,aBJ,Gs⟩
  ·exact absurd Gt Cl
  ·refine af 3 1 rfl rfl (ag 4 rfl (Ug rfl rfl rfl) (ag 5 rfl (Ug rfl rfl rfl) (af 6 2 rfl rfl (U3 rfl (ah [1,3,4,5,6] rfl (U2 (U1 af7 GG rfl rfl rfl (U0 rfl ?_))))))))
   refine ag 0 rfl (Uc (us:=[_,_]) rfl rfl bg rfl dM (S8.aY (i:=0) rfl ⟨rfl,rfl,trivial⟩)) (ar 1 2 rfl rfl rfl (dt rfl rfl rfl rfl rfl rfl rfl afX S8 (aeM d 6 (ay.mono (Hp.fG _ _)) S8.aR) ?_))
   intro vw9 w9 M8 mN S9 asu;clear S8
   replace ay:=ay.mono mN
   replace hr1:=hr1.mono mN
   replace hr2:=hr2.mono mN
   replace jQ:=jQ.mono mN
   replace nS:=nS.mono mN
   obtain rfl:=asu
   refine af 2 1 rfl rfl (U3 rfl (ah [1,3,4,5,6,7] rfl (U2 (U1 GF GD rfl rfl rfl (U1 af6 GA rfl rfl rfl (U0 rfl (af 0 1 rfl rfl (ag 1 rfl (Uz rfl rfl rfl) ?_))))))))
   refine af 2 1 rfl rfl ?_
   refine mA (k':=7) (d:=31) (decide (((jx d 6)=0)/\(2<d.loops))) [(1,_),(3,_),(4,_),(5,_),(6,_),(7,_)] ⟨rfl,rfl,rfl,rfl,rfl,rfl,trivial⟩ (fun CK=>?_) ?_
   ·refine Uy (t:=27) rfl (fun p6=>?_) (fun p6=>?_)
    ·refine aP 3 4 rfl rfl rfl rfl rfl rfl rfl rfl (U8 rfl rfl (U4 rfl rfl bg rfl (aL) (aJ)) (aP 4 5 rfl rfl rfl rfl rfl rfl rfl rfl (U8 rfl rfl (U5 rfl rfl aw rfl (S9.aG (i:=0) rfl rfl)) (aP 5 6 rfl rfl rfl rfl rfl rfl rfl rfl (U8 rfl rfl (rT rfl rfl rfl) (af 6 1 rfl rfl ?_))))))
     exact cZ 31 (.bool (decide (((jx d 6)=0)/\(2<d.loops)))) rfl (congrArg Value.bool (decide_eq_decide.2 ⟨fun h=>⟨p6,h⟩,fun h=>h.2⟩)) (fH [(31,_),(1,_),(3,_),(4,_),(5,_),(6,_),(7,_)] ⟨rfl,rfl,rfl,rfl,rfl,rfl,rfl,trivial⟩ CK)
    ·refine af 3 4 rfl rfl ?_
     exact cZ 31 (.bool (decide (((jx d 6)=0)/\(2<d.loops)))) rfl (congrArg Value.bool (decide_eq_false (fun h=>p6 h.1)).symm) (fH [(31,_),(1,_),(3,_),(4,_),(5,_),(6,_),(7,_)] ⟨rfl,rfl,rfl,rfl,rfl,rfl,rfl,trivial⟩ CK)
   ·refine U3 rfl (ah [1,3,4,5,6,7,31] rfl (U2 ?_))
    refine Ua af5 af4 rfl rfl rfl rfl (fun Mp=>?_) (fun Mp=>?_)
    ·exfalso;first|omega|(simp_all;done)|contradiction
    ·refine Ub rfl (ah [1,3,4,5,6,7] rfl (U2 (U1 CQ CP rfl rfl rfl (U1 MO CO rfl rfl rfl (U0 rfl (af 0 1 rfl rfl (ag 1 rfl (gG rfl rfl rfl) (U3 rfl ?_))))))))
     refine ah [1,3,4,5,6,7,33] rfl (U2 ?_)
     refine Ua CN MN rfl rfl rfl rfl (fun xo=>?_) (fun xo=>?_)
     ·exfalso;first|omega|(simp_all;done)|contradiction
     ·refine Ub rfl (ah [1,3,4,5,6] rfl (U2 (U1 as9 ML rfl rfl rfl (U0 rfl (ag 0 rfl (U4 rfl rfl bg rfl (aL) (aJ)) (ag 1 rfl (U5 rfl rfl aw rfl (S9.aG (i:=0) rfl rfl)) (af 2 1 rfl rfl (U3 rfl ?_))))))))
      refine ah [1,3,4,5,6,8] rfl (U2 (U1 MK MJ rfl rfl rfl (U1 as8 af1 rfl rfl rfl (U0 rfl (ag 0 rfl (Uc (us:=[_,_]) rfl rfl bg rfl dM (S9.aY (i:=0) rfl ⟨rfl,rfl,trivial⟩)) (ar 1 2 rfl rfl rfl (dt rfl rfl rfl rfl rfl rfl rfl afU S9 (aaD d (ay.mono (Hp.fG _ _)) (hn) (hab) S9.aR) ?_)))))))
      intro aqZ oZ M9 iR bM ap6;clear S9
      replace ay:=ay.mono iR
      replace hr1:=hr1.mono iR
      replace hr2:=hr2.mono iR
      replace jQ:=jQ.mono iR
      replace nS:=nS.mono iR
      obtain⟨A7,c7,rfl,tA⟩:=ap6
      have hwr:(dR d).length*8<=140737488355328:=tA.room
      refine ag 2 rfl (Uv rfl rfl rfl rfl rfl rfl cI) (af 3 1 rfl rfl (U3 rfl (ah [1,3,4,5,6,8,55,56,57] rfl (U2 (U7 af0 0 rfl rfl rfl ?_)))))
      refine Ui (fun aF ak aA=>∃(i:Nat) (ap:Int),aF=(dR d).length-1*i/\Env 94 [(1,.pointer (some ⟨aI,0,none⟩)),(3,.slice A2 (ct d (Lk d)).length c2),(4,.int .i64 (0:Int)),(5,.slice A6 l2.length c6),(6,.int .i64 (0:Int)),(8,.int .i64 ap),(55,.slice A7 (dR d).length c7),(56,.int .i64 ((dR d).length:Int)),(57,.int .i64 (i:Int))] ak/\SH aA M9 X [Rs.box aI 24 [.slice aV d.ae.length aU,.int .i64 d.loops]]/\i<=(dR d).length/\(0<=ap/\ap<=2+(i:Int))) rfl ?_ ?_
      ·intro ak ai
       refine⟨_,⟨0,d.loops,rfl,ai.sub ⟨rfl,rfl,rfl,rfl,rfl,rfl,rfl,rfl,rfl,trivial⟩,bM.pick [0] [_] (by decide) ⟨rfl,trivial⟩,?bn,?bE⟩⟩
       case bn=>omega
       case bE=>omega
      ·rintro m1 a1 mO ⟨i,ap,rfl,aQ,bJ,hi,hap⟩
       clear bM
       refine aW aQ (c:=MI) rfl ?_
       clear aQ a1
       refine U1 as7 MH rfl rfl rfl (U0 rfl (ag 0 rfl (Un rfl rfl rfl) (U3 rfl (U2 (U1 MG MF rfl rfl rfl ?_)))))
       refine Ua as6 as5 rfl rfl rfl rfl (fun ash=>?_) (fun ash=>?_)
       ·refine Ub rfl (ah [1,3,4,5,6,8,55,56,57] rfl (U2 (U1 afZ as4 rfl rfl rfl (U7 ME 1 rfl rfl rfl (U1 as3 MD rfl rfl rfl (U0 rfl (af 0 1 rfl rfl (ag 1 rfl (U9 (C:=Uh) i rfl rfl rfl aS (by first|rfl|omega) tA (by first|omega|(simp only[ls];omega))) ?_))))))))
        refine ag 2 rfl (U5 rfl rfl aw rfl (tA.cell bJ.m (i:=i) (by first|omega|(simp only[ls];omega)) 0 rfl rfl)) ?_
        refine af 3 2 rfl rfl (U3 rfl (ah [1,3,4,5,6,8,55,56,57,9,10] rfl (U2 (U1 as2 MC rfl rfl rfl (U0 rfl (af 0 2 rfl rfl (ag 2 rfl (Uz rfl rfl rfl) (U3 rfl ?_))))))))
        refine ah [1,3,4,5,6,8,55,56,57,64] rfl (U2 ?_)
        refine Ua as1 as0 rfl rfl rfl rfl (fun ase=>?_) (fun ase=>?_)
        ·refine U0 rfl (af 0 1 rfl rfl (ag 1 rfl (Ud rfl rfl rfl (by first|omega|(simp only[ls];omega))) ?_))
         refine af 2 1 rfl rfl (U3 rfl (Ul (ah [1,3,4,5,6,8,55,56,57] rfl (U2 (U0 rfl (ag 0 rfl (Ud rfl rfl rfl (by first|omega|(simp only[ls];omega))) ?_))))))
         refine af 1 1 rfl rfl (U3 rfl (Ut ?_))
         intro ak ai
         refine⟨_,?bG,⟨i+1,ap+1,rfl,ai.sub ⟨rfl,rfl,rfl,rfl,rfl,rfl,rfl,rfl,rfl,trivial⟩,bJ.pick [0] [_] (by decide) ⟨rfl,trivial⟩,?bk,?bD⟩⟩
         case bk=>omega
         case bD=>omega
         case bG=>omega
        ·refine Ub rfl (Ul (ah [1,3,4,5,6,8,55,56,57] rfl (U2 (U0 rfl (ag 0 rfl (Ud rfl rfl rfl (by first|omega|(simp only[ls];omega))) ?_)))))
         refine af 1 1 rfl rfl (U3 rfl (Ut ?_))
         intro ak ai
         refine⟨_,?fM,⟨i+1,ap,rfl,ai.sub ⟨rfl,rfl,rfl,rfl,rfl,rfl,rfl,rfl,rfl,trivial⟩,bJ.pick [0] [_] (by decide) ⟨rfl,trivial⟩,?cu,?cN⟩⟩
         case cu=>omega
         case cN=>omega
         case fM=>omega
       ·refine Uk rfl rfl (ah [1,3,4,5,6,8] rfl (U2 (U1 MB MA rfl rfl rfl (U1 asZ Mz rfl rfl rfl (U0 rfl (af 0 1 rfl rfl (ag 1 rfl (gG rfl rfl rfl) (af 2 1 rfl rfl ?_))))))))
        refine mA (k':=6) (d:=73) (decide (((0:Int)≠0)\/((0:Int)≠0))) [(1,_),(3,_),(5,_),(6,_),(8,_)] ⟨rfl,rfl,rfl,rfl,rfl,trivial⟩ (fun afM=>?_) ?_
        ·refine Uy (t:=70) rfl (fun L8=>?_) (fun L8=>?_)
         ·refine af 3 3 rfl rfl ?_
          exact cZ 73 (.bool (decide (((0:Int)≠0)\/((0:Int)≠0)))) rfl (congrArg Value.bool (decide_eq_true (.inl L8)).symm) (fH [(73,_),(1,_),(3,_),(5,_),(6,_),(8,_)] ⟨rfl,rfl,rfl,rfl,rfl,rfl,trivial⟩ afM)
         ·refine af 3 1 rfl rfl (aP 4 5 rfl rfl rfl rfl rfl rfl rfl rfl (U8 rfl rfl (gG rfl rfl rfl) (af 5 1 rfl rfl ?_)))
          exact cZ 73 (.bool (decide (((0:Int)≠0)\/((0:Int)≠0)))) rfl (congrArg Value.bool (decide_eq_decide.2 ⟨.inr,fun h=>h.resolve_left L8⟩)) (fH [(73,_),(1,_),(3,_),(5,_),(6,_),(8,_)] ⟨rfl,rfl,rfl,rfl,rfl,rfl,trivial⟩ afM)
        ·refine U3 rfl (ah [1,3,5,8,73] rfl (U2 ?_))
         refine Ua asY asX rfl rfl rfl rfl (fun Cx=>?_) (fun Cx=>?_)
         ·exfalso;first|omega|(simp_all;done)|contradiction
         ·refine Ub rfl (ah [1,3,5,8] rfl (U2 (U1 asW asV rfl rfl rfl (U0 rfl (ag 0 rfl (U4 rfl rfl bg rfl (dV) (dS)) (ag 1 rfl (U5 rfl rfl bF rfl (bJ.aG (i:=0) rfl rfl)) (ag 2 rfl (Uv rfl rfl rfl rfl rfl rfl bF) (ag 3 rfl (rT rfl rfl rfl) ?_))))))))
          refine af 4 1 rfl rfl ?_
          refine mA (k':=8) (d:=81) (decide ((3<(d.ae.length:Int))/\(2<ap))) [(1,_),(3,_),(5,_),(8,_)] ⟨rfl,rfl,rfl,rfl,trivial⟩ (fun afL=>?_) ?_
          ·refine Uy (t:=78) rfl (fun L6=>?_) (fun L6=>?_)
           ·refine af 5 1 rfl rfl (aP 6 7 rfl rfl rfl rfl rfl rfl rfl rfl (U8 rfl rfl (rT rfl rfl rfl) (af 7 1 rfl rfl ?_)))
            exact cZ 81 (.bool (decide ((3<(d.ae.length:Int))/\(2<ap)))) rfl (congrArg Value.bool (decide_eq_decide.2 ⟨fun h=>⟨L6,h⟩,fun h=>h.2⟩)) (fH [(81,_),(1,_),(3,_),(5,_),(8,_)] ⟨rfl,rfl,rfl,rfl,rfl,trivial⟩ afL)
           ·refine af 5 3 rfl rfl ?_
            exact cZ 81 (.bool (decide ((3<(d.ae.length:Int))/\(2<ap)))) rfl (congrArg Value.bool (decide_eq_false (fun h=>L6 h.1)).symm) (fH [(81,_),(1,_),(3,_),(5,_),(8,_)] ⟨rfl,rfl,rfl,rfl,rfl,trivial⟩ afL)
          ·refine af 8 1 rfl rfl ?_
           refine Uy (t:=82) rfl (fun arN=>?_) (fun arN=>?_)
           ·refine af 9 6 rfl rfl (af 15 6 rfl rfl (U3 rfl (ah [2] rfl (U2 (Us hC [_] rfl rfl ⟨rfl,trivial⟩ ?_)))))
            refine⟨_,rfl,_,((((hle1.trans hle2).trans qU).trans zh).trans mN).trans iR,(bJ.pick [] [] (by decide) trivial),?_⟩
            show Value.bool _=_
            refine congrArg Value.bool ?_
            first|rfl|(rw[decide_eq_true_iff];omega)|(simp_all;done)
           ·refine af 9 1 rfl rfl (aP 10 11 rfl rfl rfl rfl rfl rfl rfl rfl (U8 rfl rfl (Uc (us:=[_,_]) rfl rfl bg rfl dM (bJ.aY (i:=0) rfl ⟨rfl,rfl,trivial⟩)) (aP 11 12 rfl rfl rfl rfl rfl rfl rfl rfl (dt rfl rfl rfl rfl rfl rfl rfl afT bJ (abp d (ay.mono (Hp.fG _ _)) vk hab hL hL2 bJ.aR) ?_))))
            intro aqY ra M10 kS cB ap5;clear bJ
            replace ay:=ay.mono kS
            replace hr1:=hr1.mono kS
            replace hr2:=hr2.mono kS
            replace jQ:=jQ.mono kS
            replace nS:=nS.mono kS
            replace tA:=tA.mono kS
            obtain⟨A8,c8,rfl,Ds⟩:=ap5
            refine aP 12 13 rfl rfl rfl rfl rfl rfl rfl rfl (gJ rfl rfl rfl rfl rfl rfl rfl asT cB (aiE (ct d (Lk d)) (ct d (Lk d)) (hr2.mono (Hp.fG _ _)) (Ds.mono (Hp.fG _ _)) (rfl) cB.aR) ?_)
            rintro _ q8 bY rfl;clear cB
            refine af 13 2 rfl rfl (aP 15 16 rfl rfl rfl rfl rfl rfl rfl rfl (U8 rfl rfl (Uc (us:=[_,_]) rfl rfl bg rfl dM (bY.aY (i:=0) rfl ⟨rfl,rfl,trivial⟩)) (aP 16 17 rfl rfl rfl rfl rfl rfl rfl rfl (dt rfl rfl rfl rfl rfl rfl rfl asR bY (ajw d (ay.mono (Hp.fG _ _)) vk hab hL hL2 bY.aR) ?_))))
            intro LG zx M11 uB bX Cc;clear bY
            replace ay:=ay.mono uB
            replace hr1:=hr1.mono uB
            replace hr2:=hr2.mono uB
            replace jQ:=jQ.mono uB
            replace nS:=nS.mono uB
            replace tA:=tA.mono uB
            replace Ds:=Ds.mono uB
            obtain⟨A9,c9,l3,rfl,Vf,apT,aBI,arG⟩:=Cc
            refine aP 17 18 rfl rfl rfl rfl rfl rfl rfl rfl (gJ rfl rfl rfl rfl rfl rfl rfl asS bX (ais l2 l3 (nS.mono (Hp.fG _ _)) (Vf.mono (Hp.fG _ _)) ((ac6 apU apT (Gs.trans arG.symm))) bX.aR) ?_)
            rintro _ De bT rfl;clear bX
            refine af 18 3 rfl rfl (U3 rfl (ah [2] rfl (U2 (Us hC [_] rfl rfl ⟨rfl,trivial⟩ ?_))))
            refine⟨_,rfl,_,((((((hle1.trans hle2).trans qU).trans zh).trans mN).trans iR).trans kS).trans uB,(bT.pick [] [] (by decide) trivial),?_⟩
            show Value.bool _=_
            refine congrArg Value.bool ?_
            first|rfl|(rw[decide_eq_true_iff];omega)|(simp_all;done)
end Go.Proofs.YthppkofceancjaaGreat
namespace Go.Proofs.YthppkofceancjaaGreat
open Go.ChangeShapes Go.WideShapes Go.ChangeAt Go.RowKit Go.Joins Go.Deep
theorem ajN{H:Type}{P:Program}{ts:List TypeId}{ds:List (DataW H)}(h:(DataW.weightsEach P ts ds).all (·<=reachBytes)=true){j i:Nat}{t e:TypeId}{f:Field}{fs:Array Field}{parts:List (DataW H)}{elems spare:List (DataW H)}
  (ht:ts[j]? =some t)(hd:ds[j]? =some (.agg parts))(hu:P.underlying t=some (.struct fs))(hf:fs.toList[i]? =some f)(hp:parts[i]? =some (.slice elems spare))(he:P.underlying f.type=some (.slice e)):
  (elems.length+spare.length)*P.bytesOf e<=reachBytes:=by
 have m1:=DataW.weights_mem_each (P:=P) (ts:=fs.toList.map (·.type)) (j:=i) (t:=f.type) (by rw[List.getElem?_map,hf];rfl) hp ((elems.length+spare.length)*P.bytesOf e) (by simp[DataW.weights,he])
 have m2:=DataW.weights_mem_each (P:=P) ht hd ((elems.length+spare.length)*P.bytesOf e) (by simp only[DataW.weights,hu];exact m1)
 simpa using List.all_eq_true.1 h _ m2
theorem afg(l:List Cr):(l.flatMap kr.f).length=l.length*5:=by
 induction l with
 |nil=>rfl
 |cons x l ih=>rw[List.flatMap_cons,List.length_append,ih,kr.hf,List.length_cons];show 5+_=_;omega
theorem aep{l:List Value}{j:Nat}{u:Value}(h:(l.drop j).take 1=[u]):l[j]? =some u:=by
 have:=congrArg (fun z=>z[0]?) h
 simpa[List.getElem?_take,List.getElem?_drop]using this
theorem pick{α:Type}[Inhabited α]{m:Nat}{Q:Nat->α->Prop}(h:∀i,i<m->∃x,Q i x):∃F:Nat->α,∀i,i<m->Q i (F i):=
 ⟨fun i=>if hi:i<m then(h i hi).choose else default,fun i hi=>by
  show Q i (if hi:i<m then(h i hi).choose else default)
  rw[dif_pos hi];exact(h i hi).choose_spec⟩
section
variable {H : Type} {enc : TypeId × Value → H} {w : World}
theorem F3{n j:Nat}{cs:List Value}{y:DataW H×List MemPlace}(h:DataW.trod enc Tryz.prog w 0 (fun _=>true) true n 3 ((cs.drop j).take (Tryz.prog.cellsOf 3))=some y):∃a,cs[j]? =some (.int .i64 a):=by
 obtain⟨a,e,_⟩:=DataW.trod_int aw h
 rw[show Tryz.prog.cellsOf 3=1 by kernel_rfl]at e
 exact⟨a,aep e⟩
theorem aoh{n j:Nat}{cs:List Value}{y:DataW H×List MemPlace}(h:DataW.trod enc Tryz.prog w 0 (fun _=>true) true n 4 ((cs.drop j).take (Tryz.prog.cellsOf 4))=some y):∃a,cs[j]? =some (.bool a):=by
 obtain⟨a,e,_⟩:=DataW.trod_bool gD h
 rw[show Tryz.prog.cellsOf 4=1 by kernel_rfl]at e
 exact⟨a,aep e⟩
set_option maxRecDepth 100000 in
theorem alr{n:Nat}{cs:List Value}{x:DataW H×List MemPlace}(h:DataW.trod enc Tryz.prog w 0 (fun _=>true) true n 77 cs=some x):∃c:Cr,∀j u,j<5->(qx c)[j]? =some u->cs[j]? =some u:=by
 obtain⟨xs,k,_,_,_,hl,hf⟩:=DataW.trod_struct bR h
 match xs,hl with
 |[y0,y1,y2,y3,y4],_=>
  have g0:=hf 0 _ rfl
  have g1:=hf 1 _ rfl
  have g2:=hf 2 _ rfl
  have g3:=hf 3 _ rfl
  have g4:=hf 4 _ rfl
  obtain⟨n0,e0⟩:=F3 (j:=0) (y:=y0) g0
  obtain⟨n1,e1⟩:=F3 (j:=1) (y:=y1) g1
  obtain⟨n2,e2⟩:=F3 (j:=2) (y:=y2) g2
  obtain⟨n3,e3⟩:=F3 (j:=3) (y:=y3) g3
  obtain⟨n4,e4⟩:=aoh (j:=4) (y:=y4) g4
  refine⟨⟨n0,n1,n2,n3,n4⟩,fun j u hj hu=>?_⟩
  match j,hj with
  |0,_=>simp[qx]at hu;subst hu;exact e0
  |1,_=>simp[qx]at hu;subst hu;exact e1
  |2,_=>simp[qx]at hu;subst hu;exact e2
  |3,_=>simp[qx]at hu;subst hu;exact e3
  |4,_=>simp[qx]at hu;subst hu;exact e4
set_option maxRecDepth 100000 in
theorem als{v:Value}{d:DataW H}{p:List MemPlace}{b0:Nat}(hv:Value.okWide Tryz.prog w .any b0 24 v)(h:DataW.Trod enc Tryz.prog w 0 (fun _=>true) true 24 v d p)(hlt:∀x∈p,x.block<w.heap.size)
  {ts:List TypeId}{ds:List (DataW H)}(hsz:(DataW.weightsEach Tryz.prog ts ds).all (·<=reachBytes)=true){j:Nat}(hj:ts[j]? =some 24)(hd:ds[j]? =some d):
  ∃g:Dg,nM w w.heap.size v g:=by
 obtain⟨v0,v1,y0,y1,n,rfl,rfl,rfl,t0,t1⟩:=open_agg2 bg (by kernel_rfl) (by kernel_rfl) hv h
 obtain⟨l,e1,_,_⟩:=DataW.trod_int aw t1
 injection e1 with e1
 subst e1
 have hs:=fun es sp (hp:y0.1=.slice es sp)=>ajN hsz hj hd bg (i:=0) rfl (by rw[List.getElem?_cons_zero,hp]) bF
 rcases open_slice bF t0 with⟨hcs,hx⟩|⟨a,len,cap,m,k,D,Pl,hcs,hb,hl,hm,hmm,hx,hi⟩
 ·injection hcs with hcs
  subst hcs
  exact⟨⟨[],l⟩,none,0,rfl,Nat.le_refl _,Rd.bN⟩
 ·injection hcs with hcs
  subst hcs
  have hk:Tryz.prog.cellsOf 77=5:=by kernel_rfl
  have hby:Tryz.prog.bytesOf 77=40:=by kernel_rfl
  have hs:=hs _ _ (by rw[hx])
  rw[hby]at hs
  simp only[if_true]at hmm
  subst hmm
  simp only[List.length_map,List.length_range,reachBytes]at hs
  obtain⟨F,hF⟩:=pick (m:=m) (Q:=fun i (c:Cr)=>∀j u,j<5->(qx c)[j]? =some u->w.cell? (a.add (i*5+j))=some u) (fun i him=>by
   obtain⟨cs',hc,ht'⟩:=hi i him
   rw[hk]at hc
   obtain⟨c,hc'⟩:=alr ht'
   obtain⟨_,hcl,hat⟩:=World.cells?_some hc
   refine⟨c,fun j u hj hu=>?_⟩
   rw[<-Go.Deep.add_add,hat j hj]
   exact hc' j u hj hu)
  have hlen:((List.range len).map F).length=len:=by simp
  refine⟨⟨(List.range len).map F,l⟩,some a,m,by rw[hlen],by rw[hlen];exact hl,?_⟩
  refine⟨afg _,by show _*40<=_;rw[hlen];omega,fun h0=>?_⟩
  rw[hlen]at h0
  obtain⟨b,off,spot⟩:=a
  have hspot:spot=none:=by simpa[Addr.add]using World.cell?_spot (hF 0 (by omega) 0 _ (by omega) rfl)
  subst hspot
  refine⟨b,off,rfl,hlt (.cell b off) (List.mem_append_left _ (by rw[hx];exact List.mem_append_left _ (MemPlace.mem_row.2 ⟨0,by rw[hk];omega,by simp⟩))),fun i u hu=>?_⟩
  have hil:i<len*5:=by
   have:=(List.getElem?_eq_some_iff.1 hu).1
   rw[afg,hlen]at this
   exact this
  have hu':=hu
  rw[show i=(i/5)*5+i%5 by omega]at hu'
  rw[show(5:Nat)=kr.k from rfl,mv kr.hf (by rw[hlen];show i/5<len;omega) (by show i%5<5;omega)]at hu'
  have:=hF (i/5) (by omega) (i%5) u (by omega) (by simpa[kr]using hu')
  rw[show(i/5)*5+i%5=i by omega]at this
  rcases Nat.eq_zero_or_pos i with h1|h1
  ·subst h1;simpa[Addr.add]using this
  ·simpa[Addr.add,show¬i=0 by omega]using this
end
end Go.Proofs.YthppkofceancjaaGreat
namespace Go.Proofs.YthppkofceancjaaGreat
open Go.ChangeShapes Go.WideShapes Go.ChangeAt Go.RowKit
theorem aB.ao9{α:Type}{C:Cd α}{w:World}{B c:Nat}{A:Option Addr}{xs:List α}(hc:xs.length<=c)(hk:0<C.k)(h:Sl w B C.k C.u8 A xs.length (xs.flatMap C.f)):aB C (hp w) A c xs:=by
 refine⟨hc,h.2.1,fun h0=>?_⟩
 obtain⟨b,off,rfl,_,hat⟩:=h.2.2 h0
 refine⟨rfl,?_⟩
 have hlen:0<(xs.flatMap C.f).length:=by rw[kK C.hf];exact Nat.mul_pos h0 hk
 have h1:=hat 0 _ (List.getElem?_eq_getElem hlen)
 show∃cs T fz,w.heap[b]? =some (.cells cs T fz)/\∀j u,(xs.flatMap C.f)[j]? =some u->cs[off+j]? =some u
 unfold World.cell? at h1
 split at h1
 ·rename_i cs T fz hb
  refine⟨cs,T,fz,hb,fun j u hu=>?_⟩
  have:=hat j u hu
  rw[cell_of_row w b _ cs T fz hb]at this
  exact this
 ·cases h1
theorem nM.rd{w:World}{B:Nat}{v:Value}{d:Dg}(h:nM w B v d):∃A c,v=.agg [.slice A d.ae.length c,.int .i64 d.loops].toArray/\aB bw (hp w) A c d.ae:=by
 obtain⟨A,c,rfl,hc,h⟩:=h
 exact⟨A,c,rfl,aB.ao9 (C:=bw) hc (by decide) h⟩
end Go.Proofs.YthppkofceancjaaGreat
namespace Go.Proofs.YthppkofceancjaaGreat
open Go.ChangeShapes Go.WideShapes Go.ChangeAt Go.RowKit
theorem aia(v0:Value)(x0:Dg)(W:World)(h0:nM W W.heap.size v0 x0):
  Calls Tryz.prog 7 #[v0] W fun e W'=>e=.returned (.bool true)/\Below W.heap.size W W':=by
 obtain⟨A0,c0,rfl,r0⟩:=h0.rd
 exact ajg (aif x0 r0 (SH.start W))
set_option maxRecDepth 100000 in
theorem ah9(os:Os)(started:os.Started)(H:Type)(enc:TypeId×Value->H):
  ReturnsInHanded {} Tryz.checked os 7 .any (Rows.khovanovTellsSpec.pre6 enc Tryz.prog Tryz.f7 Rows.khovanovTellsRow.domain false) (Rows.khovanovTellsSpec.post enc Tryz.prog Tryz.f7 false true false false):=by
 refine akn (C:=Tryz.checked) (tb:=4) (by kernel_rfl) started (by kernel_rfl) Tryz.func7
  (ChangeSpec.witness6 (enc:=enc) (C:=Tryz.checked) false ⟨#[],#[.agg #[.slice none 0 0,.int .i64 0]],[]⟩ 8 (by kernel_rfl) (by kernel_rfl) (by kernel_rfl) (by kernel_rfl))
  rfl (by kernel_rfl) (by kernel_rfl) rfl gD ?_ ?_
 ·intro ds hds
  match ds,hds with
  |[d0],_=>rfl
 ·intro W base args ds p hval hA _ hlt hsz
  rw[Tryz.params7]at hA hval hsz
  obtain⟨v0,vs0,d0,ds0,p0,q0,hargs,rfl,rfl,h0,r0⟩:=trodAll_cons hA
  obtain⟨rfl,rfl,rfl⟩:=trodAll_nil r0
  obtain rfl:args=#[v0]:=by cases args;simp_all
  obtain⟨a0,i0⟩:=als (hval 0 24 v0 rfl rfl) h0 (fun x hx=>hlt x (by simp[hx])) hsz (j:=0) rfl rfl
  exact aia v0 a0 W i0
theorem khovanovTells_holds:Rows.KhovanovTellsSaid:=
 OpenClaim.holds_of_wide 7 Tryz.f7 rfl rfl rfl rfl rfl rfl rfl ⟨rfl,rfl,rfl,rfl,rfl⟩ rfl rfl rfl rfl rfl (by kernel_rfl) Tryz.func7 (by kernel_rfl)
  (of_decide_eq_true (by kernel_rfl)) (by unfold Func.isWrapper;first|(rw[if_pos (by decide+kernel)];kernel_rfl)|(rw[if_neg (by decide+kernel)];exact⟨rfl,rfl⟩))
  (fun os started H enc _=>ah9 os started H enc)
#print axioms khovanovTells_holds
end Go.Proofs.YthppkofceancjaaGreat
