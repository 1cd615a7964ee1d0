/- Part 12 of the proof of the law KhovanovTells: the walks through its functions and the plain laws that they need. -/
import Derived.Test.YthppkofceancjaaGreatKhX11
import Derived.Shelf.SlSortCmp.NoneTotal
import Derived.Test.YthppkofceancjaaGreatProg
set_option linter.unusedSimpArgs false
set_option linter.unusedVariables false
noncomputable section
namespace Go.Proofs.YthppkofceancjaaGreat
open Go.ChangeShapes Go.WideShapes Go.ChangeAt Go.RowKit
section
variable {w w' : World} {M M' : Hp} {X : Fr} {B : List Rs}
def Rs.rq{κ ε:Type}(kc:κ->Value)(vc:ε->Value)(l:List (Nat×List (κ×ε))):Rs:=Rs.bP (l.map fun p=>Rs.mp kc vc p.1 p.2)
def Rs.rws{α:Type}(C:Cd α)(l:List (Value×List α)):Rs:=Rs.bP (l.map fun p=>Rs.row C p.1 p.2)
section
variable {ι : Type} {f : ι → Rs} {l a b : List ι} {p : ι} {r : Rs}
theorem SH.afY(S:SH w M X B):SH w M X (Rs.bP []::B):=S.add ⟨by simp,by simp⟩ rfl
theorem SH.aov(S:SH w M X (Rs.bP ((p::l).map f)::B)):SH w M X (f p::Rs.bP (l.map f)::B):=by
 have S1:SH w M X ((f p::l.map f)++B):=SH.oo S
 have S2:SH w M X (l.map f++(f p::B)):=S1.perm (by simpa using List.perm_middle.symm)
 exact(SH.nJ S2).perm (List.Perm.swap ..)
theorem SH.ac8(S:SH w M X (Rs.bP (l.map f)::f p::B)):SH w M X (Rs.bP ((l++[p]).map f)::B):=by
 have S1:SH w M X (l.map f++(f p::B)):=SH.oo S
 rw[List.map_append]
 exact SH.nJ (A:=l.map f++[f p]) (B:=B) (by simpa using S1)
theorem SH.amt(S:SH w M X (Rs.bP ((a++p::b).map f)::B)):SH w M X (f p::Rs.bP ((a++b).map f)::B):=by
 have S1:SH w M X ((a++p::b).map f++B):=SH.oo S
 have S2:SH w M X ((a++b).map f++(f p::B)):=S1.perm (by
  rw[List.map_append,List.map_append,List.map_cons,List.append_assoc,List.append_assoc]
  refine(List.perm_append_left_iff _).2 ?_
  simpa using List.perm_middle.symm)
 exact(SH.nJ S2).perm (List.Perm.swap ..)
theorem SH.amu(S:SH w M X (f p::Rs.bP ((a++b).map f)::B)):SH w M X (Rs.bP ((a++p::b).map f)::B):=by
 have S1:SH w M X ((a++b).map f++(f p::B)):=SH.oo (S.perm (List.Perm.swap ..))
 refine SH.nJ (S1.perm ?_)
 rw[List.map_append,List.map_append,List.map_cons,List.append_assoc,List.append_assoc]
 refine(List.perm_append_left_iff _).2 ?_
 simp
end
theorem SH.am1{α:Type}{C:Cd α}{H H':List Rs}{i:Nat}{l:List (Value×List α)}(S:SH w M X H)(hi:nth H i=some (Rs.rws C l))(hH:H.set i Rs.emp=H')(hr:∀p∈l,p.2.length*C.u8<=140737488355328):∃M',M.le M'/\SH w M' X H'/\∀p∈l,oh C M' p.1 p.2:=by
 obtain⟨h1,h2,h3⟩:=S.uZ hi hH
 refine⟨_,h1,h2,fun p hpl=>?_⟩
 have hok:(Rs.rws C l).ok (hp w):=S.get hi
 exact eW.rds (hok.1 (Rs.row C p.1 p.2) (List.mem_map.2 ⟨p,hpl,rfl⟩)) (hr p hpl) (fun b hb=>h3 b (List.mem_flatMap.2 ⟨_,List.mem_map.2 ⟨p,hpl,rfl⟩,hb⟩))
end
end Go.Proofs.YthppkofceancjaaGreat
namespace Go.Proofs.YthppkofceancjaaGreat
open Go.ChangeShapes Go.WideShapes Go.ChangeAt Go.RowKit
theorem SH.anr{κ ε:Type}{kc:κ->Value}{vc:ε->Value}{w:World}{M:Hp}{X:Fr}{H:List Rs}{i g:Nat}{es:List (κ×ε)}(S:SH w M X H)(hi:nth H i=some (Rs.mp kc vc g es)):eF kc vc g es (M.un (XH w X H).h):=by
 obtain⟨arr,clock,h1,h2⟩:=(S.get hi:eF kc vc g es (hp w))
 have hmem:Rs.mp kc vc g es∈H:=by rw[dc]at hi;exact List.mem_of_getElem? hi
 have hb:=S.bl _ hmem g (by simp[Rs.mp])
 refine⟨arr,clock,?_,h2⟩
 have hx:(H.any fun r=>r.bl.contains g)=true:=pO.2 ⟨_,hmem,by simp[Rs.mp]⟩
 simp only[Hp.un,hb.2.1,XH,hx,if_true]
 exact h1
theorem akC{α:Type}[Inhabited α]{l:List α}{i:Nat}(h:i<l.length):l.drop i=ga l i::l.drop (i+1):=by rw[List.drop_eq_getElem_cons h,bV h]
noncomputable def Tb:=Tryz.f151.body.getD .skip
def ayr:=cL Tb
def Ta:=cR Tb
def ayq:=cL Ta
def ayp:=cR Ta
set_option maxRecDepth 10000 in
theorem amC{w:World}{M:Hp}{X:Fr}(gm:Nat)(S:SH w M X []):Ct Tryz.prog 151 [.map (some gm)] w M X (fun u N=>∃b,u=.func (.func 186) #[] [.pointer (some ⟨b,0,none⟩)].toArray/\bQ N b 180 [.map (some gm)]):=by
 unfold Ct
 refine Up (b:=Tb) Tryz.func151 rfl Tryz.ntmps151 rfl (fun C hC=>?_)
 refine bu [(0,_)] ⟨rfl,trivial⟩ ?_
 refine U1 ayr Ta rfl rfl rfl ?_
 refine U0 rfl ?_
 refine Uj (k:=0) (k':=1) rfl rfl rfl (cU (l:=[_]) rfl rfl rfl rfl rfl S ?_)
 intro aI w1 S1;clear S
 refine Uj (k:=1) (k':=2) rfl rfl rfl (U8 rfl rfl (run_assign rfl rfl) ?_)
 refine U3 rfl ?_
 refine Uw [(1,_)] ⟨rfl,trivial⟩ ?_
 refine U2 ?_
 refine U1 ayq ayp rfl rfl rfl ?_
 refine U0 rfl ?_
 refine Uj (k:=0) (k':=1) rfl rfl rfl (U8 rfl rfl (Eb (vs:=[_]) rfl rfl rfl rfl) ?_)
 refine Uj (k:=1) (k':=2) rfl rfl rfl (U8 rfl rfl (run_assign rfl rfl) ?_)
 refine U3 rfl ?_
 refine Uw [(2,_)] ⟨rfl,trivial⟩ ?_
 refine U2 ?_
 obtain⟨M1,hle1,S2,lW⟩:=S1.aey (i:=0) (H':=[_]) rfl rfl
 clear S1
 refine Us hC [_] rfl rfl ⟨rfl,trivial⟩ ?_
 refine⟨_,rfl,_,hle1,(S2.pick [] [] (by decide) trivial),?_⟩
 exact⟨_,rfl,lW⟩
namespace InF
noncomputable def SZ:=Tryz.f186.body.getD .skip
def ayo:=cL SZ
def ahw:=cR SZ
def ahv:=cL ahw
def SY:=cL ahv
def ayn:=cL SY
def SX:=cR SY
def Hd:=cL SX
def SV:=cR SX
def aym:=cL Hd
def ayl:=cR Hd
def SU:=cL SV
def ayk:=cL SU
def SS:=cR SU
def ayj:=cL SS
def ahu:=cR SS
def ayi:=cR ahu
set_option maxRecDepth 10000 in
theorem aiz{M:Hp}{X:Fr}{es:List (Int×Bool)}{gm b:Nat}(hm:eF (Value.int .i64) Value.bool gm es (M.un X.h))(dP:bQ M b 180 [.map (some gm)]):LD Tryz.prog 186 [.pointer (some ⟨b,0,none⟩)] ([],es.map Prod.fst) Cg (fun s=>s.2=[]) M X:=by
 intro l J w M1 B hle0 hY S hJ0
 replace hm:=hm.mono (Hp.U6 hle0 S.mx)
 replace dP:=dP.mono hle0
 refine Up (b:=SZ) Tryz.func186 rfl Tryz.ntmps186 rfl (fun C qp hC=>?_)
 have DG:C.F=Fence.wide:=by unfold Ctx.F;rw[qp]
 refine bu [(0,_),(1,_)] ⟨rfl,rfl,trivial⟩ ?_
 refine U1 ayo ahw rfl rfl rfl ?_
 refine U0 rfl ?_
 refine Uj (k:=0) (k':=1) rfl rfl rfl (U8 rfl rfl (U5 rfl rfl pQ rfl (dP.cell S.m rfl)) ?_)
 obtain⟨sP,jN,cd⟩:=hm.uQ
 refine Uj (k:=1) (k':=2) rfl rfl rfl (Am rfl rfl rfl rfl pQ S cd S.um ?_)
 intro r1 w1 S1;clear S
 refine U3 rfl ?_
 refine Uw [(0,_),(5,_)] ⟨rfl,rfl,trivial⟩ ?_
 refine U2 ?_
 refine U7 ahv 0 rfl rfl rfl ?_
 refine Ui (fun aF ak aA=>∃(sn:Array Nat) (dn:List (Int×Bool)) (lf:List (Int×Bool)) (B1:Rs) (M2:Hp),M1.le M2/\aF=lf.length/\Env 14 [(0,.func (.yield l) #[] #[]),(5,.pointer (some ⟨r1,0,none⟩))] ak/\SH aA M2 X [Rs.iV gm jN r1 sn,B1]/\pI (Value.int .i64) Value.bool sP sn lf/\(dn++lf).Perm es/\J (dn.map Prod.fst,lf.map Prod.fst) M2 B1) rfl ?_ ?_
 ·intro ak ai
  refine⟨_,⟨#[],[],es,_,_,Hp.le_refl _,rfl,ai.sub ⟨rfl,rfl,trivial⟩,S1.pick [0,1] [_,_] (by decide) ⟨rfl,rfl,trivial⟩,?bn,?bE,?ez⟩⟩
  case bn=>exact cd.Dp
  case bE=>exact List.Perm.refl _
  case ez=>exact hJ0
 ·rintro m1 a1 w2 ⟨sn,dn,lf,B1,M2,hle1,rfl,aQ,S2,hlf,eN,vt⟩
  clear S1
  refine aW aQ (c:=SY) rfl ?_
  clear aQ a1
  replace dP:=dP.mono hle1
  replace hm:=hm.mono (Hp.U6 hle1 S2.mx)
  replace cd:=cd.mono (Hp.U6 hle1 S2.mx)
  refine U1 ayn SX rfl rfl rfl ?_
  refine U0 rfl ?_
  refine Uj (k:=0) (k':=1) rfl rfl rfl (AK (i:=0) rfl rfl rfl rfl S2 rfl cd S2.um hlf (fun jX=>?_) (fun k1 v1 lR lQ jk w3 jX FX sD S3=>?_))
  ·refine Uj (k:=1) (k':=2) rfl rfl rfl (U8 rfl rfl (Ug rfl rfl rfl) ?_)
   refine U3 rfl ?_
   refine Uw [(0,_),(5,_),(7,_)] ⟨rfl,rfl,rfl,trivial⟩ ?_
   refine U2 ?_
   refine U1 Hd SV rfl rfl rfl ?_
   refine jq ayl rfl rfl rfl ?_
   refine Uk rfl rfl ?_
   refine Bk hC [] rfl trivial ?_
   obtain rfl:lf=[]:=jX
   exact⟨⟨_,rfl⟩,_,_,_,rfl,hle1,S2.pick [1] [_] (by decide) ⟨rfl,trivial⟩,vt⟩
  ·clear S2
   change SH _ _ _ [Rs.iV gm jN r1 jk,_]at S3
   refine Uj (k:=1) (k':=2) rfl rfl rfl (U8 rfl rfl (Ug rfl rfl rfl) ?_)
   refine U3 rfl ?_
   refine Uw [(0,_),(5,_),(7,_)] ⟨rfl,rfl,rfl,trivial⟩ ?_
   refine U2 ?_
   refine U1 Hd SV rfl rfl rfl ?_
   refine rM aym rfl rfl rfl ?_
   refine Ub rfl ?_
   refine Uw [(0,_),(5,_)] ⟨rfl,rfl,trivial⟩ ?_
   refine U2 ?_
   refine U7 SU 1 rfl rfl rfl ?_
   refine U1 ayk SS rfl rfl rfl ?_
   refine U0 rfl ?_
   refine Uj (k:=0) (k':=1) rfl rfl rfl (U8 rfl rfl (Ai (i:=0) rfl rfl S3 rfl cd S3.um sD) ?_)
   refine Uj (k:=1) (k':=2) rfl rfl rfl (U8 rfl rfl (Ug rfl rfl rfl) ?_)
   refine Uj (k:=2) (k':=3) rfl rfl rfl (U8 rfl rfl (run_assign rfl rfl) ?_)
   refine U3 rfl ?_
   refine Uw [(0,_),(5,_),(3,_)] ⟨rfl,rfl,rfl,trivial⟩ ?_
   refine U2 ?_
   refine U1 ayj ahu rfl rfl rfl ?_
   refine U0 rfl ?_
   refine Uj (k:=0) (k':=1) rfl rfl rfl (U8 rfl rfl (run_move rfl rfl) ?_)
   refine Uj (k:=1) (k':=2) rfl rfl rfl (U8 rfl rfl (run_move rfl rfl) ?_)
   have hst:Cg (dn.map Prod.fst,lf.map Prod.fst) (.int .i64 k1) ((dn++[(k1,v1)]).map Prod.fst,(lR++lQ).map Prod.fst):=⟨dn.map Prod.fst,lR.map Prod.fst,k1,lQ.map Prod.fst,by rw[jX];simp,rfl,by simp⟩
   have S4:=S3.perm (List.Perm.swap _ _ _)
   refine IZ (k:=2) (k':=3) rfl rfl rfl rfl rfl rfl rfl rfl rfl rfl (by rw[DG];exact hY _ _ _ _ _ [_] _ hst (hle1) S4 vt) ?_
   rintro _ w4 ⟨rfl,M3,B6,hle2,S5,hJ1⟩;clear S3
   replace dP:=dP.mono hle2
   replace hm:=hm.mono (Hp.U6 hle2 S5.mx)
   replace cd:=cd.mono (Hp.U6 hle2 S5.mx)
   refine Uj (k:=3) (k':=4) rfl rfl rfl (U8 rfl rfl (mX rfl rfl) ?_)
   refine U3 rfl ?_
   refine Uw [(0,_),(5,_),(13,_)] ⟨rfl,rfl,rfl,trivial⟩ ?_
   refine U2 ?_
   refine jq ayi rfl rfl rfl ?_
   refine Ub rfl ?_
   refine Ul ?_
   refine Ut ?_
   intro ak ai
   refine⟨_,?bG,⟨jk,dn++[(k1,v1)],lR++lQ,_,_,(hle1.trans hle2),rfl,ai.sub ⟨rfl,rfl,trivial⟩,S5.pick [1,0] [_,_] (by decide) ⟨rfl,rfl,trivial⟩,?bk,?bD,?fL⟩⟩
   case bk=>assumption
   case bD=>(refine List.Perm.trans ?_ eN;simp only[*,List.append_assoc,List.cons_append,List.nil_append];exact(List.perm_append_left_iff _).2 (List.perm_middle.symm))
   case fL=>assumption
   case bG=>(simp only[*,List.length_append,List.length_cons];omega)
noncomputable def SR:=Tryz.f182.body.getD .skip
def ayh:=cL SR
def SQ:=cR SR
def SP:=cL SQ
def aht:=cR SQ
def ayg:=cL SP
def ahs:=cR SP
def ayf:=cL ahs
set_option maxRecDepth 10000 in
theorem aiq{w:World}{M:Hp}{X:Fr}{es:List (Int×Bool)}{gm b:Nat}(hm:eF (Value.int .i64) Value.bool gm es (M.un X.h))(dP:bQ M b 180 [.map (some gm)])(hks:(es.map Prod.fst).length<=2199023255553)(S:SH w M X []):Co Tryz.prog 182 [.slice none 0 0,.func (.func 186) #[] [.pointer (some ⟨b,0,none⟩)].toArray] w M X fun u N=>∃ks,ks.Perm (es.map Prod.fst)/\N=[Rs.row Uh u ks]:=by
 unfold Co
 refine Iz (b:=SR) Tryz.func182 rfl Tryz.ntmps182 rfl (fun C qp hC=>?_)
 refine bu [(0,_),(1,_)] ⟨rfl,rfl,trivial⟩ ?_
 refine U1 ayh SQ rfl rfl rfl ?_
 refine U0 rfl ?_
 refine Uj (k:=0) (k':=1) rfl rfl rfl (cU (l:=[_]) rfl rfl rfl rfl rfl S ?_)
 intro aI w1 S1;clear S
 refine Uj (k:=1) (k':=2) rfl rfl rfl (U8 rfl rfl (run_assign rfl rfl) ?_)
 refine U3 rfl ?_
 refine Uw [(1,_),(2,_)] ⟨rfl,rfl,trivial⟩ ?_
 refine U2 ?_
 refine U1 SP aht rfl rfl rfl ?_
 refine U1 ayg ahs rfl rfl rfl ?_
 refine U0 rfl ?_
 refine Uj (k:=0) (k':=1) rfl rfl rfl (U8 rfl rfl (run_move rfl rfl) ?_)
 refine U3 rfl ?_
 refine Uw [(2,_),(6,_)] ⟨rfl,rfl,trivial⟩ ?_
 refine U2 ?_
 refine U7 ayf 0 rfl rfl rfl ?_
 have S9:=(S1.gL Uh)
 refine aad (p:=7) (f:=186) (lb:=[_]) (asg:=UR ug) (bd:=Dl ug) qp rfl rfl rfl aqf S9 (Ga (es.map Prod.fst) aI) (FH (es.map Prod.fst) aI) ?_ (aiz hm dP) ?_ ?_ ?_
 ·exact⟨.slice none 0 0,rfl,List.Perm.refl _⟩
 ·intro k k1 v M' H' w' C' R0 hk hle S' hI
  exact aal ⟨rfl,rfl,trivial⟩ hk S' hI
 ·intro k M' H' w' C' R0 a hle S' nT
  exact abr hks S' nT
 ·intro k a M' H' w' D l rc hfin ha hle S' hI
  obtain⟨dn,lf⟩:=k
  obtain rfl:lf=[]:=hfin
  obtain⟨aZ,rfl,eN⟩:=hI
  change SH w' M' X [Rs.lr l D rc,Rs.row Uh aZ dn,_]at S'
  refine Jr (c:=aht) (i:=4) (d1:=12) (d2:=4) (v:=aZ) hC rfl rfl rfl rfl rfl rfl rfl ha rfl cI rfl rfl rfl rfl S' (S'.aG (i:=2) rfl rfl) (fun w2 S2=>?_)
  refine⟨_,rfl,[Rs.row Uh aZ dn],(S2.down hle).pick [0] [_] (by decide) ⟨rfl,trivial⟩,dn,?_,rfl⟩
  simpa using eN
end InF
noncomputable def SN:=Tryz.f142.body.getD .skip
def aye:=cL SN
def SM:=cR SN
def ayd:=cL SM
def ayc:=cR SM
set_option maxRecDepth 10000 in
theorem aiW{w:World}{M:Hp}{X:Fr}{es:List (Int×Bool)}{gm b:Nat}(hm:eF (Value.int .i64) Value.bool gm es (M.un X.h))(dP:bQ M b 180 [.map (some gm)])(hks:(es.map Prod.fst).length<=2199023255553)(S:SH w M X []):Co Tryz.prog 142 [.func (.func 186) #[] [.pointer (some ⟨b,0,none⟩)].toArray] w M X (fun u N=>∃ks,ks.Perm (es.map Prod.fst)/\N=[Rs.row Uh u ks]):=by
 unfold Co
 refine Up (b:=SN) Tryz.func142 rfl Tryz.ntmps142 rfl (fun C hC=>?_)
 refine bu [(0,_)] ⟨rfl,trivial⟩ ?_
 refine U1 aye SM rfl rfl rfl ?_
 refine U0 rfl ?_
 refine Uj (k:=0) (k':=1) rfl rfl rfl (U8 rfl rfl (run_assign rfl rfl) ?_)
 refine U3 rfl ?_
 refine Uw [(0,_)] ⟨rfl,trivial⟩ ?_
 refine U2 ?_
 refine U1 ayd ayc rfl rfl rfl ?_
 refine U0 rfl ?_
 refine Uj (k:=0) (k':=1) rfl rfl rfl (U8 rfl rfl (run_move rfl rfl) ?_)
 refine Uj (k:=1) (k':=2) rfl rfl rfl (BJ rfl rfl rfl rfl rfl rfl rfl aeP S (InF.aiq (hm.mono S.Uq) dP hks S.aR) ?_)
 intro UM w1 Nw1 S1 xx;clear S
 obtain⟨afh,yV,rfl⟩:=xx
 change SH _ _ _ [_]at S1
 refine Uj (k:=2) (k':=3) rfl rfl rfl (U8 rfl rfl (run_assign rfl rfl) ?_)
 refine U3 rfl ?_
 refine Uw [(2,_)] ⟨rfl,trivial⟩ ?_
 refine U2 ?_
 refine Us hC [_] rfl rfl ⟨rfl,trivial⟩ ?_
 exact⟨_,rfl,_,S1.pick [0] [_] (by decide) ⟨rfl,trivial⟩,_,yV,rfl⟩
noncomputable def SL:=Tryz.f150.body.getD .skip
def ayb:=cL SL
def SK:=cR SL
def SJ:=cL SK
def SI:=cR SK
def aya:=cL SJ
def SG:=cR SJ
def ax9:=cL SG
def ax8:=cR SG
def ax7:=cL SI
def SF:=cR SI
def SE:=cL SF
def SD:=cR SF
def ax6:=cL SE
def ahr:=cR SE
def ahq:=cL ahr
def SC:=cL ahq
def SA:=cL SC
def Sy:=cR SC
def ax5:=cL SA
def Sw:=cR SA
def ax4:=cL Sw
def ax3:=cR Sw
def ahp:=cL Sy
def ax2:=cR Sy
def ax1:=cL ahp
def ax0:=cL SD
def axZ:=cR SD
set_option maxRecDepth 10000 in
theorem aqz{w:World}{M:Hp}{X:Fr}(p:List Int){pA:Option Addr}{pc:Nat}(hp:aB Uh (M.un X.h) pA pc p)(h0:0<p.length)(S:SH w M X []):Cq Tryz.prog 150 [.slice pA p.length pc] w M X (fun u=>u=.int .i64 (Gi p)):=by
 unfold Cq
 have afc:p.length*8<=140737488355328:=hp.room
 refine Up (b:=SL) Tryz.func150 rfl Tryz.ntmps150 rfl (fun C hC=>?_)
 refine bu [(0,_)] ⟨rfl,trivial⟩ ?_
 refine U1 ayb SK rfl rfl rfl ?_
 refine U0 rfl ?_
 refine Uj (k:=0) (k':=1) rfl rfl rfl (U8 rfl rfl (run_assign rfl rfl) ?_)
 refine U3 rfl ?_
 refine Uw [(0,_)] ⟨rfl,trivial⟩ ?_
 refine U2 ?_
 refine U1 SJ SI rfl rfl rfl ?_
 refine U1 aya SG rfl rfl rfl ?_
 refine U0 rfl ?_
 refine Uj (k:=0) (k':=1) rfl rfl rfl (U8 rfl rfl (run_move rfl rfl) ?_)
 refine Uj (k:=1) (k':=2) rfl rfl rfl (U8 rfl rfl (Uv rfl rfl rfl rfl rfl rfl cI) ?_)
 refine Uj (k:=2) (k':=3) rfl rfl rfl (U8 rfl rfl (Un rfl rfl rfl) ?_)
 refine U3 rfl ?_
 refine Uw [(0,_),(7,_)] ⟨rfl,rfl,trivial⟩ ?_
 refine U2 ?_
 refine dH ax9 ax8 rfl rfl rfl rfl (fun DB=>?_) (fun DB=>?_)
 ·replace DB:=of_decide_eq_true DB
  exfalso;omega
 ·replace DB:=of_decide_eq_false DB
  refine Ub rfl ?_
  refine Uw [(0,_)] ⟨rfl,trivial⟩ ?_
  refine U2 ?_
  refine U1 ax7 SF rfl rfl rfl ?_
  refine U0 rfl ?_
  refine Uj (k:=0) (k':=1) rfl rfl rfl (U8 rfl rfl (run_move rfl rfl) ?_)
  refine Uj (k:=1) (k':=2) rfl rfl rfl (U8 rfl rfl (U9 (C:=Uh) 0 rfl rfl rfl aS (by first|rfl|omega) hp (by first|omega|(simp only[ls];omega))) ?_)
  refine Uj (k:=2) (k':=3) rfl rfl rfl (U8 rfl rfl (U5 rfl rfl aw rfl (hp.cell S.um (i:=0) (by first|omega|(simp only[ls];omega)) 0 rfl rfl)) ?_)
  refine Uj (k:=3) (k':=4) rfl rfl rfl (U8 rfl rfl (run_assign rfl rfl) ?_)
  refine U3 rfl ?_
  refine Uw [(0,_),(3,_)] ⟨rfl,rfl,trivial⟩ ?_
  refine U2 ?_
  refine U1 SE SD rfl rfl rfl ?_
  refine U1 ax6 ahr rfl rfl rfl ?_
  refine U0 rfl ?_
  refine Uj (k:=0) (k':=1) rfl rfl rfl (U8 rfl rfl (run_assign rfl rfl) ?_)
  refine U3 rfl ?_
  refine U2 ?_
  refine U7 ahq 0 rfl rfl rfl ?_
  refine Ui (fun aF ak aA=>∃(i:Nat),aF=p.length-1*i/\Env 25 [(0,.slice pA p.length pc),(3,.int .i64 (minK p i)),(4,.int .i64 ((i+1:Nat):Int))] ak/\SH aA M X []/\i+1<=p.length) rfl ?_ ?_
  ·intro ak ai
   refine⟨_,⟨0,rfl,ai.sub ⟨rfl,rfl,rfl,trivial⟩,S.pick [] [] (by decide) trivial,?bn⟩⟩
   case bn=>omega
  ·rintro m1 a1 w1 ⟨i,rfl,aQ,S1,hi⟩
   clear S
   refine aW aQ (c:=SC) rfl ?_
   clear aQ a1
   refine U1 SA Sy rfl rfl rfl ?_
   refine U1 ax5 Sw rfl rfl rfl ?_
   refine U0 rfl ?_
   refine Uj (k:=0) (k':=1) rfl rfl rfl (U8 rfl rfl (run_move rfl rfl) ?_)
   refine Uj (k:=1) (k':=2) rfl rfl rfl (U8 rfl rfl (run_move rfl rfl) ?_)
   refine Uj (k:=2) (k':=3) rfl rfl rfl (U8 rfl rfl (Uv rfl rfl rfl rfl rfl rfl cI) ?_)
   refine Uj (k:=3) (k':=4) rfl rfl rfl (U8 rfl rfl (Un rfl rfl rfl) ?_)
   refine U3 rfl ?_
   refine Uw [(0,_),(3,_),(4,_),(15,_)] ⟨rfl,rfl,rfl,rfl,trivial⟩ ?_
   refine U2 ?_
   refine dH ax4 ax3 rfl rfl rfl rfl (fun iD=>?_) (fun iD=>?_)
   ·replace iD:=of_decide_eq_true iD
    refine Ub rfl ?_
    refine Uw [(0,_),(3,_),(4,_)] ⟨rfl,rfl,rfl,trivial⟩ ?_
    refine U2 ?_
    refine U1 ahp ax2 rfl rfl rfl ?_
    refine U7 ax1 1 rfl rfl rfl ?_
    refine U0 rfl ?_
    refine Uj (k:=0) (k':=1) rfl rfl rfl (U8 rfl rfl (run_move rfl rfl) ?_)
    refine Uj (k:=1) (k':=2) rfl rfl rfl (U8 rfl rfl (run_move rfl rfl) ?_)
    refine Uj (k:=2) (k':=3) rfl rfl rfl (U8 rfl rfl (run_move rfl rfl) ?_)
    refine Uj (k:=3) (k':=4) rfl rfl rfl (U8 rfl rfl (U9 (C:=Uh) (i+1) rfl rfl rfl aS (by first|rfl|omega) hp (by first|omega|(simp only[ls];omega))) ?_)
    refine Uj (k:=4) (k':=5) rfl rfl rfl (U8 rfl rfl (U5 rfl rfl aw rfl (hp.cell S1.um (i:=i+1) (by first|omega|(simp only[ls];omega)) 0 rfl rfl)) ?_)
    refine Uj (k:=5) (k':=6) rfl rfl rfl (U8 rfl rfl (aco rfl rfl rfl rfl rfl) ?_)
    refine Uj (k:=6) (k':=7) rfl rfl rfl (U8 rfl rfl (run_assign rfl rfl) ?_)
    refine U3 rfl ?_
    refine Ul ?_
    refine Uw [(0,_),(3,_),(4,_)] ⟨rfl,rfl,rfl,trivial⟩ ?_
    refine U2 ?_
    refine U0 rfl ?_
    refine Uj (k:=0) (k':=1) rfl rfl rfl (U8 rfl rfl (run_move rfl rfl) ?_)
    refine Uj (k:=1) (k':=2) rfl rfl rfl (U8 rfl rfl (Ud rfl rfl rfl (by first|omega|(simp only[ls];omega))) ?_)
    refine Uj (k:=2) (k':=3) rfl rfl rfl (U8 rfl rfl (run_assign rfl rfl) ?_)
    refine U3 rfl ?_
    refine Ut ?_
    intro ak ai
    refine⟨_,?bG,⟨i+1,rfl,ai.sub ⟨rfl,rfl,rfl,trivial⟩,S1.pick [] [] (by decide) trivial,?bk⟩⟩
    case bk=>omega
    case bG=>omega
   ·replace iD:=of_decide_eq_false iD
    refine Uk rfl rfl ?_
    refine Uw [(3,_)] ⟨rfl,trivial⟩ ?_
    refine U2 ?_
    refine U1 ax0 axZ rfl rfl rfl ?_
    refine U0 rfl ?_
    refine Uj (k:=0) (k':=1) rfl rfl rfl (U8 rfl rfl (run_move rfl rfl) ?_)
    refine Uj (k:=1) (k':=2) rfl rfl rfl (U8 rfl rfl (run_assign rfl rfl) ?_)
    refine U3 rfl ?_
    refine Uw [(2,_)] ⟨rfl,trivial⟩ ?_
    refine U2 ?_
    refine Us hC [_] rfl rfl ⟨rfl,trivial⟩ ?_
    exact⟨_,rfl,(S1.pick [] [] (by decide) trivial),(by show Value.int .i64 (minK p i)=.int .i64 (Gi p);rw[Gi,show p.length-1=i by omega])⟩
theorem eB.swap_(B:List (Nat->Bool))(v:Nat->Bool):eB (B++[v]) (v::B):=
 ⟨fun a ha=>gF (by simp at ha ⊢;exact ha.symm),fun a ha=>gF (by simp at ha ⊢;exact ha.symm)⟩
theorem aja{α:Type}[DecidableEq α]{xs ys:List α}(h:xs.Nodup)(hs:∀x∈xs,x∈ys):xs.length<=ys.length:=by
 induction xs generalizing ys with
 |nil=>simp
 |cons x xs ih=>
  rw[List.nodup_cons]at h
  have hx:=hs x (by simp)
  have:=ih (ys:=ys.erase x) h.2 fun y hy=>by
   refine(List.mem_erase_of_ne ?_).2 (hs y (by simp[hy]))
   intro e
   subst e
   exact h.1 hy
  rw[List.length_erase_of_mem hx]at this
  have hp:=List.length_pos_of_mem hx
  rw[List.length_cons]
  omega
theorem ajh:∀(K:Nat) (xs:List Int),xs.Nodup->(∀k∈xs,0<=k/\k<(K:Int))->xs.length<=K:=by
 intro K xs hn hb
 have h1:(xs.map Int.toNat).Nodup:=by
  rw[List.nodup_iff_pairwise_ne,List.pairwise_map]
  rw[List.nodup_iff_pairwise_ne]at hn
  exact hn.imp_of_mem fun{a b} ha hb' hab e=>hab (by have:=hb a ha;have:=hb b hb';omega)
 have:=aja h1 (ys:=List.range K) fun x hx=>by
  obtain⟨k,hk,rfl⟩:=List.mem_map.1 hx
  rw[List.mem_range];have:=hb k hk;omega
 rwa [List.length_map,List.length_range]at this
theorem alb{lo K:Nat}{es:List (Int×Bool)}(h:qa lo K es):(es.map Prod.fst).length<=K:=ajh K _ h.1.1 fun k hk=>by have:=h.2 k hk;omega
noncomputable def Sv:=Tryz.f100.body.getD .skip
def axY:=cL Sv
def Ss:=cR Sv
def axX:=cL Ss
def Sr:=cR Ss
def axW:=cL Sr
def Sq:=cR Sr
def Sn:=cL Sq
def Sk:=cR Sq
def axV:=cL Sn
def aho:=cR Sn
def ahn:=cL aho
def Sj:=cL ahn
def axU:=cL Sj
def Si:=cR Sj
def Sg:=cL Si
def Sd:=cR Si
def axT:=cL Sg
def axS:=cR Sg
def ahm:=cL Sd
def axR:=cR Sd
def Sc:=cL ahm
def axQ:=cL Sc
def ahl:=cR Sc
def ahk:=cL ahl
def Sb:=cL ahk
def R9:=cL Sb
def ahj:=cR Sb
def axP:=cL R9
def R8:=cR R9
def axO:=cL R8
def axN:=cR R8
def R7:=cL ahj
def axM:=cL R7
def R6:=cR R7
def axL:=cL R6
def R5:=cR R6
def R4:=cL R5
def R3:=cR R5
def axK:=cL R4
def RZ:=cR R4
def RY:=cL RZ
def axJ:=cR RZ
def axI:=cL RY
def RX:=cR RY
def axH:=cL RX
def axG:=cR RX
def axF:=cL R3
def ahi:=cR R3
def ahh:=cL ahi
def RV:=cL ahh
def axE:=cL RV
def RU:=cR RV
def G9:=cL RU
def RT:=cR RU
def axD:=cL G9
def axC:=cR G9
def RS:=cL RT
def axB:=cL RS
def RR:=cR RS
def axA:=cL RR
def RQ:=cR RR
def axz:=cL RQ
def axy:=cR RQ
def axx:=cL Sk
def axw:=cR Sk
set_option maxHeartbeats 2000000 in
set_option maxRecDepth 10000 in
theorem aoA{w:World}{M:Hp}{X:Fr}{cH:Value}(l:List (Nat×List (Int×Bool)))(K:Nat)(hl:∀p∈l,fS p.2/\ua K p.2)(hK:K<=1048576)(hll:l.length<=1048576)(S:SH w M X [Rs.bP [Rs.row (nz 180) cH (l.map fun p=>some p.1),Rs.rq (Value.int .i64) Value.bool l]]):C1 Tryz.prog 100 [cH] w M X (fun u M' r'=>∃n:Nat,u=.int .i64 n/\KN (l.map fun p=>dB p.2) n/\r'=Rs.bP []):=by
 unfold C1
 replace S:=S.yQ
 have hrl:(l.map fun p=>some p.1).length=l.length:=List.length_map _
 refine Up (b:=Sv) Tryz.func100 rfl Tryz.ntmps100 rfl (fun C hC=>?_)
 refine bu [(0,_)] ⟨rfl,trivial⟩ ?_
 refine U1 axY Ss rfl rfl rfl ?_
 refine U0 rfl ?_
 refine Uj (k:=0) (k':=1) rfl rfl rfl (U8 rfl rfl (run_assign rfl rfl) ?_)
 refine U3 rfl ?_
 refine Uw [(0,_)] ⟨rfl,trivial⟩ ?_
 refine U2 ?_
 refine U1 axX Sr rfl rfl rfl ?_
 refine U0 rfl ?_
 refine Uj (k:=0) (k':=1) rfl rfl rfl (vP Int tZ (Value.int .i64) zA rfl rfl rfl S ?_)
 intro eV w1 S1;clear S
 refine Uj (k:=1) (k':=2) rfl rfl rfl (U8 rfl rfl (run_assign rfl rfl) ?_)
 refine U3 rfl ?_
 refine Uw [(0,_),(3,_)] ⟨rfl,rfl,trivial⟩ ?_
 refine U2 ?_
 refine U1 axW Sq rfl rfl rfl ?_
 refine U0 rfl ?_
 refine Uj (k:=0) (k':=1) rfl rfl rfl (U8 rfl rfl (run_assign rfl rfl) ?_)
 refine U3 rfl ?_
 refine U2 ?_
 refine U1 Sn Sk rfl rfl rfl ?_
 refine U1 axV aho rfl rfl rfl ?_
 refine U0 rfl ?_
 refine Uj (k:=0) (k':=1) rfl rfl rfl (U8 rfl rfl (run_move rfl rfl) ?_)
 refine Uj (k:=1) (k':=2) rfl rfl rfl (U8 rfl rfl (kL (C:=(nz 180)) (i:=1) rfl rfl rfl rfl rfl rfl FT S1 rfl) ?_)
 refine Uj (k:=2) (k':=3) rfl rfl rfl (U8 rfl rfl (run_move rfl rfl) ?_)
 refine U3 rfl ?_
 refine Uw [(3,_),(4,_),(12,_),(13,_),(14,_)] ⟨rfl,rfl,rfl,rfl,rfl,trivial⟩ ?_
 refine U2 ?_
 refine U7 ahn 0 rfl rfl rfl ?_
 refine Ui (fun aF ak aA=>∃(i:Nat) (pe:List (Int×tZ)) (M1:Hp),M.le M1/\aF=l.length-i/\Env 53 [(3,.map (some eV)),(4,.int .i64 (pe.length:Int)),(12,cH),(13,.int .i64 ((l.map fun p=>some p.1).length:Int)),(14,.int .i64 (i:Int))] ak/\SH aA M1 X [Rs.mp (Value.int .i64) zA eV pe,Rs.row (nz 180) cH (l.map fun p=>some p.1),Rs.rq (Value.int .i64) Value.bool (l.drop i)]/\i<=l.length/\pe.length<=i/\kV M1 K pe/\eB (o7 pe) ((l.take i).map fun p=>dB p.2)) rfl ?_ ?_
 ·intro ak ai
  refine⟨_,⟨0,[],_,Hp.le_refl _,rfl,ai.sub ⟨rfl,rfl,rfl,rfl,rfl,trivial⟩,S1.pick [0,1,2] [_,_,_] (by decide) ⟨rfl,rfl,rfl,trivial⟩,?bn,?bE,?ez,?sB⟩⟩
  case bn=>omega
  case bE=>exact Nat.le_refl _
  case ez=>exact kV.bN
  case sB=>exact eB.refl _
 ·rintro m2 a1 w2 ⟨i,pe,M1,hle1,rfl,aQ,S2,hi,hpl,hpv,hsp⟩
  clear S1
  refine aW aQ (c:=Sj) rfl ?_
  clear aQ a1
  refine U1 axU Si rfl rfl rfl ?_
  refine U0 rfl ?_
  refine Uj (k:=0) (k':=1) rfl rfl rfl (U8 rfl rfl (Un rfl rfl rfl) ?_)
  refine U3 rfl ?_
  refine U2 ?_
  refine U1 Sg Sd rfl rfl rfl ?_
  refine dH axT axS rfl rfl rfl rfl (fun iD=>?_) (fun iD=>?_)
  ·replace iD:=of_decide_eq_true iD
   refine Ub rfl ?_
   refine Uw [(3,_),(4,_),(12,_),(13,_),(14,_)] ⟨rfl,rfl,rfl,rfl,rfl,trivial⟩ ?_
   refine U2 ?_
   refine U1 ahm axR rfl rfl rfl ?_
   refine U7 Sc 1 rfl rfl rfl ?_
   refine U1 axQ ahl rfl rfl rfl ?_
   refine U0 rfl ?_
   refine Uj (k:=0) (k':=1) rfl rfl rfl (U8 rfl rfl (Ue (C:=(nz 180)) (i:=1) i rfl rfl rfl FT S2 rfl (by first|rfl|omega) (by first|omega|(simp only[ls];omega))) ?_)
   refine Uj (k:=1) (k':=2) rfl rfl rfl (U8 rfl rfl (U5 rfl rfl pQ rfl (S2.cK (i:=1) (e:=i) (j:=0) rfl (by first|omega|(simp only[ls];omega)) rfl rfl)) ?_)
   obtain⟨⟨nU,nW⟩,hq0⟩:∃p,ga l i=p:=⟨_,rfl⟩
   have hdr:l.drop i=(nU,nW)::l.drop (i+1):=by rw[<-hq0];exact akC (by omega)
   have Dt:=hl (ga l i) (nX (by omega))
   rw[hq0]at Dt
   refine cZ 17 (.map (some nU)) rfl (by rw[kH _ _ _ (by omega),hq0]) ?_
   have S3:=S2.pick [2,0,1] [_,_,_] (by decide) ⟨rfl,rfl,rfl,trivial⟩;clear S2
   rw[hdr]at S3
   have S4:SH _ _ _ (Rs.mp (Value.int .i64) Value.bool nU nW::Rs.rq (Value.int .i64) Value.bool (l.drop (i+1))::[_,_]):=SH.aov (f:=(fun p=>Rs.mp (Value.int .i64) Value.bool p.1 p.2)) (p:=(nU,nW)) (l:=l.drop (i+1)) S3;clear S3
   refine Uj (k:=2) (k':=3) rfl rfl rfl (U8 rfl rfl (run_assign rfl rfl) ?_)
   refine U3 rfl ?_
   refine Uw [(3,_),(4,_),(12,_),(13,_),(14,_),(6,_)] ⟨rfl,rfl,rfl,rfl,rfl,rfl,trivial⟩ ?_
   refine U2 ?_
   refine U7 ahk 2 rfl rfl rfl ?_
   refine Ui (fun aF ak aA=>∃(es:List (Int×Bool)) (lo:Nat) (M2:Hp),M1.le M2/\aF=K-1*lo/\Env 53 [(3,.map (some eV)),(4,.int .i64 (pe.length:Int)),(12,cH),(13,.int .i64 ((l.map fun p=>some p.1).length:Int)),(14,.int .i64 (i:Int)),(6,.map (some nU))] ak/\SH aA M2 X [Rs.mp (Value.int .i64) Value.bool nU es,Rs.rq (Value.int .i64) Value.bool (l.drop (i+1)),Rs.mp (Value.int .i64) zA eV pe,Rs.row (nz 180) cH (l.map fun p=>some p.1)]/\qa lo K es/\eB (dB es::o7 pe) (((l.take i).map fun p=>dB p.2)++[dB nW])) rfl ?_ ?_
   ·intro ak ai
    refine⟨_,⟨nW,0,_,Hp.le_refl _,rfl,ai.sub ⟨rfl,rfl,rfl,rfl,rfl,rfl,trivial⟩,S4.pick [0,1,2,3] [_,_,_,_] (by decide) ⟨rfl,rfl,rfl,rfl,trivial⟩,?bk,?bD⟩⟩
    case bk=>exact qa.mb Dt.1 Dt.2
    case bD=>exact ai4 hsp
   ·rintro m3 a2 w3 ⟨es,lo,M2,hle2,rfl,bS,S5,hrow,Dr⟩
    clear S4
    refine aW bS (c:=Sb) rfl ?_
    clear bS a2
    replace hpv:=hpv.mono hle2
    refine U1 R9 ahj rfl rfl rfl ?_
    refine U1 axP R8 rfl rfl rfl ?_
    refine U0 rfl ?_
    refine Uj (k:=0) (k':=1) rfl rfl rfl (U8 rfl rfl (run_move rfl rfl) ?_)
    refine Uj (k:=1) (k':=2) rfl rfl rfl (U8 rfl rfl (aap (i:=0) rfl rfl rfl rfl rfl rfl pQ S5 rfl) ?_)
    refine Uj (k:=2) (k':=3) rfl rfl rfl (U8 rfl rfl (rT rfl rfl rfl) ?_)
    refine U3 rfl ?_
    refine Uw [(3,_),(4,_),(12,_),(13,_),(14,_),(6,_),(20,_)] ⟨rfl,rfl,rfl,rfl,rfl,rfl,rfl,trivial⟩ ?_
    refine U2 ?_
    refine dH axO axN rfl rfl rfl rfl (fun nE=>?_) (fun nE=>?_)
    ·replace nE:=of_decide_eq_true nE
     refine Ub rfl ?_
     refine Uw [(3,_),(4,_),(12,_),(13,_),(14,_),(6,_)] ⟨rfl,rfl,rfl,rfl,rfl,rfl,trivial⟩ ?_
     refine U2 ?_
     refine U7 R7 3 rfl rfl rfl ?_
     refine U1 axM R6 rfl rfl rfl ?_
     have hkl:(es.map Prod.fst).length<=2199023255553:=by have:=alb hrow;omega
     refine U0 rfl ?_
     refine Uj (k:=0) (k':=1) rfl rfl rfl (U8 rfl rfl (run_move rfl rfl) ?_)
     refine Uj (k:=1) (k':=2) rfl rfl rfl (dt rfl rfl rfl rfl rfl rfl rfl aqk S5 (amC nU S5.aR) ?_)
     intro UL w4 M3 cG S6 xw;clear S5
     replace hpv:=hpv.mono cG
     obtain⟨bk1,rfl,lW⟩:=xw
     refine Uj (k:=2) (k':=3) rfl rfl rfl (BJ rfl rfl rfl rfl rfl rfl rfl aeT S6 (aiW (S6.anr (i:=0) rfl) lW hkl S6.aR) ?_)
     intro vw5 w5 Nw5 S7 CI;clear S6
     obtain⟨ari,FY,rfl⟩:=CI
     change SH _ _ _ [_,_,_,_,_]at S7
     obtain⟨A1,c1,e1,hr1⟩:=S7.ans (i:=0) rfl (by show _*8<=_;have h9:=FY.length_eq;omega)
     have Bx:=aqz ari hr1 ((by have:=FY.length_eq;rw[List.length_map]at this;omega)) S7.aR
     refine Uj (k:=3) (k':=4) rfl rfl rfl (gJ rfl rfl rfl rfl rfl rfl rfl aql S7 (Cq.cast (by simp only[e1]) (Bx)) ?_)
     rintro _ w6 S8 rfl;clear S7
     refine Uj (k:=4) (k':=5) rfl rfl rfl (U8 rfl rfl (run_assign rfl rfl) ?_)
     refine U3 rfl ?_
     refine Uw [(3,_),(4,_),(12,_),(13,_),(14,_),(6,_),(7,_)] ⟨rfl,rfl,rfl,rfl,rfl,rfl,rfl,trivial⟩ ?_
     refine U2 ?_
     refine U1 axL R5 rfl rfl rfl ?_
     have arB:=FY.length_eq
     rw[List.length_map]at arB
     obtain⟨low,zg,Vi,hin⟩:=alK hrow.1 FY (by omega)
     refine eZ 7 (.int .i64 (low:Int)) rfl (int_eq zg) ?_
     refine U0 rfl ?_
     refine Uj (k:=0) (k':=1) rfl rfl rfl (U8 rfl rfl (run_move rfl rfl) ?_)
     refine Uj (k:=1) (k':=2) rfl rfl rfl (U8 rfl rfl (run_move rfl rfl) ?_)
     refine Uj (k:=2) (k':=3) rfl rfl rfl (U8 rfl rfl (ail (kc:=Value.int .i64) (vc:=zA) (es:=pe) (k:=(low:Int)) (zv:=(none:tZ)) (i:=3) rfl rfl rfl ael mS aoK S8 rfl) ?_)
     refine Uj (k:=3) (k':=4) rfl rfl rfl (U8 rfl rfl (run_move rfl rfl) ?_)
     refine Uj (k:=4) (k':=5) rfl rfl rfl (U8 rfl rfl (Ug rfl rfl rfl) ?_)
     refine Uj (k:=5) (k':=6) rfl rfl rfl (U8 rfl rfl (Ug rfl rfl rfl) ?_)
     refine Uj (k:=6) (k':=7) rfl rfl rfl (U8 rfl rfl (run_assign rfl rfl) ?_)
     refine Uj (k:=7) (k':=8) rfl rfl rfl (U8 rfl rfl (run_assign rfl rfl) ?_)
     refine U3 rfl ?_
     refine Uw [(3,_),(4,_),(12,_),(13,_),(14,_),(6,_),(7,_),(8,_),(9,_)] ⟨rfl,rfl,rfl,rfl,rfl,rfl,rfl,rfl,rfl,trivial⟩ ?_
     refine U2 ?_
     refine U1 R4 R3 rfl rfl rfl ?_
     refine U1 axK RZ rfl rfl rfl ?_
     refine U0 rfl ?_
     refine Uj (k:=0) (k':=1) rfl rfl rfl (U8 rfl rfl (run_move rfl rfl) ?_)
     refine Uj (k:=1) (k':=2) rfl rfl rfl (U8 rfl rfl (mX rfl rfl) ?_)
     refine U3 rfl ?_
     refine Uw [(3,_),(4,_),(12,_),(13,_),(14,_),(6,_),(7,_),(8,_),(32,_)] ⟨rfl,rfl,rfl,rfl,rfl,rfl,rfl,rfl,rfl,trivial⟩ ?_
     refine U2 ?_
     refine dH RY axJ rfl rfl rfl rfl (fun nC=>?_) (fun nC=>?_)
     ·simp only[Bool.and_eq_true,Bool.or_eq_true,Bool.and_eq_false_iff,Bool.or_eq_false_iff,decide_eq_true_eq,decide_eq_false_iff_not,Bool.not_eq_true',Bool.not_eq_false']at nC
      have hnone:mg (low:Int) pe=none:=by cases h9:mg (low:Int) pe with
       |none=>rfl
       |some v=>rw[h9]at nC;cases nC
      refine U1 axI RX rfl rfl rfl ?_
      refine U0 rfl ?_
      refine Uj (k:=0) (k':=1) rfl rfl rfl (U8 rfl rfl (run_move rfl rfl) ?_)
      refine Uj (k:=1) (k':=2) rfl rfl rfl (U8 rfl rfl (run_move rfl rfl) ?_)
      refine Uj (k:=2) (k':=3) rfl rfl rfl (U8 rfl rfl (run_move rfl rfl) ?_)
      obtain⟨M4,bt,S9,fp⟩:=S8.Bi (i:=1) (H':=[_,_,_,_,_]) rfl rfl;clear S8
      replace hpv:=hpv.mono bt
      replace lW:=lW.mono bt
      refine Uj (k:=3) (k':=4) rfl rfl rfl (tT (kc:=Value.int .i64) (vc:=zA) (es:=pe) (k:=(low:Int)) (e:=(some (nU,es))) (i:=3) (H':=[_,_,_,_,_]) (.inl rfl) rfl S9 rfl rfl rfl rfl ael mS rfl ?_)
      intro w7 bM;clear S9
      refine U3 rfl ?_
      refine Uw [(3,_),(4,_),(12,_),(13,_),(14,_)] ⟨rfl,rfl,rfl,rfl,rfl,trivial⟩ ?_
      refine U2 ?_
      refine U1 axH axG rfl rfl rfl ?_
      refine U0 rfl ?_
      refine Uj (k:=0) (k':=1) rfl rfl rfl (U8 rfl rfl (run_move rfl rfl) ?_)
      refine Uj (k:=1) (k':=2) rfl rfl rfl (U8 rfl rfl (Ud rfl rfl rfl (by first|omega|(simp only[ls];omega))) ?_)
      refine Uj (k:=2) (k':=3) rfl rfl rfl (U8 rfl rfl (run_assign rfl rfl) ?_)
      refine U3 rfl ?_
      refine Uw [(3,_),(4,_),(12,_),(13,_),(14,_)] ⟨rfl,rfl,rfl,rfl,rfl,trivial⟩ ?_
      refine U2 ?_
      refine Uk rfl rfl ?_
      refine Ul ?_
      refine U2 ?_
      obtain⟨aBo,hpb,arC⟩:=hpv.put (es:=es) hnone fp hrow.1 hrow.bd Vi
      clear hpv
      have arv:eB (o7 (mp (low:Int) (some (nU,es)) pe)) ((l.take (i+1)).map fun p=>dB p.2):=by
       rw[kJ l i (by omega),List.map_append,hq0,hpb]
       exact(eB.swap_ _ _).trans Dr
      refine eZ 4 (.int .i64 ((mp (low:Int) (some (nU,es)) pe).length:Int)) rfl (int_eq (by rw[arC];rfl)) ?_
      refine U0 rfl ?_
      refine Uj (k:=0) (k':=1) rfl rfl rfl (U8 rfl rfl (Ud rfl rfl rfl (by first|omega|(simp only[ls];omega))) ?_)
      refine Uj (k:=1) (k':=2) rfl rfl rfl (U8 rfl rfl (run_move rfl rfl) ?_)
      refine U3 rfl ?_
      refine Ut ?_
      intro ak ai
      refine⟨_,?fM,⟨i+1,mp (low:Int) (some (nU,es)) pe,_,(((hle1.trans hle2).trans cG).trans bt),rfl,ai.sub ⟨rfl,rfl,rfl,rfl,rfl,trivial⟩,bM.pick [3,4,2] [_,_,_] (by decide) ⟨rfl,rfl,rfl,trivial⟩,?cu,?cN,?jb,?sy⟩⟩
      case cu=>omega
      case cN=>omega
      case jb=>assumption
      case sy=>assumption
      case fM=>omega
     ·simp only[Bool.and_eq_true,Bool.or_eq_true,Bool.and_eq_false_iff,Bool.or_eq_false_iff,decide_eq_true_eq,decide_eq_false_iff_not,Bool.not_eq_true',Bool.not_eq_false']at nC
      obtain⟨v9,hv9⟩:∃v,mg (low:Int) pe=some v:=by cases h9:mg (low:Int) pe with
       |none=>rw[h9]at nC;cases nC
       |some v=>exact⟨v,rfl⟩
      obtain⟨gp,ep,rfl,hmp,hEp,hbp,hlp,hmem⟩:=hpv.get hv9
      refine eZ 8 (.map (some gp)) rfl (by rw[hv9];rfl) ?_
      refine Ub rfl ?_
      refine Uw [(3,_),(4,_),(12,_),(13,_),(14,_),(6,_),(8,_)] ⟨rfl,rfl,rfl,rfl,rfl,rfl,rfl,trivial⟩ ?_
      refine U2 ?_
      refine U1 axF ahi rfl rfl rfl ?_
      refine U0 rfl ?_
      refine Uj (k:=0) (k':=1) rfl rfl rfl (U8 rfl rfl (run_move rfl rfl) ?_)
      obtain⟨sP,jN,cd⟩:=hmp.uQ
      refine Uj (k:=1) (k':=2) rfl rfl rfl (Am rfl rfl rfl rfl pQ S8 cd S8.m ?_)
      intro r1 w8 bJ;clear S8
      refine U3 rfl ?_
      refine Uw [(3,_),(4,_),(12,_),(13,_),(14,_),(6,_),(39,_)] ⟨rfl,rfl,rfl,rfl,rfl,rfl,rfl,trivial⟩ ?_
      refine U2 ?_
      refine U7 ahh 4 rfl rfl rfl ?_
      refine Ui (fun aF ak aA=>∃(sn:Array Nat) (dn:List (Int×Bool)) (lf:List (Int×Bool)) (jm:List (Int×Bool)),aF=lf.length/\Env 53 [(3,.map (some eV)),(4,.int .i64 (pe.length:Int)),(12,cH),(13,.int .i64 ((l.map fun p=>some p.1).length:Int)),(14,.int .i64 (i:Int)),(6,.map (some nU)),(39,.pointer (some ⟨r1,0,none⟩))] ak/\SH aA M3 X [Rs.iV gp jN r1 sn,Rs.mp (Value.int .i64) Value.bool nU jm,Rs.rq (Value.int .i64) Value.bool (l.drop (i+1)),Rs.mp (Value.int .i64) zA eV pe,Rs.row (nz 180) cH (l.map fun p=>some p.1)]/\pI (Value.int .i64) Value.bool sP sn lf/\(dn++lf).Perm ep/\nL es dn jm) rfl ?_ ?_
      ·intro ak ai
       refine⟨_,⟨#[],[],ep,es,rfl,ai.sub ⟨rfl,rfl,rfl,rfl,rfl,rfl,rfl,trivial⟩,bJ.pick [0,2,3,4,5] [_,_,_,_,_] (by decide) ⟨rfl,rfl,rfl,rfl,rfl,trivial⟩,?dL,?ek,?lJ⟩⟩
       case dL=>exact cd.Dp
       case ek=>exact List.Perm.refl _
       case lJ=>exact nL.mb hrow.1
      ·rintro m4 a3 w9 ⟨sn,dn,lf,jm,rfl,cW,cB,hlf,eN,Dq⟩
       clear bJ
       refine aW cW (c:=RV) rfl ?_
       clear cW a3
       refine U1 axE RU rfl rfl rfl ?_
       refine U0 rfl ?_
       refine Uj (k:=0) (k':=1) rfl rfl rfl (AK (i:=0) rfl rfl rfl rfl cB rfl cd cB.m hlf (fun jX=>?_) (fun k1 v1 lR lQ jk oZ jX FX sD bY=>?_))
       ·refine Uj (k:=1) (k':=2) rfl rfl rfl (U8 rfl rfl (Ug rfl rfl rfl) ?_)
        refine U3 rfl ?_
        refine Uw [(3,_),(4,_),(12,_),(13,_),(14,_),(6,_),(39,_),(41,_)] ⟨rfl,rfl,rfl,rfl,rfl,rfl,rfl,rfl,trivial⟩ ?_
        refine U2 ?_
        refine U1 G9 RT rfl rfl rfl ?_
        refine jq axC rfl rfl rfl ?_
        refine Uk rfl rfl ?_
        refine Ul ?_
        refine Ut ?_
        obtain rfl:lf=[]:=jX
        rw[List.append_nil]at eN
        obtain⟨azP,hvx⟩:=qa.next hrow hEp hbp Vi hlp Dq eN
        have tv:eB (dB jm::o7 pe) (((l.take i).map fun p=>dB p.2)++[dB nW]):=by rw[hvx];exact(aj0 hmem).trans Dr
        intro ak ai
        refine⟨_,?je,⟨jm,low+1,_,(hle2.trans cG),rfl,ai.sub ⟨rfl,rfl,rfl,rfl,rfl,rfl,trivial⟩,cB.pick [1,2,3,4] [_,_,_,_] (by decide) ⟨rfl,rfl,rfl,rfl,trivial⟩,?ei,?fK⟩⟩
        case ei=>assumption
        case fK=>assumption
        case je=>(have h1:=hrow.2 _ hin;omega)
       ·clear cB
        change SH _ _ _ [Rs.iV gp jN r1 jk,_,_,_,_]at bY
        refine Uj (k:=1) (k':=2) rfl rfl rfl (U8 rfl rfl (Ug rfl rfl rfl) ?_)
        refine U3 rfl ?_
        refine Uw [(3,_),(4,_),(12,_),(13,_),(14,_),(6,_),(39,_),(41,_)] ⟨rfl,rfl,rfl,rfl,rfl,rfl,rfl,rfl,trivial⟩ ?_
        refine U2 ?_
        refine U1 G9 RT rfl rfl rfl ?_
        refine rM axD rfl rfl rfl ?_
        refine Ub rfl ?_
        refine Uw [(3,_),(4,_),(12,_),(13,_),(14,_),(6,_),(39,_)] ⟨rfl,rfl,rfl,rfl,rfl,rfl,rfl,trivial⟩ ?_
        refine U2 ?_
        refine U7 RS 5 rfl rfl rfl ?_
        refine U1 axB RR rfl rfl rfl ?_
        refine U0 rfl ?_
        refine Uj (k:=0) (k':=1) rfl rfl rfl (U8 rfl rfl (Ai (i:=0) rfl rfl bY rfl cd bY.m sD) ?_)
        refine Uj (k:=1) (k':=2) rfl rfl rfl (U8 rfl rfl (Ug rfl rfl rfl) ?_)
        refine Uj (k:=2) (k':=3) rfl rfl rfl (U8 rfl rfl (run_assign rfl rfl) ?_)
        refine U3 rfl ?_
        refine Uw [(3,_),(4,_),(12,_),(13,_),(14,_),(6,_),(39,_),(10,_)] ⟨rfl,rfl,rfl,rfl,rfl,rfl,rfl,rfl,trivial⟩ ?_
        refine U2 ?_
        refine U1 axA RQ rfl rfl rfl ?_
        have hkn:=alS hEp eN jX
        refine U0 rfl ?_
        refine Uj (k:=0) (k':=1) rfl rfl rfl (U8 rfl rfl (run_move rfl rfl) ?_)
        refine Uj (k:=1) (k':=2) rfl rfl rfl (U8 rfl rfl (run_move rfl rfl) ?_)
        refine Uj (k:=2) (k':=3) rfl rfl rfl (U8 rfl rfl (qD (kc:=Value.int .i64) (vc:=Value.bool) (es:=jm) (k:=k1) (zv:=false) (i:=1) rfl rfl rfl pQ mS Hi bY rfl) ?_)
        refine U3 rfl ?_
        refine Uw [(3,_),(4,_),(12,_),(13,_),(14,_),(6,_),(39,_),(10,_),(46,_)] ⟨rfl,rfl,rfl,rfl,rfl,rfl,rfl,rfl,rfl,trivial⟩ ?_
        refine U2 ?_
        refine dH axz axy rfl rfl rfl rfl (fun Ml=>?_) (fun Ml=>?_)
        ·refine U0 rfl ?_
         refine Uj (k:=0) (k':=1) rfl rfl rfl (U8 rfl rfl (run_move rfl rfl) ?_)
         refine Uj (k:=1) (k':=2) rfl rfl rfl (U8 rfl rfl (run_move rfl rfl) ?_)
         refine Uj (k:=2) (k':=3) rfl rfl rfl (aaG (kc:=Value.int .i64) (vc:=Value.bool) (es:=jm) (k:=k1) (i:=1) (H':=[_,_,_,_,_]) rfl rfl rfl rfl rfl bY rfl rfl rfl pQ mS rfl ?_)
         intro mO bX;clear bY
         refine U3 rfl ?_
         refine Ul ?_
         refine Ut ?_
         intro ak ai
         refine⟨_,?lS,⟨jk,dn++[(k1,v1)],lR++lQ,de k1 jm,rfl,ai.sub ⟨rfl,rfl,rfl,rfl,rfl,rfl,rfl,trivial⟩,bX.pick [0,1,2,3,4] [_,_,_,_,_] (by decide) ⟨rfl,rfl,rfl,rfl,rfl,trivial⟩,?fJ,?gu,?kq⟩⟩
         case fJ=>assumption
         case gu=>(refine List.Perm.trans ?_ eN;simp only[*,List.append_assoc,List.cons_append,List.nil_append];exact(List.perm_append_left_iff _).2 (List.perm_middle.symm))
         case kq=>first|exact Dq.del hkn.1 (by assumption)|exact Dq.set hkn.2 hkn.1 (fun h9=>by rw[Ml]at h9;cases h9)
         case lS=>(simp only[*,List.length_append,List.length_cons];omega)
        ·refine U0 rfl ?_
         refine Uj (k:=0) (k':=1) rfl rfl rfl (U8 rfl rfl (run_move rfl rfl) ?_)
         refine Uj (k:=1) (k':=2) rfl rfl rfl (U8 rfl rfl (run_move rfl rfl) ?_)
         refine Uj (k:=2) (k':=3) rfl rfl rfl (tT (kc:=Value.int .i64) (vc:=Value.bool) (es:=jm) (k:=k1) (e:=true) (i:=1) (H':=[_,_,_,_,_]) (.inl rfl) rfl bY rfl rfl rfl rfl pQ mS rfl ?_)
         intro ra bT;clear bY
         refine U3 rfl ?_
         refine Ul ?_
         refine Ut ?_
         intro ak ai
         refine⟨_,?nB,⟨jk,dn++[(k1,v1)],lR++lQ,mp k1 true jm,rfl,ai.sub ⟨rfl,rfl,rfl,rfl,rfl,rfl,rfl,trivial⟩,bT.pick [0,1,2,3,4] [_,_,_,_,_] (by decide) ⟨rfl,rfl,rfl,rfl,rfl,trivial⟩,?gq,?gj,?nr⟩⟩
         case gq=>assumption
         case gj=>(refine List.Perm.trans ?_ eN;simp only[*,List.append_assoc,List.cons_append,List.nil_append];exact(List.perm_append_left_iff _).2 (List.perm_middle.symm))
         case nr=>first|exact Dq.del hkn.1 (by assumption)|exact Dq.set hkn.2 hkn.1 (fun h9=>by rw[Ml]at h9;cases h9)
         case nB=>(simp only[*,List.length_append,List.length_cons];omega)
    ·replace nE:=of_decide_eq_false nE
     refine Uk rfl rfl ?_
     refine Ul ?_
     refine Uw [(3,_),(4,_),(12,_),(13,_),(14,_)] ⟨rfl,rfl,rfl,rfl,rfl,trivial⟩ ?_
     refine U2 ?_
     have aBq:pe.length<=i+1:=by omega
     have ar0:es.length=0:=by omega
     have arv:eB (o7 pe) ((l.take (i+1)).map fun p=>dB p.2):=by
      rw[kJ l i (by omega),List.map_append,hq0]
      rw[akj ar0]at Dr
      exact ajZ.symm.trans Dr
     refine U0 rfl ?_
     refine Uj (k:=0) (k':=1) rfl rfl rfl (U8 rfl rfl (Ud rfl rfl rfl (by first|omega|(simp only[ls];omega))) ?_)
     refine Uj (k:=1) (k':=2) rfl rfl rfl (U8 rfl rfl (run_move rfl rfl) ?_)
     refine U3 rfl ?_
     refine Ut ?_
     intro ak ai
     refine⟨_,?nA,⟨i+1,pe,_,(hle1.trans hle2),rfl,ai.sub ⟨rfl,rfl,rfl,rfl,rfl,trivial⟩,S5.pick [2,3,1] [_,_,_] (by decide) ⟨rfl,rfl,rfl,trivial⟩,?iy,?iw,?np,?K4⟩⟩
     case iy=>omega
     case iw=>omega
     case np=>assumption
     case K4=>assumption
     case nA=>omega
  ·replace iD:=of_decide_eq_false iD
   refine Uk rfl rfl ?_
   refine Uw [(4,_)] ⟨rfl,trivial⟩ ?_
   refine U2 ?_
   refine U1 axx axw rfl rfl rfl ?_
   refine U0 rfl ?_
   refine Uj (k:=0) (k':=1) rfl rfl rfl (U8 rfl rfl (run_move rfl rfl) ?_)
   refine Uj (k:=1) (k':=2) rfl rfl rfl (U8 rfl rfl (run_assign rfl rfl) ?_)
   refine U3 rfl ?_
   refine Uw [(2,_)] ⟨rfl,trivial⟩ ?_
   refine U2 ?_
   refine Us hC [_] rfl rfl ⟨rfl,trivial⟩ ?_
   refine⟨_,rfl,_,_,hle1,(S2.pick [] [] (by decide) trivial).bP,?_⟩
   have e9:i=l.length:=by omega
   rw[e9,List.take_length]at hsp
   exact⟨pe.length,rfl,⟨o7 pe,by unfold o7;rw[List.length_map],hpv.ind,hsp⟩,rfl⟩
end Go.Proofs.YthppkofceancjaaGreat
namespace Go.Proofs.YthppkofceancjaaGreat
open Go.ChangeShapes Go.WideShapes Go.ChangeAt Go.RowKit
def C9(l:List Int)(sn:List Nat):Prop:=∀n:Nat,l.contains (n:Int)=decide (n∈sn)
theorem C9.bN:C9 [] []:=fun n=>by simp
theorem C9.put{l:List Int}{sn:List Nat}(h:C9 l sn)(k:Nat):C9 (l++[(k:Int)]) (k::sn):=fun n=>by
 have h1:=h n
 by_cases e:n=k
 ·subst e;simp
 ·have e2:¬(n:Int)=(k:Int):=by omega
  rw[Bool.eq_iff_iff]at h1 ⊢
  simp only[List.contains_iff_mem,decide_eq_true_eq]at h1 ⊢
  rw[List.mem_append,List.mem_singleton,List.mem_cons,h1]
  exact⟨fun h=>h.elim .inr fun h=>absurd h e2,fun h=>h.elim (fun h=>absurd h e) .inl⟩
end Go.Proofs.YthppkofceancjaaGreat
namespace Go.Proofs.YthppkofceancjaaGreat
open Go.ChangeShapes Go.WideShapes Go.ChangeAt Go.RowKit
theorem Ji{l:List T2}{B:Nat}(hB:B<=400)(h:kX l)(hb:B2 B l):l.length<=801201:=by
 have h1:=JL (B:=1001*B) h fun t ht=>by
  obtain⟨u,hu,rfl⟩:=List.mem_map.1 ht
  exact adY (hb u hu)
 rw[List.length_map]at h1
 omega
theorem ac7{l:List T2}(h:kX l){i:Nat}(hi:i<l.length):wr (ga l i).c=(ga l i).c:=(h.2 (e2 (ga l i)) (List.mem_map.2 ⟨_,nX hi,rfl⟩)).2.1
theorem LC{l:List T2}{B:Nat}(h:B2 B l){i:Nat}(hi:i<l.length):-(B:Int)<=(ga l i).x/\(ga l i).x<=B/\-(B:Int)<=(ga l i).z/\(ga l i).z<=B:=h _ (nX hi)
end Go.Proofs.YthppkofceancjaaGreat
namespace Go.Proofs.YthppkofceancjaaGreat
open Go.ChangeShapes Go.WideShapes Go.ChangeAt Go.RowKit
open Go.Sort
set_option maxHeartbeats 1000000 in
theorem arh(b:Nat)(T:TypeId)(p q:Int)(W:World)(h:W.heap[b]? =some (.cells #[.int .i64 p,.int .i64 q] T (0,0))):Calls Tryz.prog 47 #[.slice (some ⟨b,0,none⟩) 2 2] W fun e w'=>e=.returned (.int .i64 (if p=0 then q else p))/\w'=W:=by
 have c0:W.cell? ⟨b,0,none⟩=some (.int .i64 p):=by simp[World.cell?,h]
 have c1:W.cell? ⟨b,1,none⟩=some (.int .i64 q):=by simp[World.cell?,h]
 clear h
 go_enter Tryz.func47,Tryz.ntmps47
 go_wp2_with fail
 refine wp_loop_rounds 3 ?_
 rw[rounds_succ]
 by_cases hp:p=0
 ·subst hp
  go_wp2_with fail
  rw[rounds_succ]
  by_cases hq:q=0
  ·subst hq
   go_wp2_with fail
   rw[rounds_succ]
   go_wp2_with fail
   go_ret
   exact⟨rfl,rfl⟩
  ·go_wp2_with fail
   go_ret
   exact⟨rfl,rfl⟩
 ·go_wp2_with fail
  go_ret
  exact⟨rfl,rfl⟩
theorem anZ(W:World)(o1 o2 o3:Obj):(((W.alloc o1).alloc o2).alloc o3).heap[W.heap.size+1+1]? =some o3:=by
 rw[alloc_eq_grow,alloc_eq_grow,alloc_eq_grow]
 unfold grow
 show(((W.heap++#[o1])++#[o2])++#[o3])[_]? =_
 rw[Array.getElem?_append_right (by simp)]
 simp
abbrev jG:={k:Pw // PB 400 k}
instance :Inhabited jG:=⟨⟨⟨0,0⟩,by unfold PB;simp⟩⟩
def tI(x y:jG):Int:=if x.1.x-y.1.x=0 then x.1.z-y.1.z else x.1.x-y.1.x
theorem wrP{a b:Int}(h:-400<=a/\a<=400)(k:-400<=b/\b<=400):IntKind.i64.wrap (a-b)=a-b:=by rw[IntKind.wrap_i64];omega
end Go.Proofs.YthppkofceancjaaGreat
namespace Go.Proofs.YthppkofceancjaaGreat
open Go.ChangeShapes Go.WideShapes Go.ChangeAt Go.RowKit Go.Sort Go.Shelf
theorem aib{w:World}{g:Nat}{cur:Array Value}{e:TypeId}{F:List Value}(hb:w.heap[g]? =some (.cells cur e (0,0)))(ht:cur.toList.take F.length=F):Holds id w g 0 F.toArray:=by
 intro j hj
 have hj':j<F.length:=by simpa using hj
 refine⟨?_,by simp[World.frozen?,hb]⟩
 have h1:(cur.toList.take F.length)[j]? =F[j]? :=by rw[ht]
 rw[List.getElem?_take_of_lt hj']at h1
 simp only[World.cell?,hb,Nat.zero_add]
 simp only[Option.isSome_none,Bool.false_eq_true,if_false]
 rw[<-Array.getElem?_toList,h1]
 simp[hj']
theorem ain{w:World}{g n:Nat}{os:Array Obj}{cur:Array Value}{e:TypeId}{fr:Nat×Nat}(d:Array Value)(hb:w.heap[g]? =some (.cells cur e fr)):
  (grow (putRow id (Sort.ahead w n) g 0 d) os).heap[g]? =some (.cells (putCells id 0 d cur) e fr):=by
 have hg:g<w.heap.size:=(Array.getElem?_eq_some_iff.1 hb).1
 rw[heap_grow_old _ _ (by simpa using hg)]
 simp[putRow,mapBlock,Sort.ahead,Array.getElem?_modify,hb,onCells]
theorem aic{w:World}{g n:Nat}{os:Array Obj}(d:Array Value):w.grownBy (grow (putRow id (Sort.ahead w n) g 0 d) os) (some g):=by
 refine⟨rfl,rfl,rfl,by simp,fun k hk hne=>?_⟩
 rw[heap_grow_old _ _ (by simpa using hk)]
 have:g≠k:=fun e=>hne (by rw[e])
 simp[putRow,mapBlock,Sort.ahead,Array.getElem?_modify,this]
theorem aih(cur:Array Value)(ts:List Value)(h:ts.length<=cur.size):(putCells id 0 ts.toArray cur).toList.take ts.length=ts:=by
 apply List.ext_getElem?
 intro j
 by_cases hj:j<ts.length
 ·rw[List.getElem?_take_of_lt hj,Array.getElem?_toList]
  simp[putCells,hj,show j<cur.size by omega]
 ·rw[List.getElem?_take_eq_none (by omega),List.getElem?_eq_none (by omega)]
theorem EG{α:Type}{enc:α->List Value}{k:Nat}(hk:∀x,(enc x).length=k):∀ys:List α,(ys.flatMap enc).length=ys.length*k
 |[]=>by simp
 |y::ys=>by rw[List.flatMap_cons,List.length_append,hk,EG hk ys,List.length_cons,Nat.succ_mul,Nat.add_comm]
theorem aa7{α:Type}[Inhabited α]{enc:α->List Value}{k:Nat}(hk:∀x,(enc x).length=k)(iJ:0<k):∀(ys:List α) (t:Nat),t<ys.length*k->(ys.flatMap enc)[t]! =(enc ys[t/k]!)[t%k]!
 |[],t,h=>by simp at h
 |y::ys,t,h=>by
  rw[List.flatMap_cons]
  by_cases h1:t<k
  ·rw[Nat.div_eq_of_lt h1,Nat.mod_eq_of_lt h1,List.getElem!_eq_getElem?_getD,List.getElem?_append_left (by rw[hk];exact h1),<-List.getElem!_eq_getElem?_getD]
   rfl
  ·obtain⟨s,rfl⟩:∃s,t=s+k:=⟨t-k,by omega⟩
   have ih:=aa7 hk iJ ys s (by rw[List.length_cons,Nat.succ_mul]at h;omega)
   rw[Nat.add_div_right _ iJ,Nat.add_mod_right,List.getElem!_eq_getElem?_getD,List.getElem?_append_right (by rw[hk];omega),hk,Nat.add_sub_cancel,<-List.getElem!_eq_getElem?_getD,ih]
   rfl
theorem aax{α:Type}[Inhabited α]{enc:α->List Value}{k:Nat}(hk:∀x,(enc x).length=k)(iJ:0<k)(ys:List α):flatK enc k ys.toArray=(ys.flatMap enc).toArray:=by
 refine ext_get! (by rw[size_flatK];simp[EG hk]) fun t ht=>?_
 rw[size_flatK]at ht
 rw[get_flatK _ _ _ _ ht]
 have h2:=aa7 hk iJ ys t (by simpa using ht)
 simp only[List.getElem!_toArray]
 exact h2.symm
section
variable {α β : Type} [Inhabited β]
theorem SH.ak1{w:World}{M:Hp}{X:Fr}{g cap n:Nat}{C:Cd α}{p:β->α}{xs ys:List β}{os:Array Obj}(iJ:0<C.k)(S:SH w M X [Rs.row C (.slice (some ⟨g,0,none⟩) xs.length cap) (xs.map p)])(hl:ys.length=xs.length):
  SH (sortWorldK (fun y=>C.f (p y)) C.k w g 0 n ys.toArray os) M X [Rs.row C (.slice (some ⟨g,0,none⟩) xs.length cap) (ys.map p)]:=by
 have hok:eW C (.slice (some ⟨g,0,none⟩) xs.length cap) (xs.map p) (hp w):=S.get (i:=0) rfl
 rcases hok with⟨h1,_⟩|⟨g',cap',cur,h1,h2,h3,h4,h5,h6⟩
 ·cases h1
 rw[List.length_map]at h1
 cases h1
 have ef:flatK (fun y=>C.f (p y)) C.k ys.toArray=(((ys.map p).flatMap C.f)).toArray:=by
  rw[aax (fun x=>C.hf _) iJ,List.flatMap_map]
 unfold sortWorldK putRowK
 rw[ef]
 have gb:=aic (w:=w) (g:=g) (n:=n) (os:=os) ((ys.map p).flatMap C.f).toArray
 have hlf:((ys.map p).flatMap C.f).length=xs.length*C.k:=by rw[EG C.hf,List.length_map,hl]
 have hcu:((ys.map p).flatMap C.f).length<=cur.size:=by
  rw[hlf,h5]
  exact Nat.mul_le_mul_right _ (by rw[List.length_map]at h3;exact h3)
 refine S.step (i:=0) (H':=[Rs.row C (.slice (some ⟨g,0,none⟩) xs.length cap) (ys.map p)]) rfl rfl ⟨gb.os,gb.tape,gb.output,gb.size⟩ (fun b hb hn=>?_) ?_ (fun b hb=>⟨.inl hb,?_⟩)
 ·exact gb.block b hb (fun e=>hn (by injection e with e;subst e;simp[Rs.row,Value.ownBlock]))
 ·refine .inr ⟨g,cap,_,by rw[List.length_map,hl],ain _ h2,by rw[List.length_map,hl];rw[List.length_map]at h3;exact h3,h4,by simp[putCells,h5],?_⟩
  rw[List.length_map,hl,<-hlf]
  exact aih cur _ hcu
 ·have hg:g<w.heap.size:=fU h2
  have e:b=g:=by simpa[Rs.row,Value.ownBlock]using hb
  subst e
  exact Nat.lt_of_lt_of_le hg gb.size
theorem SH.anW{w:World}{M:Hp}{X:Fr}{g cap:Nat}{C:Cd α}{p:β->α}{xs:List β}(iJ:0<C.k)(S:SH w M X [Rs.row C (.slice (some ⟨g,0,none⟩) xs.length cap) (xs.map p)]):HoldsK (fun y=>C.f (p y)) C.k w g 0 xs.toArray/\g<w.heap.size:=by
 have hok:eW C (.slice (some ⟨g,0,none⟩) xs.length cap) (xs.map p) (hp w):=S.get (i:=0) rfl
 rcases hok with⟨h1,_⟩|⟨g',cap',cur,h1,h2,h3,h4,h5,h6⟩
 ·cases h1
 rw[List.length_map]at h1
 cases h1
 refine⟨?_,fU h2⟩
 unfold HoldsK
 rw[aax (fun x=>C.hf _) iJ,show(xs.flatMap fun y=>C.f (p y))=(xs.map p).flatMap C.f by rw[List.flatMap_map]]
 refine aib h2 ?_
 rw[EG C.hf]
 exact h6
theorem aix{P:Program}{ρ:Ren}(L:SlLaysF0.n6 P ρ){C:Cd α}(iJ:0<C.k)(p:β->α)(aE:∀w,(isAgg (ρ.t 24)).run P w=.ok true w)(zE:∀w,(Go.sizeOf (ρ.t 24)).run P w=.ok C.k w){cf:β->β->Int}(hO:SWO (ltOf cf))(hT:∀x y,(ltOf cf) x y=false->(ltOf cf) y x=false->x=y){g:Nat}
  (eg:∀args w,(callFunc g args).run P w=.ok (.enter g args) w)(hcmp:∀(x y:β) (W:World),Calls P g #[.agg (C.f (p x)).toArray,.agg (C.f (p y)).toArray] W fun e w'=>e=.returned (.int .i64 (cf x y))/\∃q os',w'=grow (W.drewN q) os')
  {w:World}{M:Hp}{X:Fr}{v:Value}{xs:List β}(hsz:xs.length<4611686018427387904)(S:SH w M X [Rs.row C v (xs.map p)]):
  C1 P (ρ.f 6) [v,.func (.func g) #[] #[]] w M X fun u M' r'=>u=.tuple #[]/\M'=M/\r'=Rs.row C v ((xs.mergeSort fun x y=>!(ltOf cf) y x).map p):=by
 have hok:eW C v (xs.map p) (hp w):=S.get (i:=0) rfl
 rcases hok with⟨h1,h2⟩|⟨b,cap,cur,h1,_⟩
 ·subst h1
  have h3:xs=[]:=List.map_eq_nil_iff.1 h2
  subst h3
  refine(AnyF.slices_SortFunc_none L none 0 _ w).mono ?_
  rintro e w' ⟨rfl,rfl⟩
  exact⟨_,rfl,M,_,Hp.le_refl _,S,rfl,rfl,by simp⟩
 ·rw[List.length_map]at h1
  subst h1
  obtain⟨hH,hb⟩:=S.anW iJ
  have hc:=AnyQ.slices_SortFunc_total L C.k aE zE (fun y=>C.f (p y)) (fun x=>C.hf _) (fun x=>C.one _) cf hO g #[] b 0 cap xs.toArray w eg (fun m os dk _ x y=>hcmp x y _) hH hb (by simpa using hsz) hT
  rw[List.size_toArray]at hc
  refine hc.mono ?_
  rintro e w' ⟨rfl,n,os,rfl⟩
  exact⟨_,rfl,M,_,Hp.le_refl _,S.ak1 iJ (List.length_mergeSort _),rfl,rfl,rfl⟩
end
end Go.Proofs.YthppkofceancjaaGreat
namespace Go.Proofs.YthppkofceancjaaGreat
open Go.ChangeShapes Go.WideShapes Go.ChangeAt Go.RowKit Go.Sort Go.Shelf
theorem u6(x y:jG):ltOf tI x y=decide (enc x.1<enc y.1):=by
 have h:=adX (B:=400) (Nat.le_refl _) x.2 y.2
 unfold ltOf tI
 rw[Bool.eq_iff_iff,decide_eq_true_iff,decide_eq_true_iff,h]
 split<;>omega
theorem aq5:SWO (ltOf tI) where
 irrefl x:=by rw[u6];simp
 trans x y z h1 h2:=by rw[u6]at*;simp at*;omega
 ntrans x y z h1 h2:=by rw[u6]at*;simp at*;omega
theorem aq1(x y:jG)(h1:ltOf tI x y=false)(h2:ltOf tI y x=false):x=y:=by
 rw[u6]at h1 h2
 simp at h1 h2
 exact Subtype.ext (wh (Nat.le_refl _) x.2 y.2 (by omega))
def oJ(ks:List jG):List jG:=ks.mergeSort fun x y=>!(ltOf tI) y x
theorem IK(ks:List jG):(oJ ks).Perm ks:=List.mergeSort_perm _ _
def qY(k:jG):Int:=enc k.1
theorem aaz{ks:List jG}(h:ks.Nodup):(ks.map qY).Nodup:=by
 induction ks with
 |nil=>exact List.nodup_nil
 |cons k ks ih=>
  obtain⟨h1,h2⟩:=List.nodup_cons.1 h
  rw[List.map_cons,List.nodup_cons]
  refine⟨fun hm=>?_,ih h2⟩
  obtain⟨y,hy,e⟩:=List.mem_map.1 hm
  have:=wh (Nat.le_refl _) y.2 k.2 e
  exact h1 ((Subtype.ext this:y=k)▸hy)
theorem ajH{ks:List jG}(hn:ks.Nodup):(oJ ks).map qY=cC (ks.map qY):=by
 have hp:=IK ks
 have h1:(oJ ks).Pairwise (fun a b=>(!(ltOf tI) b a)=true):=List.pairwise_mergeSort (fun a b c h1 h2=>by rw[u6]at*;simp at*;omega) (fun a b=>by rw[u6,u6];simp;omega) ks
 have h2:((oJ ks).map qY).Nodup:=aaz (hp.nodup_iff.2 hn)
 have h3:((oJ ks).map qY).Pairwise (fun a b=>a<b):=by
  have h4:((oJ ks).map qY).Pairwise (fun a b=>a<=b):=by
   rw[List.pairwise_map]
   exact h1.imp fun{a b} h=>by rw[u6]at h;unfold qY;simp at h;exact h
  exact(h4.and h2).imp fun{a b} h=>by have:=h.1;have:=h.2;omega
 refine JD h3 (AQ (aaz hn)) fun t=>?_
 rw[n9]
 exact(hp.map qY).mem_iff
def xV(es:List (Pw×Int))(ks:List Pw):List T2:=ks.flatMap fun k=>if(mg k es).getD 0=0 then[]else[⟨k.x,k.z,(mg k es).getD 0⟩]
theorem abU(es:List (Pw×Int))(ks:List Pw)(k:Pw):xV es (k::ks)=(if(mg k es).getD 0=0 then[]else[⟨k.x,k.z,(mg k es).getD 0⟩])++xV es ks:=by
 unfold xV;rw[List.flatMap_cons]
theorem aoc{es:List (Pw×Int)}{B:Nat}{ks:List Pw}(h:∀k∈ks,PB B k):B2 B (xV es ks):=fun t ht=>by
 obtain⟨k,hk,hm⟩:=List.mem_flatMap.1 ht
 split at hm
 ·cases hm
 ·rw[List.mem_singleton]at hm
  rw[hm];exact h k hk
theorem acQ{es:List (Pw×Int)}{B:Nat}(hB:B<=400)(he:∀q∈es,PB B q.1):∀{ks:List Pw},(∀k∈ks,PB B k)->(xV es ks).map e2=fm (eE es) (ks.map enc)
 |[],_=>rfl
 |k::ks,h=>by
  have ih:=acQ hB he (ks:=ks) fun k hk=>h k (List.mem_cons_of_mem _ hk)
  have e:fm (eE es) ((k::ks).map enc)=(if(mg (enc k) (eE es)).getD 0=0 then[]else[⟨enc k,(mg (enc k) (eE es)).getD 0⟩])++fm (eE es) (ks.map enc):=by unfold fm;rw[List.map_cons,List.flatMap_cons]
  rw[abU,List.map_append,ih,e,J7 hB (h k (List.mem_cons_self ..)) he]
  refine congrArg (fun z=>z++_) ?_
  split<;>rfl
theorem akp(es:List (Pw×Int)):(eE es).map Prod.fst=(es.map Prod.fst).map enc:=by
 unfold eE
 rw[List.map_map,List.map_map]
 rfl
theorem am5{es:List (Pw×Int)}{ks:List jG}{l:List T2}{B:Nat}(hB:B<=400)(h:gI es B)(hp:(ks.map Subtype.val).Perm (es.map Prod.fst))(hc:kX l)(hb:B2 B l)(he:cE es=cT l):xV es ((oJ ks).map Subtype.val)=l:=by
 have hn:ks.Nodup:=by
  have:=hp.nodup_iff.2 h.1
  exact List.Pairwise.of_map Subtype.val (fun a b hab e=>hab (by rw[e])) this
 have hkb:∀k∈(oJ ks).map Subtype.val,PB 400 k:=fun k hk=>by
  obtain⟨y,_,rfl⟩:=List.mem_map.1 hk
  exact y.2
 refine ad0 (B:=400) (Nat.le_refl _) (aoc hkb) (hb.mono hB) ?_
 rw[acQ (Nat.le_refl _) (fun q hq=>((h.2 q hq).1).mono hB) hkb,List.map_map]
 have e1:(enc∘Subtype.val:jG->Int)=qY:=rfl
 rw[e1,ajH hn]
 have hE:=h.uQ hB
 have e2':cC (ks.map qY)=cC ((eE es).map Prod.fst):=by
  refine adq ?_ hE.1
  rw[akp]
  have:=hp.map enc
  rw[List.map_map]at this
  exact this
 rw[e2']
 exact ac6 (aa6 hE (by omega)) hc ((abN hE).trans he)
theorem E3:∀{es:List (Pw×Int)},(es.map Prod.fst).Nodup->∀q∈es,mg q.1 es=some q.2
 |[],_,q,h=>by cases h
 |p::es,hn,q,h=>by
  rw[List.map_cons,List.nodup_cons]at hn
  show(if q.1=p.1 then some p.2 else mg q.1 es)=_
  rcases List.mem_cons.1 h with rfl|h
  ·rw[if_pos rfl]
  ·rw[if_neg (fun e:q.1=p.1=>hn.1 (by rw[<-e];exact List.mem_map.2 ⟨q,h,rfl⟩))]
   exact E3 hn.2 q h
theorem acG:∀{ks:List Pw},(∀k∈ks,PB 400 k)->∃ls:List jG,ls.map Subtype.val=ks
 |[],_=>⟨[],rfl⟩
 |k::ks,h=>by
  obtain⟨ls,e⟩:=acG (ks:=ks) fun k hk=>h k (List.mem_cons_of_mem _ hk)
  exact⟨⟨k,h k (List.mem_cons_self ..)⟩::ls,by rw[List.map_cons,e]⟩
end Go.Proofs.YthppkofceancjaaGreat
namespace Go.Proofs.YthppkofceancjaaGreat
open Go.ChangeShapes Go.WideShapes Go.ChangeAt Go.RowKit
def jx(d:Dg)(m:Nat):Int:=if ia d=0 then(if m<d.ae.length then 2 else 0)else ia d
theorem gI.arj{es:List (Pw×Int)}(h:gI es 400):(es.map Prod.fst).length<=2199023255553:=by
 have h8:=abY (h.uQ (Nat.le_refl _))
 unfold eE at h8
 rw[List.length_map]at h8 ⊢
 exact Nat.le_trans h8 (by decide)
theorem ajG{ks:List jG}{l:List Pw}{N:Nat}(h:(ks.map Subtype.val).Perm l)(hl:l.length<=N):((oJ ks).map Subtype.val).length<=N:=by
 have h1:=h.length_eq
 have h2:=(IK ks).length_eq
 rw[List.length_map]at h1 ⊢
 omega
noncomputable def RP:=Tryz.f18.body.getD .skip
def axv:=cL RP
def RO:=cR RP
def axu:=cL RO
def RN:=cR RO
def RM:=cL RN
def RL:=cR RN
def axt:=cL RM
def RJ:=cR RM
def axs:=cL RJ
def ahg:=cR RJ
def RI:=cL RL
def RH:=cR RL
set_option maxRecDepth 10000 in
theorem aeM{w:World}{M:Hp}{X:Fr}(d:Dg){aV:Option Addr}{aU:Nat}(m:Nat)(ay:aB bw (M.un X.h) aV aU d.ae)(S:SH w M X []):Ct Tryz.prog 18 [.agg [.slice aV d.ae.length aU,.int .i64 d.loops].toArray,.int .i64 (m:Int)] w M X (fun u _=>u=.int .i64 (jx d m)):=by
 unfold Ct
 have jH:d.ae.length*40<=140737488355328:=ay.room
 refine Up (b:=RP) Tryz.func18 rfl Tryz.ntmps18 rfl (fun C hC=>(bu [(0,_),(1,_)] ⟨rfl,rfl,trivial⟩ (U1 axv RO rfl rfl rfl (U0 rfl (ar 0 1 rfl rfl rfl (cU (l:=[_,_]) rfl rfl rfl rfl rfl S ?_))))))
 intro aI w1 S1;clear S
 refine af 1 1 rfl rfl (U3 rfl (ah [1,2] rfl (U2 (U1 axu RN rfl rfl rfl (U0 rfl (ag 0 rfl (Uc (us:=[_,_]) rfl rfl bg rfl dM (S1.aY (i:=0) rfl ⟨rfl,rfl,trivial⟩)) (ar 1 2 rfl rfl rfl (dt rfl rfl rfl rfl rfl rfl rfl asN S1 (aiy d (ay.mono S1.Uq) S1.aR) ?_))))))))
 intro mP w2 M1 hle1 S2 jg;clear S1
 replace ay:=ay.mono (Hp.U6 hle1 S2.mx)
 obtain rfl:=jg
 refine af 2 1 rfl rfl (U3 rfl (ah [1,2,5] rfl (U2 (U1 RM RL rfl rfl rfl (U1 axt RJ rfl rfl rfl (U0 rfl (af 0 1 rfl rfl (ag 1 rfl (Uz rfl rfl rfl) ?_))))))))
 refine af 2 1 rfl rfl ?_
 refine Uy (t:=10) rfl (fun arX=>?_) (fun arX=>?_)
 ·refine aP 3 4 rfl rfl rfl rfl rfl rfl rfl rfl (U8 rfl rfl (U4 rfl rfl bg rfl (dV) (dS)) (aP 4 5 rfl rfl rfl rfl rfl rfl rfl rfl (U8 rfl rfl (U5 rfl rfl bF rfl (S2.aG (i:=0) rfl rfl)) (aP 5 6 rfl rfl rfl rfl rfl rfl rfl rfl (U8 rfl rfl (Uv rfl rfl rfl rfl rfl rfl bF) (af 6 1 rfl rfl (aP 7 8 rfl rfl rfl rfl rfl rfl rfl rfl (U8 rfl rfl (rT rfl rfl rfl) (af 8 1 rfl rfl (U3 rfl (ah [5,16] rfl (U2 ?_))))))))))))
  refine Ua axs ahg rfl rfl rfl rfl (fun CG=>?_) (fun CG=>?_)
  ·refine U0 rfl (af 0 1 rfl rfl (U3 rfl (ah [5] rfl (U2 (U1 RI RH rfl rfl rfl (U0 rfl (af 0 2 rfl rfl (U3 rfl ?_))))))))
   refine ah [4] rfl (U2 (Us hC [_] rfl rfl ⟨rfl,trivial⟩ ?_))
   refine⟨_,rfl,_,hle1,(S2.pick [] [] (by decide) trivial),?_⟩
   show Value.int _ _=_
   refine congrArg (Value.int .i64) ?_
   unfold jx
   first|(rw[if_pos (by first|omega|simp_all),if_pos (by omega)])|(rw[if_pos (by first|omega|simp_all),if_neg (by omega)];first|rfl|omega)|(rw[if_neg (by first|omega|simp_all)])
  ·refine Ub rfl (ah [5] rfl (U2 (U1 RI RH rfl rfl rfl (U0 rfl (af 0 2 rfl rfl (U3 rfl (ah [4] rfl (U2 ?_))))))))
   refine Us hC [_] rfl rfl ⟨rfl,trivial⟩ ?_
   refine⟨_,rfl,_,hle1,(S2.pick [] [] (by decide) trivial),?_⟩
   show Value.int _ _=_
   refine congrArg (Value.int .i64) ?_
   unfold jx
   first|(rw[if_pos (by first|omega|simp_all),if_pos (by omega)])|(rw[if_pos (by first|omega|simp_all),if_neg (by omega)];first|rfl|omega)|(rw[if_neg (by first|omega|simp_all)])
 ·refine af 3 6 rfl rfl (U3 rfl (ah [5,16] rfl (U2 (jq ahg rfl rfl rfl (Ub rfl (ah [5] rfl (U2 (U1 RI RH rfl rfl rfl ?_))))))))
  refine U0 rfl (af 0 2 rfl rfl (U3 rfl (ah [4] rfl (U2 (Us hC [_] rfl rfl ⟨rfl,trivial⟩ ?_)))))
  refine⟨_,rfl,_,hle1,(S2.pick [] [] (by decide) trivial),?_⟩
  show Value.int _ _=_
  refine congrArg (Value.int .i64) ?_
  unfold jx
  first|(rw[if_pos (by first|omega|simp_all),if_pos (by omega)])|(rw[if_pos (by first|omega|simp_all),if_neg (by omega)];first|rfl|omega)|(rw[if_neg (by first|omega|simp_all)])
end Go.Proofs.YthppkofceancjaaGreat
namespace Go.Proofs.YthppkofceancjaaGreat
open Go.ChangeShapes Go.WideShapes Go.ChangeAt Go.RowKit
noncomputable def RG:=Tryz.f19.body.getD .skip
def axr:=cL RG
def RF:=cR RG
def RD:=cL RF
def RB:=cR RF
def axq:=cL RD
def RA:=cR RD
def axp:=cL RA
def axo:=cR RA
def Rz:=cL RB
def Ry:=cR RB
def axn:=cL Rz
def ahf:=cR Rz
def ahe:=cL ahf
def Rx:=cL ahe
def Rw:=cL Rx
def Ru:=cR Rx
def axm:=cL Rw
def Rt:=cR Rw
def axl:=cL Rt
def axk:=cR Rt
def ahd:=cL Ru
def axj:=cR Ru
def Rq:=cL ahd
def axi:=cL Rq
def Rp:=cR Rq
def axh:=cL Rp
def axg:=cR Rp
def axf:=cL Ry
def axe:=cR Ry
set_option maxRecDepth 10000 in
theorem aiE{w:World}{M:Hp}{X:Fr}(p:List T2){pA:Option Addr}{pc:Nat}(q:List T2){qA:Option Addr}{qc:Nat}(hp:aB bH (M.un X.h) pA pc p)(hq:aB bH (M.un X.h) qA qc q)(he:p=q)(S:SH w M X []):Cq Tryz.prog 19 [.slice pA p.length pc,.slice qA q.length qc] w M X (fun u=>u=.bool true):=by
 unfold Cq
 have afc:p.length*24<=140737488355328:=hp.room
 have arb:q.length*24<=140737488355328:=hq.room
 have hle:p.length=q.length:=by rw[he]
 refine Up (b:=RG) Tryz.func19 rfl Tryz.ntmps19 rfl (fun C hC=>(bu [(0,_),(1,_)] ⟨rfl,rfl,trivial⟩ (U1 axr RF rfl rfl rfl (U0 rfl (af 0 1 rfl rfl (U3 rfl (ah [0,1] rfl (U2 (U1 RD RB rfl rfl rfl ?_)))))))))
 refine U1 axq RA rfl rfl rfl (U0 rfl (af 0 1 rfl rfl (ag 1 rfl (Uv rfl rfl rfl rfl rfl rfl pY) (af 2 1 rfl rfl (ag 3 rfl (Uv rfl rfl rfl rfl rfl rfl pY) (ag 4 rfl (gG rfl rfl rfl) (U3 rfl (ah [0,1,10] rfl ?_))))))))
 refine U2 ?_
 refine Ua axp axo rfl rfl rfl rfl (fun qW=>?_) (fun qW=>?_)
 ·exfalso;omega
 ·refine Ub rfl (ah [0,1] rfl (U2 (U1 Rz Ry rfl rfl rfl (U1 axn ahf rfl rfl rfl (U0 rfl (af 0 1 rfl rfl (U3 rfl (U2 ?_))))))))
  refine U7 ahe 0 rfl rfl rfl ?_
  refine Ui (fun aF ak aA=>∃(k:Nat),aF=p.length-k/\Env 26 [(0,.slice pA p.length pc),(1,.slice qA q.length qc),(5,.int .i64 (k:Int))] ak/\SH aA M X []/\k<=p.length) rfl ?_ ?_
  ·intro ak ai
   refine⟨_,⟨0,rfl,ai.sub ⟨rfl,rfl,rfl,trivial⟩,S.pick [] [] (by decide) trivial,?bn⟩⟩
   case bn=>omega
  ·rintro m1 a1 w1 ⟨k,rfl,aQ,S1,hk⟩
   clear S
   refine aW aQ (c:=Rx) rfl ?_
   clear aQ a1
   refine U1 Rw Ru rfl rfl rfl (U1 axm Rt rfl rfl rfl (U0 rfl (af 0 2 rfl rfl (ag 2 rfl (Uv rfl rfl rfl rfl rfl rfl pY) (ag 3 rfl (Un rfl rfl rfl) (U3 rfl (ah [0,1,5,14] rfl (U2 ?_))))))))
   refine Ua axl axk rfl rfl rfl rfl (fun iT=>?_) (fun iT=>?_)
   ·refine Ub rfl (ah [0,1,5] rfl (U2 (U1 ahd axj rfl rfl rfl (U7 Rq 1 rfl rfl rfl (U1 axi Rp rfl rfl rfl (cM rfl (by kernel_rfl) S1 9 rfl ?_))))))
    clear S1
    refine aq 0 8 rfl (by kernel_rfl) (fun _=>run_move rfl rfl) ?_
    refine aq 1 7 rfl (by kernel_rfl) (fun _=>run_move rfl rfl) ?_
    refine au 2 6 rfl (by kernel_rfl) (fun _ _ _ aj Sz=>.inl (U9 (C:=bH) k rfl rfl rfl eP (by first|rfl|omega) (hp.mono (Hp.U6 aj Sz.mx)) (by first|omega|(simp only[ls];omega)))) ?_
    refine au 3 5 rfl (by kernel_rfl) (fun _ _ _ aj Sz=>.inl (Uc (us:=[_,_,_]) rfl rfl gH rfl za ((hp.mono (Hp.U6 aj Sz.mx)).fV Sz.um (e:=k) (by first|omega|(simp only[ls];omega)) (j:=0) ⟨rfl,rfl,rfl,trivial⟩))) ?_
    refine aq 4 4 rfl (by kernel_rfl) (fun _=>run_move rfl rfl) ?_
    refine aq 5 3 rfl (by kernel_rfl) (fun _=>run_move rfl rfl) ?_
    refine au 6 2 rfl (by kernel_rfl) (fun _ _ _ aj Sz=>.inl (U9 (C:=bH) k rfl rfl rfl eP (by first|rfl|omega) (hq.mono (Hp.U6 aj Sz.mx)) (by first|omega|(simp only[ls];omega)))) ?_
    refine au 7 1 rfl (by kernel_rfl) (fun _ _ _ aj Sz=>.inl (Uc (us:=[_,_,_]) rfl rfl gH rfl za ((hq.mono (Hp.U6 aj Sz.mx)).fV Sz.um (e:=k) (by first|omega|(simp only[ls];omega)) (j:=0) ⟨rfl,rfl,rfl,trivial⟩))) ?_
    refine aq 8 0 rfl (by kernel_rfl) (fun _=>abD (Q:=((ga p k).x)=((ga q k).x)/\((ga p k).z)=((ga q k).z)/\((ga p k).c)=((ga q k).c)) rfl rfl rfl aq9 ⟨_,_,_,_,rfl,rfl,⟨_,_,_,_,rfl,rfl,⟨_,_,_,rfl,rfl,rfl⟩,rfl⟩,rfl⟩) ?_
    refine cF (by kernel_rfl) (fun mO bJ=>?_)
    refine ah [0,1,5,25] rfl (U2 ?_)
    refine Ua axh axg rfl rfl rfl rfl (fun ky=>?_) (fun ky=>?_)
    ·exfalso;exact ky (by rw[he];exact⟨rfl,rfl,rfl⟩)
    ·refine Ub rfl (Ul (ah [0,1,5] rfl (U2 (U0 rfl (af 0 1 rfl rfl (ag 1 rfl (Ud rfl rfl rfl (by first|omega|(simp only[ls];omega))) ?_))))))
     refine af 2 1 rfl rfl (U3 rfl (Ut ?_))
     intro ak ai
     refine⟨_,?bG,⟨k+1,rfl,ai.sub ⟨rfl,rfl,rfl,trivial⟩,bJ.pick [] [] (by decide) trivial,?bk⟩⟩
     case bk=>omega
     case bG=>omega
   ·refine Uk rfl rfl (Uw [] trivial (U2 (U1 axf axe rfl rfl rfl (U0 rfl (af 0 1 rfl rfl (U3 rfl (U2 (Us hC [_] rfl rfl ⟨rfl,trivial⟩ ?_))))))))
    exact⟨_,rfl,(S1.pick [] [] (by decide) trivial),rfl⟩
end Go.Proofs.YthppkofceancjaaGreat
namespace Go.Proofs.YthppkofceancjaaGreat
open Go.ChangeShapes Go.WideShapes Go.ChangeAt Go.RowKit
noncomputable def Ro:=Tryz.f27.body.getD .skip
def axd:=cL Ro
def Rn:=cR Ro
def axc:=cL Rn
def Rm:=cR Rn
def axb:=cL Rm
def Rl:=cR Rm
def Rk:=cL Rl
def Rj:=cR Rl
def axa:=cL Rk
def ahc:=cR Rk
def ahb:=cL ahc
def Ri:=cL ahb
def Rh:=cL Ri
def Rg:=cR Ri
def aw9:=cL Rh
def Rf:=cR Rh
def aw8:=cL Rf
def aw7:=cR Rf
def aha:=cL Rg
def aw6:=cR Rg
def Re:=cL aha
def aw5:=cL Re
def Rb:=cR Re
def Ra:=cL Rb
def aw4:=cR Rb
def aw3:=cL Ra
def Q9:=cR Ra
def aw2:=cL Q9
def aw1:=cR Q9
def aw0:=cL Rj
def awZ:=cR Rj
set_option maxHeartbeats 1000000 in
set_option maxRecDepth 10000 in
theorem ajw{w:World}{M:Hp}{X:Fr}(d:Dg){aV:Option Addr}{aU:Nat}(ay:aB bw (M.un X.h) aV aU d.ae){L:Nat}(hn:d.ae.length<=6)(hab:Uu d=true)(hL:d.loops=(L:Int))(hL2:L<=2)(S:SH w M X []):Ct Tryz.prog 27 [.agg [.slice aV d.ae.length aU,.int .i64 d.loops].toArray] w M X (PT 400 (oN (ct d L))):=by
 unfold Ct
 have jH:d.ae.length*40<=140737488355328:=ay.room
 obtain⟨hlB,tD,_⟩:=Ea (d:=d) hn hL2
 have hll:=Ji (B:=400) (Nat.le_refl _) tD hlB
 refine Up (b:=Ro) Tryz.func27 rfl Tryz.ntmps27 rfl (fun C hC=>(bu [(0,_)] ⟨rfl,trivial⟩ (U1 axd Rn rfl rfl rfl (U0 rfl (ar 0 1 rfl rfl rfl (cU (l:=[_,_]) rfl rfl rfl rfl rfl S ?_))))))
 intro aI w1 S1;clear S
 refine af 1 1 rfl rfl (U3 rfl (ah [1] rfl (U2 (U1 axc Rm rfl rfl rfl (U0 rfl (ag 0 rfl (Uc (us:=[_,_]) rfl rfl bg rfl dM (S1.aY (i:=0) rfl ⟨rfl,rfl,trivial⟩)) (ar 1 2 rfl rfl rfl (dt rfl rfl rfl rfl rfl rfl rfl afT S1 (abp d (ay.mono S1.Uq) hn hab hL hL2 S1.aR) ?_))))))))
 intro mP w2 M1 hle1 S2 jg;clear S1
 replace ay:=ay.mono (Hp.U6 hle1 S2.mx)
 obtain⟨A1,c1,rfl,hr1⟩:=jg
 refine af 2 1 rfl rfl (U3 rfl (ah [3] rfl (U2 (U1 axb Rl rfl rfl rfl (U0 rfl (af 0 1 rfl rfl (U3 rfl (U2 ?_))))))))
 refine U1 Rk Rj rfl rfl rfl (U1 axa ahc rfl rfl rfl (U0 rfl (af 0 1 rfl rfl (U3 rfl (U2 (U7 ahb 0 rfl rfl rfl ?_))))))
 refine Ui (fun aF ak aA=>∃(i:Nat) (acc:List Tm) (Ao:Option Addr) (co:Nat) (M2:Hp),M1.le M2/\aF=(ct d L).length-i/\Env 38 [(3,.slice A1 (ct d L).length c1),(4,.slice Ao acc.length co),(5,.int .i64 (i:Int))] ak/\SH aA M2 X []/\aB eT M2 Ao co acc/\i<=(ct d L).length/\Can acc/\Bd acc 400/\mk (pr acc)=oN ((ct d L).take i)) rfl ?_ ?_
 ·intro ak ai
  refine⟨_,⟨0,[],none,0,_,Hp.le_refl _,rfl,ai.sub ⟨rfl,rfl,rfl,trivial⟩,S2.pick [] [] (by decide) trivial,?bn,?bE,?ez,?sB,?wP⟩⟩
  case bn=>exact aB.bN
  case bE=>omega
  case ez=>exact Can.bN
  case sB=>(intro t ht;simp at ht)
  case wP=>rfl
 ·rintro m1 a1 w3 ⟨i,acc,Ao,co,M2,hle2,rfl,aQ,S3,hacc,hi,hcc,hbc,tC⟩
  clear S2
  refine aW aQ (c:=Ri) rfl ?_
  clear aQ a1
  replace ay:=ay.mono (Hp.U6 hle2 S3.mx)
  replace hr1:=hr1.mono hle2
  refine U1 Rh Rg rfl rfl rfl (U1 aw9 Rf rfl rfl rfl (U0 rfl (af 0 2 rfl rfl (ag 2 rfl (Uv rfl rfl rfl rfl rfl rfl pY) (ag 3 rfl (Un rfl rfl rfl) (U3 rfl (ah [3,4,5,12] rfl (U2 ?_))))))))
  refine Ua aw8 aw7 rfl rfl rfl rfl (fun nG=>?_) (fun nG=>?_)
  ·refine Ub rfl (ah [3,4,5] rfl (U2 (U1 aha aw6 rfl rfl rfl (U7 Re 1 rfl rfl rfl (U1 aw5 Rb rfl rfl rfl (U0 rfl (af 0 2 rfl rfl (ag 2 rfl (U9 (C:=bH) i rfl rfl rfl eP (by first|rfl|omega) hr1 (by first|omega|(simp only[ls];omega))) ?_))))))))
   refine ag 3 rfl (U4 rfl rfl gH rfl (aL) (aJ)) (ag 4 rfl (U5 rfl rfl aw rfl (hr1.cell S3.m (i:=i) (by first|omega|(simp only[ls];omega)) 2 rfl rfl)) ?_)
   refine af 5 1 rfl rfl (U3 rfl (ah [3,4,5,6] rfl (U2 (U1 Ra aw4 rfl rfl rfl (U1 aw3 Q9 rfl rfl rfl (U0 rfl (af 0 2 rfl rfl (ag 2 rfl (U9 (C:=bH) i rfl rfl rfl eP (by first|rfl|omega) hr1 (by first|omega|(simp only[ls];omega))) ?_))))))))
   refine ag 3 rfl (U4 rfl rfl gH rfl (aL) (aJ)) (ag 4 rfl (U5 rfl rfl aw rfl (hr1.cell S3.m (i:=i) (by first|omega|(simp only[ls];omega)) 0 rfl rfl)) ?_)
   refine ag 5 rfl (ajS rfl rfl rfl (by decide)) ?_
   refine ag 6 rfl (gG rfl rfl rfl) (U3 rfl (ah [3,4,5,6,26] rfl (U2 ?_)))
   refine Ua aw2 aw1 rfl rfl rfl rfl (fun xq=>?_) (fun xq=>?_)
   ·have hce:wr (-(ga (ct d L) i).c)=lq (ga (ct d L) i):=by unfold lq;rw[if_pos (fun e=>xq ((tm2 _).2 e))]
    refine U0 rfl (af 0 1 rfl rfl (ag 1 rfl (ajT rfl rfl) (af 2 1 rfl rfl (U3 rfl (ah [3,4,5,6] rfl (U2 (U0 rfl (af 0 3 rfl rfl ?_))))))))
    refine ag 3 rfl (U9 (C:=bH) i rfl rfl rfl eP (by first|rfl|omega) hr1 (by first|omega|(simp only[ls];omega))) ?_
    refine ag 4 rfl (U4 rfl rfl gH rfl (aL) (aJ)) (ag 5 rfl (U5 rfl rfl aw rfl (hr1.cell S3.m (i:=i) (by first|omega|(simp only[ls];omega)) 1 rfl rfl)) ?_)
    refine af 6 1 rfl rfl (ar 7 8 rfl rfl rfl (dt rfl rfl rfl rfl rfl rfl rfl afS S3 (ae1 acc ((ga (ct d L) i).z) (wr (-((ga (ct d L) i).c))) hacc ((by have:=JL hcc hbc;omega)) S3.aR) ?_))
    intro UL w4 M3 cG S4 xw;clear S3
    replace ay:=ay.mono (Hp.U6 cG S4.mx)
    replace hr1:=hr1.mono cG
    replace hacc:=hacc.mono cG
    obtain⟨A2,c2,rfl,hr2⟩:=xw
    refine af 8 1 rfl rfl (U3 rfl (Ul (ah [3,4,5] rfl (U2 (U0 rfl (af 0 1 rfl rfl (ag 1 rfl (Ud rfl rfl rfl (by first|omega|(simp only[ls];omega))) ?_)))))))
    refine af 2 1 rfl rfl (U3 rfl (Ut ?_))
    have hbi:=LC hlB (i:=i) (by omega)
    have Vc:=ac7 tD (i:=i) (by omega)
    intro ak ai
    refine⟨_,?bG,⟨i+1,(put acc ((ga (ct d L) i).z) (wr (-((ga (ct d L) i).c)))),A2,c2,_,(hle2.trans cG),rfl,ai.sub ⟨rfl,rfl,rfl,trivial⟩,S4.pick [] [] (by decide) trivial,?bk,?bD,?fL,?BV,?BU⟩⟩
    case bk=>exact hr2
    case bD=>omega
    case fL=>exact Jv hcc (pP (by omega)) (by rw[hce];exact adW Vc)
    case BV=>exact adw hbc (by omega)
    case BU=>(rw[J6];exact aa9 tC (by omega) hce)
    case bG=>omega
   ·have hce:(ga (ct d L) i).c=lq (ga (ct d L) i):=by unfold lq;rw[if_neg (fun h=>h ((tm2 _).1 (Classical.not_not.1 xq)))]
    refine Ub rfl (ah [3,4,5,6] rfl (U2 (U0 rfl (af 0 3 rfl rfl (ag 3 rfl (U9 (C:=bH) i rfl rfl rfl eP (by first|rfl|omega) hr1 (by first|omega|(simp only[ls];omega))) ?_)))))
    refine ag 4 rfl (U4 rfl rfl gH rfl (aL) (aJ)) (ag 5 rfl (U5 rfl rfl aw rfl (hr1.cell S3.m (i:=i) (by first|omega|(simp only[ls];omega)) 1 rfl rfl)) ?_)
    refine af 6 1 rfl rfl (ar 7 8 rfl rfl rfl (dt rfl rfl rfl rfl rfl rfl rfl afS S3 (ae1 acc ((ga (ct d L) i).z) ((ga (ct d L) i).c) hacc ((by have:=JL hcc hbc;omega)) S3.aR) ?_))
    intro vw5 w5 M4 bt S5 CI;clear S3
    replace ay:=ay.mono (Hp.U6 bt S5.mx)
    replace hr1:=hr1.mono bt
    replace hacc:=hacc.mono bt
    obtain⟨A3,c3,rfl,hr3⟩:=CI
    refine af 8 1 rfl rfl (U3 rfl (Ul (ah [3,4,5] rfl (U2 (U0 rfl (af 0 1 rfl rfl (ag 1 rfl (Ud rfl rfl rfl (by first|omega|(simp only[ls];omega))) ?_)))))))
    refine af 2 1 rfl rfl (U3 rfl (Ut ?_))
    have hbi:=LC hlB (i:=i) (by omega)
    have Vc:=ac7 tD (i:=i) (by omega)
    intro ak ai
    refine⟨_,?fM,⟨i+1,(put acc ((ga (ct d L) i).z) ((ga (ct d L) i).c)),A3,c3,_,(hle2.trans bt),rfl,ai.sub ⟨rfl,rfl,rfl,trivial⟩,S5.pick [] [] (by decide) trivial,?cu,?cN,?jb,?sy,?wO⟩⟩
    case cu=>exact hr3
    case cN=>omega
    case jb=>exact Jv hcc (pP (by omega)) (by rw[hce];exact adW Vc)
    case sy=>exact adw hbc (by omega)
    case wO=>(rw[J6];exact aa9 tC (by omega) hce)
    case fM=>omega
  ·refine Uk rfl rfl (ah [4] rfl (U2 (U1 aw0 awZ rfl rfl rfl (U0 rfl (af 0 2 rfl rfl (U3 rfl (ah [2] rfl (U2 ?_))))))))
   refine Us hC [_] rfl rfl ⟨rfl,trivial⟩ ?_
   refine⟨_,rfl,_,hle1.trans hle2,(S3.pick [] [] (by decide) trivial),?_⟩
   obtain rfl:i=(ct d L).length:=by omega
   rw[List.take_length]at tC
   exact⟨_,_,_,rfl,hacc,hcc,hbc,tC⟩
end Go.Proofs.YthppkofceancjaaGreat
namespace Go.Proofs.YthppkofceancjaaGreat
open Go.ChangeShapes Go.WideShapes Go.ChangeAt Go.RowKit
def ma(ws:List Int)(a b:Nat):List Int:=relN ws (max (ga ws a) (ga ws b)) (min (ga ws a) (ga ws b)) ws.length
theorem E6(ws:List Int)(a b:Nat):(ma ws a b).length=ws.length:=EM _ _ _ _
theorem abR{e1 e2:Nat->Nat}{N i:Nat}{a b:Nat}(ha:e1 i=a)(hb:e2 i=b):ma (clsG e1 e2 N i) a b=clsG e1 e2 N (i+1):=by
 subst ha hb
 unfold ma
 rw[yh];rfl
def mQ(d:Dg)(s a:Nat):List Int:=((List.range a).filter (j0 d s)).map fun x:Nat=>(x:Int)
def dG(d:Dg)(s:Nat):List Int:=mQ d s (2*d.ae.length+1)
theorem AR(d:Dg)(s:Nat):(dG d s).length=kM d s:=by unfold dG mQ;rw[List.length_map];exact Ju d s
theorem adv{d:Dg}{s a:Nat}(h:j0 d s a=true):mQ d s (a+1)=mQ d s a++[(a:Int)]:=by
 unfold mQ;rw[List.range_succ,List.filter_append,List.map_append];simp[h]
theorem JW{d:Dg}{s a:Nat}(h:j0 d s a=false):mQ d s (a+1)=mQ d s a:=by
 unfold mQ;rw[List.range_succ,List.filter_append,List.map_append];simp[h]
theorem alf(d:Dg)(s a:Nat):(mQ d s a).length<=a:=by
 unfold mQ;rw[List.length_map]
 exact Nat.le_trans (List.length_filter_le (j0 d s) (List.range a)) (by rw[List.length_range];exact Nat.le_refl _)
def StR(d:Dg)(s:Nat)(u:Value)(N:Hp):Prop:=∃A c B e,u=.agg [.slice A (kC d av s).length c,.slice B (dG d s).length e].toArray/\aB Uh N A c (kC d av s)/\aB Uh N B e (dG d s)
theorem aeG{d:Dg}(h:Uu d=true){s k:Nat}{ws:List Int}(hk:k<d.ae.length){a b c e:Nat}(hab:if aD s k=0 then a=aK d k 0/\b=aK d k 1/\c=aK d k 2/\e=aK d k 3 else a=aK d k 1/\b=aK d k 2/\c=aK d k 3/\e=aK d k 0)(H:ws=clsG (iI d av s) (iH d av s) (2*d.ae.length+1) (2*k)):ma (ma ws a b) c e=clsG (iI d av s) (iH d av s) (2*d.ae.length+1) (2*(k+1)):=by
 have e1:iI d av s (2*k)=a/\iH d av s (2*k)=b/\iI d av s (2*k+1)=c/\iH d av s (2*k+1)=e:=by
  unfold iI iH av
  rw[if_pos rfl,if_pos rfl,if_pos rfl,if_pos rfl,show 2*k/2=k by omega,show(2*k+1)/2=k by omega,show 2*k%2=0 by omega,show(2*k+1)%2=1 by omega]
  have hb:=jS s k
  by_cases e0:aD s k=0
  ·rw[if_pos e0]at hab
   obtain⟨rfl,rfl,rfl,rfl⟩:=hab
   rw[e0];exact⟨rfl,rfl,rfl,rfl⟩
  ·rw[if_neg e0]at hab
   obtain⟨rfl,rfl,rfl,rfl⟩:=hab
   rw[show aD s k=1 by omega];exact⟨rfl,rfl,rfl,rfl⟩
 rw[H,abR e1.1 e1.2.1,abR e1.2.2.1 e1.2.2.2]
 rfl
noncomputable def Q8:=Tryz.f145.body.getD .skip
def awY:=cL Q8
def Q7:=cR Q8
def awX:=cL Q7
def ag9:=cR Q7
def ag8:=cL ag9
def Q6:=cL ag8
def awW:=cL Q6
def Q5:=cR Q6
def Q0:=cL Q5
def QZ:=cR Q5
def awV:=cL Q0
def awU:=cR Q0
def ag7:=cL QZ
def awT:=cR QZ
def QY:=cL ag7
def awS:=cL QY
def QX:=cR QY
def awR:=cL QX
def QW:=cR QX
def awQ:=cL QW
def awP:=cR QW
set_option maxHeartbeats 1000000 in
set_option maxRecDepth 10000 in
theorem aoE{w:World}{M:Hp}{X:Fr}(a:Nat)(b:Nat){nV:Nat}{qd:Value}(ws:List Int)(ha:a<ws.length)(hb:b<ws.length)(hl:ws.length<=1000)(S:SH w M X [Rs.bP [Rs.box nV 53 [qd],Rs.row Uh qd ws]]):C1 Tryz.prog 145 [.int .i64 (a:Int),.int .i64 (b:Int),.pointer (some ⟨nV,0,none⟩)] w M X (fun u M' r'=>M'=M/\u=tup []/\r'=Rs.bP [Rs.box nV 53 [qd],Rs.row Uh qd (ma ws a b)]):=by
 unfold C1
 replace S:=S.yQ
 refine Up (b:=Q8) Tryz.func145 rfl Tryz.ntmps145 rfl (fun C hC=>(bu [(0,_),(1,_),(2,_)] ⟨rfl,rfl,rfl,trivial⟩ (U1 awY Q7 rfl rfl rfl (cM rfl (by kernel_rfl) S 20 rfl ?_))))
 clear S
 refine au 0 19 rfl (by kernel_rfl) (fun _ _ _ aj Sz=>.inl (U5 rfl rfl cI rfl (Sz.suf.aG (i:=0) rfl rfl))) ?_
 refine aq 1 18 rfl (by kernel_rfl) (fun _=>run_move rfl rfl) ?_
 refine au 2 17 rfl (by kernel_rfl) (fun _ _ _ aj Sz=>.inl (Ue (C:=Uh) (i:=1) a rfl rfl rfl aS Sz.suf rfl (by first|rfl|omega) (by first|omega|(simp only[ls];omega)))) ?_
 refine au 3 16 rfl (by kernel_rfl) (fun _ _ _ aj Sz=>.inl (U5 rfl rfl aw rfl (Sz.suf.cK (i:=1) (e:=a) (j:=0) rfl (by first|omega|(simp only[ls];omega)) rfl rfl))) ?_
 refine au 4 15 rfl (by kernel_rfl) (fun _ _ _ aj Sz=>.inl (U5 rfl rfl cI rfl (Sz.suf.aG (i:=0) rfl rfl))) ?_
 refine aq 5 14 rfl (by kernel_rfl) (fun _=>run_move rfl rfl) ?_
 refine au 6 13 rfl (by kernel_rfl) (fun _ _ _ aj Sz=>.inl (Ue (C:=Uh) (i:=1) b rfl rfl rfl aS Sz.suf rfl (by first|rfl|omega) (by first|omega|(simp only[ls];omega)))) ?_
 refine au 7 12 rfl (by kernel_rfl) (fun _ _ _ aj Sz=>.inl (U5 rfl rfl aw rfl (Sz.suf.cK (i:=1) (e:=b) (j:=0) rfl (by first|omega|(simp only[ls];omega)) rfl rfl))) ?_
 refine au 8 11 rfl (by kernel_rfl) (fun _ _ _ aj Sz=>.inl (ak8 rfl rfl rfl rfl rfl)) ?_
 refine au 9 10 rfl (by kernel_rfl) (fun _ _ _ aj Sz=>.inl (U5 rfl rfl cI rfl (Sz.suf.aG (i:=0) rfl rfl))) ?_
 refine aq 10 9 rfl (by kernel_rfl) (fun _=>run_move rfl rfl) ?_
 refine au 11 8 rfl (by kernel_rfl) (fun _ _ _ aj Sz=>.inl (Ue (C:=Uh) (i:=1) a rfl rfl rfl aS Sz.suf rfl (by first|rfl|omega) (by first|omega|(simp only[ls];omega)))) ?_
 refine au 12 7 rfl (by kernel_rfl) (fun _ _ _ aj Sz=>.inl (U5 rfl rfl aw rfl (Sz.suf.cK (i:=1) (e:=a) (j:=0) rfl (by first|omega|(simp only[ls];omega)) rfl rfl))) ?_
 refine au 13 6 rfl (by kernel_rfl) (fun _ _ _ aj Sz=>.inl (U5 rfl rfl cI rfl (Sz.suf.aG (i:=0) rfl rfl))) ?_
 refine aq 14 5 rfl (by kernel_rfl) (fun _=>run_move rfl rfl) ?_
 refine au 15 4 rfl (by kernel_rfl) (fun _ _ _ aj Sz=>.inl (Ue (C:=Uh) (i:=1) b rfl rfl rfl aS Sz.suf rfl (by first|rfl|omega) (by first|omega|(simp only[ls];omega)))) ?_
 refine au 16 3 rfl (by kernel_rfl) (fun _ _ _ aj Sz=>.inl (U5 rfl rfl aw rfl (Sz.suf.cK (i:=1) (e:=b) (j:=0) rfl (by first|omega|(simp only[ls];omega)) rfl rfl))) ?_
 refine au 17 2 rfl (by kernel_rfl) (fun _ _ _ aj Sz=>.inl (aco rfl rfl rfl rfl rfl)) ?_
 refine aq 18 1 rfl (by kernel_rfl) (fun _=>run_assign rfl rfl) ?_
 refine aq 19 0 rfl (by kernel_rfl) (fun _=>run_assign rfl rfl) ?_
 refine cF (by kernel_rfl) (fun w21 lD=>?_)
 refine ah [2,5,6] rfl (U2 (U1 awX ag9 rfl rfl rfl (U0 rfl (ag 0 rfl (U5 rfl rfl cI rfl (lD.aG (i:=0) rfl rfl)) (ag 1 rfl (kL (C:=Uh) (i:=1) rfl rfl rfl rfl rfl rfl aS lD rfl) (af 2 1 rfl rfl (U3 rfl (ah [2,5,6,27,28] rfl ?_))))))))
 refine U2 (U7 ag8 0 rfl rfl rfl ?_)
 refine Ui (fun aF ak aA=>∃(i:Nat),aF=ws.length-1*i/\Env 42 [(2,.pointer (some ⟨nV,0,none⟩)),(5,.int .i64 (max (ga ws a) (ga ws b))),(6,.int .i64 (min (ga ws a) (ga ws b))),(27,.int .i64 (ws.length:Int)),(28,.int .i64 (i:Int))] ak/\SH aA M X [Rs.box nV 53 [qd],Rs.row Uh qd (relN ws (max (ga ws a) (ga ws b)) (min (ga ws a) (ga ws b)) i)]/\i<=ws.length) rfl ?_ ?_
 ·intro ak ai
  refine⟨_,⟨0,rfl,ai.sub ⟨rfl,rfl,rfl,rfl,rfl,trivial⟩,lD.pick [0,1] [_,_] (by decide) ⟨rfl,rfl,trivial⟩,?bn⟩⟩
  case bn=>omega
 ·rintro m1 a1 w22 ⟨i,rfl,aQ,iq,hi⟩
  clear lD
  refine aW aQ (c:=Q6) rfl ?_
  clear aQ a1
  have hrl:=EM ws (max (ga ws a) (ga ws b)) (min (ga ws a) (ga ws b)) i
  refine U1 awW Q5 rfl rfl rfl (U0 rfl (ag 0 rfl (Un rfl rfl rfl) (U3 rfl (U2 (U1 Q0 QZ rfl rfl rfl ?_)))))
  refine Ua awV awU rfl rfl rfl rfl (fun uO=>?_) (fun uO=>?_)
  ·refine Ub rfl (ah [2,5,6,27,28] rfl (U2 (U1 ag7 awT rfl rfl rfl (U7 QY 1 rfl rfl rfl (U1 awS QX rfl rfl rfl (U0 rfl (af 0 2 rfl rfl (U3 rfl ?_))))))))
   refine ah [2,5,6,27,28,7] rfl (U2 (U1 awR QW rfl rfl rfl (U0 rfl (ag 0 rfl (U5 rfl rfl cI rfl (iq.aG (i:=0) rfl rfl)) (af 1 1 rfl rfl (ag 2 rfl (Ue (C:=Uh) (i:=1) i rfl rfl rfl aS iq rfl (by first|rfl|omega) (by first|omega|(simp only[ls];omega))) ?_))))))
   refine ag 3 rfl (U5 rfl rfl aw rfl (iq.cK (i:=1) (e:=i) (j:=0) rfl (by first|omega|(simp only[ls];omega)) rfl rfl)) ?_
   refine af 4 1 rfl rfl (ag 5 rfl (Uz rfl rfl rfl) (U3 rfl (ah [2,5,6,27,28,7,36] rfl (U2 ?_))))
   refine Ua awQ awP rfl rfl rfl rfl (fun qV=>?_) (fun qV=>?_)
   ·refine U0 rfl (ag 0 rfl (U5 rfl rfl cI rfl (iq.aG (i:=0) rfl rfl)) (af 1 2 rfl rfl (ag 3 rfl (Ue (C:=Uh) (i:=1) i rfl rfl rfl aS iq rfl (by first|rfl|omega) (by first|omega|(simp only[ls];omega))) ?_)))
    refine ar 4 5 rfl rfl rfl (ij (C:=Uh) (i:=1) (e:=i) (j:=0) (us:=[_]) (H':=[_,_]) (min (ga ws a) (ga ws b)) rfl rfl iq rfl (by first|omega|(simp only[ls];omega)) rfl rfl rfl dw rfl rfl rfl rfl ?_)
    intro UK rQ;clear iq
    refine U3 rfl (Ul (ah [2,5,6,27,28] rfl (U2 ?_)))
    have uL:(relN ws (max (ga ws a) (ga ws b)) (min (ga ws a) (ga ws b)) i).set i (min (ga ws a) (ga ws b))=(relN ws (max (ga ws a) (ga ws b)) (min (ga ws a) (ga ws b)) (i+1)):=by(rw[relN,if_pos (by omega)])
    rw[uL]at rQ;clear uL
    refine U0 rfl (ag 0 rfl (Ud rfl rfl rfl (by first|omega|(simp only[ls];omega))) ?_)
    refine af 1 1 rfl rfl (U3 rfl (Ut ?_))
    intro ak ai
    refine⟨_,?bG,⟨i+1,rfl,ai.sub ⟨rfl,rfl,rfl,rfl,rfl,trivial⟩,rQ.pick [0,1] [_,_] (by decide) ⟨rfl,rfl,trivial⟩,?bk⟩⟩
    case bk=>omega
    case bG=>omega
   ·refine Ub rfl (Ul (ah [2,5,6,27,28] rfl (U2 ?_)))
    have uK:(relN ws (max (ga ws a) (ga ws b)) (min (ga ws a) (ga ws b)) i)=(relN ws (max (ga ws a) (ga ws b)) (min (ga ws a) (ga ws b)) (i+1)):=by(rw[relN,if_neg (by omega)])
    rw[uK]at iq;clear uK
    refine U0 rfl (ag 0 rfl (Ud rfl rfl rfl (by first|omega|(simp only[ls];omega))) ?_)
    refine af 1 1 rfl rfl (U3 rfl (Ut ?_))
    intro ak ai
    refine⟨_,?fM,⟨i+1,rfl,ai.sub ⟨rfl,rfl,rfl,rfl,rfl,trivial⟩,iq.pick [0,1] [_,_] (by decide) ⟨rfl,rfl,trivial⟩,?cu⟩⟩
    case cu=>omega
    case fM=>omega
  ·refine Uk rfl rfl (Bk hC [] rfl trivial ?_)
   refine⟨_,rfl,_,_,Hp.le_refl _,(iq.pick [0,1] [_,_] (by decide) ⟨rfl,rfl,trivial⟩).bP,?_⟩
   have e9:i=ws.length:=by omega
   refine⟨rfl,rfl,?_⟩
   rw[e9];rfl
theorem FD{w:World}{M:Hp}{X:Fr}(a b:Int){nV:Nat}{qd:Value}(ws:List Int)(ha:0<=a/\a.toNat<ws.length)(hb:0<=b/\b.toNat<ws.length)(hl:ws.length<=1000)(S:SH w M X [Rs.bP [Rs.box nV 53 [qd],Rs.row Uh qd ws]]):C1 Tryz.prog 145 [.int .i64 a,.int .i64 b,.pointer (some ⟨nV,0,none⟩)] w M X (fun u M' r'=>M'=M/\u=tup []/\r'=Rs.bP [Rs.box nV 53 [qd],Rs.row Uh qd (ma ws a.toNat b.toNat)]):=by
 obtain⟨m,rfl⟩:∃m:Nat,a=(m:Int):=⟨a.toNat,by omega⟩
 obtain⟨k,rfl⟩:∃k:Nat,b=(k:Int):=⟨b.toNat,by omega⟩
 exact aoE m k ws ha.2 hb.2 hl S
theorem Fw{d:Dg}(h:Uu d=true){s a:Nat}(h0:1<=a)(ha:a<2*d.ae.length+1):(ga (kC d av s) a=(a:Int))<->j0 d s a=true:=by
 rw[(iW h av s ha).1]
 unfold j0
 rw[Bool.and_eq_true,decide_eq_true_iff,decide_eq_true_iff]
 omega
theorem alT(d:Dg)(s:Nat):mQ d s 1=[]:=by rw[show 1=0+1 from rfl,JW rfl];rfl
noncomputable def QV:=Tryz.f96.body.getD .skip
def awO:=cL QV
def QU:=cR QV
def awN:=cL QU
def QT:=cR QU
def QS:=cL QT
def QR:=cR QT
def awM:=cL QS
def ag6:=cR QS
def ag5:=cL ag6
def QQ:=cL ag5
def awL:=cL QQ
def QP:=cR QQ
def QO:=cL QP
def QN:=cR QP
def awK:=cL QO
def awJ:=cR QO
def ag4:=cL QN
def awI:=cR QN
def QM:=cL ag4
def awH:=cL QM
def awG:=cR QM
def awF:=cL QR
def QL:=cR QR
def QK:=cL QL
def QJ:=cR QL
def awE:=cL QK
def ag3:=cR QK
def ag2:=cL ag3
def QI:=cL ag2
def awD:=cL QI
def QH:=cR QI
def QG:=cL QH
def QF:=cR QH
def awC:=cL QG
def awB:=cR QG
def ag1:=cL QF
def awA:=cR QF
def QE:=cL ag1
def awz:=cL QE
def QD:=cR QE
def awy:=cL QD
def QC:=cR QD
def QB:=cL QC
def QA:=cR QC
def awx:=cL QB
def aww:=cR QB
def awv:=cL QA
def awu:=cR QA
def awt:=cL QJ
def Qz:=cR QJ
def Qy:=cL Qz
def Qx:=cR Qz
def aws:=cL Qy
def ag0:=cR Qy
def agZ:=cL ag0
def Qw:=cL agZ
def Qv:=cL Qw
def Qu:=cR Qw
def awr:=cL Qv
def Qt:=cR Qv
def awq:=cL Qt
def awp:=cR Qt
def agY:=cL Qu
def awo:=cR Qu
def Qs:=cL agY
def awn:=cL Qs
def Qr:=cR Qs
def awm:=cL Qr
def awl:=cR Qr
def awk:=cL Qx
def awj:=cR Qx
set_option maxHeartbeats 2000000 in
set_option maxRecDepth 10000 in
theorem aow{w:World}{M:Hp}{X:Fr}(d:Dg){bp:Nat}{cA iA oA:Option Addr}{cc ic oc:Nat}{fP:Nat}{stV:Value}(s:Nat)(hcb:bQ (M.un X.h) fP 168 [.pointer (some ⟨bp,0,none⟩),stV])(aH:bQ (M.un X.h) bp 70 [.slice cA d.ae.length cc,.int .i64 d.loops,.slice iA (aN d false (4*d.ae.length)).length ic,.slice oA (aN d true (4*d.ae.length)).length oc])(hsc:aB bw (M.un X.h) cA cc d.ae)(hsi:aB cw (M.un X.h) iA ic (aN d false (4*d.ae.length)))(aM:aB cw (M.un X.h) oA oc (aN d true (4*d.ae.length)))(hn:d.ae.length<=6)(hab:Uu d=true)(S:SH w M X []):Ct Tryz.prog 96 [.pointer (some ⟨fP,0,none⟩),.int .i64 (s:Int)] w M X (StR d s):=by
 unfold Ct
 refine Up (b:=QV) Tryz.func96 rfl Tryz.ntmps96 rfl (fun C hC=>(bu [(0,_),(1,_)] ⟨rfl,rfl,trivial⟩ (U1 awO QU rfl rfl rfl (U0 rfl (ar 0 1 rfl rfl rfl (dh (l:=[_,_]) rfl rfl rfl yP rfl S ?_))))))
 intro aI w1 S1;clear S
 refine U3 rfl (U2 (U1 awN QT rfl rfl rfl (U0 rfl (af 0 1 rfl rfl (ag 1 rfl (Ur rfl rfl) (ag 2 rfl (U4 rfl rfl lG rfl (xy) (xk)) (ag 3 rfl (U5 rfl rfl qP rfl (hcb.cell S1.um rfl)) (ar 4 5 rfl rfl rfl (gJ rfl rfl rfl rfl rfl rfl rfl aeX S1 (ad8 d (aH.mono S1.Uq) (hsc.mono S1.Uq) (hsi.mono S1.Uq) (aM.mono S1.Uq) (by omega) S1.aR) ?_)))))))))
 rintro _ w2 S2 rfl;clear S1
 refine ag 5 rfl (Ud rfl rfl rfl (by first|omega|(simp only[ls];omega))) ?_
 refine ar 6 7 rfl rfl rfl (rJ (C:=Uh) ((2*(d.ae.length:Int)).toNat+1) rfl rfl rfl rfl rfl aS (by first|rfl|omega) (by show _*8<=_;first|omega|(simp only[ls];omega)) S2 ?_)
 intro zz w3 S3;clear S2
 refine ar 7 8 rfl rfl rfl (dh (l:=[_]) rfl rfl rfl aqE rfl S3 ?_)
 intro bq w4 S4;clear S3
 refine ar 8 9 rfl rfl rfl (Uo (i:=0) (us:=[_]) (l':=[_]) (H':=[_,_,_]) rfl rfl S4 rfl rfl rfl (S4.yM (i:=1) rfl) LO rfl (py (S4.one (i:=1) rfl) rfl) rfl rfl ?_)
 intro w5 S5;clear S4
 refine U3 rfl (ah [0,1,4,5] rfl (U2 (U1 QS QR rfl rfl rfl (U1 awM ag6 rfl rfl rfl (U0 rfl (ag 0 rfl (U5 rfl rfl cI rfl (S5.aG (i:=0) rfl rfl)) (ag 1 rfl (kL (C:=Uh) (i:=1) rfl rfl rfl rfl rfl rfl aS S5 rfl) (cZ 20 (.int .i64 ((2*d.ae.length+1:Nat):Int)) rfl (int_eq (by first|omega|(rw[List.length_replicate]<;>omega))) ?_))))))))
 refine af 2 1 rfl rfl (U3 rfl (ah [0,1,4,5,20,21] rfl (U2 (U7 ag5 0 rfl rfl rfl ?_))))
 refine Ui (fun aF ak aA=>∃(i:Nat) (ws:List Int) (cH:Value),aF=(2*d.ae.length+1) -i/\Env 95 [(0,.pointer (some ⟨fP,0,none⟩)),(1,.int .i64 (s:Int)),(4,.pointer (some ⟨aI,0,none⟩)),(5,.pointer (some ⟨bq,0,none⟩)),(20,.int .i64 ((2*d.ae.length+1:Nat):Int)),(21,.int .i64 (i:Int))] ak/\SH aA M X [Rs.box bq 53 [cH],Rs.row Uh cH ws,Rs.box aI 170 [.slice none 0 0,.slice none 0 0]]/\i<=(2*d.ae.length+1)/\ws=iniW (2*d.ae.length+1) i) rfl ?_ ?_
 ·intro ak ai
  refine⟨_,⟨0,_,_,rfl,ai.sub ⟨rfl,rfl,rfl,rfl,rfl,rfl,trivial⟩,S5.pick [0,1,2] [_,_,_] (by decide) ⟨rfl,rfl,rfl,trivial⟩,?bn,?bE⟩⟩
  case bn=>omega
  case bE=>(show List.replicate _ _=List.replicate _ _;first|(congr 1;done)|(congr 1;omega))
 ·rintro m1 a1 w6 ⟨i,ws,cH,rfl,aQ,S6,hi,hw⟩
  clear S5
  refine aW aQ (c:=QQ) rfl ?_
  clear aQ a1
  have xN:ws.length=(2*d.ae.length+1):=by rw[hw,vE]
  refine U1 awL QP rfl rfl rfl (U0 rfl (ag 0 rfl (Un rfl rfl rfl) (U3 rfl (U2 (U1 QO QN rfl rfl rfl ?_)))))
  refine Ua awK awJ rfl rfl rfl rfl (fun Mr=>?_) (fun Mr=>?_)
  ·refine Ub rfl (ah [0,1,4,5,20,21] rfl (U2 (U1 ag4 awI rfl rfl rfl (U7 QM 1 rfl rfl rfl (U1 awH awG rfl rfl rfl (U0 rfl (af 0 2 rfl rfl (U3 rfl ?_))))))))
   refine ah [0,1,4,5,20,21,6] rfl (U2 (U0 rfl (ag 0 rfl (U5 rfl rfl cI rfl (S6.aG (i:=0) rfl rfl)) (af 1 2 rfl rfl (ag 3 rfl (Ue (C:=Uh) (i:=1) i rfl rfl rfl aS S6 rfl (by first|rfl|omega) (by first|omega|(simp only[ls];omega))) ?_)))))
   refine ar 4 5 rfl rfl rfl (ij (C:=Uh) (i:=1) (e:=i) (j:=0) (us:=[_]) (H':=[_,_,_]) (i:Int) rfl rfl S6 rfl (by first|omega|(simp only[ls];omega)) rfl rfl rfl dw rfl rfl rfl rfl ?_)
   intro w7 S7;clear S6
   refine U3 rfl (Ul (ah [0,1,4,5,20,21] rfl (U2 (U0 rfl (ag 0 rfl (Ud rfl rfl rfl (by first|omega|(simp only[ls];omega))) ?_)))))
   refine af 1 1 rfl rfl (U3 rfl (Ut ?_))
   intro ak ai
   refine⟨_,?bG,⟨i+1,ws.set i (i:Int),_,rfl,ai.sub ⟨rfl,rfl,rfl,rfl,rfl,rfl,trivial⟩,S7.pick [0,1,2] [_,_,_] (by decide) ⟨rfl,rfl,rfl,trivial⟩,?bk,?bD⟩⟩
   case bk=>omega
   case bD=>(rw[hw];rfl)
   case bG=>omega
  ·refine Uk rfl rfl (ah [0,1,4,5] rfl (U2 (U1 awF QL rfl rfl rfl (U0 rfl (ag 0 rfl (Eb (vs:=[_]) rfl rfl rfl rfl) (af 1 1 rfl rfl (U3 rfl (ah [0,1,4,5,7] rfl ?_))))))))
   refine U2 (U1 QK QJ rfl rfl rfl (U1 awE ag3 rfl rfl rfl (U0 rfl (af 0 1 rfl rfl (ag 1 rfl (Ur rfl rfl) (ag 2 rfl (U4 rfl rfl lG rfl (xy) (xk)) (ag 3 rfl (U5 rfl rfl qP rfl (hcb.cell S6.um rfl)) (ag 4 rfl (Ur rfl rfl) ?_))))))))
   refine ag 5 rfl (U4 rfl rfl jM rfl (lY) (lN)) (ag 6 rfl (U4 rfl rfl bg rfl (dV) (dS)) (ag 7 rfl (U5 rfl rfl bF rfl (aH.cell S6.um rfl)) (ag 8 rfl (Uv rfl rfl rfl rfl rfl rfl bF) (af 9 1 rfl rfl (U3 rfl (ah [1,4,5,7,37,38,39] rfl (U2 (U7 ag2 2 rfl rfl rfl ?_))))))))
   refine Ui (fun aF ak aA=>∃(k:Nat) (ws:List Int) (jP:Value),aF=d.ae.length-k/\Env 95 [(1,.int .i64 (s:Int)),(4,.pointer (some ⟨aI,0,none⟩)),(5,.pointer (some ⟨bq,0,none⟩)),(7,.func (.func 145) #[] [.pointer (some ⟨bq,0,none⟩)].toArray),(37,.slice cA d.ae.length cc),(38,.int .i64 (d.ae.length:Int)),(39,.int .i64 (k:Int))] ak/\SH aA M X [Rs.box bq 53 [jP],Rs.row Uh jP ws,Rs.box aI 170 [.slice none 0 0,.slice none 0 0]]/\k<=d.ae.length/\ws=(clsG (iI d av s) (iH d av s) (2*d.ae.length+1) (2*k))) rfl ?_ ?_
   ·intro ak ai
    refine⟨_,⟨0,_,_,rfl,ai.sub ⟨rfl,rfl,rfl,rfl,rfl,rfl,rfl,trivial⟩,S6.pick [0,1,2] [_,_,_] (by decide) ⟨rfl,rfl,rfl,trivial⟩,?cu,?cN⟩⟩
    case cu=>omega
    case cN=>(have e9:i=(2*d.ae.length+1):=(by omega);rw[hw,e9];rfl)
   ·rintro m2 a2 w8 ⟨k,ws,jP,rfl,bS,S8,hk,hw⟩
    clear S6
    refine aW bS (c:=QI) rfl ?_
    clear bS a2
    have xN:ws.length=(2*d.ae.length+1):=by rw[hw,yh]
    refine U1 awD QH rfl rfl rfl (U0 rfl (ag 0 rfl (Un rfl rfl rfl) (U3 rfl (U2 (U1 QG QF rfl rfl rfl ?_)))))
    refine Ua awC awB rfl rfl rfl rfl (fun asl=>?_) (fun asl=>?_)
    ·refine Ub rfl (ah [1,4,5,7,37,38,39] rfl (U2 (U1 ag1 awA rfl rfl rfl (U7 QE 3 rfl rfl rfl (U1 awz QD rfl rfl rfl (U0 rfl (af 0 1 rfl rfl (ag 1 rfl (U9 (C:=bw) k rfl rfl rfl mH (by first|rfl|omega) hsc (by first|omega|(simp only[ls];omega))) ?_))))))))
     refine ag 2 rfl (Uc (us:=[_,_,_,_,_]) rfl rfl bR rfl kT (hsc.fV S8.um (e:=k) (by first|omega|(simp only[ls];omega)) (j:=0) ⟨rfl,rfl,rfl,rfl,rfl,trivial⟩)) ?_
     refine ar 3 4 rfl rfl rfl (dh (l:=[_,_,_,_,_]) rfl rfl rfl y5 rfl S8 ?_)
     intro dD w9 S9;clear S8
     refine af 4 1 rfl rfl (ar 5 6 rfl rfl rfl (Uo (i:=0) (us:=[_,_,_,_,_]) (l':=[_,_,_,_,_]) (H':=[_,_,_,_]) rfl rfl S9 rfl rfl rfl rfl kT rfl rfl rfl rfl ?_))
     intro oZ bM;clear S9
     refine U3 rfl (ah [1,4,5,7,37,38,39,9,8] rfl (U2 (U1 awy QC rfl rfl rfl ?_)))
     have LU:1<=(ga d.ae k).a/\(ga d.ae k).a<=2*(d.ae.length:Int):=iN hab (show k<d.ae.length by omega) (k:=0) (by omega)
     have afl:1<=(ga d.ae k).b/\(ga d.ae k).b<=2*(d.ae.length:Int):=iN hab (show k<d.ae.length by omega) (k:=1) (by omega)
     have LS:1<=(ga d.ae k).c/\(ga d.ae k).c<=2*(d.ae.length:Int):=iN hab (show k<d.ae.length by omega) (k:=2) (by omega)
     have afk:1<=(ga d.ae k).d/\(ga d.ae k).d<=2*(d.ae.length:Int):=iN hab (show k<d.ae.length by omega) (k:=3) (by omega)
     refine U0 rfl (af 0 2 rfl rfl (ag 2 rfl (tN (s:=s) (n:=k) rfl rfl rfl (by first|omega|(simp only[ls];omega))) ?_))
     refine ag 3 rfl (vK (s:=(s/2^k)) rfl rfl rfl) (ag 4 rfl (Uz rfl rfl rfl) (U3 rfl (ah [1,4,5,7,37,38,39,9,48] rfl (U2 ?_))))
     refine Ua QB QA rfl rfl rfl rfl (fun hb48=>?_) (fun hb48=>?_)
     ·refine U1 awx aww rfl rfl rfl (U0 rfl (af 0 1 rfl rfl (ag 1 rfl (U4 rfl rfl bR rfl (aL) (aJ)) (ag 2 rfl (U5 rfl rfl aw rfl (bM.aG (i:=0) rfl rfl)) (ag 3 rfl (U4 rfl rfl bR rfl (aL) (aJ)) (ag 4 rfl (U5 rfl rfl aw rfl (bM.aG (i:=0) rfl rfl)) ?_))))))
      have bJ:=bM.pick [1,2,0,3] [_,_,_,_] (by decide) ⟨rfl,rfl,rfl,rfl,trivial⟩;clear bM
      have cB:SH _ _ _ (Rs.bP [_,_]::[_,_]):=SH.nJ (A:=[_,_]) (B:=[_,_]) bJ;clear bJ
      have bY:SH _ _ _ [_,_,_]:=cB.less (i:=0) rfl
      have Bx:=FD ((ga d.ae k).a) ((ga d.ae k).b) ws (by omega) (by omega) (by omega) (cB.ng (i:=0) rfl);clear bY
      refine ar 5 6 rfl rfl rfl (Fi (i:=0) rfl rfl rfl rfl rfl rfl rfl F7 cB rfl Bx ?_)
      intro ae7 mO M1 aAZ cG bX o8;clear cB
      obtain⟨Gw,o8⟩:=o8
      rw[Gw]at bX
      obtain⟨rfl,rfl⟩:=o8
      replace bX:SH _ _ _ (Rs.bP [_,_]::[_,_]):=bX
      have bT:SH _ _ _ [_,_,_,_]:=SH.oo (A:=[_,_]) (B:=[_,_]) bX;clear bX
      have az5:=E6 ws ((ga d.ae k).a).toNat ((ga d.ae k).b).toNat
      refine U3 rfl (ah [1,4,5,7,37,38,39,9] rfl (U2 (U0 rfl (af 0 1 rfl rfl (ag 1 rfl (U4 rfl rfl bR rfl (aL) (aJ)) (ag 2 rfl (U5 rfl rfl aw rfl (bT.aG (i:=2) rfl rfl)) (ag 3 rfl (U4 rfl rfl bR rfl (aL) (aJ)) (ag 4 rfl (U5 rfl rfl aw rfl (bT.aG (i:=2) rfl rfl)) ?_))))))))
      have cO:=bT.pick [0,1,2,3] [_,_,_,_] (by decide) ⟨rfl,rfl,rfl,rfl,trivial⟩;clear bT
      have dK:SH _ _ _ (Rs.bP [_,_]::[_,_]):=SH.nJ (A:=[_,_]) (B:=[_,_]) cO;clear cO
      have fZ:SH _ _ _ [_,_,_]:=dK.less (i:=0) rfl
      have an3:=FD ((ga d.ae k).c) ((ga d.ae k).d) (ma ws ((ga d.ae k).a).toNat ((ga d.ae k).b).toNat) (by omega) (by omega) (by omega) (dK.ng (i:=0) rfl);clear fZ
      refine ar 5 6 rfl rfl rfl (Fi (i:=0) rfl rfl rfl rfl rfl rfl rfl F7 dK rfl an3 ?_)
      intro aqY ra M2 aAY bt iu rB;clear dK
      obtain⟨asx,rB⟩:=rB
      rw[asx]at iu
      obtain⟨rfl,rfl⟩:=rB
      replace iu:SH _ _ _ (Rs.bP [_,_]::[_,_]):=iu
      have qG:SH _ _ _ [_,_,_,_]:=SH.oo (A:=[_,_]) (B:=[_,_]) iu;clear iu
      have az4:=E6 (ma ws ((ga d.ae k).a).toNat ((ga d.ae k).b).toNat) ((ga d.ae k).c).toNat ((ga d.ae k).d).toNat
      refine U3 rfl (Ul (ah [1,4,5,7,37,38,39] rfl (U2 (U0 rfl (ag 0 rfl (Ud rfl rfl rfl (by first|omega|(simp only[ls];omega))) ?_)))))
      refine af 1 1 rfl rfl (U3 rfl (Ut ?_))
      intro ak ai
      refine⟨_,?jf,⟨k+1,ma (ma ws ((ga d.ae k).a).toNat ((ga d.ae k).b).toNat) ((ga d.ae k).c).toNat ((ga d.ae k).d).toNat,_,rfl,ai.sub ⟨rfl,rfl,rfl,rfl,rfl,rfl,rfl,trivial⟩,qG.pick [0,1,3] [_,_,_] (by decide) ⟨rfl,rfl,rfl,trivial⟩,?dL,?ek⟩⟩
      case dL=>omega
      case ek=>(refine aeG hab (by omega) ?_ hw;unfold aD;first|(rw[if_pos (by omega)];exact⟨rfl,rfl,rfl,rfl⟩)|(rw[if_neg (by omega)];exact⟨rfl,rfl,rfl,rfl⟩))
      case jf=>omega
     ·refine U1 awv awu rfl rfl rfl (U0 rfl (af 0 1 rfl rfl (ag 1 rfl (U4 rfl rfl bR rfl (aL) (aJ)) (ag 2 rfl (U5 rfl rfl aw rfl (bM.aG (i:=0) rfl rfl)) (ag 3 rfl (U4 rfl rfl bR rfl (aL) (aJ)) (ag 4 rfl (U5 rfl rfl aw rfl (bM.aG (i:=0) rfl rfl)) ?_))))))
      have lD:=bM.pick [1,2,0,3] [_,_,_,_] (by decide) ⟨rfl,rfl,rfl,rfl,trivial⟩;clear bM
      have iq:SH _ _ _ (Rs.bP [_,_]::[_,_]):=SH.nJ (A:=[_,_]) (B:=[_,_]) lD;clear lD
      have rQ:SH _ _ _ [_,_,_]:=iq.less (i:=0) rfl
      have an2:=FD ((ga d.ae k).b) ((ga d.ae k).c) ws (by omega) (by omega) (by omega) (iq.ng (i:=0) rfl);clear rQ
      refine ar 5 6 rfl rfl rfl (Fi (i:=0) rfl rfl rfl rfl rfl rfl rfl F7 iq rfl an2 ?_)
      intro aAN q8 M3 aAX kU mZ xS;clear iq
      obtain⟨asw,xS⟩:=xS
      rw[asw]at mZ
      obtain⟨rfl,rfl⟩:=xS
      replace mZ:SH _ _ _ (Rs.bP [_,_]::[_,_]):=mZ
      have gK:SH _ _ _ [_,_,_,_]:=SH.oo (A:=[_,_]) (B:=[_,_]) mZ;clear mZ
      have az3:=E6 ws ((ga d.ae k).b).toNat ((ga d.ae k).c).toNat
      refine U3 rfl (ah [1,4,5,7,37,38,39,9] rfl (U2 (U0 rfl (af 0 1 rfl rfl (ag 1 rfl (U4 rfl rfl bR rfl (aL) (aJ)) (ag 2 rfl (U5 rfl rfl aw rfl (gK.aG (i:=2) rfl rfl)) (ag 3 rfl (U4 rfl rfl bR rfl (aL) (aJ)) (ag 4 rfl (U5 rfl rfl aw rfl (gK.aG (i:=2) rfl rfl)) ?_))))))))
      have il:=gK.pick [0,1,2,3] [_,_,_,_] (by decide) ⟨rfl,rfl,rfl,rfl,trivial⟩;clear gK
      have fQ:SH _ _ _ (Rs.bP [_,_]::[_,_]):=SH.nJ (A:=[_,_]) (B:=[_,_]) il;clear il
      have jF:SH _ _ _ [_,_,_]:=fQ.less (i:=0) rfl
      have an1:=FD ((ga d.ae k).d) ((ga d.ae k).a) (ma ws ((ga d.ae k).b).toNat ((ga d.ae k).c).toNat) (by omega) (by omega) (by omega) (fQ.ng (i:=0) rfl);clear jF
      refine ar 5 6 rfl rfl rfl (Fi (i:=0) rfl rfl rfl rfl rfl rfl rfl F7 fQ rfl an1 ?_)
      intro LG zx M4 aAW qU fB Vu;clear fQ
      obtain⟨asv,Vu⟩:=Vu
      rw[asv]at fB
      obtain⟨rfl,rfl⟩:=Vu
      replace fB:SH _ _ _ (Rs.bP [_,_]::[_,_]):=fB
      have ki:SH _ _ _ [_,_,_,_]:=SH.oo (A:=[_,_]) (B:=[_,_]) fB;clear fB
      have az2:=E6 (ma ws ((ga d.ae k).b).toNat ((ga d.ae k).c).toNat) ((ga d.ae k).d).toNat ((ga d.ae k).a).toNat
      refine U3 rfl (Ul (ah [1,4,5,7,37,38,39] rfl (U2 (U0 rfl (ag 0 rfl (Ud rfl rfl rfl (by first|omega|(simp only[ls];omega))) ?_)))))
      refine af 1 1 rfl rfl (U3 rfl (Ut ?_))
      intro ak ai
      refine⟨_,?je,⟨k+1,ma (ma ws ((ga d.ae k).b).toNat ((ga d.ae k).c).toNat) ((ga d.ae k).d).toNat ((ga d.ae k).a).toNat,_,rfl,ai.sub ⟨rfl,rfl,rfl,rfl,rfl,rfl,rfl,trivial⟩,ki.pick [0,1,3] [_,_,_] (by decide) ⟨rfl,rfl,rfl,trivial⟩,?ei,?fK⟩⟩
      case ei=>omega
      case fK=>(refine aeG hab (by omega) ?_ hw;unfold aD;first|(rw[if_pos (by omega)];exact⟨rfl,rfl,rfl,rfl⟩)|(rw[if_neg (by omega)];exact⟨rfl,rfl,rfl,rfl⟩))
      case je=>omega
    ·refine Uk rfl rfl (ah [4,5] rfl (U2 (U1 awt Qz rfl rfl rfl ?_)))
     have hwc:ws=kC d av s:=by rw[hw,show k=d.ae.length by omega];rfl
     refine U0 rfl (ag 0 rfl (U5 rfl rfl cI rfl (S8.aG (i:=0) rfl rfl)) (ag 1 rfl (run_build (l:=[jP,.slice none 0 0]) rfl rfl aoV rfl (by obtain⟨_,_,e9,_⟩:=S8.sl (i:=1) rfl;subst e9;rfl)) ?_))
     refine ar 2 3 rfl rfl rfl (dh (l:=[_,_]) rfl rfl rfl yP rfl S8 ?_)
     intro jR De rP;clear S8
     refine ar 3 4 rfl rfl rfl (Uo (i:=0) (us:=[_,_]) (l':=[_,_]) (H':=[_,_,_,_]) rfl rfl rP rfl rfl rfl rfl qI rfl (py (rP.one (i:=2) rfl) (py rfl rfl)) rfl rfl ?_)
     intro Hm og;clear rP
     refine U3 rfl (ah [4,5,10] rfl (U2 (U1 Qy Qx rfl rfl rfl (U1 aws ag0 rfl rfl rfl (U0 rfl (af 0 1 rfl rfl (U3 rfl (U2 ?_))))))))
     refine U7 agZ 4 rfl rfl rfl ?_
     have Ep:=og.gL Uh;clear og
     refine Ui (fun aF ak aA=>∃(a:Nat) (rs:List Int) (l7:Value),aF=(2*d.ae.length+1) -a/\Env 95 [(4,.pointer (some ⟨aI,0,none⟩)),(5,.pointer (some ⟨bq,0,none⟩)),(10,.pointer (some ⟨jR,0,none⟩)),(11,.int .i64 (a:Int))] ak/\SH aA M X [Rs.row Uh l7 rs,Rs.box jR 170 [jP,l7],Rs.box bq 53 [jP],Rs.row Uh jP ws,Rs.box aI 170 [.slice none 0 0,.slice none 0 0]]/\(1<=a/\a<=(2*d.ae.length+1))/\rs=mQ d s a) rfl ?_ ?_
     ·intro ak ai
      refine⟨_,⟨1,[],_,rfl,ai.sub ⟨rfl,rfl,rfl,rfl,trivial⟩,Ep.pick [0,1,2,3,4] [_,_,_,_,_] (by decide) ⟨rfl,rfl,rfl,rfl,rfl,trivial⟩,?fJ,?gu⟩⟩
      case fJ=>omega
      case gu=>exact(alT d s).symm
     ·rintro m3 a3 zw ⟨a,rs,l7,rfl,cW,jE,ha,hrs⟩
      clear Ep
      refine aW cW (c:=Qw) rfl ?_
      clear cW a3
      have hrl:rs.length<=a:=by rw[hrs];exact alf d s a
      refine U1 Qv Qu rfl rfl rfl (U1 awr Qt rfl rfl rfl (U0 rfl (af 0 1 rfl rfl (ag 1 rfl (U5 rfl rfl cI rfl (jE.aG (i:=2) rfl rfl)) (ag 2 rfl (kL (C:=Uh) (i:=3) rfl rfl rfl rfl rfl rfl aS jE rfl) (ag 3 rfl (Un rfl rfl rfl) (U3 rfl (ah [4,5,10,11,79] rfl ?_))))))))
      refine U2 ?_
      refine Ua awq awp rfl rfl rfl rfl (fun Mj=>?_) (fun Mj=>?_)
      ·refine Ub rfl (ah [4,5,10,11] rfl (U2 (U1 agY awo rfl rfl rfl (U7 Qs 5 rfl rfl rfl (U1 awn Qr rfl rfl rfl (U0 rfl (ag 0 rfl (U5 rfl rfl cI rfl (jE.aG (i:=2) rfl rfl)) (af 1 1 rfl rfl ?_))))))))
       refine ag 2 rfl (Ue (C:=Uh) (i:=3) a rfl rfl rfl aS jE rfl (by first|rfl|omega) (by first|omega|(simp only[ls];omega))) ?_
       refine ag 3 rfl (U5 rfl rfl aw rfl (jE.cK (i:=3) (e:=a) (j:=0) rfl (by first|omega|(simp only[ls];omega)) rfl rfl)) ?_
       refine af 4 1 rfl rfl (ag 5 rfl (Uz rfl rfl rfl) (U3 rfl (ah [4,5,10,11,87] rfl (U2 ?_))))
       refine Ua awm awl rfl rfl rfl rfl (fun ar5=>?_) (fun ar5=>?_)
       ·refine U0 rfl (ag 0 rfl (U4 rfl rfl ko rfl (oO) (oK)) (ag 1 rfl (U5 rfl rfl cI rfl (jE.aG (i:=1) rfl rfl)) (af 2 1 rfl rfl (ar 3 4 rfl rfl rfl (Uf (C:=Uh) (l:=[_]) rfl rfl rfl rfl aS rfl rfl rfl rfl jE ?_)))))
        intro rD Hl Eo;clear jE
        refine ar 4 5 rfl rfl rfl (Ux (C:=Uh) (i:=1) (q:=0) (a:Int) rfl rfl rfl rfl rfl rfl rfl rfl aS Eo rfl rfl rfl (by show(_+1)*8<=_;first|omega|(simp only[ls];omega)) ?_)
        intro oI Hk S36;clear Eo
        have Ig:=S36.pick [1,2,3,4,5] [_,_,_,_,_] (by decide) ⟨rfl,rfl,rfl,rfl,rfl,trivial⟩;clear S36
        refine ag 5 rfl (U4 rfl rfl ko rfl (oO) (oK)) (ar 6 7 rfl rfl rfl (Uo (i:=1) (us:=[_]) (l':=[_,_]) (H':=[_,_,_,_,_]) rfl rfl Ig rfl rfl rfl (Ig.yM (i:=0) rfl) LO rfl (py (Ig.one (i:=0) rfl) rfl) rfl rfl ?_))
        intro Hj S38;clear Ig
        refine U3 rfl (Ul (ah [4,5,10,11] rfl (U2 (U0 rfl (af 0 1 rfl rfl (ag 1 rfl (Ud rfl rfl rfl (by first|omega|(simp only[ls];omega))) ?_))))))
        refine af 2 1 rfl rfl (U3 rfl (Ut ?_))
        intro ak ai
        refine⟨_,?nB,⟨a+1,rs++[(a:Int)],_,rfl,ai.sub ⟨rfl,rfl,rfl,rfl,trivial⟩,S38.pick [0,1,2,3,4] [_,_,_,_,_] (by decide) ⟨rfl,rfl,rfl,rfl,rfl,trivial⟩,?gq,?gj⟩⟩
        case gq=>omega
        case gj=>first|(rw[adv ((Fw hab ha.1 (by omega)).1 (by rw[<-hwc];omega)),hrs])|(rw[JW (Bool.eq_false_iff.2 fun h9=>by have:=(Fw hab ha.1 (by omega)).2 h9;rw[<-hwc]at this;omega),hrs])
        case nB=>omega
       ·refine Ub rfl (Ul (ah [4,5,10,11] rfl (U2 (U0 rfl (af 0 1 rfl rfl (ag 1 rfl (Ud rfl rfl rfl (by first|omega|(simp only[ls];omega))) ?_))))))
        refine af 2 1 rfl rfl (U3 rfl (Ut ?_))
        intro ak ai
        refine⟨_,?nA,⟨a+1,rs,_,rfl,ai.sub ⟨rfl,rfl,rfl,rfl,trivial⟩,jE.pick [0,1,2,3,4] [_,_,_,_,_] (by decide) ⟨rfl,rfl,rfl,rfl,rfl,trivial⟩,?iy,?iw⟩⟩
        case iy=>omega
        case iw=>first|(rw[adv ((Fw hab ha.1 (by omega)).1 (by rw[<-hwc];omega)),hrs])|(rw[JW (Bool.eq_false_iff.2 fun h9=>by have:=(Fw hab ha.1 (by omega)).2 h9;rw[<-hwc]at this;omega),hrs])
        case nA=>omega
      ·refine Uk rfl rfl (ah [4,10] rfl (U2 (U1 awk awj rfl rfl rfl (U0 rfl (ag 0 rfl (Uc (us:=[_,_]) rfl rfl ko rfl qI (jE.aY (i:=1) rfl ⟨rfl,rfl,trivial⟩)) (ar 1 2 rfl rfl rfl (Uo (i:=4) (us:=[_,_]) (l':=[_,_]) (H':=[_,_,_,_,_]) rfl rfl jE rfl rfl rfl rfl qI rfl (py (jE.one (i:=3) rfl) (py (jE.one (i:=0) rfl) rfl)) rfl rfl ?_)))))))
       intro w21 S39;clear jE
       refine U3 rfl (ah [4] rfl (U2 ?_))
       obtain⟨M5,mN,yb,⟨A1,c1,e1,hr1⟩⟩:=S39.gW (i:=3) (H':=[_,_,_,_,_]) rfl rfl (by show _*8<=_;first|omega|(simp only[ls];omega))
       clear S39;subst e1
       replace aH:=aH.mono (Hp.U6 mN yb.mx)
       replace hsc:=hsc.mono (Hp.U6 mN yb.mx)
       replace hsi:=hsi.mono (Hp.U6 mN yb.mx)
       replace aM:=aM.mono (Hp.U6 mN yb.mx)
       replace hcb:=hcb.mono (Hp.U6 mN yb.mx)
       obtain⟨M6,iR,ya,⟨A2,c2,e2,hr2⟩⟩:=yb.gW (i:=0) (H':=[_,_,_,_,_]) rfl rfl (by show _*8<=_;first|omega|(simp only[ls];omega))
       clear yb;subst e2
       replace aH:=aH.mono (Hp.U6 iR ya.mx)
       replace hsc:=hsc.mono (Hp.U6 iR ya.mx)
       replace hsi:=hsi.mono (Hp.U6 iR ya.mx)
       replace aM:=aM.mono (Hp.U6 iR ya.mx)
       replace hcb:=hcb.mono (Hp.U6 iR ya.mx)
       replace hr1:=hr1.mono iR
       refine Us hC [_] rfl rfl ⟨⟨_,rfl,oa (us:=[_,_]) ko rfl qI (ya.aY (i:=4) rfl ⟨rfl,rfl,trivial⟩)⟩,trivial⟩ ?_
       refine⟨_,rfl,_,mN.trans iR,(ya.pick [] [] (by decide) trivial),?_⟩
       have e9:a=(2*d.ae.length+1):=by omega
       have e8:rs=dG d s:=by rw[hrs,e9];rfl
       subst hwc
       subst e8
       exact⟨_,_,_,_,rfl,hr1,hr2⟩
end Go.Proofs.YthppkofceancjaaGreat
