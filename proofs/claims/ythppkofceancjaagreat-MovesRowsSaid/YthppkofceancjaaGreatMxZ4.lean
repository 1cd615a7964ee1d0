/- Part 4 of the proof of the law MovesRows: the walks through its functions and the plain laws that they need. -/
import Derived.Test.YthppkofceancjaaGreatMxZ3
set_option linter.unusedSimpArgs false
set_option linter.unusedVariables false
noncomputable section
namespace Go.Proofs.YthppkofceancjaaGreat
open Go.ChangeShapes Go.WideShapes Go.ChangeAt Go.RowKit
theorem SH.amg{w:World}{M:Hp}{X:Fr}{H H':List Rs}{i g:Nat}{T:TypeId}{l:List Value}(S:SH w M X H)(hi:nth H i=some (Rs.box g T l))(hH:H.set i Rs.emp=H'):∃M',M.le M'/\SH w M' X H'/\cM M' g T l:=by
 obtain⟨h1,h2,h3⟩:=S.OA hi hH
 refine⟨_,h1,h2,?_⟩
 show(M.put w _) g=_
 rw[h3 g (by simp[Rs.box])]
 exact S.get hi
theorem Gl:pU Tryz.prog 26 (fun x=>Value.agg (bW.f x).toArray):=abL xR (fun x y=>⟨x.a=y.a/\x.b=y.b,⟨_,_,_,_,rfl,rfl,⟨_,_,rfl,rfl,rfl⟩,rfl⟩,⟨fun h=>by cases x;cases y;simp at h;simp[h],fun h=>by rw[h];exact⟨rfl,rfl⟩⟩⟩) (fun k=>by simp[Instr.sameBits,bW,vX])
def dA(c:Nat):Da:=⟨((c/2:Nat):Int),decide (c%2=1)⟩
def sM(k:Nat):Da:=dA (k+2)
def yn(k:Nat):Value:=.agg (vX (sM k)).toArray
def ajR(g:Nat)(u:Value)(M:Hp):Prop:=∃b,u=.func (.func 164) #[] [.pointer (some ⟨b,0,none⟩)].toArray/\cM M b 64 [.pointer (some ⟨g,0,none⟩)]
theorem aiE(a i:Nat)(hi:i<2):(Value.agg [.int .i64 ((a:Int)+1),.bool (ga [false,true] i)].toArray)=yn (2*a+i):=by
 have e:i=0\/i=1:=by omega
 unfold yn sM dA
 rcases e with rfl|rfl
 ·rw[show(2*a+0+2)/2=a+1 by omega,show(2*a+0+2)%2=0 by omega];rfl
 ·rw[show(2*a+1+2)/2=a+1 by omega,show(2*a+1+2)%2=1 by omega];rfl
noncomputable def ZT:=Tryz.f107.body.getD .skip
def Z1z:=cL ZT
def ZR:=cR ZT
def Z21:=cL ZR
def Z22:=cR ZR
set_option maxRecDepth 10000 in
theorem aiV{w:World}{M:Hp}{X:Fr}(d:Dg){bH:Nat}{cA iA oA:Option Addr}{cc ic oc:Nat}(br:cM (M.un X.h) bH 70 [.slice cA d.ae.length cc,.int .i64 d.loops,.slice iA (aw d false (4*d.ae.length)).length ic,.slice oA (aw d true (4*d.ae.length)).length oc])(hsc:aF aG (M.un X.h) cA cc d.ae)(hsi:aF bp (M.un X.h) iA ic (aw d false (4*d.ae.length)))(aK:aF bp (M.un X.h) oA oc (aw d true (4*d.ae.length)))(S:SH w M X []):Ct Tryz.prog 107 [.pointer (some ⟨bH,0,none⟩)] w M X (ajR bH):=by
 unfold Ct
 refine Up (b:=ZT) Tryz.func107 rfl Tryz.ntmps107 rfl (fun C hC=>?_)
 refine bq [(0,_)] ⟨rfl,trivial⟩ ?_
 refine U2 Z1z ZR rfl rfl rfl ?_
 refine U0 rfl ?_
 refine Us (k:=0) (k':=1) rfl rfl rfl (bA (l:=[_]) rfl rfl rfl rfl rfl S ?_)
 intro aI w1 S1;clear S
 refine Us (k:=1) (k':=2) rfl rfl rfl (Ub rfl rfl (run_assign rfl rfl) ?_)
 refine U5 rfl ?_
 refine bL [(1,_)] ⟨rfl,trivial⟩ ?_
 refine U3 ?_
 refine U2 Z21 Z22 rfl rfl rfl ?_
 refine U0 rfl ?_
 refine Us (k:=0) (k':=1) rfl rfl rfl (Ub rfl rfl (uu (vs:=[_]) rfl rfl rfl rfl) ?_)
 refine Us (k:=1) (k':=2) rfl rfl rfl (Ub rfl rfl (run_assign rfl rfl) ?_)
 refine U5 rfl ?_
 refine bL [(2,_)] ⟨rfl,trivial⟩ ?_
 refine U3 ?_
 obtain⟨M1,aL,S2,GZ⟩:=S1.amg (i:=0) (H':=[_]) rfl rfl
 clear S1
 replace br:=br.mono (Hp.Ua aL S2.mx)
 replace hsc:=hsc.mono (Hp.Ua aL S2.mx)
 replace hsi:=hsi.mono (Hp.Ua aL S2.mx)
 replace aK:=aK.mono (Hp.Ua aL S2.mx)
 refine Uj hC [_] rfl rfl ⟨rfl,trivial⟩ ?_
 refine⟨_,rfl,_,aL,(S2.pick [] [] (by decide) trivial),?_⟩
 exact⟨_,rfl,GZ⟩
namespace InF
noncomputable def ZQ:=Tryz.f164.body.getD .skip
def Z24:=cL ZQ
def Z25:=cR ZQ
def Z26:=cL Z25
def ZP:=cL Z26
def ZO:=cL ZP
def ZN:=cR ZP
def Z2a:=cL ZO
def ZM:=cR ZO
def Z2c:=cL ZM
def Z2d:=cR ZM
def Z2e:=cL ZN
def Z2f:=cR ZN
def ZL:=cL Z2e
def Z2h:=cL ZL
def Z2i:=cR ZL
def Z2j:=cL Z2i
def ZK:=cL Z2j
def Z2l:=cL ZK
def ZJ:=cR ZK
def ZI:=cL ZJ
def ZH:=cR ZJ
def Z2p:=cL ZI
def Z2q:=cR ZI
def Z2r:=cL ZH
def Z2s:=cR ZH
def ZG:=cL Z2r
def Z2u:=cL ZG
def ZF:=cR ZG
def Z2w:=cL ZF
def Z2x:=cR ZF
def Z2y:=cR Z2x
set_option maxRecDepth 10000 in
theorem agm{M:Hp}{X:Fr}(d:Dg){bH:Nat}{cA iA oA:Option Addr}{cc ic oc:Nat}{b:Nat}(br:cM (M.un X.h) bH 70 [.slice cA d.ae.length cc,.int .i64 d.loops,.slice iA (aw d false (4*d.ae.length)).length ic,.slice oA (aw d true (4*d.ae.length)).length oc])(hsc:aF aG (M.un X.h) cA cc d.ae)(hsi:aF bp (M.un X.h) iA ic (aw d false (4*d.ae.length)))(aK:aF bp (M.un X.h) oA oc (aw d true (4*d.ae.length)))(ja:cM M b 64 [.pointer (some ⟨bH,0,none⟩)])(hn:d.ae.length<=16):Iter Tryz.prog 164 [.pointer (some ⟨b,0,none⟩)] yn (4*d.ae.length) M X:=by
 intro l J w M1 B hle0 hY S hJ0
 replace br:=br.mono (Hp.Ua hle0 S.mx)
 replace hsc:=hsc.mono (Hp.Ua hle0 S.mx)
 replace hsi:=hsi.mono (Hp.Ua hle0 S.mx)
 replace aK:=aK.mono (Hp.Ua hle0 S.mx)
 replace ja:=ja.mono hle0
 refine Up (b:=ZQ) Tryz.func164 rfl Tryz.ntmps164 rfl (fun C rE hC=>?_)
 have hCF:C.F=Fence.wide:=by unfold Ctx.F;rw[rE]
 refine bq [(0,_),(1,_)] ⟨rfl,rfl,trivial⟩ ?_
 refine U2 Z24 Z25 rfl rfl rfl ?_
 refine U0 rfl ?_
 refine Us (k:=0) (k':=1) rfl rfl rfl (Ub rfl rfl (run_assign rfl rfl) ?_)
 refine U5 rfl ?_
 refine U3 ?_
 refine Uc Z26 0 rfl rfl rfl ?_
 refine Uz (fun aS au aM=>∃(a:Nat) (B1:Rs) (M2:Hp),M1.le M2/\aS=2*d.ae.length-a/\Env 23 [(0,.func (.yield l) #[] #[]),(1,.pointer (some ⟨b,0,none⟩)),(3,.int .i64 ((a:Int)+1))] au/\SH aM M2 X [B1]/\a<=2*d.ae.length/\J (2*a) M2 B1) rfl ?_ ?_
 ·intro au aq
  refine⟨_,⟨0,_,_,Hp.le_refl _,rfl,aq.sub ⟨rfl,rfl,rfl,trivial⟩,S.pick [0] [_] (by decide) ⟨rfl,trivial⟩,?cd,?cT⟩⟩
  case cd=>omega
  case cT=>exact hJ0
 ·rintro m1 a1 w1 ⟨a,B1,M2,aL,rfl,bh,S1,ha,hJa⟩
  clear S
  refine b7 bh (c:=ZP) rfl ?_
  clear bh a1
  replace br:=br.mono (Hp.Ua aL S1.mx)
  replace hsc:=hsc.mono (Hp.Ua aL S1.mx)
  replace hsi:=hsi.mono (Hp.Ua aL S1.mx)
  replace aK:=aK.mono (Hp.Ua aL S1.mx)
  replace ja:=ja.mono aL
  refine U2 ZO ZN rfl rfl rfl ?_
  refine U2 Z2a ZM rfl rfl rfl ?_
  refine U0 rfl ?_
  refine Us (k:=0) (k':=1) rfl rfl rfl (Ub rfl rfl (run_move rfl rfl) ?_)
  refine Us (k:=1) (k':=2) rfl rfl rfl (Ub rfl rfl (U4 rfl rfl cE rfl (ja.cell S1.m rfl)) ?_)
  refine Us (k:=2) (k':=3) rfl rfl rfl (cC rfl rfl rfl rfl rfl rfl rfl qO S1 (qD d (br.mono S1.Uw) (hsc.mono S1.Uw) (hsi.mono S1.Uw) (aK.mono S1.Uw) (by omega) S1.aD) ?_)
  rintro _ w2 S2 rfl;clear S1
  refine Us (k:=3) (k':=4) rfl rfl rfl (Ub rfl rfl (oI rfl rfl rfl) ?_)
  refine U5 rfl ?_
  refine bL [(0,_),(1,_),(3,_),(9,_)] ⟨rfl,rfl,rfl,rfl,trivial⟩ ?_
  refine U3 ?_
  refine cS Z2c Z2d rfl rfl rfl rfl (fun jb=>?_) (fun jb=>?_)
  ·replace jb:=of_decide_eq_true jb
   refine Uf rfl ?_
   refine bL [(0,_),(1,_),(3,_)] ⟨rfl,rfl,rfl,trivial⟩ ?_
   refine U3 ?_
   refine U2 Z2e Z2f rfl rfl rfl ?_
   refine Uc ZL 1 rfl rfl rfl ?_
   refine U2 Z2h Z2i rfl rfl rfl ?_
   refine U0 rfl ?_
   refine Us (k:=0) (k':=1) rfl rfl rfl (Ub rfl rfl (jf (l:=[_,_]) (pl:=[(0,1),(1,1)]) rfl rfl acu ajT vQ rfl rfl rfl) ?_)
   refine Us (k:=1) (k':=2) rfl rfl rfl (Ub rfl rfl (run_move rfl rfl) ?_)
   refine U5 rfl ?_
   refine U3 ?_
   refine Uc Z2j 2 rfl rfl rfl ?_
   refine Uz (fun aS au aM=>∃(i:Nat) (B2:Rs) (M3:Hp),M2.le M3/\aS=2-i/\Env 23 [(0,.func (.yield l) #[] #[]),(1,.pointer (some ⟨b,0,none⟩)),(3,.int .i64 ((a:Int)+1)),(12,.agg [.bool false,.bool true].toArray),(13,.int .i64 (i:Int))] au/\SH aM M3 X [B2]/\i<=2/\J (2*a+i) M3 B2) rfl ?_ ?_
   ·intro au aq
    refine⟨_,⟨0,_,_,Hp.le_refl _,rfl,aq.sub ⟨rfl,rfl,rfl,rfl,rfl,trivial⟩,S2.pick [0] [_] (by decide) ⟨rfl,trivial⟩,?cu,?cY⟩⟩
    case cu=>omega
    case cY=>exact hJa
   ·rintro m2 a2 w3 ⟨i,B2,M3,hle2,rfl,cx,S3,hi,hJi⟩
    clear S2
    refine b7 cx (c:=ZK) rfl ?_
    clear cx a2
    replace br:=br.mono (Hp.Ua hle2 S3.mx)
    replace hsc:=hsc.mono (Hp.Ua hle2 S3.mx)
    replace hsi:=hsi.mono (Hp.Ua hle2 S3.mx)
    replace aK:=aK.mono (Hp.Ua hle2 S3.mx)
    replace ja:=ja.mono hle2
    refine U2 Z2l ZJ rfl rfl rfl ?_
    refine U0 rfl ?_
    refine Us (k:=0) (k':=1) rfl rfl rfl (Ub rfl rfl (bV rfl rfl rfl) ?_)
    refine U5 rfl ?_
    refine U3 ?_
    refine U2 ZI ZH rfl rfl rfl ?_
    refine cS Z2p Z2q rfl rfl rfl rfl (fun gD=>?_) (fun gD=>?_)
    ·replace gD:=of_decide_eq_true gD
     refine Uf rfl ?_
     refine bL [(0,_),(1,_),(3,_),(12,_),(13,_)] ⟨rfl,rfl,rfl,rfl,rfl,trivial⟩ ?_
     refine U3 ?_
     refine U2 Z2r Z2s rfl rfl rfl ?_
     refine Uc ZG 3 rfl rfl rfl ?_
     refine U2 Z2u ZF rfl rfl rfl ?_
     refine U0 rfl ?_
     refine Us (k:=0) (k':=1) rfl rfl rfl (Ub rfl rfl (wy (e:=i) rfl rfl rfl acu dh rfl vQ (by first|rfl|omega) (by first|omega|(simp only[ls];omega)) (aje [false,true] i (by simp;first|omega|(simp only[ls];omega)))) ?_)
     refine Us (k:=1) (k':=2) rfl rfl rfl (Ub rfl rfl (run_assign rfl rfl) ?_)
     refine U5 rfl ?_
     refine bL [(0,_),(1,_),(3,_),(12,_),(13,_),(5,_)] ⟨rfl,rfl,rfl,rfl,rfl,rfl,trivial⟩ ?_
     refine U3 ?_
     refine U2 Z2w Z2x rfl rfl rfl ?_
     refine U0 rfl ?_
     refine Us (k:=0) (k':=1) rfl rfl rfl (Ub rfl rfl (run_move rfl rfl) ?_)
     refine Us (k:=1) (k':=2) rfl rfl rfl (Ub rfl rfl (run_move rfl rfl) ?_)
     refine Us (k:=2) (k':=3) rfl rfl rfl (Ub rfl rfl (run_move rfl rfl) ?_)
     refine Us (k:=3) (k':=4) rfl rfl rfl (Ub rfl rfl (run_build (l:=[_,_]) rfl rfl xQ rfl rfl) ?_)
     have adq:2*a+i<4*d.ae.length:=by omega
     refine ahg (k:=4) (k':=5) rfl rfl rfl rfl rfl rfl rfl rfl rfl rfl (by rw[hCF];have h9:=hY (2*a+i) _ _ _ (by omega) (aL.trans hle2) S3 hJi;rw[<-aiE a i (by omega)]at h9;exact h9) ?_
     rintro _ w4 ⟨rfl,M4,B6,dw,S4,hJ1⟩;clear S3
     replace br:=br.mono (Hp.Ua dw S4.mx)
     replace hsc:=hsc.mono (Hp.Ua dw S4.mx)
     replace hsi:=hsi.mono (Hp.Ua dw S4.mx)
     replace aK:=aK.mono (Hp.Ua dw S4.mx)
     replace ja:=ja.mono dw
     refine Us (k:=5) (k':=6) rfl rfl rfl (Ub rfl rfl (dE rfl rfl) ?_)
     refine U5 rfl ?_
     refine bL [(0,_),(1,_),(3,_),(12,_),(13,_),(21,_)] ⟨rfl,rfl,rfl,rfl,rfl,rfl,trivial⟩ ?_
     refine U3 ?_
     refine lK Z2y rfl rfl rfl ?_
     refine Uf rfl ?_
     refine bk ?_
     refine bL [(0,_),(1,_),(3,_),(12,_),(13,_)] ⟨rfl,rfl,rfl,rfl,rfl,trivial⟩ ?_
     refine U3 ?_
     refine U0 rfl ?_
     refine Us (k:=0) (k':=1) rfl rfl rfl (Ub rfl rfl (Ug rfl rfl rfl (by first|omega|(simp only[ls];omega))) ?_)
     refine Us (k:=1) (k':=2) rfl rfl rfl (Ub rfl rfl (run_move rfl rfl) ?_)
     refine U5 rfl ?_
     refine aP ?_
     intro au aq
     refine⟨_,?kC,⟨i+1,_,_,(hle2.trans dw),rfl,aq.sub ⟨rfl,rfl,rfl,rfl,rfl,trivial⟩,S4.pick [0] [_] (by decide) ⟨rfl,trivial⟩,?dO,?gh⟩⟩
     case dO=>omega
     case gh=>first|assumption|(rw[show 2*a+(i+1)=2*a+i+1 by omega];assumption)
     case kC=>omega
    ·replace gD:=of_decide_eq_false gD
     refine bS rfl rfl ?_
     refine bk ?_
     refine bL [(0,_),(1,_),(3,_)] ⟨rfl,rfl,rfl,trivial⟩ ?_
     refine U3 ?_
     refine U0 rfl ?_
     refine Us (k:=0) (k':=1) rfl rfl rfl (Ub rfl rfl (run_move rfl rfl) ?_)
     refine Us (k:=1) (k':=2) rfl rfl rfl (Ub rfl rfl (Ug rfl rfl rfl (by first|omega|(simp only[ls];omega))) ?_)
     refine Us (k:=2) (k':=3) rfl rfl rfl (Ub rfl rfl (run_assign rfl rfl) ?_)
     refine U5 rfl ?_
     refine aP ?_
     intro au aq
     refine⟨_,?jG,⟨a+1,_,_,(aL.trans hle2),rfl,aq.sub ⟨rfl,rfl,rfl,trivial⟩,S3.pick [0] [_] (by decide) ⟨rfl,trivial⟩,?eU,?gQ⟩⟩
     case eU=>omega
     case gQ=>(rw[show 2*(a+1)=2*a+i by omega];exact hJi)
     case jG=>omega
  ·replace jb:=of_decide_eq_false jb
   refine bS rfl rfl ?_
   refine gI hC [] rfl trivial ?_
   refine⟨⟨_,rfl⟩,_,_,aL,S2,?_⟩
   rw[show 4*d.ae.length=2*a by omega]
   exact hJa
end InF
end Go.Proofs.YthppkofceancjaaGreat
namespace Go.Proofs.YthppkofceancjaaGreat
open Go.RowKit
def free(seen:List Bool):Nat:=seen.countP (fun b=>!b)
theorem mW{seen:List Bool}{x:Nat}(h:x<seen.length)(hx:ga seen x=false):free (seen.set x true)+1=free seen:=by
 induction seen generalizing x with
 |nil=>simp at h
 |cons b seen ih=>
  cases x with
  |zero=>
   have:b=false:=by simpa[ga]using hx
   subst this
   simp[free]
  |succ x=>
   have h1:ga (b::seen) (x+1)=ga seen x:=by simp[ga]
   rw[h1]at hx
   have h2:=ih (by simpa using h) hx
   unfold free at*
   rw[List.set_cons_succ,List.countP_cons,List.countP_cons]
   omega
def eY(nx:Nat->Nat)(seen:List Bool)(x:Nat)(acc:List Int):List Bool×List Int:=
 if _h:x<seen.length/\ga seen x=false then eY nx (seen.set x true) (nx x) (acc++[(x:Int)])else(seen,acc)
termination_by free seen
decreasing_by have := mW _h.1 _h.2; omega
theorem rP{nx:Nat->Nat}{seen:List Bool}{x:Nat}{acc:List Int}(h:x<seen.length)(hx:ga seen x=false):eY nx seen x acc=eY nx (seen.set x true) (nx x) (acc++[(x:Int)]):=by
 rw[eY];simp[h,hx]
theorem D4{nx:Nat->Nat}{seen:List Bool}{x:Nat}{acc:List Int}(hx:ga seen x=true):eY nx seen x acc=(seen,acc):=by
 rw[eY];simp[hx]
theorem agQ(nx:Nat->Nat)(seen:List Bool)(x:Nat)(acc:List Int):(eY nx seen x acc).1.length=seen.length:=by
 induction hk:free seen using Nat.strongRecOn generalizing seen x acc with
 |_ k ih=>
  by_cases h:x<seen.length/\ga seen x=false
  ·rw[rP h.1 h.2]
   have:=mW h.1 h.2
   rw[ih (free (seen.set x true)) (by omega) _ _ _ rfl,List.length_set]
  ·rw[eY];simp[h]
end Go.Proofs.YthppkofceancjaaGreat
namespace Go.Proofs.YthppkofceancjaaGreat
open Go.ChangeShapes Go.WideShapes Go.ChangeAt Go.RowKit
def mq(x:Da):Nat:=(2*x.a+(if x.b=true then 1 else 0)).toNat
theorem ajE{x:Da}(h:0<=x.a):dA (mq x)=x:=by
 obtain⟨a,b⟩:=x
 simp only at h
 unfold dA mq
 cases b
 ·simp only[Bool.false_eq_true,if_false,Int.add_zero]
  congr 1
  ·omega
  ·rw[decide_eq_false_iff_not];omega
 ·simp only[if_true]
  congr 1
  ·omega
  ·rw[decide_eq_true_iff];omega
theorem AG(c:Nat):mq (dA c)=c:=by
 unfold mq dA
 by_cases h:c%2=1
 ·simp only[h,decide_true,if_true];omega
 ·simp only[h,decide_false,Bool.false_eq_true,if_false];omega
theorem acm{c e:Nat}(h:dA c=dA e):c=e:=by rw[<-AG c,h,AG]
theorem od{d:Dg}{c:Nat}(h:2<=c/\c<4*d.ae.length+2):okD d (dA c):=by
 show 1<=((c/2:Nat):Int)/\((c/2:Nat):Int)<=2*(d.ae.length:Int)
 omega
def dN(d:Dg)(c:Nat):Nat:=mq (jU d (dA c))
theorem aiD{d:Dg}{x:Da}(h:okD d x):2<=mq x/\mq x<4*d.ae.length+2:=by
 unfold okD at h
 unfold mq
 split<;>omega
theorem Ap{d:Dg}(hab:aX d=true){c:Nat}(h:2<=c/\c<4*d.ae.length+2):2<=dN d c/\dN d c<4*d.ae.length+2:=aiD (abf hab (od h))
theorem xw{d:Dg}(hab:aX d=true){c:Nat}(h:2<=c/\c<4*d.ae.length+2):dA (dN d c)=jU d (dA c):=ajE (by have:=abf hab (od h);unfold okD at this;omega)
def dQ(d:Dg):Nat->List Bool×List (List Int)
 |0=>(List.replicate (4*d.ae.length+2) false,[])
 |k+1=>
  let s:=dQ d k
  if ga s.1 (k+2)=true then s else((eY (dN d) s.1 (k+2) []).1,s.2++[(eY (dN d) s.1 (k+2) []).2])
theorem rT{d:Dg}{k:Nat}{s:List Bool×List (List Int)}(h:dQ d k=s)(hg:ga s.1 (k+2)=true):dQ d (k+1)=s:=by
 subst h
 show(if _ then _ else _)=_
 rw[if_pos hg]
theorem rS{d:Dg}{k:Nat}{s:List Bool×List (List Int)}{r:List Bool×List Int}(h:dQ d k=s)(hg:ga s.1 (k+2)=false)(hr:eY (dN d) s.1 (k+2) []=r):dQ d (k+1)=(r.1,s.2++[r.2]):=by
 subst h;subst hr
 show(if _ then _ else _)=_
 rw[if_neg (by rw[hg];exact Bool.false_ne_true)]
theorem zE(d:Dg)(k:Nat):(dQ d k).1.length=4*d.ae.length+2:=by
 induction k with
 |zero=>simp[dQ]
 |succ k ih=>
  cases hg:ga (dQ d k).1 (k+2)with
  |true=>rw[rT rfl hg];exact ih
  |false=>rw[rS rfl hg rfl,agQ];exact ih
theorem zM(d:Dg)(k:Nat):(dQ d k).2.length<=k:=by
 induction k with
 |zero=>simp[dQ]
 |succ k ih=>
  cases hg:ga (dQ d k).1 (k+2)with
  |true=>rw[rT rfl hg];omega
  |false=>rw[rS rfl hg rfl];simp;omega
def ik(r:List Int):List Da:=r.map fun c=>dA c.toNat
theorem aaV(r:List Int)(c:Nat):ik (r++[(c:Int)])=ik r++[dA c]:=by unfold ik;rw[List.map_append];rfl
def uM(d:Dg)(k:Nat):List (List Da):=(dQ d k).2.map ik
def U6(d:Dg):List (List Da):=uM d (4*d.ae.length)
def qP(d:Dg)(es:List (Da×Bool))(seen:List Bool):Prop:=∀c,2<=c->c<4*d.ae.length+2->(mg (dA c) es).getD false=ga seen c
theorem qP.dW(d:Dg):qP d [] (List.replicate (4*d.ae.length+2) false):=fun c _ hc=>by rw[uL _ _ _ hc];rfl
theorem qP.put{d:Dg}{es:List (Da×Bool)}{seen:List Bool}(h:qP d es seen){c:Nat}(hc:c<seen.length):qP d (mp (dA c) true es) (seen.set c true):=fun e h1 h2=>by
 rw[AW,dV _ _ _ _ hc]
 by_cases he:c=e
 ·subst he;rw[if_pos rfl,if_pos rfl];rfl
 ·rw[if_neg (fun e'=>he (acm e').symm),if_neg he];exact h e h1 h2
def rfA:Code->Code
 |.rangeFunc _ _ a _=>a
 |c=>c
def Dj:Code->Code
 |.rangeFunc _ _ _ b=>b
 |c=>c
def AL(d:Dg)(bH g1 g3 g4 gm k:Nat)(M:Hp)(H:List Rs):Prop:=∃es vs adj seen iC,
 H=[Rs.mp (fun x=>Value.agg (bW.f x).toArray) Value.bool gm es,Rs.box g4 65 [adj],Rs.row (cB 141) adj vs,Rs.box g3 192 [.map (some gm)],Rs.box g1 64 [.pointer (some ⟨bH,0,none⟩)]]/\ez bW M vs (iC.map ik)/\dQ d k=(seen,iC)/\qP d es seen
def EJ(d:Dg)(bH g1 g3 g4 gm k:Nat)(a:Act)(M:Hp)(H:List Rs):Prop:=∃g5 H',Env 35 [(1,.pointer (some ⟨g1,0,none⟩)),(3,.pointer (some ⟨g3,0,none⟩)),(4,.pointer (some ⟨g4,0,none⟩)),(5,.pointer (some ⟨g5,0,none⟩))] a/\H=Rs.box g5 26 [.int .i64 (sM k).a,.bool (sM k).b]::H'/\AL d bH g1 g3 g4 gm k M H'
noncomputable def uC:Code:=cL (cR (cL (cR (cR (cR (Tryz.f66.body.getD .skip))))))
namespace InF
set_option maxRecDepth 10000 in
theorem af7{w:World}{M:Hp}{X:Fr}{d:Dg}{bH rH rG rF gm k:Nat}{C:Ctx}{R0:Rs}{H:List Rs}{L:List (Nat×Value)}(hL:Sub L [(1,.pointer (some ⟨rH,0,none⟩)),(3,.pointer (some ⟨rG,0,none⟩)),(4,.pointer (some ⟨rF,0,none⟩)),(11,yn k)])(S:SH w M X (R0::H))(hI:AL d bH rH rG rF gm k M H):
  WS Tryz.prog 35 C (rfA uC) [.lp (fun a w2=>∃M2 H2,M.le M2/\SH w2 M2 X (R0::H2)/\EJ d bH rH rG rF gm k a M2 H2)] L w:=by
 obtain⟨es,vs,su,seen,iC,rfl,eQ,hfn,ow⟩:=hI
 change SH w M X [R0,Rs.mp (fun x=>Value.agg (bW.f x).toArray) Value.bool gm es,_,Rs.row (cB 141) su vs,_,_]at S
 refine bq _ hL ?_
 refine U0 rfl ?_
 refine Us (k:=0) (k':=1) rfl rfl rfl (Uh (l:=[_,_]) rfl rfl rfl mH rfl S ?_)
 intro aI w1 S1;clear S
 refine Us (k:=1) (k':=2) rfl rfl rfl (U7 (i:=0) (us:=[_,_]) (l':=[_,_]) (H':=[_,_,_,_,_,_,_]) rfl rfl S1 rfl rfl rfl rfl cg rfl rfl rfl rfl ?_)
 intro w2 S2;clear S1
 refine U5 rfl ?_
 refine aP ?_
 intro au aq
 exact⟨M,_,Hp.le_refl _,S2.pick [1,0,2,3,4,5,6] [_,_,_,_,_,_,_] (by decide) ⟨rfl,rfl,rfl,rfl,rfl,rfl,rfl,trivial⟩,_,_,aq.sub ⟨rfl,rfl,rfl,rfl,trivial⟩,rfl,es,vs,su,seen,iC,rfl,eQ,hfn,ow⟩
def Z2z:=Dj uC
def ZE:=cL Z2z
def ZC:=cL ZE
def ZB:=cR ZE
def Z33:=cL ZC
def ZA:=cR ZC
def Z35:=cL ZA
def Z36:=cR ZA
def Z37:=cL ZB
def Y8:=cR ZB
def Y7:=cL Y8
def Z3a:=cR Y8
def Z3b:=cL Y7
def Z3c:=cR Y7
def Z3d:=cL Z3c
def Y6:=cL Z3d
def Y5:=cL Y6
def Y4:=cR Y6
def Z3h:=cL Y5
def Y3:=cR Y5
def Z3j:=cL Y3
def Z3k:=cR Y3
def Z3l:=cL Y4
def Y2:=cR Y4
def Y1:=cL Z3l
def Z3o:=cL Y1
def Z3p:=cR Y1
def Y0:=cL Y2
def Z3r:=cR Y2
def Z3s:=cL Y0
def Z3t:=cR Y0
set_option maxHeartbeats 1000000 in
set_option maxRecDepth 10000 in
theorem agH{w:World}{M:Hp}{X:Fr}(d:Dg){bH rH rG rF gm k:Nat}{cA iA oA:Option Addr}{cc ic oc:Nat}(br:cM (M.un X.h) bH 70 [.slice cA d.ae.length cc,.int .i64 d.loops,.slice iA (aw d false (4*d.ae.length)).length ic,.slice oA (aw d true (4*d.ae.length)).length oc])(hsc:aF aG (M.un X.h) cA cc d.ae)(hsi:aF bp (M.un X.h) iA ic (aw d false (4*d.ae.length)))(aK:aF bp (M.un X.h) oA oc (aw d true (4*d.ae.length)))(hn:d.ae.length<=16)(hab:aX d=true)(hk:k<4*d.ae.length){C:Ctx}{R0:Rs}{H:List Rs}{a:Act}(S:SH w M X (R0::H))(zy:EJ d bH rH rG rF gm k a M H):
  (Dj uC).wpIn C.F 0 Tryz.prog (post Tryz.prog C [.lp (fun _ w2=>∃M2 H2,M.le M2/\SH w2 M2 X (R0::H2)/\AL d bH rH rG rF gm (k+1) M2 H2)]) a w:=by
 obtain⟨gq5,H1,ha,rfl,es,vs,su,seen,iC,rfl,eQ,hfn,ow⟩:=zy
 change SH w M X [R0,Rs.box gq5 _ _,Rs.mp (fun x=>Value.agg (bW.f x).toArray) Value.bool gm es,_,Rs.row (cB 141) su vs,_,_]at S
 have hdn:okD d (sM k):=od (by omega)
 have hvs:=eQ.1
 have kv:=zM d k
 rw[hfn]at kv
 replace kv:iC.length<=k:=kv
 rw[List.length_map]at hvs
 refine b7 ha (c:=Dj uC) rfl ?_
 refine Uc ZE 1 rfl rfl rfl ?_
 refine U2 ZC ZB rfl rfl rfl ?_
 refine U2 Z33 ZA rfl rfl rfl ?_
 refine U0 rfl ?_
 refine Us (k:=0) (k':=1) rfl rfl rfl (Ub rfl rfl (U4 rfl rfl uP rfl (S.ar (i:=5) rfl rfl)) ?_)
 refine Us (k:=1) (k':=2) rfl rfl rfl (Ub rfl rfl (U8 (us:=[_,_]) rfl rfl aZ rfl cg (S.ax (i:=1) rfl ⟨rfl,rfl,trivial⟩)) ?_)
 refine Us (k:=2) (k':=3) rfl rfl rfl (Ub rfl rfl (wz (kc:=(fun x=>Value.agg (bW.f x).toArray)) (vc:=Value.bool) (es:=es) (k:=(sM k)) (zv:=false) (i:=2) rfl rfl rfl uP Gl NZ S rfl) ?_)
 refine U5 rfl ?_
 refine bL [(1,_),(3,_),(4,_),(5,_),(14,_)] ⟨rfl,rfl,rfl,rfl,rfl,trivial⟩ ?_
 refine U3 ?_
 refine cS Z35 Z36 rfl rfl rfl rfl (fun gD=>?_) (fun gD=>?_)
 ·refine bS rfl rfl ?_
  refine aP ?_
  intro au aq
  exact⟨_,_,Hp.le_refl _,S.pick [0,2,3,4,5,6] [_,_,_,_,_,_] (by decide) ⟨rfl,rfl,rfl,rfl,rfl,rfl,trivial⟩,es,vs,su,seen,iC,rfl,eQ,rT hfn (by rw[<-ow (k+2) (by omega) (by omega)];exact gD),ow⟩
 ·refine Uf rfl ?_
  refine bL [(1,_),(3,_),(4,_),(5,_)] ⟨rfl,rfl,rfl,rfl,trivial⟩ ?_
  refine U3 ?_
  refine U2 Z37 Y8 rfl rfl rfl ?_
  refine U0 rfl ?_
  refine Us (k:=0) (k':=1) rfl rfl rfl (Ub rfl rfl (run_assign rfl rfl) ?_)
  refine U5 rfl ?_
  refine U3 ?_
  refine U2 Y7 Z3a rfl rfl rfl ?_
  refine U2 Z3b Z3c rfl rfl rfl ?_
  refine U0 rfl ?_
  refine Us (k:=0) (k':=1) rfl rfl rfl (Ub rfl rfl (U8 (us:=[_,_]) rfl rfl aZ rfl cg (S.ax (i:=1) rfl ⟨rfl,rfl,trivial⟩)) ?_)
  refine Us (k:=1) (k':=2) rfl rfl rfl (Uh (l:=[_,_]) rfl rfl rfl mH rfl S ?_)
  intro aI w1 S1;clear S
  refine Us (k:=2) (k':=3) rfl rfl rfl (U7 (i:=0) (us:=[_,_]) (l':=[_,_]) (H':=[_,_,_,_,_,_,_,_]) rfl rfl S1 rfl rfl rfl rfl cg rfl rfl rfl rfl ?_)
  intro w2 S2;clear S1
  refine U5 rfl ?_
  refine bL [(1,_),(3,_),(4,_),(6,_),(7,_)] ⟨rfl,rfl,rfl,rfl,rfl,trivial⟩ ?_
  refine U3 ?_
  refine Uc Z3d 2 rfl rfl rfl ?_
  have S3:=S2.np bW;clear S2
  refine Uz (fun aS au aM=>∃(oF:List (Da×Bool)) (fy:List Bool) (x:Nat) (y:Da) (acc:List Int) (kX:List Da) (sw:Value) (uh:Nat),aS=free fy/\Env 35 [(1,.pointer (some ⟨rH,0,none⟩)),(3,.pointer (some ⟨rG,0,none⟩)),(4,.pointer (some ⟨rF,0,none⟩)),(6,sw),(7,.pointer (some ⟨uh,0,none⟩))] au/\SH aM M X [Rs.row bW sw kX,Rs.box uh 26 [.int .i64 y.a,.bool y.b],R0,Rs.mp (fun x=>Value.agg (bW.f x).toArray) Value.bool gm oF,Rs.box rF 65 [su],Rs.row (cB 141) su vs,Rs.box rG 192 [.map (some gm)],Rs.box rH 64 [.pointer (some ⟨bH,0,none⟩)]]/\eY (dN d) seen (k+2) []=eY (dN d) fy x acc/\kX=ik acc/\qP d oF fy/\(2<=x/\x<4*d.ae.length+2)/\fy.length=4*d.ae.length+2/\y=dA x/\acc.length+free fy<=100) rfl ?_ ?_
  ·intro au aq
   refine⟨_,⟨es,seen,k+2,sM k,[],_,_,_,rfl,aq.sub ⟨rfl,rfl,rfl,rfl,rfl,trivial⟩,S3.pick [0,1,2,4,5,6,7,8] [_,_,_,_,_,_,_,_] (by decide) ⟨rfl,rfl,rfl,rfl,rfl,rfl,rfl,rfl,trivial⟩,?cd,?cT,?lS,?FR,?akA,?akz,?aky⟩⟩
   case cd=>rfl
   case cT=>rfl
   case lS=>exact ow
   case FR=>omega
   case akA=>(have h9:=zE d k;rw[hfn]at h9;exact h9)
   case akz=>rfl
   case aky=>(have h9:=zE d k;rw[hfn]at h9;have h8:free seen<=seen.length:=List.countP_le_length;simp only[List.length_nil];simp only at h9;omega)
  ·rintro m1 a1 w3 ⟨oF,fy,x,y,acc,kX,sw,uh,rfl,bh,S4,hrg,sH,Bt,hx,hs2,hy,hroom⟩
   clear S3
   refine b7 bh (c:=Y6) rfl ?_
   clear bh a1
   have hyk:okD d y:=by rw[hy];exact od hx
   have hrl:kX.length=acc.length:=by rw[sH];simp[ik]
   have vS:=Bt x hx.1 hx.2
   refine U2 Y5 Y4 rfl rfl rfl ?_
   refine U2 Z3h Y3 rfl rfl rfl ?_
   refine U0 rfl ?_
   refine Us (k:=0) (k':=1) rfl rfl rfl (Ub rfl rfl (U4 rfl rfl uP rfl (S4.ar (i:=6) rfl rfl)) ?_)
   refine Us (k:=1) (k':=2) rfl rfl rfl (Ub rfl rfl (U8 (us:=[_,_]) rfl rfl aZ rfl cg (S4.ax (i:=1) rfl ⟨rfl,rfl,trivial⟩)) ?_)
   refine Us (k:=2) (k':=3) rfl rfl rfl (Ub rfl rfl (wz (kc:=(fun x=>Value.agg (bW.f x).toArray)) (vc:=Value.bool) (es:=oF) (k:=y) (zv:=false) (i:=3) rfl rfl rfl uP Gl NZ S4 rfl) ?_)
   refine Us (k:=3) (k':=4) rfl rfl rfl (Ub rfl rfl (dE rfl rfl) ?_)
   refine U5 rfl ?_
   refine bL [(1,_),(3,_),(4,_),(6,_),(7,_),(19,_)] ⟨rfl,rfl,rfl,rfl,rfl,rfl,trivial⟩ ?_
   refine U3 ?_
   refine cS Z3j Z3k rfl rfl rfl rfl (fun pK=>?_) (fun pK=>?_)
   ·simp only[Bool.and_eq_true,Bool.or_eq_true,Bool.and_eq_false_iff,Bool.or_eq_false_iff,decide_eq_true_eq,decide_eq_false_iff_not,Bool.not_eq_true',Bool.not_eq_false']at pK
    refine Uf rfl ?_
    refine bL [(1,_),(3,_),(4,_),(6,_),(7,_)] ⟨rfl,rfl,rfl,rfl,rfl,trivial⟩ ?_
    refine U3 ?_
    refine U2 Z3l Y2 rfl rfl rfl ?_
    refine Uc Y1 3 rfl rfl rfl ?_
    refine U2 Z3o Z3p rfl rfl rfl ?_
    refine U0 rfl ?_
    refine Us (k:=0) (k':=1) rfl rfl rfl (Ub rfl rfl (U4 rfl rfl uP rfl (S4.ar (i:=6) rfl rfl)) ?_)
    refine Us (k:=1) (k':=2) rfl rfl rfl (Ub rfl rfl (U8 (us:=[_,_]) rfl rfl aZ rfl cg (S4.ax (i:=1) rfl ⟨rfl,rfl,trivial⟩)) ?_)
    refine Us (k:=2) (k':=3) rfl rfl rfl (mY (kc:=(fun x=>Value.agg (bW.f x).toArray)) (vc:=Value.bool) (es:=oF) (k:=y) (e:=true) (i:=3) (H':=[_,_,_,_,_,_,_,_]) (.inl rfl) rfl S4 rfl rfl rfl rfl uP Gl rfl ?_)
    intro w4 S5;clear S4
    refine U5 rfl ?_
    refine bL [(1,_),(3,_),(4,_),(6,_),(7,_)] ⟨rfl,rfl,rfl,rfl,rfl,trivial⟩ ?_
    refine U3 ?_
    refine U0 rfl ?_
    refine Us (k:=0) (k':=1) rfl rfl rfl (Ub rfl rfl (run_move rfl rfl) ?_)
    refine Us (k:=1) (k':=2) rfl rfl rfl (Ub rfl rfl (U8 (us:=[_,_]) rfl rfl aZ rfl cg (S5.ax (i:=1) rfl ⟨rfl,rfl,trivial⟩)) ?_)
    refine Us (k:=2) (k':=3) rfl rfl rfl (iy (C:=bW) (l:=[_,_]) rfl rfl rfl rfl gM rfl rfl rfl rfl S5 ?_)
    intro aQ w5 S6;clear S5
    refine Us (k:=3) (k':=4) rfl rfl rfl (jg (C:=bW) (i:=1) (q:=0) (⟨y.a,y.b⟩:Da) rfl rfl rfl rfl rfl rfl rfl rfl gM S6 rfl rfl rfl (by show(_+1)*16<=_;first|omega|(simp only[ls];omega)) ?_)
    intro ai2 w6 S7;clear S6
    have S8:=S7.pick [1,2,3,4,5,6,7,8] [_,_,_,_,_,_,_,_] (by decide) ⟨rfl,rfl,rfl,rfl,rfl,rfl,rfl,rfl,trivial⟩;clear S7
    refine Us (k:=4) (k':=5) rfl rfl rfl (Ub rfl rfl (run_assign rfl rfl) ?_)
    refine U5 rfl ?_
    refine bk ?_
    refine bL [(1,_),(3,_),(4,_),(6,_),(7,_)] ⟨rfl,rfl,rfl,rfl,rfl,trivial⟩ ?_
    refine U3 ?_
    refine U2 Y0 Z3r rfl rfl rfl ?_
    refine U2 Z3s Z3t rfl rfl rfl ?_
    refine U0 rfl ?_
    refine Us (k:=0) (k':=1) rfl rfl rfl (Ub rfl rfl (U8 (us:=[_,_]) rfl rfl aZ rfl cg (S8.ax (i:=1) rfl ⟨rfl,rfl,trivial⟩)) ?_)
    refine U5 rfl ?_
    refine bL [(1,_),(3,_),(4,_),(6,_),(29,_)] ⟨rfl,rfl,rfl,rfl,rfl,trivial⟩ ?_
    refine U3 ?_
    refine U0 rfl ?_
    refine Us (k:=0) (k':=1) rfl rfl rfl (Uh (l:=[_,_]) rfl rfl rfl mH rfl S8 ?_)
    intro bE w7 S9;clear S8
    refine Us (k:=1) (k':=2) rfl rfl rfl (U7 (i:=0) (us:=[_,_]) (l':=[_,_]) (H':=[_,_,_,_,_,_,_,_,_]) rfl rfl S9 rfl rfl rfl rfl cg rfl rfl rfl rfl ?_)
    intro w8 bF;clear S9
    refine U5 rfl ?_
    refine bL [(1,_),(3,_),(4,_),(6,_),(7,_)] ⟨rfl,rfl,rfl,rfl,rfl,trivial⟩ ?_
    refine U3 ?_
    refine U0 rfl ?_
    refine Us (k:=0) (k':=1) rfl rfl rfl (Ub rfl rfl (U4 rfl rfl cE rfl (bF.ar (i:=8) rfl rfl)) ?_)
    refine Us (k:=1) (k':=2) rfl rfl rfl (Ub rfl rfl (U8 (us:=[_,_]) rfl rfl aZ rfl cg (bF.ax (i:=0) rfl ⟨rfl,rfl,trivial⟩)) ?_)
    refine Us (k:=2) (k':=3) rfl rfl rfl (cC rfl rfl rfl rfl rfl rfl rfl alB bF (ajQ d y (br.mono bF.Uw) (hsc.mono bF.Uw) (hsi.mono bF.Uw) (aK.mono bF.Uw) (by first|assumption|omega) hab (by first|assumption|omega) bF.aD) ?_)
    rintro _ w9 bQ rfl;clear bF
    refine Us (k:=3) (k':=4) rfl rfl rfl (U7 (i:=0) (us:=[_,_]) (l':=[_,_]) (H':=[_,_,_,_,_,_,_,_,_]) rfl rfl bQ rfl rfl rfl rfl cg rfl rfl rfl rfl ?_)
    intro jZ cw;clear bQ
    refine U5 rfl ?_
    refine aP ?_
    have qd:ga fy x=false:=by rw[<-vS,<-hy];simpa using pK
    have zo:=mW (seen:=fy) (x:=x) (by omega) qd
    intro au aq
    refine⟨_,?dJ,⟨_,fy.set x true,dN d x,jU d y,acc++[(x:Int)],_,_,_,rfl,aq.sub ⟨rfl,rfl,rfl,rfl,rfl,trivial⟩,cw.pick [1,0,3,4,5,6,7,8] [_,_,_,_,_,_,_,_] (by decide) ⟨rfl,rfl,rfl,rfl,rfl,rfl,rfl,rfl,trivial⟩,?cu,?cY,?ku,?FP,?akx,?akw,?akv⟩⟩
    case cu=>(rw[hrg];exact rP (by omega) qd)
    case cY=>(rw[aaV,<-sH,hy])
    case ku=>(rw[hy];exact Bt.put (by omega))
    case FP=>exact Ap hab hx
    case akx=>(rw[List.length_set];exact hs2)
    case akw=>(rw[hy,xw hab hx])
    case akv=>(simp only[List.length_append,List.length_cons,List.length_nil];omega)
    case dJ=>omega
   ·simp only[Bool.and_eq_true,Bool.or_eq_true,Bool.and_eq_false_iff,Bool.or_eq_false_iff,decide_eq_true_eq,decide_eq_false_iff_not,Bool.not_eq_true',Bool.not_eq_false']at pK
    refine bS rfl rfl ?_
    refine bL [(1,_),(3,_),(4,_),(6,_)] ⟨rfl,rfl,rfl,rfl,trivial⟩ ?_
    refine U3 ?_
    refine U0 rfl ?_
    refine Us (k:=0) (k':=1) rfl rfl rfl (Ub rfl rfl (U4 rfl rfl kY rfl (S4.ar (i:=4) rfl rfl)) ?_)
    refine Us (k:=1) (k':=2) rfl rfl rfl (Ub rfl rfl (run_move rfl rfl) ?_)
    obtain⟨M1,hle2,bZ,⟨A1,c1,e1,hr1⟩⟩:=S4.fZ (i:=0) (H':=[_,_,_,_,_,_,_,_]) rfl rfl (by show _*16<=_;first|omega|(simp only[ls];omega))
    clear S4;subst e1
    replace br:=br.mono (Hp.Ua hle2 bZ.mx)
    replace hsc:=hsc.mono (Hp.Ua hle2 bZ.mx)
    replace hsi:=hsi.mono (Hp.Ua hle2 bZ.mx)
    replace aK:=aK.mono (Hp.Ua hle2 bZ.mx)
    replace eQ:=eQ.mono hle2
    refine Us (k:=2) (k':=3) rfl rfl rfl (iy (C:=(cB 141)) (l:=[_]) rfl rfl rfl rfl jF rfl rfl rfl rfl bZ ?_)
    intro gY kH bN;clear bZ
    refine Us (k:=3) (k':=4) rfl rfl rfl (jg (C:=(cB 141)) (i:=6) (q:=0) (⟨A1,kX.length,c1⟩:eT) rfl rfl rfl rfl rfl rfl rfl rfl jF bN rfl rfl rfl (by show(_+1)*24<=_;first|omega|(simp only[ls];omega)) ?_)
    intro atQ mb bX;clear bN
    have bM:=bX.pick [1,2,3,4,5,6,7,8] [_,_,_,_,_,_,_,_] (by decide) ⟨rfl,rfl,rfl,rfl,rfl,rfl,rfl,rfl,trivial⟩;clear bX
    have hd1:=eQ.snoc (c:=c1) hr1
    refine Us (k:=4) (k':=5) rfl rfl rfl (U7 (i:=4) (us:=[_]) (l':=[_]) (H':=[_,_,_,_,_,_,_,_]) rfl rfl bM rfl rfl rfl (bM.jx (i:=5) rfl) al9 rfl (Uy (bM.one (i:=5) rfl) rfl) rfl rfl ?_)
    intro lB bI;clear bM
    refine U5 rfl ?_
    refine bk ?_
    refine aP ?_
    intro au aq
    exact⟨_,_,hle2,bI.pick [2,3,4,5,6,7] [_,_,_,_,_,_] (by decide) ⟨rfl,rfl,rfl,rfl,rfl,rfl,trivial⟩,_,_,_,fy,iC++[acc],rfl,by rw[List.map_append,show List.map ik [acc]=[kX]from by rw[sH];rfl];exact hd1,rS hfn (by rw[<-ow (k+2) (by omega) (by omega)];exact gD) (hrg.trans (D4 (by rw[<-Bt x (by omega) (by omega),<-hy];simpa using pK))),Bt⟩
end InF
end Go.Proofs.YthppkofceancjaaGreat
namespace Go.Proofs.YthppkofceancjaaGreat
open Go.ChangeShapes Go.WideShapes Go.ChangeAt Go.RowKit
def Fx(d:Dg)(u:Value)(M:Hp):Prop:=∃A c vs,u=.slice A vs.length c/\aF (cB 141) M A c vs/\ez bW M vs (U6 d)
namespace InF
noncomputable def YZ:=Tryz.f66.body.getD .skip
def Z3v:=cL YZ
def YY:=cR YZ
def Z3x:=cL YY
def YX:=cR YY
def Z3z:=cL YX
def YW:=cR YX
def YV:=cL YW
def Z42:=cR YW
def Z43:=cL YV
def Z44:=cR YV
def Z45:=cL Z44
set_option maxRecDepth 10000 in
theorem ab2{w:World}{M:Hp}{X:Fr}(d:Dg){bH:Nat}{cA iA oA:Option Addr}{cc ic oc:Nat}(br:cM (M.un X.h) bH 70 [.slice cA d.ae.length cc,.int .i64 d.loops,.slice iA (aw d false (4*d.ae.length)).length ic,.slice oA (aw d true (4*d.ae.length)).length oc])(hsc:aF aG (M.un X.h) cA cc d.ae)(hsi:aF bp (M.un X.h) iA ic (aw d false (4*d.ae.length)))(aK:aF bp (M.un X.h) oA oc (aw d true (4*d.ae.length)))(hn:d.ae.length<=16)(hab:aX d=true)(S:SH w M X []):Ct Tryz.prog 66 [.pointer (some ⟨bH,0,none⟩)] w M X (Fx d):=by
 unfold Ct
 refine D2 (b:=YZ) Tryz.func66 rfl Tryz.ntmps66 rfl (fun C rE hC=>?_)
 refine bq [(0,_)] ⟨rfl,trivial⟩ ?_
 refine U2 Z3v YY rfl rfl rfl ?_
 refine U0 rfl ?_
 refine Us (k:=0) (k':=1) rfl rfl rfl (bA (l:=[_]) rfl rfl rfl rfl rfl S ?_)
 intro aI w1 S1;clear S
 refine Us (k:=1) (k':=2) rfl rfl rfl (Ub rfl rfl (run_assign rfl rfl) ?_)
 refine U5 rfl ?_
 refine bL [(1,_)] ⟨rfl,trivial⟩ ?_
 refine U3 ?_
 refine U2 Z3x YX rfl rfl rfl ?_
 refine U0 rfl ?_
 refine Us (k:=0) (k':=1) rfl rfl rfl (wA Da Bool (fun x=>Value.agg (bW.f x).toArray) Value.bool rfl rfl rfl S1 ?_)
 intro iG w2 S2;clear S1
 refine Us (k:=1) (k':=2) rfl rfl rfl (Uh (l:=[_]) rfl rfl rfl ajU rfl S2 ?_)
 intro aQ w3 S3;clear S2
 refine Us (k:=2) (k':=3) rfl rfl rfl (U7 (i:=0) (us:=[_]) (l':=[_]) (H':=[_,_,_]) rfl rfl S3 rfl rfl rfl rfl aj9 rfl rfl rfl rfl ?_)
 intro w4 S4;clear S3
 refine U5 rfl ?_
 refine bL [(1,_),(3,_)] ⟨rfl,rfl,trivial⟩ ?_
 refine U3 ?_
 refine U2 Z3z YW rfl rfl rfl ?_
 refine U0 rfl ?_
 refine Us (k:=0) (k':=1) rfl rfl rfl (Uh (l:=[_]) rfl rfl rfl alK rfl S4 ?_)
 intro bE w5 S5;clear S4
 refine U5 rfl ?_
 refine U3 ?_
 refine U2 YV Z42 rfl rfl rfl ?_
 refine U2 Z43 Z44 rfl rfl rfl ?_
 refine U0 rfl ?_
 refine Us (k:=0) (k':=1) rfl rfl rfl (Ub rfl rfl (U4 rfl rfl cE rfl (S5.ar (i:=3) rfl rfl)) ?_)
 refine Us (k:=1) (k':=2) rfl rfl rfl (fp rfl rfl rfl rfl rfl rfl rfl alC S5 (aiV d (br.mono S5.Uw) (hsc.mono S5.Uw) (hsi.mono S5.Uw) (aK.mono S5.Uw) S5.aD) ?_)
 intro vw6 w6 M1 aL S6 G8;clear S5
 replace br:=br.mono (Hp.Ua aL S6.mx)
 replace hsc:=hsc.mono (Hp.Ua aL S6.mx)
 replace hsi:=hsi.mono (Hp.Ua aL S6.mx)
 replace aK:=aK.mono (Hp.Ua aL S6.mx)
 obtain⟨bd1,rfl,GZ⟩:=G8
 refine U5 rfl ?_
 refine bL [(1,_),(3,_),(4,_),(10,_)] ⟨rfl,rfl,rfl,rfl,trivial⟩ ?_
 refine U3 ?_
 refine Uc Z45 0 rfl rfl rfl ?_
 have S9:=(S6.np (cB 141)).pick [3,1,0,2,4] [_,_,_,_,_] (by decide) ⟨rfl,rfl,rfl,rfl,rfl,trivial⟩
 refine af0 (p:=11) (f:=164) (lb:=[_]) (asg:=rfA uC) (bd:=Dj uC) (enc:=yn) (N:=4*d.ae.length) rE rfl rfl rfl alo S9 (AL d bH aI aQ bE iG) (EJ d bH aI aQ bE iG) ?_ (agm d br hsc hsi aK GZ hn) ?_ ?_ ?_
 ·exact⟨[],[],.slice none 0 0,_,[],rfl,ez.dW,rfl,qP.dW d⟩
 ·intro k M' H' w' C' R0 hk hle S' hI
  exact af7 ⟨rfl,rfl,rfl,rfl,trivial⟩ S' hI
 ·intro k M' H' w' C' R0 a hk hle S' zy
  exact agH d (br.mono (Hp.Ua hle S'.mx)) (hsc.mono (Hp.Ua hle S'.mx)) (hsi.mono (Hp.Ua hle S'.mx)) (aK.mono (Hp.Ua hle S'.mx)) hn hab hk S' zy
 ·intro a M' H' w' D l rc ha hle S' hI
  obtain⟨es,vs,ada,seen,iC,rfl,eQ,hfn,ow⟩:=hI
  change SH w' M' X [Rs.lr l D rc,_,_,Rs.row (cB 141) ada vs,_,_]at S'
  refine ah4 (c:=Z42) (i:=15) (d1:=34) (d2:=2) (v:=ada) hC rfl rfl rfl rfl rfl rfl rfl ha rfl kY rfl rfl rfl rfl S' (S'.ar (i:=2) rfl rfl) (fun w2 S2=>?_)
  have hvl:=eQ.1
  rw[List.length_map]at hvl
  have kv:=zM d (4*d.ae.length)
  rw[hfn]at kv
  replace kv:iC.length<=4*d.ae.length:=kv
  obtain⟨M3,dw,S3,⟨A,c,e,hr⟩⟩:=S2.fZ (i:=2) (H':=[_,_,_,_,_]) rfl rfl (by show _*24<=_;omega)
  subst e
  refine⟨_,rfl,M3,(aL).trans (hle.trans dw),S3.pick [] [] (by decide) trivial,A,c,vs,rfl,hr,?_⟩
  have e2:U6 d=iC.map ik:=by unfold U6 uM;rw[hfn]
  rw[e2]
  exact eQ.mono dw
end InF
end Go.Proofs.YthppkofceancjaaGreat
namespace Go.Proofs.YthppkofceancjaaGreat
open Go.ChangeShapes Go.WideShapes Go.ChangeAt Go.RowKit
noncomputable def YU:=Tryz.f72.body.getD .skip
def Z47:=cL YU
def YT:=cR YU
def Z49:=cL YT
def YS:=cR YT
def YR:=cL YS
def YQ:=cR YS
def Z4d:=cL YR
def Z4e:=cR YR
def YP:=cL Z4e
def Z4g:=cL YP
def YO:=cR YP
def YN:=cL YO
def YM:=cR YO
def Z4k:=cL YN
def Z4l:=cR YN
def Z4m:=cL YM
def YL:=cR YM
def YK:=cL YL
def YJ:=cR YL
def Z4q:=cL YK
def Z4r:=cR YK
def Z4s:=cL YJ
def YI:=cR YJ
def YH:=cL YI
def Z4v:=cR YI
def Z4w:=cL YH
def Z4x:=cR YH
def Z4y:=cL YQ
def Z4z:=cR YQ
set_option maxRecDepth 10000 in
theorem oY{w:World}{M:Hp}{X:Fr}(d:Dg){aV:Option Addr}{aU:Nat}(c k:Nat)(aC:aF aG (M.un X.h) aV aU d.ae)(hc:c<d.ae.length)(hk:k<4)(S:SH w M X []):Cq Tryz.prog 72 [.agg [.slice aV d.ae.length aU,.int .i64 d.loops].toArray,.agg [.int .i64 (c:Int),.int .i64 (k:Int)].toArray] w M X (fun u=>u=.int .i64 (bt d c k)):=by
 unfold Cq
 have gK:d.ae.length*40<=140737488355328:=aC.room
 refine Up (b:=YU) Tryz.func72 rfl Tryz.ntmps72 rfl (fun C hC=>(bq [(0,_),(1,_)] ⟨rfl,rfl,trivial⟩ (U2 Z47 YT rfl rfl rfl (U0 rfl (ak 0 1 rfl rfl rfl (bA (l:=[_,_]) rfl rfl rfl rfl rfl S ?_))))))
 intro aI w1 S1;clear S
 refine ak 1 2 rfl rfl rfl (bA (l:=[_,_]) rfl rfl rfl rfl rfl S1 ?_)
 intro aQ w2 S2;clear S1
 refine ag 2 1 rfl rfl (U5 rfl (ah [2,3] rfl (U3 (U2 Z49 YS rfl rfl rfl (U0 rfl (af 0 rfl (U1 rfl rfl ay rfl (bK) (bJ)) (af 1 rfl (U4 rfl rfl bG rfl (S2.ar (i:=1) rfl rfl)) (af 2 rfl (U1 rfl rfl cN rfl (aB) (aA)) ?_))))))))
 refine af 3 rfl (U4 rfl rfl av rfl (S2.ar (i:=0) rfl rfl)) (af 4 rfl (Uk (C:=aG) c rfl rfl rfl b8 (by first|rfl|omega) aC (by first|omega|(simp only[ls];omega))) ?_)
 refine af 5 rfl (U8 (us:=[_,_,_,_,_]) rfl rfl aT rfl bT (aC.fq S2.um (e:=c) (by first|omega|(simp only[ls];omega)) (j:=0) ⟨rfl,rfl,rfl,rfl,rfl,trivial⟩)) ?_
 refine ak 6 7 rfl rfl rfl (Uh (l:=[_,_,_,_,_]) rfl rfl rfl kz rfl S2 ?_)
 intro bE w3 S3;clear S2
 refine ak 7 8 rfl rfl rfl (U7 (i:=0) (us:=[_,_,_,_,_]) (l':=[_,_,_,_,_]) (H':=[_,_,_]) rfl rfl S3 rfl rfl rfl rfl bT rfl rfl rfl rfl ?_)
 intro w4 S4;clear S3
 refine U5 rfl (ah [3,5] rfl (U3 (U2 YR YQ rfl rfl rfl (U2 Z4d Z4e rfl rfl rfl (U0 rfl (af 0 rfl (U1 rfl rfl cN rfl (aB) (aA)) (af 1 rfl (U4 rfl rfl av rfl (S4.ar (i:=1) rfl rfl)) (U5 rfl ?_))))))))
 refine ah [5,13] rfl (U3 (Uc YP 0 rfl rfl rfl (U2 Z4g YO rfl rfl rfl (U0 rfl (af 0 rfl (bP rfl rfl rfl) (ag 1 1 rfl rfl (U5 rfl (ah [5,13,14] rfl ?_))))))))
 refine U3 ?_
 refine Ue YN YM rfl rfl rfl rfl (fun gD=>?_) (fun gD=>?_)
 ·refine U2 Z4k Z4l rfl rfl rfl (U0 rfl (af 0 rfl (U1 rfl rfl aT rfl (aB) (aA)) (af 1 rfl (U4 rfl rfl av rfl (S4.ar (i:=0) rfl rfl)) (ag 2 1 rfl rfl (U5 rfl (ah [4] rfl (U3 (Uj hC [_] rfl rfl ⟨rfl,trivial⟩ ?_))))))))
  exact⟨_,rfl,(S4.pick [] [] (by decide) trivial),(by first|(obtain rfl:k=0:=(by omega);rfl)|(obtain rfl:k=1:=(by omega);rfl)|(obtain rfl:k=2:=(by omega);rfl)|(obtain rfl:k=3:=(by omega);rfl))⟩
 ·refine U2 Z4m YL rfl rfl rfl (U0 rfl (af 0 rfl (bP rfl rfl rfl) (ag 1 1 rfl rfl (U5 rfl (ah [5,13,18] rfl (U3 ?_))))))
  refine Ue YK YJ rfl rfl rfl rfl (fun l5=>?_) (fun l5=>?_)
  ·refine U2 Z4q Z4r rfl rfl rfl (U0 rfl (af 0 rfl (U1 rfl rfl aT rfl (aB) (aA)) (af 1 rfl (U4 rfl rfl av rfl (S4.ar (i:=0) rfl rfl)) (ag 2 1 rfl rfl (U5 rfl (ah [4] rfl (U3 (Uj hC [_] rfl rfl ⟨rfl,trivial⟩ ?_))))))))
   exact⟨_,rfl,(S4.pick [] [] (by decide) trivial),(by first|(obtain rfl:k=0:=(by omega);rfl)|(obtain rfl:k=1:=(by omega);rfl)|(obtain rfl:k=2:=(by omega);rfl)|(obtain rfl:k=3:=(by omega);rfl))⟩
  ·refine U2 Z4s YI rfl rfl rfl (U0 rfl (af 0 rfl (bP rfl rfl rfl) (ag 1 1 rfl rfl (U5 rfl (ah [5,22] rfl (U3 ?_))))))
   refine Ue YH Z4v rfl rfl rfl rfl (fun yf=>?_) (fun yf=>?_)
   ·refine U2 Z4w Z4x rfl rfl rfl (U0 rfl (af 0 rfl (U1 rfl rfl aT rfl (aB) (aA)) (af 1 rfl (U4 rfl rfl av rfl (S4.ar (i:=0) rfl rfl)) (ag 2 1 rfl rfl (U5 rfl (ah [4] rfl (U3 (Uj hC [_] rfl rfl ⟨rfl,trivial⟩ ?_))))))))
    exact⟨_,rfl,(S4.pick [] [] (by decide) trivial),(by first|(obtain rfl:k=0:=(by omega);rfl)|(obtain rfl:k=1:=(by omega);rfl)|(obtain rfl:k=2:=(by omega);rfl)|(obtain rfl:k=3:=(by omega);rfl))⟩
   ·refine Uf rfl (bk (ah [5] rfl (U3 (U2 Z4y Z4z rfl rfl rfl (U0 rfl (af 0 rfl (U1 rfl rfl aT rfl (aB) (aA)) (af 1 rfl (U4 rfl rfl av rfl (S4.ar (i:=0) rfl rfl)) (ag 2 1 rfl rfl ?_))))))))
    refine U5 rfl (ah [4] rfl (U3 (Uj hC [_] rfl rfl ⟨rfl,trivial⟩ ?_)))
    exact⟨_,rfl,(S4.pick [] [] (by decide) trivial),(by first|(obtain rfl:k=0:=(by omega);rfl)|(obtain rfl:k=1:=(by omega);rfl)|(obtain rfl:k=2:=(by omega);rfl)|(obtain rfl:k=3:=(by omega);rfl))⟩
noncomputable def YG:=Tryz.f73.body.getD .skip
def Z51:=cL YG
def YF:=cR YG
def Z53:=cL YF
def Z54:=cR YF
set_option maxRecDepth 10000 in
theorem ab3{w:World}{M:Hp}{X:Fr}(d:Dg){aV:Option Addr}{aU:Nat}(c k:Nat)(aC:aF aG (M.un X.h) aV aU d.ae)(hc:c<d.ae.length)(hk:k<4)(S:SH w M X []):Cq Tryz.prog 73 [.agg [.slice aV d.ae.length aU,.int .i64 d.loops].toArray,.agg [.int .i64 (c:Int),.int .i64 (k:Int)].toArray] w M X (fun u=>u=.bool (cH d c k)):=by
 unfold Cq
 have gK:d.ae.length*40<=140737488355328:=aC.room
 refine Up (b:=YG) Tryz.func73 rfl Tryz.ntmps73 rfl (fun C hC=>(bq [(0,_),(1,_)] ⟨rfl,rfl,trivial⟩ (U2 Z51 YF rfl rfl rfl (U0 rfl (ak 0 1 rfl rfl rfl (bA (l:=[_,_]) rfl rfl rfl rfl rfl S ?_))))))
 intro aI w1 S1;clear S
 refine ak 1 2 rfl rfl rfl (bA (l:=[_,_]) rfl rfl rfl rfl rfl S1 ?_)
 intro aQ w2 S2;clear S1
 refine ag 2 1 rfl rfl (U5 rfl (ah [2,3] rfl (U3 (U2 Z53 Z54 rfl rfl rfl (U0 rfl (af 0 rfl (U1 rfl rfl cN rfl (aB) (aA)) (af 1 rfl (U4 rfl rfl av rfl (S2.ar (i:=0) rfl rfl)) (af 2 rfl (bP rfl rfl rfl) ?_))))))))
 refine ag 3 1 rfl rfl ?_
 refine Ut (t:=8) rfl (fun zm=>?_) (fun zm=>?_)
 ·refine ag 4 6 rfl rfl (ag 10 6 rfl rfl (ag 16 6 rfl rfl (ag 22 6 rfl rfl (ag 28 5 rfl rfl (U5 rfl (ah [4] rfl (U3 (Uj hC [_] rfl rfl ⟨rfl,trivial⟩ ?_))))))))
  exact⟨_,rfl,(S2.pick [] [] (by decide) trivial),(by have e0:k=0\/k=1\/k=2\/k=3:=(by omega);rcases e0 with rfl|rfl|rfl|rfl<;>first|(exfalso;omega)|(show Value.bool _=_;unfold cH l7;simp[*]))⟩
 ·refine aH 4 5 rfl rfl rfl rfl rfl rfl rfl rfl (Ub rfl rfl (U1 rfl rfl cN rfl (aB) (aA)) (aH 5 6 rfl rfl rfl rfl rfl rfl rfl rfl (Ub rfl rfl (U4 rfl rfl av rfl (S2.ar (i:=0) rfl rfl)) (aH 6 7 rfl rfl rfl rfl rfl rfl rfl rfl (Ub rfl rfl (bP rfl rfl rfl) (ag 7 1 rfl rfl ?_))))))
  refine Ut (t:=12) rfl (fun GU=>?_) (fun GU=>?_)
  ·refine aH 8 9 rfl rfl rfl rfl rfl rfl rfl rfl (Ub rfl rfl (U1 rfl rfl ay rfl (bK) (bJ)) (aH 9 10 rfl rfl rfl rfl rfl rfl rfl rfl (Ub rfl rfl (U4 rfl rfl bG rfl (S2.ar (i:=1) rfl rfl)) (aH 10 11 rfl rfl rfl rfl rfl rfl rfl rfl (Ub rfl rfl (U1 rfl rfl cN rfl (aB) (aA)) (aH 11 12 rfl rfl rfl rfl rfl rfl rfl rfl (Ub rfl rfl (U4 rfl rfl av rfl (S2.ar (i:=0) rfl rfl)) (aH 12 13 rfl rfl rfl rfl rfl rfl rfl rfl (Ub rfl rfl (Uk (C:=aG) c rfl rfl rfl b8 (by first|rfl|omega) aC (by first|omega|(simp only[ls];omega))) ?_)))))))))
   refine aH 13 14 rfl rfl rfl rfl rfl rfl rfl rfl (Ub rfl rfl (U1 rfl rfl aT rfl (fI) (fH)) (aH 14 15 rfl rfl rfl rfl rfl rfl rfl rfl (Ub rfl rfl (U4 rfl rfl dh rfl (aC.cell S2.um (i:=c) (by first|omega|(simp only[ls];omega)) 4 rfl rfl)) ?_)))
   refine aH 15 16 rfl rfl rfl rfl rfl rfl rfl rfl (Ub rfl rfl (dE rfl rfl) (ag 16 3 rfl rfl ?_))
   refine mX (t:=23) rfl (fun GR=>?_) (fun GR=>?_)
   ·simp only[Bool.and_eq_true,Bool.or_eq_true,Bool.and_eq_false_iff,Bool.or_eq_false_iff,decide_eq_true_eq,decide_eq_false_iff_not,Bool.not_eq_true',Bool.not_eq_false']at GR
    refine ag 19 6 rfl rfl (ag 25 6 rfl rfl (ag 31 2 rfl rfl (U5 rfl (ah [4] rfl (U3 (Uj hC [_] rfl rfl ⟨rfl,trivial⟩ ?_))))))
    exact⟨_,rfl,(S2.pick [] [] (by decide) trivial),(by have e0:k=0\/k=1\/k=2\/k=3:=(by omega);rcases e0 with rfl|rfl|rfl|rfl<;>first|(exfalso;omega)|(show Value.bool _=_;unfold cH l7;simp[*]))⟩
   ·simp only[Bool.and_eq_true,Bool.or_eq_true,Bool.and_eq_false_iff,Bool.or_eq_false_iff,decide_eq_true_eq,decide_eq_false_iff_not,Bool.not_eq_true',Bool.not_eq_false']at GR
    refine aH 19 20 rfl rfl rfl rfl rfl rfl rfl rfl (Ub rfl rfl (U1 rfl rfl cN rfl (aB) (aA)) (aH 20 21 rfl rfl rfl rfl rfl rfl rfl rfl (Ub rfl rfl (U4 rfl rfl av rfl (S2.ar (i:=0) rfl rfl)) (aH 21 22 rfl rfl rfl rfl rfl rfl rfl rfl (Ub rfl rfl (bP rfl rfl rfl) (ag 22 1 rfl rfl ?_))))))
    refine Ut (t:=27) rfl (fun GN=>?_) (fun GN=>?_)
    ·refine aH 23 24 rfl rfl rfl rfl rfl rfl rfl rfl (Ub rfl rfl (U1 rfl rfl ay rfl (bK) (bJ)) (aH 24 25 rfl rfl rfl rfl rfl rfl rfl rfl (Ub rfl rfl (U4 rfl rfl bG rfl (S2.ar (i:=1) rfl rfl)) (aH 25 26 rfl rfl rfl rfl rfl rfl rfl rfl (Ub rfl rfl (U1 rfl rfl cN rfl (aB) (aA)) (aH 26 27 rfl rfl rfl rfl rfl rfl rfl rfl (Ub rfl rfl (U4 rfl rfl av rfl (S2.ar (i:=0) rfl rfl)) (aH 27 28 rfl rfl rfl rfl rfl rfl rfl rfl (Ub rfl rfl (Uk (C:=aG) c rfl rfl rfl b8 (by first|rfl|omega) aC (by first|omega|(simp only[ls];omega))) ?_)))))))))
     refine aH 28 29 rfl rfl rfl rfl rfl rfl rfl rfl (Ub rfl rfl (U1 rfl rfl aT rfl (fI) (fH)) (aH 29 30 rfl rfl rfl rfl rfl rfl rfl rfl (Ub rfl rfl (U4 rfl rfl dh rfl (aC.cell S2.um (i:=c) (by first|omega|(simp only[ls];omega)) 4 rfl rfl)) ?_)))
     refine ag 30 3 rfl rfl (U5 rfl (ah [4] rfl (U3 (Uj hC [_] rfl rfl ⟨rfl,trivial⟩ ?_))))
     exact⟨_,rfl,(S2.pick [] [] (by decide) trivial),(by have e0:k=0\/k=1\/k=2\/k=3:=(by omega);rcases e0 with rfl|rfl|rfl|rfl<;>first|(exfalso;omega)|(show Value.bool _=_;unfold cH l7;simp[*]))⟩
    ·refine ag 23 6 rfl rfl (ag 29 4 rfl rfl (U5 rfl (ah [4] rfl (U3 (Uj hC [_] rfl rfl ⟨rfl,trivial⟩ ?_)))))
     exact⟨_,rfl,(S2.pick [] [] (by decide) trivial),(by have e0:k=0\/k=1\/k=2\/k=3:=(by omega);rcases e0 with rfl|rfl|rfl|rfl<;>first|(exfalso;omega)|(show Value.bool _=_;unfold cH l7;simp[*]))⟩
  ·refine ag 8 6 rfl rfl (ag 14 5 rfl rfl (aH 19 20 rfl rfl rfl rfl rfl rfl rfl rfl (Ub rfl rfl (U1 rfl rfl cN rfl (aB) (aA)) (aH 20 21 rfl rfl rfl rfl rfl rfl rfl rfl (Ub rfl rfl (U4 rfl rfl av rfl (S2.ar (i:=0) rfl rfl)) (aH 21 22 rfl rfl rfl rfl rfl rfl rfl rfl (Ub rfl rfl (bP rfl rfl rfl) (ag 22 1 rfl rfl ?_))))))))
   refine Ut (t:=27) rfl (fun GN=>?_) (fun GN=>?_)
   ·refine aH 23 24 rfl rfl rfl rfl rfl rfl rfl rfl (Ub rfl rfl (U1 rfl rfl ay rfl (bK) (bJ)) (aH 24 25 rfl rfl rfl rfl rfl rfl rfl rfl (Ub rfl rfl (U4 rfl rfl bG rfl (S2.ar (i:=1) rfl rfl)) (aH 25 26 rfl rfl rfl rfl rfl rfl rfl rfl (Ub rfl rfl (U1 rfl rfl cN rfl (aB) (aA)) (aH 26 27 rfl rfl rfl rfl rfl rfl rfl rfl (Ub rfl rfl (U4 rfl rfl av rfl (S2.ar (i:=0) rfl rfl)) (aH 27 28 rfl rfl rfl rfl rfl rfl rfl rfl (Ub rfl rfl (Uk (C:=aG) c rfl rfl rfl b8 (by first|rfl|omega) aC (by first|omega|(simp only[ls];omega))) ?_)))))))))
    refine aH 28 29 rfl rfl rfl rfl rfl rfl rfl rfl (Ub rfl rfl (U1 rfl rfl aT rfl (fI) (fH)) (aH 29 30 rfl rfl rfl rfl rfl rfl rfl rfl (Ub rfl rfl (U4 rfl rfl dh rfl (aC.cell S2.um (i:=c) (by first|omega|(simp only[ls];omega)) 4 rfl rfl)) ?_)))
    refine ag 30 3 rfl rfl (U5 rfl (ah [4] rfl (U3 (Uj hC [_] rfl rfl ⟨rfl,trivial⟩ ?_))))
    exact⟨_,rfl,(S2.pick [] [] (by decide) trivial),(by have e0:k=0\/k=1\/k=2\/k=3:=(by omega);rcases e0 with rfl|rfl|rfl|rfl<;>first|(exfalso;omega)|(show Value.bool _=_;unfold cH l7;simp[*]))⟩
   ·refine ag 23 6 rfl rfl (ag 29 4 rfl rfl (U5 rfl (ah [4] rfl (U3 (Uj hC [_] rfl rfl ⟨rfl,trivial⟩ ?_)))))
    exact⟨_,rfl,(S2.pick [] [] (by decide) trivial),(by have e0:k=0\/k=1\/k=2\/k=3:=(by omega);rcases e0 with rfl|rfl|rfl|rfl<;>first|(exfalso;omega)|(show Value.bool _=_;unfold cH l7;simp[*]))⟩
noncomputable def YE:=Tryz.f60.body.getD .skip
def Z56:=cL YE
def YD:=cR YE
def YC:=cL YD
def YB:=cR YD
def Z5a:=cL YC
def Z5b:=cR YC
def Z5c:=cL Z5b
def YA:=cL Z5c
def Yz:=cL YA
def Yy:=cR YA
def Z5g:=cL Yz
def Yx:=cR Yz
def Z5i:=cL Yx
def Z5j:=cR Yx
def Z5k:=cL Yy
def Z5l:=cR Yy
def Yw:=cL Z5k
def Z5n:=cL Yw
def Z5o:=cR Yw
def Z5p:=cL Z5o
def Yv:=cL Z5p
def Yu:=cL Yv
def Yt:=cR Yv
def Z5t:=cL Yu
def Yr:=cR Yu
def Z5v:=cL Yr
def Z5w:=cR Yr
def Z5x:=cL Yt
def Z5y:=cR Yt
def Yq:=cL Z5x
def Z60:=cL Yq
def Yp:=cR Yq
def Z62:=cL Yp
def Yo:=cR Yp
def Yn:=cL Yo
def Z65:=cR Yo
def Z66:=cL Yn
def Z67:=cR Yn
def Z68:=cL YB
def Z69:=cR YB
set_option maxHeartbeats 1000000 in
set_option maxRecDepth 10000 in
theorem lH{w:World}{M:Hp}{X:Fr}(d:Dg){aV:Option Addr}{aU:Nat}(a:Int)(back:Bool)(aC:aF aG (M.un X.h) aV aU d.ae)(S:SH w M X []):Cq Tryz.prog 60 [.agg [.slice aV d.ae.length aU,.int .i64 d.loops].toArray,.int .i64 a,.bool back] w M X (fun u=>u=.agg (nP (Ud d a back)).toArray):=by
 unfold Cq
 have gK:d.ae.length*40<=140737488355328:=aC.room
 refine Up (b:=YE) Tryz.func60 rfl Tryz.ntmps60 rfl (fun C hC=>(bq [(0,_),(1,_),(2,_)] ⟨rfl,rfl,rfl,trivial⟩ (U2 Z56 YD rfl rfl rfl (U0 rfl (ak 0 1 rfl rfl rfl (bA (l:=[_,_]) rfl rfl rfl rfl rfl S ?_))))))
 intro aI w1 S1;clear S
 refine ak 1 2 rfl rfl rfl (Uh (l:=[_,_]) rfl rfl rfl mD rfl S1 ?_)
 intro aQ w2 S2;clear S1
 refine U5 rfl (ah [1,2,3,6] rfl (U3 (U2 YC YB rfl rfl rfl (U2 Z5a Z5b rfl rfl rfl (U0 rfl (ag 0 1 rfl rfl (U5 rfl (U3 ?_))))))))
 refine Uc Z5c 0 rfl rfl rfl ?_
 refine Uz (fun aS au aM=>∃(i:Nat),aS=d.ae.length-i/\Env 38 [(1,.int .i64 a),(2,.bool back),(3,.pointer (some ⟨aI,0,none⟩)),(6,.pointer (some ⟨aQ,0,none⟩)),(7,.int .i64 (i:Int))] au/\SH aM M X [Rs.box aQ 120 [.int .i64 0,.int .i64 0],Rs.box aI 24 [.slice aV d.ae.length aU,.int .i64 d.loops]]/\i<=d.ae.length/\(∀j,j<4*i->fE d a back j=false)) rfl ?_ ?_
 ·intro au aq
  refine⟨_,⟨0,rfl,aq.sub ⟨rfl,rfl,rfl,rfl,rfl,trivial⟩,S2.pick [0,1] [_,_] (by decide) ⟨rfl,rfl,trivial⟩,?cd,?cT⟩⟩
  case cd=>omega
  case cT=>(intro j hj;omega)
 ·rintro m1 a1 w3 ⟨i,rfl,bh,S3,hi,hno⟩
  clear S2
  refine b7 bh (c:=YA) rfl ?_
  clear bh a1
  refine U2 Yz Yy rfl rfl rfl (U2 Z5g Yx rfl rfl rfl (U0 rfl (ag 0 1 rfl rfl (af 1 rfl (U1 rfl rfl ay rfl (bK) (bJ)) (af 2 rfl (U4 rfl rfl bG rfl (S3.ar (i:=1) rfl rfl)) (af 3 rfl (cI rfl rfl rfl rfl rfl rfl bG) (af 4 rfl (bV rfl rfl rfl) (U5 rfl ?_))))))))
  refine ah [1,2,3,6,7,14] rfl (U3 ?_)
  refine Ue Z5i Z5j rfl rfl rfl rfl (fun gD=>?_) (fun gD=>?_)
  ·refine Uf rfl (ah [1,2,3,6,7] rfl (U3 (U2 Z5k Z5l rfl rfl rfl (Uc Yw 1 rfl rfl rfl (U2 Z5n Z5o rfl rfl rfl (U0 rfl (ag 0 1 rfl rfl (U5 rfl ?_))))))))
   refine U3 (Uc Z5p 2 rfl rfl rfl ?_)
   refine Uz (fun aS au aM=>∃(k:Nat),aS=4-k/\Env 38 [(1,.int .i64 a),(2,.bool back),(3,.pointer (some ⟨aI,0,none⟩)),(6,.pointer (some ⟨aQ,0,none⟩)),(7,.int .i64 (i:Int)),(8,.int .i64 (k:Int))] au/\SH aM M X [Rs.box aQ 120 [.int .i64 0,.int .i64 0],Rs.box aI 24 [.slice aV d.ae.length aU,.int .i64 d.loops]]/\k<=4/\(∀j,j<4*i+k->fE d a back j=false)) rfl ?_ ?_
   ·intro au aq
    refine⟨_,⟨0,rfl,aq.sub ⟨rfl,rfl,rfl,rfl,rfl,rfl,trivial⟩,S3.pick [0,1] [_,_] (by decide) ⟨rfl,rfl,trivial⟩,?cu,?cY⟩⟩
    case cu=>omega
    case cY=>(intro j hj;exact hno j (by omega))
   ·rintro m2 a2 w4 ⟨k,rfl,cx,S4,hk,xV⟩
    clear S3
    refine b7 cx (c:=Yv) rfl ?_
    clear cx a2
    refine U2 Yu Yt rfl rfl rfl (U2 Z5t Yr rfl rfl rfl (U0 rfl (ag 0 1 rfl rfl (af 1 rfl (bV rfl rfl rfl) (U5 rfl (ah [1,2,3,6,7,8,18] rfl (U3 ?_)))))))
    refine Ue Z5v Z5w rfl rfl rfl rfl (fun l5=>?_) (fun l5=>?_)
    ·refine Uf rfl (ah [1,2,3,6,7,8] rfl (U3 (U2 Z5x Z5y rfl rfl rfl (Uc Yq 3 rfl rfl rfl (U2 Z60 Yp rfl rfl rfl (U0 rfl (ag 0 2 rfl rfl (af 2 rfl (run_build (l:=[_,_]) rfl rfl oa rfl rfl) ?_))))))))
     refine ak 3 4 rfl rfl rfl (Uh (l:=[_,_]) rfl rfl rfl mD rfl S4 ?_)
     intro bE w5 S5;clear S4
     refine ak 4 5 rfl rfl rfl (U7 (i:=0) (us:=[_,_]) (l':=[_,_]) (H':=[_,_,_]) rfl rfl S5 rfl rfl rfl rfl fP rfl rfl rfl rfl ?_)
     intro w6 S6;clear S5
     refine U5 rfl (ah [1,2,3,6,7,8,9] rfl (U3 (U2 Z62 Yo rfl rfl rfl (U0 rfl (af 0 rfl (U8 (us:=[_,_]) rfl rfl ay rfl az (S6.ax (i:=2) rfl ⟨rfl,rfl,trivial⟩)) (af 1 rfl (U8 (us:=[_,_]) rfl rfl cN rfl fP (S6.ax (i:=0) rfl ⟨rfl,rfl,trivial⟩)) (ak 2 3 rfl rfl rfl (cC rfl rfl rfl rfl rfl rfl rfl pN S6 (oY d i k (aC.mono S6.Uw) (by omega) (by omega) S6.aD) ?_))))))))
     rintro _ w7 S7 rfl;clear S6
     refine ag 3 1 rfl rfl (af 4 rfl (bP rfl rfl rfl) (ag 5 1 rfl rfl ?_))
     refine Ut (t:=29) rfl (fun sY=>?_) (fun sY=>?_)
     ·refine aH 6 7 rfl rfl rfl rfl rfl rfl rfl rfl (Ub rfl rfl (U8 (us:=[_,_]) rfl rfl ay rfl az (S7.ax (i:=2) rfl ⟨rfl,rfl,trivial⟩)) (aH 7 8 rfl rfl rfl rfl rfl rfl rfl rfl (Ub rfl rfl (U8 (us:=[_,_]) rfl rfl cN rfl fP (S7.ax (i:=0) rfl ⟨rfl,rfl,trivial⟩)) (aH 8 9 rfl rfl rfl rfl rfl rfl rfl rfl (cC rfl rfl rfl rfl rfl rfl rfl adY S7 (ab3 d i k (aC.mono S7.Uw) (by omega) (by omega) S7.aD) ?_)))))
      rintro _ w8 S8 rfl;clear S7
      refine ag 9 1 rfl rfl (aH 10 11 rfl rfl rfl rfl rfl rfl rfl rfl (Ub rfl rfl (aib rfl rfl rfl dh) (ag 11 1 rfl rfl (U5 rfl (ah [1,2,3,6,7,8,9,35] rfl (U3 ?_))))))
      refine cS Yn Z65 rfl rfl rfl rfl (fun tv=>?_) (fun tv=>?_)
      ·refine U2 Z66 Z67 rfl rfl rfl (U0 rfl (af 0 rfl (U8 (us:=[_,_]) rfl rfl cN rfl fP (S8.ax (i:=0) rfl ⟨rfl,rfl,trivial⟩)) (ak 1 2 rfl rfl rfl (U7 (i:=1) (us:=[_,_]) (l':=[_,_]) (H':=[_,_,_]) rfl rfl S8 rfl rfl rfl rfl fP rfl rfl rfl rfl ?_))))
       intro w9 S9;clear S8
       refine U5 rfl (ah [6] rfl (U3 (Uj hC [_] rfl rfl ⟨⟨_,rfl,Um (us:=[_,_]) cN rfl fP (S9.ax (i:=1) rfl ⟨rfl,rfl,trivial⟩)⟩,trivial⟩ ?_)))
       exact⟨_,rfl,(S9.pick [] [] (by decide) trivial),(by first|(rw[aaw (fun j hj=>hno j (by omega))];rfl)|(rw[Eh (j:=4*i+k) (by omega) (by rw[uG (by omega),decide_eq_true (by omega)];simpa using tv) xV,show(4*i+k)/4=i by omega,show(4*i+k)%4=k by omega];rfl))⟩
      ·refine Uf rfl (bk (ah [1,2,3,6,7,8] rfl (U3 (U0 rfl (ag 0 1 rfl rfl (af 1 rfl (Ug rfl rfl rfl (by first|omega|(simp only[ls];omega))) ?_))))))
       refine ag 2 1 rfl rfl (U5 rfl (aP ?_))
       intro au aq
       refine⟨_,?kC,⟨k+1,rfl,aq.sub ⟨rfl,rfl,rfl,rfl,rfl,rfl,trivial⟩,S8.pick [1,2] [_,_] (by decide) ⟨rfl,rfl,trivial⟩,?dO,?gh⟩⟩
       case dO=>omega
       case gh=>(intro j hj;by_cases h:j=4*i+k;(subst h;rw[uG (by omega)];first|(rw[decide_eq_false (by omega)];rfl)|(rw[Bool.and_eq_false_iff];right;simpa using tv));exact xV j (by omega))
       case kC=>omega
     ·refine ag 6 6 rfl rfl (U5 rfl (ah [1,2,3,6,7,8,9,35] rfl (U3 (lK Z65 rfl rfl rfl (Uf rfl (bk (ah [1,2,3,6,7,8] rfl (U3 ?_))))))))
      refine U0 rfl (ag 0 1 rfl rfl (af 1 rfl (Ug rfl rfl rfl (by first|omega|(simp only[ls];omega))) ?_))
      refine ag 2 1 rfl rfl (U5 rfl (aP ?_))
      intro au aq
      refine⟨_,?jG,⟨k+1,rfl,aq.sub ⟨rfl,rfl,rfl,rfl,rfl,rfl,trivial⟩,S7.pick [1,2] [_,_] (by decide) ⟨rfl,rfl,trivial⟩,?eU,?gQ⟩⟩
      case eU=>omega
      case gQ=>(intro j hj;by_cases h:j=4*i+k;(subst h;rw[uG (by omega)];first|(rw[decide_eq_false (by omega)];rfl)|(rw[Bool.and_eq_false_iff];right;simpa using tv));exact xV j (by omega))
      case jG=>omega
    ·refine bS rfl rfl (bk (ah [1,2,3,6,7] rfl (U3 (U0 rfl (ag 0 1 rfl rfl (af 1 rfl (Ug rfl rfl rfl (by first|omega|(simp only[ls];omega))) ?_))))))
     refine ag 2 1 rfl rfl (U5 rfl (aP ?_))
     intro au aq
     refine⟨_,?kB,⟨i+1,rfl,aq.sub ⟨rfl,rfl,rfl,rfl,rfl,trivial⟩,S4.pick [0,1] [_,_] (by decide) ⟨rfl,rfl,trivial⟩,?fB,?gP⟩⟩
     case fB=>omega
     case gP=>(intro j hj;exact xV j (by omega))
     case kB=>omega
  ·refine bS rfl rfl (ah [6] rfl (U3 (U2 Z68 Z69 rfl rfl rfl (U0 rfl (af 0 rfl (run_build (l:=[_,_]) rfl rfl oa rfl rfl) (ak 1 2 rfl rfl rfl (U7 (i:=0) (us:=[_,_]) (l':=[_,_]) (H':=[_,_]) rfl rfl S3 rfl rfl rfl rfl fP rfl rfl rfl rfl ?_)))))))
   intro jZ bF;clear S3
   refine U5 rfl (ah [6] rfl (U3 (Uj hC [_] rfl rfl ⟨⟨_,rfl,Um (us:=[_,_]) cN rfl fP (bF.ax (i:=0) rfl ⟨rfl,rfl,trivial⟩)⟩,trivial⟩ ?_)))
   exact⟨_,rfl,(bF.pick [] [] (by decide) trivial),(by first|(rw[aaw (fun j hj=>hno j (by omega))];rfl)|(rw[Eh (j:=4*i+k) (by omega) (by rw[uG (by omega),decide_eq_true (by omega)];simpa using tv) xV,show(4*i+k)/4=i by omega,show(4*i+k)%4=k by omega];rfl))⟩
noncomputable def Ym:=Tryz.f131.body.getD .skip
def Z6b:=cL Ym
def Yl:=cR Ym
def Z6d:=cL Yl
def Yk:=cR Yl
def Z6f:=cL Yk
def Yj:=cR Yk
def Z6h:=cL Yj
def Z6i:=cR Yj
set_option maxRecDepth 10000 in
theorem agG{w:World}{M:Hp}{X:Fr}(d:Dg){aV:Option Addr}{aU:Nat}(x:Da)(aC:aF aG (M.un X.h) aV aU d.ae)(hab:aX d=true)(hx:okD d x)(S:SH w M X []):Cq Tryz.prog 131 [.agg [.slice aV d.ae.length aU,.int .i64 d.loops].toArray,.agg [.int .i64 x.a,.bool x.b].toArray] w M X (fun u=>u=.agg (vX (jU d x)).toArray):=by
 unfold Cq
 have gK:d.ae.length*40<=140737488355328:=aC.room
 obtain⟨oD,OW,nQ,OV,OU⟩:=fe hab hx x.b
 have adq:((Ud d x.a x.b).2+3)%4<4:=Nat.mod_lt _ (by decide)
 refine Up (b:=Ym) Tryz.func131 rfl Tryz.ntmps131 rfl (fun C hC=>(bq [(0,_),(1,_)] ⟨rfl,rfl,trivial⟩ (U2 Z6b Yl rfl rfl rfl (U0 rfl (ak 0 1 rfl rfl rfl (bA (l:=[_,_]) rfl rfl rfl rfl rfl S ?_))))))
 intro aI w1 S1;clear S
 refine ak 1 2 rfl rfl rfl (bA (l:=[_,_]) rfl rfl rfl rfl rfl S1 ?_)
 intro aQ w2 S2;clear S1
 refine ak 2 3 rfl rfl rfl (Uh (l:=[_,_]) rfl rfl rfl mH rfl S2 ?_)
 intro bE w3 S3;clear S2
 refine U5 rfl (ah [2,3,4] rfl (U3 (U2 Z6d Yk rfl rfl rfl (U0 rfl (af 0 rfl (U8 (us:=[_,_]) rfl rfl ay rfl az (S3.ax (i:=2) rfl ⟨rfl,rfl,trivial⟩)) (af 1 rfl (U1 rfl rfl aZ rfl (aB) (aA)) (af 2 rfl (U4 rfl rfl av rfl (S3.ar (i:=1) rfl rfl)) (af 3 rfl (U1 rfl rfl aZ rfl (fI) (fH)) ?_))))))))
 refine af 4 rfl (U4 rfl rfl dh rfl (S3.ar (i:=1) rfl rfl)) (ak 5 6 rfl rfl rfl (cC rfl rfl rfl rfl rfl rfl rfl lj S3 (lH d x.a x.b (aC.mono S3.Uw) S3.aD) ?_))
 rintro _ w4 S4 rfl;clear S3
 refine ak 6 7 rfl rfl rfl (Uh (l:=[_,_]) rfl rfl rfl mD rfl S4 ?_)
 intro gY w5 S5;clear S4
 refine ak 7 8 rfl rfl rfl (U7 (i:=0) (us:=[_,_]) (l':=[_,_]) (H':=[_,_,_,_]) rfl rfl S5 rfl rfl rfl rfl fP rfl rfl rfl rfl ?_)
 intro w6 S6;clear S5
 refine U5 rfl (ah [2,4,5] rfl (U3 (U2 Z6f Yj rfl rfl rfl (U0 rfl (af 0 rfl (U1 rfl rfl cN rfl (aB) (aA)) (af 1 rfl (U4 rfl rfl av rfl (S6.ar (i:=0) rfl rfl)) (af 2 rfl (U1 rfl rfl cN rfl (aB) (aA)) (af 3 rfl (U4 rfl rfl av rfl (S6.ar (i:=0) rfl rfl)) ?_))))))))
 refine af 4 rfl (Ug rfl rfl rfl (by first|omega|(simp only[ls];omega))) ?_
 refine af 5 rfl (jq rfl rfl rfl (by first|omega|(simp only[ls];omega))) ?_
 refine b6 18 (.int .i64 ((((Ud d x.a x.b).2+3)%4:Nat):Int)) rfl (int_eq (by omega)) ?_
 refine af 6 rfl (run_build (l:=[_,_]) rfl rfl oa rfl rfl) (ak 7 8 rfl rfl rfl (Uh (l:=[_,_]) rfl rfl rfl mD rfl S6 ?_))
 intro iq w7 S7;clear S6
 refine ak 8 9 rfl rfl rfl (U7 (i:=0) (us:=[_,_]) (l':=[_,_]) (H':=[_,_,_,_,_]) rfl rfl S7 rfl rfl rfl rfl fP rfl rfl rfl rfl ?_)
 intro w8 S8;clear S7
 refine U5 rfl (ah [2,4,6] rfl (U3 (U2 Z6h Z6i rfl rfl rfl (Ux rfl (by kernel_rfl) S8 8 rfl ?_))))
 clear S8
 refine aj 0 7 rfl (by kernel_rfl) (fun _ _ _ hz Sz=>.inl (U8 (us:=[_,_]) rfl rfl ay rfl az (Sz.suf.ax (i:=4) rfl ⟨rfl,rfl,trivial⟩))) ?_
 refine aj 1 6 rfl (by kernel_rfl) (fun _ _ _ hz Sz=>.inl (U8 (us:=[_,_]) rfl rfl cN rfl fP (Sz.suf.ax (i:=0) rfl ⟨rfl,rfl,trivial⟩))) ?_
 refine aj 2 5 rfl (by kernel_rfl) (fun _ _ _ hz Sz=>Uq rfl rfl rfl rfl rfl pN Sz (oY d ((Ud d x.a x.b).1) (((Ud d x.a x.b).2+3)%4) ((aC.mono (Hp.Ua hz Sz.mx)).mono Sz.Uw) (by omega) (by omega) Sz.aD)) ?_
 refine aj 3 4 rfl (by kernel_rfl) (fun _ _ _ hz Sz=>.inl (U8 (us:=[_,_]) rfl rfl ay rfl az (Sz.suf.ax (i:=4) rfl ⟨rfl,rfl,trivial⟩))) ?_
 refine aj 4 3 rfl (by kernel_rfl) (fun _ _ _ hz Sz=>.inl (U8 (us:=[_,_]) rfl rfl cN rfl fP (Sz.suf.ax (i:=0) rfl ⟨rfl,rfl,trivial⟩))) ?_
 refine aj 5 2 rfl (by kernel_rfl) (fun _ _ _ hz Sz=>Uq rfl rfl rfl rfl rfl adY Sz (ab3 d ((Ud d x.a x.b).1) (((Ud d x.a x.b).2+3)%4) ((aC.mono (Hp.Ua hz Sz.mx)).mono Sz.Uw) (by omega) (by omega) Sz.aD)) ?_
 refine aj 6 1 rfl (by kernel_rfl) (fun _ _ _ hz Sz=>.inl (run_build (l:=[_,_]) rfl rfl xQ rfl rfl)) ?_
 refine Un (i:=7) 0 rfl (by kernel_rfl) rfl rfl (fun lv bI=>?_)
 refine(U7 (i:=2) (us:=[_,_]) (l':=[_,_]) (H':=[_,_,_,_,_]) rfl rfl bI rfl rfl rfl rfl cg rfl rfl rfl rfl ?_)
 intro rC bY;clear bI
 refine aN.turn (by kernel_rfl) bY ?_;clear bY
 change WA _ _ _ _ _ _ _ _ _ _ _ _ [_,_,_,_,_]
 refine Uu (by kernel_rfl) (fun oq dC=>?_)
 refine ah [4] rfl (U3 (Uj hC [_] rfl rfl ⟨⟨_,rfl,Um (us:=[_,_]) aZ rfl cg (dC.ax (i:=2) rfl ⟨rfl,rfl,trivial⟩)⟩,trivial⟩ ?_))
 exact⟨_,rfl,(dC.pick [] [] (by decide) trivial),rfl⟩
noncomputable def Yi:=Tryz.f130.body.getD .skip
def Z6k:=cL Yi
def Yh:=cR Yi
def Yg:=cL Yh
def Yf:=cR Yh
def Z6o:=cL Yg
def Ye:=cR Yg
def Yd:=cL Ye
def Z6r:=cR Ye
def Z6s:=cL Yd
def Z6t:=cR Yd
def Z6u:=cL Yf
def Z6v:=cR Yf
set_option maxRecDepth 10000 in
theorem aay{w:World}{M:Hp}{X:Fr}(x:Da)(hx:1<=x.a/\x.a<=1000)(S:SH w M X []):Cq Tryz.prog 130 [.agg [.int .i64 x.a,.bool x.b].toArray] w M X (fun u=>u=.int .i64 (mq x:Int)):=by
 unfold Cq
 refine Up (b:=Yi) Tryz.func130 rfl Tryz.ntmps130 rfl (fun C hC=>(bq [(0,_)] ⟨rfl,trivial⟩ (U2 Z6k Yh rfl rfl rfl (U0 rfl (ak 0 1 rfl rfl rfl (bA (l:=[_,_]) rfl rfl rfl rfl rfl S ?_))))))
 intro aI w1 S1;clear S
 refine ag 1 1 rfl rfl (U5 rfl (ah [1] rfl (U3 (U2 Yg Yf rfl rfl rfl (U2 Z6o Ye rfl rfl rfl (U0 rfl (af 0 rfl (U1 rfl rfl aZ rfl (fI) (fH)) (af 1 rfl (U4 rfl rfl dh rfl (S1.ar (i:=0) rfl rfl)) ?_))))))))
 refine U5 rfl (ah [1,4] rfl (U3 ?_))
 refine cS Yd Z6r rfl rfl rfl rfl (fun hb4=>?_) (fun hb4=>?_)
 ·refine U2 Z6s Z6t rfl rfl rfl (U0 rfl (af 0 rfl (U1 rfl rfl aZ rfl (aB) (aA)) (af 1 rfl (U4 rfl rfl av rfl (S1.ar (i:=0) rfl rfl)) (af 2 rfl (iH rfl rfl rfl (by first|omega|(simp only[ls];omega))) ?_))))
  refine af 3 rfl (Ug rfl rfl rfl (by first|omega|(simp only[ls];omega))) ?_
  refine ag 4 1 rfl rfl (U5 rfl (ah [2] rfl (U3 (Uj hC [_] rfl rfl ⟨rfl,trivial⟩ ?_))))
  exact⟨_,rfl,(S1.pick [] [] (by decide) trivial),(by show Value.int _ _=_;refine congrArg (Value.int .i64) ?_;unfold mq;rw[hb4];first|(rw[if_pos rfl];omega)|(rw[if_neg Bool.false_ne_true];omega))⟩
 ·refine Uf rfl (ah [1] rfl (U3 (U2 Z6u Z6v rfl rfl rfl (U0 rfl (af 0 rfl (U1 rfl rfl aZ rfl (aB) (aA)) (af 1 rfl (U4 rfl rfl av rfl (S1.ar (i:=0) rfl rfl)) (af 2 rfl (iH rfl rfl rfl (by first|omega|(simp only[ls];omega))) ?_)))))))
  refine ag 3 1 rfl rfl (U5 rfl (ah [2] rfl (U3 (Uj hC [_] rfl rfl ⟨rfl,trivial⟩ ?_))))
  exact⟨_,rfl,(S1.pick [] [] (by decide) trivial),(by show Value.int _ _=_;refine congrArg (Value.int .i64) ?_;unfold mq;rw[hb4];first|(rw[if_pos rfl];omega)|(rw[if_neg Bool.false_ne_true];omega))⟩
noncomputable def Yc:=Tryz.f74.body.getD .skip
def Z6x:=cL Yc
def Yb:=cR Yc
def Z6z:=cL Yb
def Ya:=cR Yb
def Z71:=cL Ya
def X9:=cR Ya
def Z73:=cL X9
def X8:=cR X9
def X7:=cL X8
def X6:=cR X8
def Z77:=cL X7
def Z78:=cR X7
def Z79:=cL Z78
def X5:=cL Z79
def X4:=cL X5
def X3:=cR X5
def Z7d:=cL X4
def XZ:=cR X4
def Z7f:=cL XZ
def Z7g:=cR XZ
def Z7h:=cL X3
def Z7i:=cR X3
def XY:=cL Z7h
def XX:=cL XY
def XW:=cR XY
def Z7m:=cL XX
def XV:=cR XX
def Z7o:=cL XV
def Z7p:=cR XV
def Z7q:=cL XW
def XU:=cR XW
def Z7s:=cL XU
def XT:=cR XU
def Z7u:=cL XT
def Z7v:=cR XT
def Z7w:=cL Z7u
def XS:=cL Z7w
def XR:=cL XS
def Z7z:=cR XS
def Z80:=cL XR
def XQ:=cR XR
def Z82:=cL XQ
def Z83:=cR XQ
def XP:=cL Z7z
def Z85:=cL XP
def XO:=cR XP
def Z87:=cL XO
def Z88:=cR XO
def Z89:=cL X6
def Z8a:=cR X6
set_option maxHeartbeats 1000000 in
set_option maxRecDepth 10000 in
theorem zX{w:World}{M:Hp}{X:Fr}(d:Dg){aV:Option Addr}{aU:Nat}(aC:aF aG (M.un X.h) aV aU d.ae)(hn:d.ae.length<=16)(hab:aX d=true)(S:SH w M X []):Ct Tryz.prog 74 [.agg [.slice aV d.ae.length aU,.int .i64 d.loops].toArray] w M X (Fx d):=by
 unfold Ct
 have gK:d.ae.length*40<=140737488355328:=aC.room
 refine Up (b:=Yc) Tryz.func74 rfl Tryz.ntmps74 rfl (fun C hC=>(bq [(0,_)] ⟨rfl,trivial⟩ (U2 Z6x Yb rfl rfl rfl (U0 rfl (ak 0 1 rfl rfl rfl (bA (l:=[_,_]) rfl rfl rfl rfl rfl S ?_))))))
 intro aI w1 S1;clear S
 refine ag 1 1 rfl rfl (U5 rfl (ah [1] rfl (U3 (U2 Z6z Ya rfl rfl rfl (U0 rfl (af 0 rfl (U1 rfl rfl ay rfl (bK) (bJ)) (af 1 rfl (U4 rfl rfl bG rfl (S1.ar (i:=0) rfl rfl)) (af 2 rfl (cI rfl rfl rfl rfl rfl rfl bG) ?_))))))))
 refine af 3 rfl (iH rfl rfl rfl (by first|omega|(simp only[ls];omega))) ?_
 refine af 4 rfl (Ug rfl rfl rfl (by first|omega|(simp only[ls];omega))) ?_
 refine ag 5 1 rfl rfl (U5 rfl (ah [1,3] rfl (U3 (U2 Z71 X9 rfl rfl rfl (U0 rfl (ag 0 1 rfl rfl (ak 1 2 rfl rfl rfl (oU (C:=gw) ((4*(d.ae.length:Int)).toNat+2) rfl rfl rfl rfl rfl mE (by first|rfl|omega) (by show _*1<=_;first|omega|(simp only[ls];omega)) S1 ?_))))))))
 intro yY w2 S2;clear S1
 refine ag 2 1 rfl rfl (U5 rfl (ah [1,3,4] rfl (U3 (U2 Z73 X8 rfl rfl rfl (U0 rfl (ag 0 1 rfl rfl (U5 rfl (U3 ?_))))))))
 refine U2 X7 X6 rfl rfl rfl (U2 Z77 Z78 rfl rfl rfl (U0 rfl (ag 0 1 rfl rfl (U5 rfl (U3 (Uc Z79 0 rfl rfl rfl ?_))))))
 have S3:=S2.np (cB 141);clear S2
 refine Uz (fun aS au aM=>∃(k:Nat) (seen:List Bool) (iC:List (List Int)) (vs:List eT) (tT:Value) (eX:Value) (M1:Hp),M.le M1/\aS=4*d.ae.length-k/\Env 53 [(1,.pointer (some ⟨aI,0,none⟩)),(3,.int .i64 ((4*(d.ae.length:Int))+2)),(4,tT),(5,eX),(6,.int .i64 ((k+2:Nat):Int))] au/\SH aM M1 X [Rs.row (cB 141) eX vs,Rs.row gw tT seen,Rs.box aI 24 [.slice aV d.ae.length aU,.int .i64 d.loops]]/\k<=4*d.ae.length/\dQ d k=(seen,iC)/\ez bW M1 vs (iC.map ik)) rfl ?_ ?_
 ·intro au aq
  refine⟨_,⟨0,_,[],_,_,_,_,Hp.le_refl _,rfl,aq.sub ⟨rfl,rfl,rfl,rfl,rfl,trivial⟩,S3.pick [0,1,2] [_,_,_] (by decide) ⟨rfl,rfl,rfl,trivial⟩,?cd,?cT,?lS⟩⟩
  case cd=>omega
  case cT=>(unfold dQ;first|rfl|(congr 1))
  case lS=>first|exact ez.dW|(rw[e9];exact ez.dW)
 ·rintro m1 a1 w3 ⟨k,seen,iC,vs,tT,eX,M1,aL,rfl,bh,S4,hk,hfn,eQ⟩
  clear S3
  refine b7 bh (c:=X5) rfl ?_
  clear bh a1
  replace aC:=aC.mono (Hp.Ua aL S4.mx)
  have hvs:=eQ.1
  rw[List.length_map]at hvs
  have kv:=zM d k
  rw[hfn]at kv
  replace kv:iC.length<=k:=kv
  have hsl:seen.length=4*d.ae.length+2:=by have h9:=zE d k;rw[hfn]at h9;exact h9
  refine U2 X4 X3 rfl rfl rfl (U2 Z7d XZ rfl rfl rfl (U0 rfl (ag 0 2 rfl rfl (af 2 rfl (bV rfl rfl rfl) (U5 rfl (ah [1,3,4,5,6,18] rfl (U3 ?_)))))))
  refine Ue Z7f Z7g rfl rfl rfl rfl (fun l5=>?_) (fun l5=>?_)
  ·refine Uf rfl (ah [1,3,4,5,6] rfl (U3 (U2 Z7h Z7i rfl rfl rfl (Uc XY 1 rfl rfl rfl (U2 XX XW rfl rfl rfl (U2 Z7m XV rfl rfl rfl (U0 rfl (ag 0 2 rfl rfl ?_))))))))
   refine af 2 rfl (Ui (C:=gw) (i:=1) (k+2) rfl rfl rfl mE S4 rfl (by first|rfl|omega) (by first|omega|(simp only[ls];omega))) ?_
   refine af 3 rfl (U4 rfl rfl dh rfl (S4.dv (i:=1) (e:=k+2) (j:=0) rfl (by first|omega|(simp only[ls];omega)) rfl rfl)) ?_
   refine U5 rfl (ah [1,3,4,5,6,24] rfl (U3 ?_))
   refine cS Z7o Z7p rfl rfl rfl rfl (fun nI=>?_) (fun nI=>?_)
   ·refine bS rfl rfl (ah [1,3,4,5,6] rfl (U3 (U0 rfl (ag 0 1 rfl rfl (af 1 rfl (Ug rfl rfl rfl (by first|omega|(simp only[ls];omega))) ?_)))))
    refine ag 2 1 rfl rfl (U5 rfl (aP ?_))
    intro au aq
    refine⟨_,?dJ,⟨k+1,_,iC,_,_,_,_,(aL),rfl,aq.sub ⟨rfl,rfl,rfl,rfl,rfl,trivial⟩,S4.pick [0,1,2] [_,_,_] (by decide) ⟨rfl,rfl,rfl,trivial⟩,?cu,?cY,?ku⟩⟩
    case cu=>omega
    case cY=>first|exact rT hfn nI|exact rS hfn (by simpa using nI) (hrg.trans (D4 (by simpa using og)))
    case ku=>first|exact eQ|(rw[e9];exact eQ)
    case dJ=>omega
   ·refine Uf rfl (ah [1,3,4,5,6] rfl (U3 (U2 Z7q XU rfl rfl rfl (U0 rfl (ag 0 1 rfl rfl (U5 rfl (U3 (U2 Z7s XT rfl rfl rfl ?_))))))))
    refine U0 rfl (ag 0 1 rfl rfl (af 1 rfl (ah8 rfl rfl rfl (by first|omega|(simp only[ls];omega))) ?_))
    refine ag 2 1 rfl rfl (af 3 rfl (jq rfl rfl rfl (by first|omega|(simp only[ls];omega))) ?_)
    refine af 4 rfl (bP rfl rfl rfl) (b6 26 (.int .i64 ((dA (k+2)).a)) rfl (int_eq (by show _=(((k+2)/2:Nat):Int);omega)) ?_)
    refine b6 29 (.bool ((dA (k+2)).b)) rfl (congrArg Value.bool (by show _=decide _;exact decide_eq_decide.2 (by omega))) ?_
    refine af 5 rfl (run_build (l:=[_,_]) rfl rfl xQ rfl rfl) (ak 6 7 rfl rfl rfl (Uh (l:=[_,_]) rfl rfl rfl mH rfl S4 ?_))
    intro aQ w4 S5;clear S4
    refine ak 7 8 rfl rfl rfl (U7 (i:=0) (us:=[_,_]) (l':=[_,_]) (H':=[_,_,_,_]) rfl rfl S5 rfl rfl rfl rfl cg rfl rfl rfl rfl ?_)
    intro w5 S6;clear S5
    refine U5 rfl (ah [1,3,4,5,6,7,8] rfl (U3 (U2 Z7u Z7v rfl rfl rfl (Uc Z7w 2 rfl rfl rfl ?_))))
    have S7:=S6.np bW;clear S6
    refine Uz (fun aS au aM=>∃(fy:List Bool) (x:Nat) (y:Da) (acc:List Int) (kX:List Da) (sP:Value) (sw:Value),aS=free fy/\Env 53 [(1,.pointer (some ⟨aI,0,none⟩)),(3,.int .i64 ((4*(d.ae.length:Int))+2)),(4,sP),(5,eX),(6,.int .i64 ((k+2:Nat):Int)),(7,sw),(8,.pointer (some ⟨aQ,0,none⟩))] au/\SH aM M1 X [Rs.row bW sw kX,Rs.box aQ 26 [.int .i64 y.a,.bool y.b],Rs.row (cB 141) eX vs,Rs.row gw sP fy,Rs.box aI 24 [.slice aV d.ae.length aU,.int .i64 d.loops]]/\eY (dN d) seen (k+2) []=eY (dN d) fy x acc/\kX=ik acc/\(2<=x/\x<4*d.ae.length+2)/\fy.length=4*d.ae.length+2/\y=dA x/\acc.length+free fy<=100) rfl ?_ ?_
    ·intro au aq
     refine⟨_,⟨seen,k+2,(dA (k+2)),[],_,_,_,rfl,aq.sub ⟨rfl,rfl,rfl,rfl,rfl,rfl,rfl,trivial⟩,S7.pick [0,1,2,3,4] [_,_,_,_,_] (by decide) ⟨rfl,rfl,rfl,rfl,rfl,trivial⟩,?dO,?gh,?ny,?xH,?FO,?aku⟩⟩
     case dO=>rfl
     case gh=>rfl
     case ny=>omega
     case xH=>exact hsl
     case FO=>rfl
     case aku=>(have h8:free seen<=seen.length:=List.countP_le_length;simp only[List.length_nil];omega)
    ·rintro m2 a2 w6 ⟨fy,x,y,acc,kX,sP,sw,rfl,cx,S8,hrg,sH,hx,hs2,hy,hroom⟩
     clear S7
     refine b7 cx (c:=XS) rfl ?_
     clear cx a2
     have hyk:okD d y:=by rw[hy];exact od hx
     have avQ:=hyk.1
     have avP:=hyk.2
     have hrl:kX.length=acc.length:=by rw[sH];simp[ik]
     have kO:mq y=x:=by rw[hy];exact AG x
     refine U2 XR Z7z rfl rfl rfl (U2 Z80 XQ rfl rfl rfl (U0 rfl (ag 0 1 rfl rfl (af 1 rfl (U8 (us:=[_,_]) rfl rfl aZ rfl cg (S8.ax (i:=1) rfl ⟨rfl,rfl,trivial⟩)) (ak 2 3 rfl rfl rfl (cC rfl rfl rfl rfl rfl rfl rfl acP S8 (aay y ((by omega)) S8.aD) ?_))))))
     rintro _ w7 S9 rfl;clear S8
     refine b6 33 (.int .i64 (x:Int)) rfl (int_eq (by rw[kO])) ?_
     refine af 3 rfl (Ui (C:=gw) (i:=3) x rfl rfl rfl mE S9 rfl (by first|rfl|omega) (by first|omega|(simp only[ls];omega))) ?_
     refine af 4 rfl (U4 rfl rfl dh rfl (S9.dv (i:=3) (e:=x) (j:=0) rfl (by first|omega|(simp only[ls];omega)) rfl rfl)) ?_
     refine af 5 rfl (dE rfl rfl) (U5 rfl (ah [1,3,4,5,6,7,8,36] rfl (U3 ?_)))
     refine cS Z82 Z83 rfl rfl rfl rfl (fun og=>?_) (fun og=>?_)
     ·simp only[Bool.and_eq_true,Bool.or_eq_true,Bool.and_eq_false_iff,Bool.or_eq_false_iff,decide_eq_true_eq,decide_eq_false_iff_not,Bool.not_eq_true',Bool.not_eq_false']at og
      refine Uf rfl (ah [1,3,4,5,6,7,8] rfl (U3 (Uc XP 3 rfl rfl rfl (U2 Z85 XO rfl rfl rfl (U0 rfl (ag 0 1 rfl rfl (af 1 rfl (U8 (us:=[_,_]) rfl rfl aZ rfl cg (S9.ax (i:=1) rfl ⟨rfl,rfl,trivial⟩)) (ak 2 3 rfl rfl rfl (cC rfl rfl rfl rfl rfl rfl rfl acP S9 (aay y ((by omega)) S9.aD) ?_)))))))))
      rintro _ w8 bF rfl;clear S9
      refine b6 39 (.int .i64 (x:Int)) rfl (int_eq (by rw[kO])) ?_
      refine af 3 rfl (Ui (C:=gw) (i:=3) x rfl rfl rfl mE bF rfl (by first|rfl|omega) (by first|omega|(simp only[ls];omega))) ?_
      refine ak 4 5 rfl rfl rfl (gy (C:=gw) (i:=3) (e:=x) (j:=0) (us:=[_]) (H':=[_,_,_,_,_]) true rfl rfl bF rfl (by first|omega|(simp only[ls];omega)) rfl rfl rfl vQ rfl rfl rfl rfl ?_)
      intro w9 bQ;clear bF
      refine U5 rfl (ah [1,3,4,5,6,7,8] rfl (U3 (U2 Z87 Z88 rfl rfl rfl (U0 rfl (ag 0 1 rfl rfl (af 1 rfl (U8 (us:=[_,_]) rfl rfl aZ rfl cg (bQ.ax (i:=1) rfl ⟨rfl,rfl,trivial⟩)) (ak 2 3 rfl rfl rfl (iy (C:=bW) (l:=[_,_]) rfl rfl rfl rfl gM rfl rfl rfl rfl bQ ?_))))))))
      intro bE jZ cw;clear bQ
      refine ak 3 4 rfl rfl rfl (jg (C:=bW) (i:=1) (q:=0) (⟨y.a,y.b⟩:Da) rfl rfl rfl rfl rfl rfl rfl rfl gM cw rfl rfl rfl (by show(_+1)*16<=_;first|omega|(simp only[ls];omega)) ?_)
      intro ai2 kH bZ;clear cw
      have bN:=bZ.pick [1,2,3,4,5] [_,_,_,_,_] (by decide) ⟨rfl,rfl,rfl,rfl,rfl,trivial⟩;clear bZ
      refine ag 4 1 rfl rfl (U5 rfl (ah [1,3,4,5,6,7,8] rfl (U3 (U0 rfl (af 0 rfl (U8 (us:=[_,_]) rfl rfl ay rfl az (bN.ax (i:=4) rfl ⟨rfl,rfl,trivial⟩)) (af 1 rfl (U8 (us:=[_,_]) rfl rfl aZ rfl cg (bN.ax (i:=1) rfl ⟨rfl,rfl,trivial⟩)) (ak 2 3 rfl rfl rfl (cC rfl rfl rfl rfl rfl rfl rfl alx bN (agG d y (aC.mono bN.Uw) (hab) ((by first|assumption|omega)) bN.aD) ?_))))))))
      rintro _ mb bX rfl;clear bN
      refine ak 3 4 rfl rfl rfl (U7 (i:=1) (us:=[_,_]) (l':=[_,_]) (H':=[_,_,_,_,_]) rfl rfl bX rfl rfl rfl rfl cg rfl rfl rfl rfl ?_)
      intro lB bM;clear bX
      refine U5 rfl (bk (aP ?_))
      have qd:ga fy x=false:=by simpa using og
      have zo:=mW (seen:=fy) (x:=x) (by omega) qd
      intro au aq
      refine⟨_,?jG,⟨fy.set x true,dN d x,jU d y,acc++[(x:Int)],_,_,_,rfl,aq.sub ⟨rfl,rfl,rfl,rfl,rfl,rfl,rfl,trivial⟩,bM.pick [0,1,2,3,4] [_,_,_,_,_] (by decide) ⟨rfl,rfl,rfl,rfl,rfl,trivial⟩,?eU,?gQ,?o8,?xG,?FN,?FM⟩⟩
      case eU=>(rw[hrg];exact rP (by omega) qd)
      case gQ=>(rw[aaV,<-sH,hy])
      case o8=>exact Ap hab hx
      case xG=>(rw[List.length_set];exact hs2)
      case FN=>(rw[hy,xw hab hx])
      case FM=>(simp only[List.length_append,List.length_cons,List.length_nil];omega)
      case jG=>omega
     ·simp only[Bool.and_eq_true,Bool.or_eq_true,Bool.and_eq_false_iff,Bool.or_eq_false_iff,decide_eq_true_eq,decide_eq_false_iff_not,Bool.not_eq_true',Bool.not_eq_false']at og
      refine bS rfl rfl (ah [1,3,4,5,6,7] rfl (U3 (U0 rfl (ag 0 2 rfl rfl ?_))))
      obtain⟨M2,dw,bI,⟨A1,c1,e1,hr1⟩⟩:=S9.fZ (i:=0) (H':=[_,_,_,_,_]) rfl rfl (by show _*16<=_;first|omega|(simp only[ls];omega))
      clear S9;subst e1
      replace aC:=aC.mono (Hp.Ua dw bI.mx)
      replace eQ:=eQ.mono dw
      refine ak 2 3 rfl rfl rfl (iy (C:=(cB 141)) (l:=[_]) rfl rfl rfl rfl jF rfl rfl rfl rfl bI ?_)
      intro gY jY bY;clear bI
      refine ak 3 4 rfl rfl rfl (jg (C:=(cB 141)) (i:=3) (q:=0) (⟨A1,kX.length,c1⟩:eT) rfl rfl rfl rfl rfl rfl rfl rfl jF bY rfl rfl rfl (by show(_+1)*24<=_;first|omega|(simp only[ls];omega)) ?_)
      intro ac9 ot dC;clear bY
      have dB:=dC.pick [1,2,3,4,5] [_,_,_,_,_] (by decide) ⟨rfl,rfl,rfl,rfl,rfl,trivial⟩;clear dC
      have hd1:=eQ.snoc (c:=c1) hr1
      refine ag 4 1 rfl rfl (U5 rfl (bk (ah [1,3,4,5,6] rfl (U3 (U0 rfl (ag 0 1 rfl rfl (af 1 rfl (Ug rfl rfl rfl (by first|omega|(simp only[ls];omega))) ?_)))))))
      refine ag 2 1 rfl rfl (U5 rfl (aP ?_))
      have hdx:mq y=x:=by rw[hy];exact AG x
      have e9:List.map ik (iC++[acc])=List.map ik iC++[kX]:=by rw[List.map_append,show List.map ik [acc]=[kX]from by rw[sH];rfl]
      intro au aq
      refine⟨_,?kB,⟨k+1,_,(iC++[acc]),_,_,_,_,(aL.trans dw),rfl,aq.sub ⟨rfl,rfl,rfl,rfl,rfl,trivial⟩,dB.pick [2,3,4] [_,_,_] (by decide) ⟨rfl,rfl,rfl,trivial⟩,?fB,?gP,?o7⟩⟩
      case fB=>omega
      case gP=>first|exact rT hfn nI|exact rS hfn (by simpa using nI) (hrg.trans (D4 (by simpa using og)))
      case o7=>first|exact hd1|(rw[e9];exact hd1)
      case kB=>omega
  ·refine bS rfl rfl (ah [5] rfl (U3 (U2 Z89 Z8a rfl rfl rfl (U0 rfl (ag 0 2 rfl rfl (U5 rfl (ah [2] rfl (U3 ?_))))))))
   obtain⟨M3,dM,dt,⟨A2,c2,e2,hr2⟩⟩:=S4.fZ (i:=0) (H':=[_,_,_]) rfl rfl (by show _*24<=_;first|omega|(simp only[ls];omega))
   clear S4;subst e2
   replace aC:=aC.mono (Hp.Ua dM dt.mx)
   replace eQ:=eQ.mono dM
   refine Uj hC [_] rfl rfl ⟨rfl,trivial⟩ ?_
   refine⟨_,rfl,_,aL.trans dM,(dt.pick [] [] (by decide) trivial),?_⟩
   obtain rfl:k=4*d.ae.length:=by omega
   have e2:U6 d=iC.map ik:=by unfold U6 uM;rw[hfn]
   unfold Fx
   rw[e2]
   exact⟨_,_,_,rfl,hr2,eQ⟩
end Go.Proofs.YthppkofceancjaaGreat
namespace Go.Proofs.YthppkofceancjaaGreat
open Go.ChangeShapes Go.WideShapes Go.ChangeAt Go.RowKit
def jl(ws:List Int)(x y:Nat):List Int:=if ga ws x<ga ws y then ws.set y (ga ws x)else ws.set x (ga ws y)
def iniW(n:Nat):Nat->List Int
 |0=>List.replicate n 0
 |k+1=>(iniW n k).set k (k:Int)
def eD(d:Dg)(k:Nat)(b:Bool):Nat:=(Ud d ((k+1:Nat):Int) b).1
def r8(d:Dg)(ws:List Int):Nat->List Int
 |0=>ws
 |k+1=>jl (r8 d ws k) (eD d k false) (eD d k true)
def sD(d:Dg):Nat->List Int
 |0=>iniW d.ae.length d.ae.length
 |j+1=>r8 d (sD d j) (2*d.ae.length)
def eV(d:Dg):List Int:=sD d d.ae.length
theorem D8(ws:List Int)(x y:Nat):(jl ws x y).length=ws.length:=by
 unfold jl
 split<;>rw[List.length_set]
theorem rO(n k:Nat):(iniW n k).length=n:=by
 induction k with
 |zero=>exact List.length_replicate
 |succ k ih=>rw[iniW,List.length_set,ih]
theorem aaq(d:Dg)(ws:List Int)(k:Nat):(r8 d ws k).length=ws.length:=by
 induction k with
 |zero=>rfl
 |succ k ih=>rw[r8,D8,ih]
theorem zQ(d:Dg)(j:Nat):(sD d j).length=d.ae.length:=by
 induction j with
 |zero=>exact rO _ _
 |succ j ih=>rw[sD,aaq,ih]
theorem wW{d:Dg}(h:aX d=true){k:Nat}(hk:k<2*d.ae.length)(b:Bool):eD d k b<d.ae.length:=(fe h (a:=((k+1:Nat):Int)) (by omega) b).1
noncomputable def XM:=Tryz.f25.body.getD .skip
def Z8c:=cL XM
def XL:=cR XM
def Z8e:=cL XL
def XK:=cR XL
def Z8g:=cL XK
def XJ:=cR XK
def XI:=cL XJ
def XG:=cR XJ
def Z8k:=cL XI
def Z8l:=cR XI
def Z8m:=cL Z8l
def XF:=cL Z8m
def XE:=cL XF
def XD:=cR XF
def Z8q:=cL XE
def XC:=cR XE
def Z8s:=cL XC
def Z8t:=cR XC
def Z8u:=cL XD
def Z8v:=cR XD
def Z8w:=cL Z8u
def XB:=cL XG
def XA:=cR XG
def Z8z:=cL XB
def Z90:=cR XB
def Z91:=cL Z90
def Xz:=cL Z91
def Xy:=cL Xz
def Xx:=cR Xz
def Z95:=cL Xy
def Xw:=cR Xy
def Z97:=cL Xw
def Z98:=cR Xw
def Z99:=cL Xx
def Z9a:=cR Xx
def Xv:=cL Z99
def Z9c:=cL Xv
def Z9d:=cR Xv
def Z9e:=cL Z9d
def Xu:=cL Z9e
def Xt:=cL Xu
def Xr:=cR Xu
def Z9i:=cL Xt
def Xq:=cR Xt
def Z9k:=cL Xq
def Z9l:=cR Xq
def Z9m:=cL Xr
def Z9n:=cR Xr
def Xp:=cL Z9m
def Z9p:=cL Xp
def Xo:=cR Xp
def Z9r:=cL Xo
def Xn:=cR Xo
def Z9t:=cL Xn
def Z9u:=cR Xn
def Z9v:=cL XA
def Z9w:=cR XA
set_option maxHeartbeats 1000000 in
set_option maxRecDepth 10000 in
theorem agF{w:World}{M:Hp}{X:Fr}(d:Dg){aV:Option Addr}{aU:Nat}(aC:aF aG (M.un X.h) aV aU d.ae)(hn:d.ae.length<=16)(hab:aX d=true)(S:SH w M X []):Ct Tryz.prog 25 [.agg [.slice aV d.ae.length aU,.int .i64 d.loops].toArray] w M X (fun u M=>∃A c,u=.slice A (eV d).length c/\aF Uv M A c (eV d)):=by
 unfold Ct
 have gK:d.ae.length*40<=140737488355328:=aC.room
 refine Up (b:=XM) Tryz.func25 rfl Tryz.ntmps25 rfl (fun C hC=>(bq [(0,_)] ⟨rfl,trivial⟩ (U2 Z8c XL rfl rfl rfl (U0 rfl (ak 0 1 rfl rfl rfl (bA (l:=[_,_]) rfl rfl rfl rfl rfl S ?_))))))
 intro aI w1 S1;clear S
 refine ag 1 1 rfl rfl (U5 rfl (ah [1] rfl (U3 (U2 Z8e XK rfl rfl rfl (U0 rfl (af 0 rfl (U1 rfl rfl ay rfl (bK) (bJ)) (af 1 rfl (U4 rfl rfl bG rfl (S1.ar (i:=0) rfl rfl)) (af 2 rfl (cI rfl rfl rfl rfl rfl rfl bG) ?_))))))))
 refine ag 3 1 rfl rfl (U5 rfl (ah [1,3] rfl (U3 (U2 Z8g XJ rfl rfl rfl (U0 rfl (ag 0 1 rfl rfl (ak 1 2 rfl rfl rfl (oU (C:=Uv) d.ae.length rfl rfl rfl rfl rfl bw (by first|rfl|omega) (by show _*8<=_;first|omega|(simp only[ls];omega)) S1 ?_))))))))
 intro yY w2 S2;clear S1
 refine ag 2 1 rfl rfl (U5 rfl (ah [1,3,4] rfl (U3 (U2 XI XG rfl rfl rfl (U2 Z8k Z8l rfl rfl rfl (U0 rfl (ag 0 1 rfl rfl (U5 rfl ?_))))))))
 refine U3 (Uc Z8m 0 rfl rfl rfl ?_)
 refine Uz (fun aS au aM=>∃(i:Nat) (ws:List Int) (nN:Value),aS=d.ae.length-i/\Env 67 [(1,.pointer (some ⟨aI,0,none⟩)),(3,.int .i64 (d.ae.length:Int)),(4,nN),(5,.int .i64 (i:Int))] au/\SH aM M X [Rs.row Uv nN ws,Rs.box aI 24 [.slice aV d.ae.length aU,.int .i64 d.loops]]/\i<=d.ae.length/\ws=iniW d.ae.length i) rfl ?_ ?_
 ·intro au aq
  refine⟨_,⟨0,_,_,rfl,aq.sub ⟨rfl,rfl,rfl,rfl,trivial⟩,S2.pick [0,1] [_,_] (by decide) ⟨rfl,rfl,trivial⟩,?cd,?cT⟩⟩
  case cd=>omega
  case cT=>rfl
 ·rintro m1 a1 w3 ⟨i,ws,nN,rfl,bh,S3,hi,hw⟩
  clear S2
  refine b7 bh (c:=XF) rfl ?_
  clear bh a1
  have tZ:ws.length=d.ae.length:=by rw[hw,rO]
  refine U2 XE XD rfl rfl rfl (U2 Z8q XC rfl rfl rfl (U0 rfl (ag 0 2 rfl rfl (af 2 rfl (bV rfl rfl rfl) (U5 rfl (ah [1,3,4,5,17] rfl (U3 ?_)))))))
  refine Ue Z8s Z8t rfl rfl rfl rfl (fun ij=>?_) (fun ij=>?_)
  ·refine Uf rfl (ah [1,3,4,5] rfl (U3 (U2 Z8u Z8v rfl rfl rfl (Uc Z8w 1 rfl rfl rfl (U0 rfl (ag 0 3 rfl rfl (af 3 rfl (Ui (C:=Uv) (i:=0) i rfl rfl rfl bw S3 rfl (by first|rfl|omega) (by first|omega|(simp only[ls];omega))) ?_)))))))
   refine ak 4 5 rfl rfl rfl (gy (C:=Uv) (i:=0) (e:=i) (j:=0) (us:=[_]) (H':=[_,_]) (i:Int) rfl rfl S3 rfl (by first|omega|(simp only[ls];omega)) rfl rfl rfl aY rfl rfl rfl rfl ?_)
   intro w4 S4;clear S3
   refine U5 rfl (bk (ah [1,3,4,5] rfl (U3 (U0 rfl (ag 0 1 rfl rfl (af 1 rfl (Ug rfl rfl rfl (by first|omega|(simp only[ls];omega))) ?_))))))
   refine ag 2 1 rfl rfl (U5 rfl (aP ?_))
   intro au aq
   refine⟨_,?dJ,⟨i+1,_,_,rfl,aq.sub ⟨rfl,rfl,rfl,rfl,trivial⟩,S4.pick [0,1] [_,_] (by decide) ⟨rfl,rfl,trivial⟩,?cu,?cY⟩⟩
   case cu=>omega
   case cY=>(rw[hw];rfl)
   case dJ=>omega
  ·refine bS rfl rfl (ah [1,3,4] rfl (U3 (U2 XB XA rfl rfl rfl (U2 Z8z Z90 rfl rfl rfl (U0 rfl (ag 0 1 rfl rfl (U5 rfl (U3 ?_))))))))
   refine Uc Z91 2 rfl rfl rfl ?_
   refine Uz (fun aS au aM=>∃(j:Nat) (iF:List Int) (kA:Value),aS=d.ae.length-j/\Env 67 [(1,.pointer (some ⟨aI,0,none⟩)),(3,.int .i64 (d.ae.length:Int)),(4,kA),(6,.int .i64 (j:Int))] au/\SH aM M X [Rs.row Uv kA iF,Rs.box aI 24 [.slice aV d.ae.length aU,.int .i64 d.loops]]/\j<=d.ae.length/\iF=sD d j) rfl ?_ ?_
   ·intro au aq
    refine⟨_,⟨0,_,_,rfl,aq.sub ⟨rfl,rfl,rfl,rfl,trivial⟩,S3.pick [0,1] [_,_] (by decide) ⟨rfl,rfl,trivial⟩,?dO,?gh⟩⟩
    case dO=>omega
    case gh=>(obtain rfl:i=d.ae.length:=(by omega);exact hw)
   ·rintro m2 a2 w5 ⟨j,iF,kA,rfl,cx,S5,hj,hw2⟩
    clear S3
    refine b7 cx (c:=Xz) rfl ?_
    clear cx a2
    have hl2:iF.length=d.ae.length:=by rw[hw2,zQ]
    refine U2 Xy Xx rfl rfl rfl (U2 Z95 Xw rfl rfl rfl (U0 rfl (ag 0 2 rfl rfl (af 2 rfl (bV rfl rfl rfl) (U5 rfl (ah [1,3,4,6,26] rfl (U3 ?_)))))))
    refine Ue Z97 Z98 rfl rfl rfl rfl (fun ye=>?_) (fun ye=>?_)
    ·refine Uf rfl (ah [1,3,4,6] rfl (U3 (U2 Z99 Z9a rfl rfl rfl (Uc Xv 3 rfl rfl rfl (U2 Z9c Z9d rfl rfl rfl (U0 rfl (ag 0 1 rfl rfl (U5 rfl ?_))))))))
     refine U3 (Uc Z9e 4 rfl rfl rfl ?_)
     refine Uz (fun aS au aM=>∃(k:Nat) (om:List Int) (sO:Value),aS=2*d.ae.length-k/\Env 67 [(1,.pointer (some ⟨aI,0,none⟩)),(3,.int .i64 (d.ae.length:Int)),(4,sO),(6,.int .i64 (j:Int)),(7,.int .i64 ((k+1:Nat):Int))] au/\SH aM M X [Rs.row Uv sO om,Rs.box aI 24 [.slice aV d.ae.length aU,.int .i64 d.loops]]/\k<=2*d.ae.length/\om=r8 d iF k) rfl ?_ ?_
     ·intro au aq
      refine⟨_,⟨0,_,_,rfl,aq.sub ⟨rfl,rfl,rfl,rfl,rfl,trivial⟩,S5.pick [0,1] [_,_] (by decide) ⟨rfl,rfl,trivial⟩,?eU,?gQ⟩⟩
      case eU=>omega
      case gQ=>rfl
     ·rintro m3 a3 w6 ⟨k,om,sO,rfl,fU,S6,hk,hw3⟩
      clear S5
      refine b7 fU (c:=Xu) rfl ?_
      clear fU a3
      have hl3:om.length=d.ae.length:=by rw[hw3,aaq,hw2,zQ]
      refine U2 Xt Xr rfl rfl rfl (U2 Z9i Xq rfl rfl rfl (U0 rfl (ag 0 2 rfl rfl (af 2 rfl (iH rfl rfl rfl (by first|omega|(simp only[ls];omega))) ?_))))
      refine af 3 rfl (oI rfl rfl rfl) (U5 rfl (ah [1,3,4,6,7,32] rfl (U3 ?_)))
      refine Ue Z9k Z9l rfl rfl rfl rfl (fun tA=>?_) (fun tA=>?_)
      ·have hx:=wW hab (k:=k) (by omega) false
       have hy:=wW hab (k:=k) (by omega) true
       refine Uf rfl (ah [1,3,4,6,7] rfl (U3 (U2 Z9m Z9n rfl rfl rfl (Uc Xp 5 rfl rfl rfl (U2 Z9p Xo rfl rfl rfl (Ux rfl (by kernel_rfl) S6 10 rfl ?_))))))
       clear S6
       refine aj 0 9 rfl (by kernel_rfl) (fun _ _ _ hz Sz=>.inl (U8 (us:=[_,_]) rfl rfl ay rfl az (Sz.suf.ax (i:=1) rfl ⟨rfl,rfl,trivial⟩))) ?_
       refine ai 1 8 rfl (by kernel_rfl) (fun _=>run_move rfl rfl) ?_
       refine aj 2 7 rfl (by kernel_rfl) (fun _ _ _ hz Sz=>Uq rfl rfl rfl rfl rfl lj Sz (lH d ((k+1:Nat):Int) false ((aC.mono (Hp.Ua hz Sz.mx)).mono Sz.Uw) Sz.aD)) ?_
       refine ai 3 6 rfl (by kernel_rfl) (fun _=>mr rfl rfl cN rfl av rfl rfl) ?_
       refine aj 4 5 rfl (by kernel_rfl) (fun _ _ _ hz Sz=>.inl (U8 (us:=[_,_]) rfl rfl ay rfl az (Sz.suf.ax (i:=1) rfl ⟨rfl,rfl,trivial⟩))) ?_
       refine ai 5 4 rfl (by kernel_rfl) (fun _=>run_move rfl rfl) ?_
       refine aj 6 3 rfl (by kernel_rfl) (fun _ _ _ hz Sz=>Uq rfl rfl rfl rfl rfl lj Sz (lH d ((k+1:Nat):Int) true ((aC.mono (Hp.Ua hz Sz.mx)).mono Sz.Uw) Sz.aD)) ?_
       refine ai 7 2 rfl (by kernel_rfl) (fun _=>mr rfl rfl cN rfl av rfl rfl) ?_
       refine ai 8 1 rfl (by kernel_rfl) (fun _=>run_assign rfl rfl) ?_
       refine ai 9 0 rfl (by kernel_rfl) (fun _=>run_assign rfl rfl) ?_
       refine Uu (by kernel_rfl) (fun lv bI=>?_)
       refine ah [1,3,4,6,7,8,9] rfl (U3 (U2 Z9r Xn rfl rfl rfl (jy 8 (.int .i64 ((eD d k false:Nat):Int)) rfl (int_eq rfl) (jy 9 (.int .i64 ((eD d k true:Nat):Int)) rfl (int_eq rfl) (Ux rfl (by kernel_rfl) bI 9 rfl ?_)))))
       clear bI
       refine ai 0 8 rfl (by kernel_rfl) (fun _=>run_move rfl rfl) ?_
       refine ai 1 7 rfl (by kernel_rfl) (fun _=>run_move rfl rfl) ?_
       refine aj 2 6 rfl (by kernel_rfl) (fun _ _ _ hz Sz=>.inl (Ui (C:=Uv) (i:=0) (eD d k false) rfl rfl rfl bw Sz.suf rfl (by first|rfl|omega) (by first|omega|(simp only[ls];omega)))) ?_
       refine aj 3 5 rfl (by kernel_rfl) (fun _ _ _ hz Sz=>.inl (U4 rfl rfl av rfl (Sz.suf.dv (i:=0) (e:=eD d k false) (j:=0) rfl (by first|omega|(simp only[ls];omega)) rfl rfl))) ?_
       refine ai 4 4 rfl (by kernel_rfl) (fun _=>run_move rfl rfl) ?_
       refine ai 5 3 rfl (by kernel_rfl) (fun _=>run_move rfl rfl) ?_
       refine aj 6 2 rfl (by kernel_rfl) (fun _ _ _ hz Sz=>.inl (Ui (C:=Uv) (i:=0) (eD d k true) rfl rfl rfl bw Sz.suf rfl (by first|rfl|omega) (by first|omega|(simp only[ls];omega)))) ?_
       refine aj 7 1 rfl (by kernel_rfl) (fun _ _ _ hz Sz=>.inl (U4 rfl rfl av rfl (Sz.suf.dv (i:=0) (e:=eD d k true) (j:=0) rfl (by first|omega|(simp only[ls];omega)) rfl rfl))) ?_
       refine ai 8 0 rfl (by kernel_rfl) (fun _=>bV rfl rfl rfl) ?_
       refine Uu (by kernel_rfl) (fun yU ey=>?_)
       refine ah [1,3,4,6,7,8,9,51] rfl (U3 ?_)
       refine Ue Z9t Z9u rfl rfl rfl rfl (fun am6=>?_) (fun am6=>?_)
       ·refine U0 rfl (ag 0 4 rfl rfl (af 4 rfl (Ui (C:=Uv) (i:=0) (eD d k false) rfl rfl rfl bw ey rfl (by first|rfl|omega) (by first|omega|(simp only[ls];omega))) ?_))
        refine af 5 rfl (U4 rfl rfl av rfl (ey.dv (i:=0) (e:=eD d k false) (j:=0) rfl (by first|omega|(simp only[ls];omega)) rfl rfl)) ?_
        refine af 6 rfl (Ui (C:=Uv) (i:=0) (eD d k true) rfl rfl rfl bw ey rfl (by first|rfl|omega) (by first|omega|(simp only[ls];omega))) ?_
        refine ak 7 8 rfl rfl rfl (gy (C:=Uv) (i:=0) (e:=eD d k true) (j:=0) (us:=[_]) (H':=[_,_]) (ga om (eD d k false)) rfl rfl ey rfl (by first|omega|(simp only[ls];omega)) rfl rfl rfl aY rfl rfl rfl rfl ?_)
        intro l9 cy;clear ey
        refine U5 rfl (bk (ah [1,3,4,6,7] rfl (U3 (U0 rfl (ag 0 1 rfl rfl (af 1 rfl (Ug rfl rfl rfl (by first|omega|(simp only[ls];omega))) ?_))))))
        refine ag 2 1 rfl rfl (U5 rfl (aP ?_))
        intro au aq
        refine⟨_,?kB,⟨k+1,_,_,rfl,aq.sub ⟨rfl,rfl,rfl,rfl,rfl,trivial⟩,cy.pick [0,1] [_,_] (by decide) ⟨rfl,rfl,trivial⟩,?fB,?gP⟩⟩
        case fB=>omega
        case gP=>(show _=jl _ _ _;rw[<-hw3];unfold jl;first|rw[if_pos (by omega)]|rw[if_neg (by omega)])
        case kB=>omega
       ·refine U0 rfl (ag 0 4 rfl rfl (af 4 rfl (Ui (C:=Uv) (i:=0) (eD d k true) rfl rfl rfl bw ey rfl (by first|rfl|omega) (by first|omega|(simp only[ls];omega))) ?_))
        refine af 5 rfl (U4 rfl rfl av rfl (ey.dv (i:=0) (e:=eD d k true) (j:=0) rfl (by first|omega|(simp only[ls];omega)) rfl rfl)) ?_
        refine af 6 rfl (Ui (C:=Uv) (i:=0) (eD d k false) rfl rfl rfl bw ey rfl (by first|rfl|omega) (by first|omega|(simp only[ls];omega))) ?_
        refine ak 7 8 rfl rfl rfl (gy (C:=Uv) (i:=0) (e:=eD d k false) (j:=0) (us:=[_]) (H':=[_,_]) (ga om (eD d k true)) rfl rfl ey rfl (by first|omega|(simp only[ls];omega)) rfl rfl rfl aY rfl rfl rfl rfl ?_)
        intro pX dL;clear ey
        refine U5 rfl (bk (ah [1,3,4,6,7] rfl (U3 (U0 rfl (ag 0 1 rfl rfl (af 1 rfl (Ug rfl rfl rfl (by first|omega|(simp only[ls];omega))) ?_))))))
        refine ag 2 1 rfl rfl (U5 rfl (aP ?_))
        intro au aq
        refine⟨_,?lZ,⟨k+1,_,_,rfl,aq.sub ⟨rfl,rfl,rfl,rfl,rfl,trivial⟩,dL.pick [0,1] [_,_] (by decide) ⟨rfl,rfl,trivial⟩,?iz,?jB⟩⟩
        case iz=>omega
        case jB=>(show _=jl _ _ _;rw[<-hw3];unfold jl;first|rw[if_pos (by omega)]|rw[if_neg (by omega)])
        case lZ=>omega
      ·refine bS rfl rfl (bk (ah [1,3,4,6] rfl (U3 (U0 rfl (ag 0 1 rfl rfl (af 1 rfl (Ug rfl rfl rfl (by first|omega|(simp only[ls];omega))) ?_))))))
       refine ag 2 1 rfl rfl (U5 rfl (aP ?_))
       intro au aq
       refine⟨_,?lY,⟨j+1,_,_,rfl,aq.sub ⟨rfl,rfl,rfl,rfl,trivial⟩,S6.pick [0,1] [_,_] (by decide) ⟨rfl,rfl,trivial⟩,?iX,?kr⟩⟩
       case iX=>omega
       case kr=>(obtain rfl:k=2*d.ae.length:=(by omega);rw[hw3,hw2];rfl)
       case lY=>omega
    ·refine bS rfl rfl (ah [4] rfl (U3 (U2 Z9v Z9w rfl rfl rfl (U0 rfl (ag 0 2 rfl rfl (U5 rfl (ah [2] rfl (U3 ?_))))))))
     obtain⟨M20,acI,kW,⟨A1,c1,e1,hr1⟩⟩:=S5.fZ (i:=0) (H':=[_,_]) rfl rfl (by show _*8<=_;first|omega|(simp only[ls];omega))
     clear S5;subst e1
     replace aC:=aC.mono (Hp.Ua acI kW.mx)
     refine Uj hC [_] rfl rfl ⟨rfl,trivial⟩ ?_
     refine⟨_,rfl,_,acI,(kW.pick [] [] (by decide) trivial),?_⟩
     obtain rfl:j=d.ae.length:=by omega
     subst hw2
     exact⟨_,_,rfl,hr1⟩
end Go.Proofs.YthppkofceancjaaGreat
