/- Part 13 of the proof of the law TableSeeks: the walks through its functions and the plain laws that they need. -/
import Derived.Test.YtcohmplpgcddiaaGreatDoorSmZ12
set_option linter.unusedSimpArgs false
set_option linter.unusedVariables false
noncomputable section
namespace Go.Proofs.YtcohmplpgcddiaaGreatDoor
open Go.ChangeShapes Go.WideShapes Go.ChangeAt Go.RowKit
noncomputable def Z5u:=Tryz.f19.body.getD .skip
set_option maxRecDepth 10000 in
theorem aaz{w:World}{M:Hp}{X:Fr}(d:Dg){bz:Option Addr}{bw:Nat}(aC:aJ bu (M.un X.h) bz bw d.ae)(hn:d.ae.length<=16)(hab:aO d=true)(S:SH w M X []):Ct Tryz.prog 19 [.agg [.slice bz d.ae.length bw,.int .i64 d.loops].toArray] w M X (fun u N=>∃A c,u=.slice A (dJ d).length c/\aJ gh N A c (dJ d)):=by
 unfold Ct
 have iL:d.ae.length*40<=140737488355328:=aC.room
 refine cw (b:=Z5u) Tryz.func19 rfl Tryz.ntmps19 rfl (fun C hC=>(cB [0] rfl (ar (aj rfl (dx (l:=[_,_]) rfl rfl rfl rfl rfl S ?_)))))
 intro aP w1 S1;clear S
 refine af 1 rfl (bL [1] rfl (af 1 rfl (aB (sw (ag rfl (az rfl aM rfl dN dM) (ag rfl (aw rfl cE (S1.bc 0 rfl rfl)) (ag rfl (cK rfl cE) (af 1 rfl ?_))))))))
 refine bM [1,3,4] rfl (ar (af 1 rfl (aB (bK (bg ?_)))))
 have S2:=S1.jI gh;clear S1
 refine ck (fun aZ au aR=>∃(i:Nat) (xs:List Mv) (uK:Value) (M1:Hp),M.le M1/\aZ=d.ae.length-i/\Env 62 [(1,.pointer (some ⟨aP,0,none⟩)),(3,uK),(4,.int .i64 (d.ae.length:Int)),(5,.int .i64 (i:Int))] au/\SH aR M1 X [Rs.row gh uK xs,Rs.box aP 24 [.slice bz d.ae.length bw,.int .i64 d.loops]]/\i<=d.ae.length/\xs=qH d i) rfl ?_ ?_
 ·intro au aq
  refine⟨_,⟨0,_,_,_,Hp.le_refl _,rfl,aq.su rfl,S2.pick [0,1] [_,_] (by decide) ⟨rfl,rfl,trivial⟩,?dh,?dC⟩⟩
  case dh=>omega
  case dC=>rfl
 ·rintro m1 a1 w2 ⟨i,xs,uK,M1,bh,rfl,bN,S3,hi,hxs⟩
  clear S2
  refine cy bN ?_
  clear bN a1
  replace aC:=aC.mono (Hp.aD bh S3.mx)
  have hxl:xs.length<=i*(d.ae.length+1):=by rw[hxs];exact LO d i
  have h16:i*(d.ae.length+1)<=16*17:=Nat.mul_le_mul (by omega) (by omega)
  refine cJ (ar (af 3 rfl (ax [1,3,4,5,14] rfl ?_)))
  refine bp rfl (fun jf=>?_) (fun jf=>?_)
  ·refine aV (bC [1,3,4,5] rfl (bg (cJ ?_)))
   refine z6 (fun au aR=>∃(ys:List Mv) (uI:Value),Env 62 [(1,.pointer (some ⟨aP,0,none⟩)),(3,uI),(4,.int .i64 (d.ae.length:Int)),(5,.int .i64 (i:Int))] au/\SH aR M1 X [Rs.row gh uI ys,Rs.box aP 24 [.slice bz d.ae.length bw,.int .i64 d.loops]]/\ys=xs++(if curlN (ga d.ae i) 4=true then[mU i]else[])) ?_ ?_
   ·refine ar (ag rfl (aU [_,_] rfl aM aN (S3.bs 1 rfl rfl)) (af 1 rfl (aj rfl (dU rfl rfl rfl rfl rfl rfl rfl Yu S3 (TV d i (aC.mono S3.bn) (by omega) S3.aT) ?_))))
    rintro _ w4 S5 rfl;clear S3
    refine ax [1,3,4,5,19] rfl ?_
    refine gB rfl (fun l5=>?_) (fun l5=>?_)
    ·refine aH (af 2 rfl (ag rfl (run_build (l:=[_,_,_,_,_,_,_,_]) rfl rfl Dd rfl rfl) (aj rfl (eQ (C:=gh) (l:=[_,_,_,_,_,_,_,_]) rfl rfl rfl rfl kQ rfl rfl rfl rfl S5 ?_))))
     intro bJ w5 S6;clear S5
     refine aj rfl (gw (C:=gh) (i:=1) (q:=0) (⟨2,(i:Int),0,0,false,0,false,false⟩:Mv) rfl rfl rfl rfl rfl rfl rfl rfl kQ S6 rfl rfl rfl (by show(_+1)*64<=_;first|omega|(simp only[ls];omega)) ?_)
     intro Od w6 S7;clear S6
     have S8:=S7.pick [1,2] [_,_] (by decide) ⟨rfl,rfl,trivial⟩;clear S7
     refine af 1 rfl (aB (br ?_))
     intro au aq
     refine⟨xs++[(⟨2,(i:Int),0,0,false,0,false,false⟩:Mv)],_,aq.su rfl,S8.pick [0,1] [_,_] (by decide) ⟨rfl,rfl,trivial⟩,?dv⟩
     case dv=>(rw[if_pos l5];rfl)
    ·refine aV (br ?_)
     intro au aq
     refine⟨xs,_,aq.su rfl,S5.pick [0,1] [_,_] (by decide) ⟨rfl,rfl,trivial⟩,?fg⟩
     case fg=>(rw[if_neg (by rw[l5];decide),List.append_nil])
   ·rintro a2 w3 ⟨ys,uI,cU,S4,hys⟩
    clear S3
    refine Au cU ?_
    clear cU a2
    have hyl:ys.length<=16*17+1:=by rw[hys,List.length_append];split<;>simp<;>omega
    refine sw (af 1 rfl (ag rfl (bj rfl) (af 1 rfl (ax [1,3,4,5,6] rfl (bg ?_)))))
    refine ck (fun aZ au aR=>∃(k:Nat) (zs:List Mv) (PQ:Value) (M3:Hp),M1.le M3/\aZ=d.ae.length-k/\Env 62 [(1,.pointer (some ⟨aP,0,none⟩)),(3,PQ),(4,.int .i64 (d.ae.length:Int)),(5,.int .i64 (i:Int)),(6,.int .i64 ((i+1+k:Nat):Int))] au/\SH aR M3 X [Rs.row gh PQ zs,Rs.box aP 24 [.slice bz d.ae.length bw,.int .i64 d.loops]]/\i+1+k<=d.ae.length/\zs=ys++skJ d i k) rfl ?_ ?_
    ·intro au aq
     refine⟨_,⟨0,_,_,_,Hp.le_refl _,rfl,aq.su rfl,S4.pick [0,1] [_,_] (by decide) ⟨rfl,rfl,trivial⟩,?fJ,?fZ⟩⟩
     case fJ=>omega
     case fZ=>(rw[skJ,List.append_nil])
    ·rintro m2 a3 w7 ⟨k,zs,PQ,M3,bZ,rfl,fB,S9,hk,hzs⟩
     clear S4
     refine cy fB ?_
     clear fB a3
     replace aC:=aC.mono (Hp.aD bZ S9.mx)
     have hzl:zs.length<=16*17+1+16:=by rw[hzs,List.length_append];have:=Uh d i k;omega
     refine cJ (ar (af 3 rfl (ax [1,3,4,5,6,29] rfl ?_)))
     refine bp rfl (fun sI=>?_) (fun sI=>?_)
     ·refine aV (bC [1,3,4,5,6] rfl (bg (ar (ag rfl (aU [_,_] rfl aM aN (S9.bs 1 rfl rfl)) (af 2 rfl (aj rfl (eo rfl rfl rfl rfl rfl rfl rfl Yt S9 (RT d (i:Int) ((i+1+k:Nat):Int) (aC.mono S9.bn) hn hab S9.aT) ?_)))))))
      intro PL w8 M4 b7 bQ Bo;clear S9
      replace aC:=aC.mono (Hp.aD b7 bQ.mx)
      obtain rfl:=Bo
      refine ax [1,3,4,5,6,35] rfl ?_
      refine gB rfl (fun mQ=>?_) (fun mQ=>?_)
      ·refine aH (af 3 rfl (ag rfl (run_build (l:=[_,_,_,_,_,_,_,_]) rfl rfl Dd rfl rfl) (aj rfl (eQ (C:=gh) (l:=[_,_,_,_,_,_,_,_]) rfl rfl rfl rfl kQ rfl rfl rfl rfl bQ ?_))))
       intro dE w9 cz;clear bQ
       refine aj rfl (gw (C:=gh) (i:=1) (q:=0) (⟨4,(i:Int),((i+1+k:Nat):Int),0,false,0,false,false⟩:Mv) rfl rfl rfl rfl rfl rfl rfl rfl kQ cz rfl rfl rfl (by show(_+1)*64<=_;first|omega|(simp only[ls];omega)) ?_)
       intro amC ld cO;clear cz
       have cF:=cO.pick [1,2] [_,_] (by decide) ⟨rfl,rfl,trivial⟩;clear cO
       refine af 1 rfl (aB (bE (aW [1,3,4,5,6] rfl (aH (af 1 rfl (ag rfl (bj rfl) (af 1 rfl (aB ?_))))))))
       refine br ?_
       intro au aq
       refine⟨_,?jq,⟨k+1,_,_,_,(bZ.trans b7),rfl,aq.su rfl,cF.pick [0,1] [_,_] (by decide) ⟨rfl,rfl,trivial⟩,?fI,?fY⟩⟩
       case fI=>omega
       case fY=>(rw[hzs,skJ];first|(rw[if_pos mQ,<-List.append_assoc];rfl)|(rw[if_neg (by rw[mQ];decide),List.append_nil]))
       case jq=>omega
      ·refine aV (bE (aW [1,3,4,5,6] rfl (aH (af 1 rfl (ag rfl (bj rfl) (af 1 rfl (aB (br ?_))))))))
       intro au aq
       refine⟨_,?kq,⟨k+1,_,_,_,(bZ.trans b7),rfl,aq.su rfl,bQ.pick [0,1] [_,_] (by decide) ⟨rfl,rfl,trivial⟩,?iB,?iW⟩⟩
       case iB=>omega
       case iW=>(rw[hzs,skJ];first|(rw[if_pos mQ,<-List.append_assoc];rfl)|(rw[if_neg (by rw[mQ];decide),List.append_nil]))
       case kq=>omega
     ·refine bX rfl (bE (aW [1,3,4,5] rfl (aH (af 1 rfl (ag rfl (bj rfl) (af 1 rfl (aB (br ?_))))))))
      intro au aq
      refine⟨_,?mO,⟨i+1,_,_,_,(bh.trans bZ),rfl,aq.su rfl,S9.pick [0,1] [_,_] (by decide) ⟨rfl,rfl,trivial⟩,?jN,?jM⟩⟩
      case jN=>omega
      case jM=>(obtain rfl:k=d.ae.length-(i+1):=(by omega);rw[hzs,hys,hxs];rfl)
      case mO=>omega
  ·refine bX rfl (cP [1,3] rfl (ag rfl (aU [_,_] rfl aM aN (S3.bs 1 rfl rfl)) (aj rfl (eo rfl rfl rfl rfl rfl rfl rfl J0 S3 (HV d (aC.mono S3.bn) (hn) (hab) S3.aT) ?_))))
   intro JB lI M5 cH ct yM;clear S3
   replace aC:=aC.mono (Hp.aD cH ct.mx)
   obtain⟨A1,c1,vs1,rfl,hr1,hd1⟩:=yM
   have WM:=hd1.1
   refine af 1 rfl (bM [3,7] rfl (ar (af 1 rfl (aB (bK (bg ?_))))))
   refine ck (fun aZ au aR=>∃(f:Nat) (ws:List Mv) (pV:Value),aZ=(ai d).length-f/\Env 62 [(3,pV),(7,.slice A1 vs1.length c1),(8,.int .i64 (f:Int))] au/\SH aR M5 X [Rs.row gh pV ws]/\f<=(ai d).length/\ws=qH d d.ae.length++qI d f) rfl ?_ ?_
   ·intro au aq
    refine⟨_,⟨0,_,_,rfl,aq.su rfl,ct.pick [0] [_] (by decide) ⟨rfl,trivial⟩,?jL,?jK⟩⟩
    case jL=>omega
    case jK=>(obtain rfl:i=d.ae.length:=(by omega);rw[hxs,qI,List.append_nil])
   ·rintro m3 a4 nL ⟨f,ws,pV,rfl,iT,cS,hf,hws⟩
    clear ct
    refine cy iT ?_
    clear iT a4
    have Xw:=BF d
    have DY:ws.length<=16*17+f:=by rw[hws,List.length_append];have:=Uj d f;have:=LO d d.ae.length;have h9:d.ae.length*(d.ae.length+1)<=16*17:=Nat.mul_le_mul (by omega) (by omega);omega
    refine cJ (ar (af 2 rfl (ag rfl (cK rfl qo) (af 1 rfl (ax [3,7,8,47] rfl ?_)))))
    refine bp rfl (fun Bh=>?_) (fun Bh=>?_)
    ·refine aV (bC [3,7,8] rfl (bg (ar (af 2 rfl (ag rfl (cN f rfl qp hr1) ?_)))))
     obtain⟨kG,hr2⟩:=hd1.2 f (by first|omega|(simp only[ls];omega))
     have Aq:(ga (ai d) f).length*16<=140737488355328:=hr2.room
     refine ag rfl (aw rfl nG (hr1.cell cS.m (i:=f) (by first|omega|(simp only[ls];omega)) 0 rfl (congrArg (fun n=>some (Value.slice _ n _)) kG))) ?_
     refine ag rfl (cK rfl nG) (af 1 rfl (ax [3,7,8,55] rfl ?_))
     refine bp rfl (fun Bf=>?_) (fun Bf=>?_)
     ·refine aH (af 2 rfl (ag rfl (run_build (l:=[_,_,_,_,_,_,_,_]) rfl rfl Dd rfl rfl) (aj rfl (eQ (C:=gh) (l:=[_,_,_,_,_,_,_,_]) rfl rfl rfl rfl kQ rfl rfl rfl rfl cS ?_))))
      intro lK ng cC;clear cS
      refine aj rfl (gw (C:=gh) (i:=1) (q:=0) (⟨5,(f:Int),0,0,false,0,false,false⟩:Mv) rfl rfl rfl rfl rfl rfl rfl rfl kQ cC rfl rfl rfl (by show(_+1)*64<=_;first|omega|(simp only[ls];omega)) ?_)
      intro amE lH bY;clear cC
      have dW:=bY.pick [1] [_] (by decide) ⟨rfl,trivial⟩;clear bY
      refine af 1 rfl (aB (bE (aW [3,7,8] rfl (aH (af 1 rfl (ag rfl (bj rfl) (af 1 rfl (aB ?_))))))))
      refine br ?_
      intro au aq
      refine⟨_,?n7,⟨f+1,_,_,rfl,aq.su rfl,dW.pick [0] [_] (by decide) ⟨rfl,trivial⟩,?lU,?lT⟩⟩
      case lU=>omega
      case lT=>(rw[hws,qI];first|(rw[if_pos (by omega),<-List.append_assoc];rfl)|(rw[if_neg (by omega),List.append_nil]))
      case n7=>omega
     ·refine aV (bE (aW [3,7,8] rfl (aH (af 1 rfl (ag rfl (bj rfl) (af 1 rfl (aB (br ?_))))))))
      intro au aq
      refine⟨_,?wQ,⟨f+1,_,_,rfl,aq.su rfl,cS.pick [0] [_] (by decide) ⟨rfl,trivial⟩,?qW,?qV⟩⟩
      case qW=>omega
      case qV=>(rw[hws,qI];first|(rw[if_pos (by omega),<-List.append_assoc];rfl)|(rw[if_neg (by omega),List.append_nil]))
      case wQ=>omega
    ·refine bX rfl (cP [3] rfl (af 2 rfl (ax [2] rfl ?_)))
     obtain⟨M6,iN,ek,⟨A2,c2,e1,hr3⟩⟩:=cS.gP (i:=0) (H':=[_]) rfl rfl (by show _*64<=_;first|omega|(simp only[ls];omega))
     clear cS;subst e1
     replace aC:=aC.mono (Hp.aD iN ek.mx)
     replace hr1:=hr1.mono iN
     replace hd1:=hd1.mono iN
     refine bU hC rfl ?_
     refine⟨_,rfl,_,(bh.trans cH).trans iN,(ek.pick [] [] (by decide) trivial),?_⟩
     obtain rfl:f=(ai d).length:=by omega
     have e9:ws=dJ d:=hws
     subst e9
     exact⟨_,_,rfl,hr3⟩
end Go.Proofs.YtcohmplpgcddiaaGreatDoor
namespace Go.Proofs.YtcohmplpgcddiaaGreatDoor
open Go.ChangeShapes Go.WideShapes Go.ChangeAt Go.RowKit
structure Val(d:Dg):Prop where
 r:∀i s,i<d.ae.length->s<4->1<=aL d i s/\aL d i s<=2*(d.ae.length:Int)
 u:∀i s i' s',i<d.ae.length->s<4->i'<d.ae.length->s'<4->bO d i s=bO d i' s'->aL d i s=aL d i' s'->i=i'/\s=s'
theorem Mm{d:Dg}(h:aO d=true):Val d:=by
 refine⟨fun i s hi hs=>ey h hi hs,fun i s i' s' hi hs hi' hs' he ha=>?_⟩
 obtain⟨a1,a2⟩:=ey h hi hs
 obtain⟨n,hn⟩:∃n:Nat,aL d i s=(n:Int):=⟨(aL d i s).toNat,by omega⟩
 have hc:∀b,eU d (n:Int) b (4*d.ae.length)=1:=fun b=>by
  have:=HT h n (by omega) (by omega)
  cases b
  ·exact this.1
  ·exact this.2
 obtain⟨j,_,_,h3,_⟩:=Ie (hc (!bO d i s))
 have e1:=h3 (4*i+s) (by omega) (by rw[yw hs,hn];simp)
 have e2:=h3 (4*i'+s') (by omega) (by rw[yw hs',<-ha,hn,<-he];simp)
 omega
def uQ(d:Dg)(b:Bool)(m J:Nat):Nat:=(List.range J).countP fun j=>decide (1<=gj d j/\gj d j<=(m:Int))&&(bO d (j/4) (j%4)!=b)
theorem acH(d:Dg)(b:Bool)(m J:Nat):uQ d b (m+1) J=uQ d b m J+eU d ((m+1:Nat):Int) b J:=by
 induction J with
 |zero=>simp[uQ,eU]
 |succ J ih=>
  have e:∀m,uQ d b m (J+1)=uQ d b m J+if(decide (1<=gj d J/\gj d J<=(m:Int))&&(bO d (J/4) (J%4)!=b))=true then 1 else 0:=by
   intro m
   unfold uQ
   rw[List.range_succ,List.countP_append,List.countP_singleton]
  rw[e,e,ih,xF]
  unfold jh
  have h1:aL d (J/4) (J%4)=gj d J:=rfl
  rw[h1]
  cases hE:(bO d (J/4) (J%4)!=b)with
  |false=>simp
  |true=>
   simp only[Bool.and_true]
   by_cases hm:gj d J=((m+1:Nat):Int)
   ·rw[if_pos (decide_eq_true (by omega)),if_neg (fun h=>by have:=of_decide_eq_true h;omega),if_pos (decide_eq_true hm)];omega
   ·rw[if_neg (fun h:decide (gj d J=_)=true=>hm (of_decide_eq_true h))]
    by_cases h2:1<=gj d J/\gj d J<=(m:Int)
    ·rw[if_pos (decide_eq_true (by omega)),if_pos (decide_eq_true h2)];omega
    ·rw[if_neg (fun h=>by have:=of_decide_eq_true h;omega),if_neg (fun h=>h2 (of_decide_eq_true h))];omega
theorem acG(d:Dg)(b:Bool)(J:Nat):uQ d b 0 J=0:=by
 unfold uQ
 rw[List.countP_eq_zero]
 intro j _ h
 simp at h
 omega
theorem UK(d:Dg)(b:Bool)(i:Nat):(List.range (4*i)).countP (fun j=>bO d (j/4) (j%4)!=b)=2*i:=by
 induction i with
 |zero=>rfl
 |succ i ih=>
  have e:List.range (4*(i+1))=List.range (4*i)++[4*i,4*i+1,4*i+2,4*i+3]:=by
   rw[show 4*(i+1)=4*i+1+1+1+1 by omega,List.range_succ,List.range_succ,List.range_succ,List.range_succ]
   simp
  rw[e,List.countP_append,ih]
  have q:∀s,s<4->(4*i+s)/4=i/\(4*i+s)%4=s:=fun s hs=>by omega
  have h0:=q 0 (by omega)
  have h1:=q 1 (by omega)
  have h2:=q 2 (by omega)
  have h3:=q 3 (by omega)
  rw[Nat.add_zero]at h0
  simp only[List.countP_cons,List.countP_nil,h0.1,h0.2,h1.1,h1.2,h2.1,h2.2,h3.1,h3.2]
  unfold bO kS
  cases (ga d.ae i).plus<;>cases b<;>simp<;>omega
theorem ab5{f:Nat->Nat}:∀m,(∀a,a<m->f a<=1)->m<=((List.range m).map f).sum->∀a,a<m->f a=1:=by
 intro m
 induction m with
 |zero=>intro _ _ a ha;omega
 |succ m ih=>
  intro h1 h2 a ha
  rw[List.range_succ,List.map_append,List.sum_append]at h2
  simp only[List.map_cons,List.map_nil,List.sum_cons,List.sum_nil]at h2
  have hm:=h1 m (by omega)
  have hs:((List.range m).map f).sum<=m:=by
   have:∀k,k<=m->((List.range k).map f).sum<=k:=by
    intro k
    induction k with
    |zero=>intro _;exact Nat.le_refl _
    |succ k GV=>
     intro hk
     rw[List.range_succ,List.map_append,List.sum_append]
     simp only[List.map_cons,List.map_nil,List.sum_cons,List.sum_nil]
     have:=GV (by omega)
     have:=h1 k (by omega)
     omega
   exact this m (Nat.le_refl _)
  by_cases e:a=m
  ·subst e;omega
  ·exact ih (fun a ha=>h1 a (by omega)) (by omega) a (by omega)
theorem adT(d:Dg)(b:Bool)(J m:Nat):uQ d b m J=((List.range m).map fun a=>eU d ((a+1:Nat):Int) b J).sum:=by
 induction m with
 |zero=>exact acG d b J
 |succ m ih=>rw[acH,ih,List.range_succ,List.map_append,List.sum_append];simp
theorem acR{d:Dg}(V:Val d)(a:Int)(b:Bool):∀J,J<=4*d.ae.length->eU d a b J<=1:=by
 intro J
 induction J with
 |zero=>intro _;simp[eU]
 |succ J ih=>
  intro hJ
  rw[xF]
  by_cases hE:jh d a b J=true
  ·rw[if_pos hE]
   have h0:eU d a b J=0:=by
    unfold eU
    rw[List.countP_eq_zero]
    intro j hj zG
    have hj':j<J:=by simpa using hj
    unfold jh at hE zG
    rw[Bool.and_eq_true,decide_eq_true_iff]at hE zG
    have hx:bO d (j/4) (j%4)=bO d (J/4) (J%4):=by
     have h1:=hE.2;have h2:=zG.2
     cases b<;>cases h3:bO d (j/4) (j%4)<;>cases h4:bO d (J/4) (J%4)<;>simp_all
    have:=V.u (j/4) (j%4) (J/4) (J%4) (by omega) (by omega) (by omega) (by omega) hx (zG.1.trans hE.1.symm)
    omega
   omega
  ·rw[if_neg hE]
   have:=ih (by omega)
   omega
theorem Lq{d:Dg}(V:Val d):aO d=true:=by
 have key:∀b a,a<2*d.ae.length->eU d ((a+1:Nat):Int) b (4*d.ae.length)=1:=by
  intro b
  refine ab5 (f:=fun a=>eU d ((a+1:Nat):Int) b (4*d.ae.length)) _ (fun a _=>acR V _ _ _ (Nat.le_refl _)) ?_
  rw[<-adT]
  have e:uQ d b (2*d.ae.length) (4*d.ae.length)=2*d.ae.length:=by
   refine Eq.trans ?_ (UK d b d.ae.length)
   unfold uQ
   refine List.countP_congr fun j hj=>?_
   have hj':j<4*d.ae.length:=by simpa using hj
   have:=V.r (j/4) (j%4) (by omega) (by omega)
   have h2:decide (1<=gj d j/\gj d j<=((2*d.ae.length:Nat):Int))=true:=decide_eq_true (by unfold gj;push_cast;exact this)
   rw[h2,Bool.true_and]
  omega
 refine SZ fun a h0 h1=>?_
 unfold oL
 have e:=fun b=>key b (a-1) (by omega)
 simp only[show a-1+1=a by omega]at e
 rw[e false,e true];rfl
theorem adI(cl:List Int)(l:List Cr)(v:Cr){s:Nat}(hs:s<4):dw (BZ cl l v) s=vR cl l (dw v s)/\kS (BZ cl l v) s=kS v s:=by
 have:s=0\/s=1\/s=2\/s=3:=by omega
 rcases this with rfl|rfl|rfl|rfl<;>exact⟨rfl,rfl⟩
theorem VK {P : Nat → Bool} {x y : Nat} (hx : P x = true) (hy : P y = true) (e : cn P (x + 1) = cn P (y + 1)) : x = y := by
  have mono : ∀ a b, a ≤ b → cn P a ≤ cn P b := by
    intro a b hab
    induction b with
    | zero => obtain rfl : a = 0 := by omega
              exact Nat.le_refl _
    | succ b ih =>
      by_cases h : a = b + 1
      · rw [h]; exact Nat.le_refl _
      · have := ih (by omega); rw [cn]; omega
  have h1 := vp hx
  have h2 := vp hy
  rcases Nat.lt_trichotomy x y with h | h | h
  · have := mono (x + 1) y (by omega); omega
  · exact h
  · have := mono (y + 1) x (by omega); omega
end Go.Proofs.YtcohmplpgcddiaaGreatDoor
namespace Go.Proofs.YtcohmplpgcddiaaGreatDoor
open Go.RowKit
def yX(gn:Nat->Bool)(c:Nat):List Nat:=(List.range c).filter fun i=>!gn i
theorem Ud(d:Dg)(gn:Nat->Bool)(c:Nat):tRN d gn c=(yX gn c).map (ga d.ae):=by
 induction c with
 |zero=>rfl
 |succ c ih=>
  unfold yX at ih ⊢
  rw[tRN,List.range_succ,List.filter_append,List.map_append,ih]
  cases hg:gn c with
  |true=>simp[hg]
  |false=>simp[hg]
def eY(d:Dg)(gn:Nat->Bool)(i:Nat):Nat:=ga (yX gn d.ae.length) i
theorem Cy(d:Dg)(gn:Nat->Bool):(yX gn d.ae.length).length=(tR d gn).length:=by unfold tR;rw[Ud,List.length_map]
theorem rE{d:Dg}{gn:Nat->Bool}{i:Nat}(hi:i<(tR d gn).length):eY d gn i<d.ae.length/\gn (eY d gn i)=false:=by
 rw[<-Cy]at hi
 have:=cY hi
 obtain⟨h1,h2⟩:=List.mem_filter.1 this
 exact⟨List.mem_range.1 h1,by unfold eY;simpa using h2⟩
theorem IK{d:Dg}{gn:Nat->Bool}{i:Nat}(hi:i<(tR d gn).length):ga (tR d gn) i=ga d.ae (eY d gn i):=by
 have hl:=Cy d gn
 unfold tR at hi ⊢
 rw[Ud,om _ _ _ (by unfold tR at hl;omega)]
 rfl
theorem LN{d:Dg}{gn:Nat->Bool}{i j:Nat}(hi:i<(tR d gn).length)(hj:j<(tR d gn).length)(e:eY d gn i=eY d gn j):i=j:=by
 rw[<-Cy]at hi hj
 have hnd:(yX gn d.ae.length).Nodup:=List.nodup_range.filter _
 unfold eY at e
 rw[cZ hi,cZ hj]at e
 rcases Nat.lt_trichotomy i j with h|h|h
 ·exact absurd e (List.pairwise_iff_getElem.1 hnd i j hi hj h)
 ·exact h
 ·exact absurd e.symm (List.pairwise_iff_getElem.1 hnd j i hj hi h)
theorem LM{d:Dg}{gn:Nat->Bool}{c:Nat}(hc:c<d.ae.length)(hg:gn c=false):∃i,i<(tR d gn).length/\eY d gn i=c:=by
 have hm:c∈yX gn d.ae.length:=List.mem_filter.2 ⟨List.mem_range.2 hc,by rw[hg];rfl⟩
 obtain⟨i,hi,e⟩:=List.mem_iff_getElem.1 hm
 exact⟨i,by rw[<-Cy];exact hi,by unfold eY;rw[cZ hi,e]⟩
theorem IE(d:Dg)(gn:Nat->Bool):(ik d gn).ae.length=(tR d gn).length:=List.length_map ..
theorem CS{d:Dg}{gn:Nat->Bool}{i s:Nat}(hi:i<(tR d gn).length)(hs:s<4):aL (ik d gn) i s=vR (tC d gn) (tR d gn) (aL d (eY d gn i) s)/\bO (ik d gn) i s=bO d (eY d gn i) s:=by
 have e:ga (ik d gn).ae i=BZ (tC d gn) (tR d gn) (ga d.ae (eY d gn i)):=by
  show ga (List.map _ _) i=_
  rw[om _ _ _ hi,IK hi]
 unfold aL bO
 rw[e]
 exact adI _ _ _ hs
def cT(d:Dg)(gn:Nat->Bool)(x:Nat):Nat:=(ga (tC d gn) x).toNat
theorem yR{d:Dg}(h:aO d=true)(gn:Nat->Bool){x:Nat}(hx:x<2*d.ae.length+1):ga (tC d gn) x=(cT d gn x:Int)/\cT d gn x<=x/\ga (tC d gn) (cT d gn x)=(cT d gn x:Int):=by
 obtain⟨o1,o2,o3⟩:=(CL h gn _ (Nat.le_refl _)).2 x hx
 change 0<=ga (tC d gn) x at o1
 change ga (tC d gn) x<=x at o2
 change ga (tC d gn) (ga (tC d gn) x).toNat=ga (tC d gn) x at o3
 have e:ga (tC d gn) x=(cT d gn x:Int):=by unfold cT;omega
 refine⟨e,by omega,?_⟩
 rw[<-e]
 exact o3
theorem Fh{d:Dg}(h:aO d=true){gn:Nat->Bool}{i s:Nat}(hi:i<(tR d gn).length)(hs:s<4):gQ (tC d gn) (tR d gn) (cT d gn (aL d (eY d gn i) s).toNat)=true/\vR (tC d gn) (tR d gn) (aL d (eY d gn i) s)=(cn (gQ (tC d gn) (tR d gn)) (cT d gn (aL d (eY d gn i) s).toNat+1):Int):=by
 obtain⟨s1,s2⟩:=rE hi
 have ha:=ey h s1 hs
 have hx:(aL d (eY d gn i) s).toNat<2*d.ae.length+1:=by omega
 obtain⟨c1,c2,c3⟩:=yR h gn hx
 have hp:=IG h gn (x:=(aL d (eY d gn i) s).toNat) (by omega) hx
 have hl:=Uc (d:=d) (gn:=gn) (v:=ga d.ae (eY d gn i)) (Ng s1 s2) hs
 change nk (tC d gn) (tR d gn) (ga (tC d gn) (aL d (eY d gn i) s).toNat)=true at hl
 rw[c1]at hl hp
 refine⟨?_,?_⟩
 ·unfold gQ
  rw[hl,decide_eq_true (show 1<=cT d gn (aL d (eY d gn i) s).toNat by omega),decide_eq_true c3];rfl
 ·rfl
theorem EF(d:Dg)(c:Nat){s:Nat}(hs:s<4):bO d c ((s+2)%4)=!bO d c s:=by
 unfold bO kS
 have:s=0\/s=1\/s=2\/s=3:=by omega
 rcases this with rfl|rfl|rfl|rfl<;>cases (ga d.ae c).plus<;>simp
theorem aeD {d : Dg} {gn : Nat → Bool} {c s : Nat} (hc : c < d.ae.length) (hg : gn c = true) (hs : s < 4) (he : bO d c s = true) : ∃ j, j < 2 * d.ae.length ∧ gL d gn j = (aL d c s).toNat ∧ gK d gn j = (aL d c ((s + 2) % 4)).toNat := by
  by_cases h0 : s = 0
  · subst h0
    refine ⟨2 * c, by omega, ?_, ?_⟩
    · unfold gL; rw [show 2 * c / 2 = c by omega, if_pos hg, if_pos (by omega)]; rfl
    · unfold gK; rw [show 2 * c / 2 = c by omega, if_pos hg, if_pos (by omega)]; rfl
  · refine ⟨2 * c + 1, by omega, ?_, ?_⟩
    · unfold gL; rw [show (2 * c + 1) / 2 = c by omega, if_pos hg, if_neg (by omega)]
      unfold lj aL
      unfold bO kS at he
      cases hp : (ga d.ae c).plus with
      | true => obtain rfl : s = 3 := by simp [hp] at he; omega
                rw [if_pos rfl]; rfl
      | false => obtain rfl : s = 1 := by simp [hp] at he; omega
                 rw [if_neg (by simp)]; rfl
    · unfold gK; rw [show (2 * c + 1) / 2 = c by omega, if_pos hg, if_neg (by omega)]
      unfold lj aL
      unfold bO kS at he
      cases hp : (ga d.ae c).plus with
      | true => obtain rfl : s = 3 := by simp [hp] at he; omega
                rw [if_pos rfl]; rfl
      | false => obtain rfl : s = 1 := by simp [hp] at he; omega
                 rw [if_neg (by simp)]; rfl
theorem aeE{d:Dg}{gn:Nat->Bool}{j:Nat}(hj:j<2*d.ae.length)(hg:gn (j/2)=true):∃s,s<4/\bO d (j/2) s=true/\gL d gn j=(aL d (j/2) s).toNat/\gK d gn j=(aL d (j/2) ((s+2)%4)).toNat:=by
 unfold gL gK
 rw[if_pos hg,if_pos hg]
 by_cases h0:j%2=0
 ·rw[if_pos h0,if_pos h0]
  exact⟨0,by omega,rfl,rfl,rfl⟩
 ·rw[if_neg h0,if_neg h0]
  unfold lj
  cases hp:(ga d.ae (j/2)).plus with
  |true=>exact⟨3,by omega,by unfold bO kS;simp[hp],by rw[if_pos rfl];rfl,by rw[if_pos rfl];rfl⟩
  |false=>exact⟨1,by omega,by unfold bO kS;simp[hp],by rw[if_neg (by simp)];rfl,by rw[if_neg (by simp)];rfl⟩
theorem ab4{d:Dg}{gn:Nat->Bool}{j:Nat}(hg:gn (j/2)=false):gL d gn j=gK d gn j:=by
 unfold gL gK
 rw[if_neg (by rw[hg];exact Bool.false_ne_true),if_neg (by rw[hg];exact Bool.false_ne_true)]
theorem U8{d:Dg}(h:aO d=true)(gn:Nat->Bool)(Z:Nat->Prop)(hZ:∀c s,c<d.ae.length->gn c=true->s<4->bO d c s=true->(Z (aL d c s).toNat<->Z (aL d c ((s+2)%4)).toNat)){x y:Nat}(hx:x<2*d.ae.length+1)(hy:y<2*d.ae.length+1)(e:cT d gn x=cT d gn y):Z x<->Z y:=by
 refine Er (N:=2*d.ae.length+1) (K:=2*d.ae.length) (e1:=gL d gn) (e2:=gK d gn) (fun k hk=>⟨(si h gn hk).1,(si h gn hk).2.1⟩) Z (fun j hj=>?_) _ (Nat.le_refl _) x y hx hy ?_
 ·cases hg:gn (j/2)with
  |true=>
   obtain⟨s,hs,he,e1,e2⟩:=aeE hj hg
   rw[e1,e2]
   exact hZ (j/2) s (by omega) hg hs he
  |false=>rw[ab4 hg]
 ·show ga (tC d gn) x=ga (tC d gn) y
  rw[(yR h gn hx).1,(yR h gn hy).1,e]
theorem U0{d:Dg}(h:aO d=true){gn:Nat->Bool}{c s:Nat}(hc:c<d.ae.length)(hg:gn c=true)(hs:s<4):cT d gn (aL d c s).toNat=cT d gn (aL d c ((s+2)%4)).toNat:=by
 have key:∀s,s<4->bO d c s=true->cT d gn (aL d c s).toNat=cT d gn (aL d c ((s+2)%4)).toNat:=fun s hs he=>by
  obtain⟨j,hj,e1,e2⟩:=aeD hc hg hs he
  have:=DA (N:=2*d.ae.length+1) (e1:=gL d gn) (e2:=gK d gn) (k:=j) (si h gn hj).1 (si h gn hj).2.1 (2*d.ae.length) hj
  rw[e1,e2]at this
  exact congrArg Int.toNat this
 cases he:bO d c s with
 |true=>exact key s hs he
 |false=>
  have:=key ((s+2)%4) (by omega) (by rw[EF d c hs,he];rfl)
  rw[show((s+2)%4+2)%4=s by omega]at this
  exact this.symm
def oZ(d:Dg)(gn:Nat->Bool)(b:Bool)(x:Nat):Nat:=if gn (aF d (x:Int) b).1=true then(aL d (aF d (x:Int) b).1 (((aF d (x:Int) b).2+2)%4)).toNat else x
def Ca(f:Nat->Nat):Nat->Nat->Nat
 |0,x=>x
 |m+1,x=>Ca f m (f x)
theorem Vo{d:Dg}(h:aO d=true){gn:Nat->Bool}{b:Bool}{c s:Nat}(hc:c<d.ae.length)(hg:gn c=true)(hs:s<4)(he:bO d c s=!b):oZ d gn b (aL d c s).toNat=(aL d c ((s+2)%4)).toNat/\(aF d (((aL d c s).toNat:Nat):Int) b)=(c,s):=by
 have ha:=ey h hc hs
 have e:=sW h (b:=b) hc hs he
 unfold oZ
 rw[show(((aL d c s).toNat:Nat):Int)=aL d c s by omega,e,if_pos hg]
 exact⟨rfl,rfl⟩
theorem acg{d:Dg}(h:aO d=true){gn:Nat->Bool}(b:Bool){x y:Nat}(hx:x<2*d.ae.length+1)(hy:y<2*d.ae.length+1)(gx:gn (aF d (x:Int) b).1=false)(gy:gn (aF d (y:Int) b).1=false)(e:cT d gn x=cT d gn y):x=y:=by
 have step:∀c s,c<d.ae.length->gn c=true->s<4->bO d c s=!b->((∃m,Ca (oZ d gn b) m (aL d c s).toNat=x)<->∃m,Ca (oZ d gn b) m (aL d c ((s+2)%4)).toNat=x):=fun c s hc hg hs he=>by
  obtain⟨e1,e2⟩:=Vo h hc hg hs he
  constructor
  ·rintro⟨m,hm⟩
   cases m with
   |zero=>
    have hm':(aL d c s).toNat=x:=hm
    rw[hm']at e2
    rw[e2,hg]at gx
    cases gx
   |succ m=>exact⟨m,by rw[<-e1];exact hm⟩
  ·rintro⟨m,hm⟩
   exact⟨m+1,by show Ca _ m (oZ d gn b _)=x;rw[e1];exact hm⟩
 obtain⟨m,hm⟩:=(U8 h gn (fun z=>∃m,Ca (oZ d gn b) m z=x) (fun c s hc hg hs he=>by
  cases b with
  |false=>exact step c s hc hg hs he
  |true=>
   have:=step c ((s+2)%4) hc hg (by omega) (by rw[EF d c hs,he])
   rw[show((s+2)%4+2)%4=s by omega]at this
   exact this.symm) hx hy e).1 ⟨0,rfl⟩
 have fix:∀m,Ca (oZ d gn b) m y=y:=by
  intro m
  induction m with
  |zero=>rfl
  |succ m ih=>
   have:oZ d gn b y=y:=by unfold oZ;rw[if_neg (by rw[gy];exact Bool.false_ne_true)]
   show Ca _ m (oZ d gn b y)=y
   rw[this,ih]
 rw[<-hm,fix m]
theorem abj{d:Dg}(h:aO d=true){gn:Nat->Bool}{x:Nat}(h0:1<=x)(hx:x<=2*d.ae.length)(gx:gn (aF d (x:Int) true).1=false):∃y,1<=y/\y<=2*d.ae.length/\cT d gn y=cT d gn x/\gn (aF d (y:Int) false).1=false:=by
 refine Classical.byContradiction fun hno=>?_
 have hno:∀y,1<=y->y<=2*d.ae.length->cT d gn y=cT d gn x->gn (aF d (y:Int) false).1=true:=fun y h1 h2 h3=>by
  cases hg:gn (aF d (y:Int) false).1 with
  |true=>rfl
  |false=>exact absurd ⟨y,h1,h2,h3,hg⟩ hno
 obtain⟨u,hu0,hu⟩:∃u:Nat->Nat,u 0=x/\∀m,u (m+1)=oZ d gn false (u m):=⟨fun m=>Nat.rec x (fun _ y=>oZ d gn false y) m,rfl,fun _=>rfl⟩
 have step:∀y,1<=y->y<=2*d.ae.length->cT d gn y=cT d gn x->1<=oZ d gn false y/\oZ d gn false y<=2*d.ae.length/\cT d gn (oZ d gn false y)=cT d gn x/\aF d ((oZ d gn false y:Nat):Int) true=((aF d (y:Int) false).1,((aF d (y:Int) false).2+2)%4):=fun y h1 h2 h3=>by
  have hg:=hno y h1 h2 h3
  obtain⟨e1,e2,_⟩:=fO h (a:=(y:Int)) (by omega) false
  obtain⟨t1,t2⟩:=ot h (a:=(y:Int)) (by omega) false
  obtain⟨n1,_⟩:=Vo h (b:=false) e1 hg e2 t2
  rw[t1,Int.toNat_natCast]at n1
  have hb:=ey h e1 (k:=((aF d (y:Int) false).2+2)%4) (by omega)
  rw[n1]
  refine⟨by omega,by omega,?_,?_⟩
  ·rw[<-U0 h e1 hg e2,t1,Int.toNat_natCast,h3]
  ·rw[show((((aL d (aF d (y:Int) false).1 (((aF d (y:Int) false).2+2)%4)).toNat:Nat):Int))=aL d (aF d (y:Int) false).1 (((aF d (y:Int) false).2+2)%4) by omega]
   exact sW h (b:=true) e1 (by omega) (by rw[EF d _ e2,t2];rfl)
 have hall:∀m,1<=u m/\u m<=2*d.ae.length/\cT d gn (u m)=cT d gn x:=by
  intro m
  induction m with
  |zero=>rw[hu0];exact⟨h0,hx,rfl⟩
  |succ m ih=>
   obtain⟨s1,s2,s3,_⟩:=step (u m) ih.1 ih.2.1 ih.2.2
   rw[hu]
   exact⟨s1,s2,s3⟩
 have Nr:∀m,aF d ((u (m+1):Nat):Int) true=((aF d (u m:Int) false).1,((aF d (u m:Int) false).2+2)%4):=fun m=>by
  rw[hu]
  exact(step (u m) (hall m).1 (hall m).2.1 (hall m).2.2).2.2.2
 have inj:∀i k,u i=u (i+k+1)->False:=by
  intro i
  induction i with
  |zero=>
   intro k e
   rw[hu0,show 0+k+1=k+1 by omega]at e
   have h1:=Nr k
   rw[<-e]at h1
   have h2:=hno (u k) (hall k).1 (hall k).2.1 (hall k).2.2
   rw[h1,h2]at gx
   cases gx
  |succ i ih=>
   intro k e
   have h1:=Nr i
   have h2:=Nr (i+k+1)
   rw[show i+k+1+1=i+1+k+1 by omega,<-e,h1]at h2
   obtain⟨_,a2,_⟩:=fO h (a:=(u i:Int)) (by have:=hall i;omega) false
   obtain⟨_,b2,_⟩:=fO h (a:=(u (i+k+1):Int)) (by have:=hall (i+k+1);omega) false
   obtain⟨t1,_⟩:=ot h (a:=(u i:Int)) (by have:=hall i;omega) false
   obtain⟨t2,_⟩:=ot h (a:=(u (i+k+1):Int)) (by have:=hall (i+k+1);omega) false
   have p1:=congrArg Prod.fst h2
   have p2:=congrArg Prod.snd h2
   dsimp only at p1 p2
   have p3:(aF d (u i:Int) false).2=(aF d (u (i+k+1):Int) false).2:=by omega
   rw[p1,p3,t2]at t1
   exact ih k (by omega)
 have hnd:((List.range (2*d.ae.length+1)).map u).Nodup:=by
  rw[List.nodup_iff_pairwise_ne,List.pairwise_map]
  refine List.Pairwise.imp_of_mem (R:=fun a b=>a<b) (fun{a b} _ _ hab e=>?_) List.pairwise_lt_range
  exact inj a (b-a-1) (by rw[show a+(b-a-1)+1=b by omega];exact e)
 have:=nK hnd (ys:=(List.range (2*d.ae.length)).map (·+1)) fun y hy=>by
  obtain⟨m,_,rfl⟩:=List.mem_map.1 hy
  have:=hall m
  exact List.mem_map.2 ⟨u m-1,List.mem_range.2 (by omega),by omega⟩
 rw[List.length_map,List.length_map,List.length_range,List.length_range]at this
 omega
theorem ahx (P : Nat → Bool) {a b : Nat} (hab : a ≤ b) : cn P a ≤ cn P b := by
  induction b with
  | zero => obtain rfl : a = 0 := by omega
            exact Nat.le_refl _
  | succ b ih =>
    by_cases h : a = b + 1
    · rw [h]; exact Nat.le_refl _
    · have := ih (by omega); rw [cn]; omega
theorem ab2{d:Dg}(h:aO d=true)(gn:Nat->Bool):cn (gQ (tC d gn) (tR d gn)) (2*d.ae.length+1)<=2*(tR d gn).length:=by
 rw[Ei]
 have hb:=UK (ik d gn) false (tR d gn).length
 rw[<-hb,List.countP_eq_length_filter]
 refine Nat.le_trans (nK ((List.nodup_range).filter _) (ys:=((List.range (4*(tR d gn).length)).filter fun j=>bO (ik d gn) (j/4) (j%4)!=false).map fun j=>cT d gn (aL d (eY d gn (j/4)) (j%4)).toNat) fun x hx=>?_) (Nat.le_of_eq (List.length_map ..))
 obtain⟨hx1,hx2⟩:=List.mem_filter.1 hx
 have am3:x<2*d.ae.length+1:=by simpa using hx1
 unfold gQ at hx2
 rw[Bool.and_eq_true,Bool.and_eq_true]at hx2
 obtain⟨v,hv,t,ht,Qc⟩:=Ip.1 hx2.2.2
 obtain⟨i0,hi0,rfl⟩:=List.mem_iff_getElem.1 hv
 have ev:(tR d gn)[i0]=ga d.ae (eY d gn i0):=by rw[<-IK hi0,cZ hi0]
 rw[ev]at Qc
 change(x:Int)=ga (tC d gn) (aL d (eY d gn i0) t).toNat at Qc
 obtain⟨s1,s2⟩:=rE hi0
 have ha:=ey h s1 ht
 rw[(yR h gn (by omega)).1]at Qc
 have Xr:x=cT d gn (aL d (eY d gn i0) t).toNat:=by omega
 have key:∀i s,i<(tR d gn).length->s<4->bO d (eY d gn i) s=true->cT d gn (aL d (eY d gn i) s).toNat=x->x∈((List.range (4*(tR d gn).length)).filter fun j=>bO (ik d gn) (j/4) (j%4)!=false).map fun j=>cT d gn (aL d (eY d gn (j/4)) (j%4)).toNat:=by
  intro i s hi hs he hc
  refine List.mem_map.2 ⟨4*i+s,List.mem_filter.2 ⟨by simp;omega,?_⟩,?_⟩
  ·rw[show(4*i+s)/4=i by omega,show(4*i+s)%4=s by omega,(CS hi hs).2,he];rfl
  ·simp only[show(4*i+s)/4=i by omega,show(4*i+s)%4=s by omega];exact hc
 cases hE:bO d (eY d gn i0) t with
 |true=>exact key i0 t hi0 ht hE Xr.symm
 |false=>
  have eb:=sW h (b:=true) s1 ht hE
  have ez:(((aL d (eY d gn i0) t).toNat:Nat):Int)=aL d (eY d gn i0) t:=by omega
  obtain⟨y,y1,y2,y3,y4⟩:=abj h (gn:=gn) (x:=(aL d (eY d gn i0) t).toNat) (by omega) (by omega) (by rw[ez,eb];exact s2)
  obtain⟨e1,e2,_⟩:=fO h (a:=(y:Int)) (by omega) false
  obtain⟨t1,t2⟩:=ot h (a:=(y:Int)) (by omega) false
  obtain⟨j,hj,ej⟩:=LM e1 y4
  refine key j (aF d (y:Int) false).2 hj e2 (by rw[ej,t2];rfl) ?_
  rw[ej,t1,Int.toNat_natCast,y3,Xr]
theorem ac6{d:Dg}(h:aO d=true)(gn:Nat->Bool):aO (ik d gn)=true:=by
 have V:=Mm h
 have hl:=IE d gn
 refine Lq ⟨fun i s hi hs=>?_,fun i s i' s' hi hs hi' hs' he ha=>?_⟩
 ·rw[hl]at hi ⊢
  rw[(CS hi hs).1]
  obtain⟨r1,r2⟩:=Fh h hi hs
  rw[r2]
  have h1:=vp r1
  obtain⟨s1,s2⟩:=rE hi
  have har:=V.r _ s s1 hs
  have hx:=(yR h gn (x:=(aL d (eY d gn i) s).toNat) (by omega)).2.1
  have h2:=ahx (gQ (tC d gn) (tR d gn)) (a:=cT d gn (aL d (eY d gn i) s).toNat+1) (b:=2*d.ae.length+1) (by omega)
  have h3:=ab2 h gn
  omega
 ·rw[hl]at hi hi'
  obtain⟨a1,a2⟩:=CS hi hs
  obtain⟨b1,b2⟩:=CS hi' hs'
  rw[a1,b1]at ha
  rw[a2,b2]at he
  obtain⟨r1,r2⟩:=Fh h hi hs
  obtain⟨t1,t2⟩:=Fh h hi' hs'
  rw[r2,t2]at ha
  have hc:=VK r1 t1 (by omega)
  obtain⟨s1,s2⟩:=rE hi
  obtain⟨u1,u2⟩:=rE hi'
  have hr1:=V.r _ s s1 hs
  have hr2:=V.r _ s' u1 hs'
  have z1:(((aL d (eY d gn i) s).toNat:Nat):Int)=aL d (eY d gn i) s:=by omega
  have z2:(((aL d (eY d gn i') s').toNat:Nat):Int)=aL d (eY d gn i') s':=by omega
  obtain⟨b,hb⟩:∃b,bO d (eY d gn i) s=!b:=⟨!bO d (eY d gn i) s,by simp⟩
  have g1:=sW h (b:=b) s1 hs hb
  have g2:=sW h (b:=b) u1 hs' (by rw[<-he];exact hb)
  have hEq:=acg h (gn:=gn) b (x:=(aL d (eY d gn i) s).toNat) (y:=(aL d (eY d gn i') s').toNat) (by omega) (by omega) (by rw[z1,g1];exact s2) (by rw[z2,g2];exact u2) hc
  obtain⟨g1,g2⟩:=V.u _ s _ s' s1 hs u1 hs' he (by omega)
  exact⟨LN hi hi' g1,g2⟩
end Go.Proofs.YtcohmplpgcddiaaGreatDoor
namespace Go.Proofs.YtcohmplpgcddiaaGreatDoor
open Go.ChangeShapes Go.WideShapes Go.ChangeAt Go.RowKit
structure fH(x y:Dg)(f g:Nat->Nat):Prop where
 n:y.ae.length=x.ae.length
 fl:∀c,c<x.ae.length->f c<x.ae.length/\g (f c)=c
 gl:∀c,c<x.ae.length->g c<x.ae.length/\f (g c)=c
 p:∀c,c<x.ae.length->(ga y.ae (f c)).plus=(ga x.ae c).plus
 a:∀c s c' s',c<x.ae.length->s<4->c'<x.ae.length->s'<4->(aL y (f c) s=aL y (f c') s'<->aL x c s=aL x c' s')
 l:y.loops=x.loops
theorem fH.symm{x y:Dg}{f g:Nat->Nat}(h:fH x y f g):fH y x g f:=by
 refine⟨h.n.symm,fun c hc=>?_,fun c hc=>?_,fun c hc=>?_,fun c s c' s' hc hs hc' hs'=>?_,h.l.symm⟩
 ·rw[h.n]at hc ⊢;exact h.gl c hc
 ·rw[h.n]at hc ⊢;exact h.fl c hc
 ·rw[h.n]at hc
  have:=h.p (g c) (h.gl c hc).1
  rw[(h.gl c hc).2]at this;exact this.symm
 ·rw[h.n]at hc hc'
  have:=h.a (g c) s (g c') s' (h.gl c hc).1 hs (h.gl c' hc').1 hs'
  rw[(h.gl c hc).2,(h.gl c' hc').2]at this;exact this.symm
theorem fH.trans{x y z:Dg}{f g f' g':Nat->Nat}(h:fH x y f g)(k:fH y z f' g'):fH x z (fun c=>f' (f c)) (fun c=>g (g' c)):=by
 have hn:=h.n
 refine⟨k.n.trans h.n,fun c hc=>?_,fun c hc=>?_,fun c hc=>?_,fun c s c' s' hc hs hc' hs'=>?_,k.l.trans h.l⟩
 ·have h1:=h.fl c hc
  have k1:=k.fl (f c) (by omega)
  exact⟨by omega,by show g (g' (f' (f c)))=c;rw[k1.2,h1.2]⟩
 ·have k1:=k.gl c (by omega)
  have h1:=h.gl (g' c) (by omega)
  exact⟨h1.1,by show f' (f (g (g' c)))=c;rw[h1.2,k1.2]⟩
 ·have h1:=h.fl c hc
  exact(k.p (f c) (by omega)).trans (h.p c hc)
 ·have h1:=h.fl c hc
  have h2:=h.fl c' hc'
  exact(k.a (f c) s (f c') s' (by omega) hs (by omega) hs').trans (h.a c s c' s' hc hs hc' hs')
theorem fH.e{x y:Dg}{f g:Nat->Nat}(h:fH x y f g){c:Nat}(hc:c<x.ae.length)(s:Nat):bO y (f c) s=bO x c s:=by
 unfold bO kS
 rw[h.p c hc]
structure Hx(d:Dg)(s:List Int×Int):Prop where
 i:qU d s
 b:∀x,0<=ga s.1 x/\ga s.1 x<s.2
 j:∀x y,ga s.1 x=ga s.1 y->ga s.1 x≠0->x=y
 z:ga s.1 0=0
 c:((s.1.countP fun v=>decide (v≠0):Nat):Int)=s.2-1
theorem agy{d:Dg}{s:List Int×Int}(h:Hx d s){a:Int}(ha:1<=a/\a<=2*(d.ae.length:Int)):Hx d (jB s a):=by
 have h1:=(IQ h.i ha).1
 have hl:=h.i.len
 have hp:=h.i.pos
 unfold jB at h1 ⊢
 split at h1
 ·rename_i h0
  rw[if_pos h0]
  have hg:∀x,ga (s.1.set a.toNat s.2) x=if a.toNat=x then s.2 else ga s.1 x:=fun x=>eX _ _ _ _ (by omega)
  refine⟨h1,fun x=>?_,fun x y e hx=>?_,?_,?_⟩
  ·show 0<=ga (s.1.set a.toNat s.2) x/\ga (s.1.set a.toNat s.2) x<s.2+1
   rw[hg]
   have:=h.b x
   split<;>omega
  ·change ga (s.1.set a.toNat s.2) x=ga (s.1.set a.toNat s.2) y at e
   change ga (s.1.set a.toNat s.2) x≠0 at hx
   rw[hg]at hx
   rw[hg,hg]at e
   have bx:=h.b x
   have dG:=h.b y
   by_cases e1:a.toNat=x
   ·by_cases e2:a.toNat=y
    ·exact e1.symm.trans e2
    ·rw[if_pos e1,if_neg e2]at e;omega
   ·rw[if_neg e1]at e hx
    by_cases e2:a.toNat=y
    ·rw[if_pos e2]at e;omega
    ·rw[if_neg e2]at e;exact h.j x y e hx
  ·show ga (s.1.set a.toNat s.2) 0=0
   rw[hg,if_neg (by omega)];exact h.z
  ·show(((s.1.set a.toNat s.2).countP fun v=>decide (v≠0):Nat):Int)=s.2+1-1
   have hlt:a.toNat<s.1.length:=by omega
   rw[List.countP_set hlt,<-cZ hlt,h0]
   have:=h.c
   have e1:decide (s.2≠0)=true:=decide_eq_true (by omega)
   have e2:decide ((0:Int)≠0)=false:=by decide
   simp only[e1,e2,if_true,Bool.false_eq_true,if_false]
   omega
 ·rename_i h0
  rw[if_neg h0];exact h
theorem agx{d:Dg}(hab:aO d=true){c:Nat}(hc:c<d.ae.length){s:List Int×Int}(h:Hx d s)(k:Nat)(hk:k<=4):Hx d (dt d c s k):=by
 induction k with
 |zero=>exact h
 |succ k ih=>exact agy (ih (by omega)) (ey hab hc (show k<4 by omega))
theorem Ot(n x:Nat):ga (List.replicate n (0:Int)) x=0:=by
 by_cases h:x<n
 ·exact rZ _ _ _ h
 ·simp[ga,List.getD_eq_getElem?_getD,List.getElem?_replicate,h]
theorem acr{d:Dg}(hab:aO d=true){l:List Int}(hl:∀x,x∈l->x.toNat<d.ae.length):∀k,k<=l.length->Hx d ((gS d (l.take k)).nm,(gS d (l.take k)).nx)/\(gS d (l.take k)).cs.length=k/\∀j,j<k->(ga (gS d (l.take k)).cs j).plus=(ga d.ae (ga l j).toNat).plus/\∀q,q<4->ga (gS d (l.take k)).nm (aL d (ga l j).toNat q).toNat≠0/\dw (ga (gS d (l.take k)).cs j) q=ga (gS d (l.take k)).nm (aL d (ga l j).toNat q).toNat:=by
 intro k
 induction k with
 |zero=>
  intro _
  refine⟨⟨⟨by simp[gS],Int.le_refl _⟩,fun x=>?_,fun x y _ hx=>?_,?_,?_⟩,rfl,fun j hj=>absurd hj (Nat.not_lt_zero _)⟩
  ·show 0<=ga (List.replicate (2*d.ae.length+1) (0:Int)) x/\ga (List.replicate (2*d.ae.length+1) (0:Int)) x<1
   rw[Ot];omega
  ·exact absurd (Ot _ x) hx
  ·exact Ot _ 0
  ·show(((List.replicate (2*d.ae.length+1) (0:Int)).countP fun v=>decide (v≠0):Nat):Int)=1-1
   rw[List.countP_replicate];simp
 |succ k ih=>
  intro hk
  obtain⟨i1,i2,i3⟩:=ih (by omega)
  have hc:=hl _ (cY (show k<l.length by omega))
  have e:gS d (l.take (k+1))=kE d (gS d (l.take k)) (ga l k):=by rw[na _ k (by omega),Lu]
  rw[e]
  obtain⟨_,r2,r3,_,_⟩:=Aa hab hc i1.i 4 (Nat.le_refl _)
  refine⟨agx hab hc i1 4 (Nat.le_refl _),by show((gS d (l.take k)).cs++[_]).length=k+1;rw[List.length_append,i2];rfl,fun j hj=>?_⟩
  by_cases ej:j=k
  ·subst ej
   have hg:ga (kE d (gS d (l.take j)) (ga l j)).cs j=KN d (ga l j).toNat (dt d (ga l j).toNat ((gS d (l.take j)).nm,(gS d (l.take j)).nx) 4).1:=by
    show ga ((gS d (l.take j)).cs++[_]) j=_
    rw[nC _ _ _ (by omega),i2,Nat.sub_self];rfl
   rw[hg]
   refine⟨rfl,fun q hq=>⟨(r3 q hq).1,?_⟩⟩
   have:q=0\/q=1\/q=2\/q=3:=by omega
   rcases this with rfl|rfl|rfl|rfl<;>rfl
  ·have hg:ga (kE d (gS d (l.take k)) (ga l k)).cs j=ga (gS d (l.take k)).cs j:=by
    show ga ((gS d (l.take k)).cs++[_]) j=_
    rw[lS _ _ _ (by omega)]
   obtain⟨p1,p2⟩:=i3 j (by omega)
   rw[hg]
   refine⟨p1,fun q hq=>?_⟩
   obtain⟨q1,q2⟩:=p2 q hq
   have e2:=r2 _ q1
   exact⟨fun h0=>q1 (by rw[<-e2];exact h0),by rw[q2];exact e2.symm⟩
theorem Ux{d:Dg}(hab:aO d=true){i:Nat}(hi:i<(bD d).length):(ga (eD d) i).1.Nodup/\∀x:Nat,x<d.ae.length->cg d x=i->(x:Int)∈(ga (eD d) i).1:=by
 obtain⟨_,q2,q3⟩:=CB hab hi
 obtain⟨h,_,_⟩:=I5 hab q2 d.ae.length
 have hL:(ga (eD d) i).1=(eH d (ue d i) d.ae.length).od:=by rw[Ab d hi];rfl
 have hlen:(ga (eD d) i).1.length=(ga (bD d) i).length:=by
  rw[Ab d hi]
  have:=(CK hab q2).1
  rw[q3]at this
  exact this
 have hnd:(ga (eD d) i).1.Nodup:=by rw[hL];exact h.td
 refine⟨hnd,fun x hx hp=>?_⟩
 have hsub:∀y∈(ga (eD d) i).1,y∈ga (bD d) i:=by
  intro y hy
  obtain⟨s1,s2,s3⟩:=wD hab hi hy
  have:=(mZ hab s1).2.1
  rw[s3]at this
  rwa [show((y.toNat:Nat):Int)=y from by omega]at this
 have np:=(mZ hab hx).2.1
 rw[hp]at np
 by_cases hin:(x:Int)∈(ga (eD d) i).1
 ·exact hin
 ·have:=nK (xs:=(x:Int)::(ga (eD d) i).1) (ys:=ga (bD d) i) (List.nodup_cons.2 ⟨hin,hnd⟩) (fun y hy=>by
   rcases List.mem_cons.1 hy with rfl|hy
   ·exact np
   ·exact hsub y hy)
  rw[List.length_cons]at this
  omega
end Go.Proofs.YtcohmplpgcddiaaGreatDoor
namespace Go.Proofs.YtcohmplpgcddiaaGreatDoor
open Go.ChangeShapes Go.WideShapes Go.ChangeAt Go.RowKit
theorem aeT{d:Dg}(hab:aO d=true){σ:List Nat}(Cb:q9 (kO (eD d)) (bD d).length σ):(∀x∈ui d σ,x.toNat<d.ae.length/\0<=x)/\(ui d σ).Nodup/\∀x:Nat,x<d.ae.length->(x:Int)∈ui d σ:=by
 have hm:∀i,i∈σ<->i<(bD d).length:=fun i=>by rw[Cb.1.mem_iff,List.mem_range]
 refine⟨fun x hx=>?_,?_,fun x hx=>?_⟩
 ·obtain⟨i,hi,hx⟩:=List.mem_flatMap.1 hx
  have:=wD hab ((hm i).1 hi) hx
  exact⟨this.1,this.2.1⟩
 ·have hnd:σ.Nodup:=Cb.1.nodup_iff.2 List.nodup_range
  unfold ui
  rw[List.flatMap_def]
  refine List.pairwise_flatten.2 ⟨fun l hl=>?_,?_⟩
  ·obtain⟨i,hi,rfl⟩:=List.mem_map.1 hl
   exact(Ux hab ((hm i).1 hi)).1
  ·rw[List.pairwise_map]
   have:∀{τ:List Nat},(∀i∈τ,i<(bD d).length)->τ.Nodup->τ.Pairwise fun i j=>∀x∈(ga (eD d) i).1,∀y∈(ga (eD d) j).1,x≠y:=by
    intro τ ht hn
    refine List.Pairwise.imp_of_mem ?_ hn
    intro i j hi hj hij x hx y hy e
    subst e
    have h1:=(wD hab (ht i hi) hx).2.2
    have h2:=(wD hab (ht j hj) hy).2.2
    exact hij (h1.symm.trans h2)
   exact this (fun i hi=>(hm i).1 hi) hnd
 ·have hp:=(mZ hab hx).1
  exact List.mem_flatMap.2 ⟨cg d x,(hm _).2 hp,(Ux hab hp).2 x hx rfl⟩
theorem aee{d:Dg}(hab:aO d=true){σ:List Nat}(Cb:q9 (kO (eD d)) (bD d).length σ):∃f g,fH (⟨(gS d (ui d σ)).cs,d.loops⟩:Dg) d f g/\Val (⟨(gS d (ui d σ)).cs,d.loops⟩:Dg):=by
 obtain⟨o1,o2,o3⟩:=aeT hab Cb
 generalize hS:ui d σ=S at o1 o2 o3 ⊢
 have hlen:S.length=d.ae.length:=by
  have h1:=nK (xs:=S) (ys:=(List.range d.ae.length).map fun(n:Nat)=>(n:Int)) o2 (fun y hy=>by
   obtain⟨a,b⟩:=o1 y hy
   exact List.mem_map.2 ⟨y.toNat,List.mem_range.2 a,by show((y.toNat:Nat):Int)=y;omega⟩)
  have h2:=nK (xs:=(List.range d.ae.length).map fun(n:Nat)=>(n:Int)) (ys:=S) (by
   rw[List.Nodup,List.pairwise_map]
   exact List.nodup_range.imp fun h e=>h (by omega)) (fun y hy=>by
   obtain⟨n,hn,rfl⟩:=List.mem_map.1 hy
   exact o3 n (List.mem_range.1 hn))
  simp at h1 h2
  omega
 obtain⟨J,L,C⟩:=acr hab (fun x hx=>(o1 x hx).1) S.length (Nat.le_refl _)
 rw[List.take_length]at J L C
 generalize hR:gS d S=R at J L C ⊢
 have hat:∀j q,j<d.ae.length->q<4->aL (⟨R.cs,d.loops⟩:Dg) j q=ga R.nm (aL d (ga S j).toNat q).toNat/\aL (⟨R.cs,d.loops⟩:Dg) j q≠0:=by
  intro j q hj hq
  obtain⟨c1,c2⟩:=(C j (by omega)).2 q hq
  exact⟨c2,fun h=>c1 (by rw[<-c2];exact h)⟩
 have hlt:∀j,j<d.ae.length->(ga S j).toNat<d.ae.length:=fun j hj=>(o1 _ (cY (by omega))).1
 have hSn:∀i j,i<d.ae.length->j<d.ae.length->(ga S i).toNat=(ga S j).toNat->i=j:=by
  intro i j hi hj e
  have e2:ga S i=ga S j:=by
   have h1:=(o1 _ (cY (show i<S.length by omega))).2
   have h2:=(o1 _ (cY (show j<S.length by omega))).2
   omega
  rw[cZ (by omega),cZ (by omega)]at e2
  rcases Nat.lt_trichotomy i j with h|h|h
  ·exact absurd e2 (List.pairwise_iff_getElem.1 o2 i j (by omega) (by omega) h)
  ·exact h
  ·exact absurd e2.symm (List.pairwise_iff_getElem.1 o2 j i (by omega) (by omega) h)
 have hg:∀c,c<d.ae.length->∃j,j<d.ae.length/\(ga S j).toNat=c:=by
  intro c hc
  obtain⟨j,hj,e⟩:=List.mem_iff_getElem.1 (o3 c hc)
  exact⟨j,by omega,by rw[cZ hj,e];rfl⟩
 have Pb:∀c s c' s',c<d.ae.length->s<4->c'<d.ae.length->s'<4->(aL d (ga S c).toNat s=aL d (ga S c').toNat s'<->aL (⟨R.cs,d.loops⟩:Dg) c s=aL (⟨R.cs,d.loops⟩:Dg) c' s'):=by
  intro c s c' s' hc hs hc' hs'
  obtain⟨a1,a2⟩:=hat c s hc hs
  obtain⟨b1,_⟩:=hat c' s' hc' hs'
  have r1:=ey hab (hlt c hc) hs
  have r2:=ey hab (hlt c' hc') hs'
  constructor
  ·intro e;rw[a1,b1,e]
  ·intro e
   have:=J.j (aL d (ga S c).toNat s).toNat (aL d (ga S c').toNat s').toNat (show ga R.nm _=ga R.nm _ from a1.symm.trans (e.trans b1)) (show ga R.nm _≠0 from fun h=>a2 (a1.trans h))
   omega
 have hp:∀c,c<d.ae.length->(ga R.cs c).plus=(ga d.ae (ga S c).toNat).plus:=fun c hc=>(C c (by omega)).1
 refine⟨fun c=>(ga S c).toNat,fun c=>if h:∃j,j<d.ae.length/\(ga S j).toNat=c then h.choose else 0,⟨by show d.ae.length=R.cs.length;omega,fun c hc=>?_,fun c hc=>?_,fun c hc=>?_,fun c s c' s' hc hs hc' hs'=>?_,rfl⟩,⟨fun i s hi hs=>?_,fun i s i' s' hi hs hi' hs' he ha=>?_⟩⟩
 ·replace hc:c<R.cs.length:=hc
  have hc2:c<d.ae.length:=by omega
  refine⟨by show _<R.cs.length;have:=hlt c hc2;omega,?_⟩
  have hex:∃j,j<d.ae.length/\(ga S j).toNat=(ga S c).toNat:=⟨c,hc2,rfl⟩
  show(if h:∃j,j<d.ae.length/\(ga S j).toNat=(ga S c).toNat then h.choose else 0)=c
  rw[dif_pos hex]
  exact hSn _ _ hex.choose_spec.1 hc2 hex.choose_spec.2
 ·replace hc:c<R.cs.length:=hc
  have hex:=hg c (by omega)
  show(if h:∃j,j<d.ae.length/\(ga S j).toNat=c then h.choose else 0)<R.cs.length/\(ga S (if h:∃j,j<d.ae.length/\(ga S j).toNat=c then h.choose else 0)).toNat=c
  rw[dif_pos hex]
  exact⟨by have:=hex.choose_spec.1;omega,hex.choose_spec.2⟩
 ·exact(hp c (by have h9:c<R.cs.length:=hc;omega)).symm
 ·exact Pb c s c' s' (by have h9:c<R.cs.length:=hc;omega) hs (by have h9:c'<R.cs.length:=hc';omega) hs'
 ·replace hi:i<R.cs.length:=hi
  obtain⟨a1,a2⟩:=hat i s (by omega) hs
  have hb:=J.b (aL d (ga S i).toNat s).toNat
  have hc:=J.c
  have hle:(R.nm.countP fun v=>decide (v≠0))<=2*d.ae.length:=by
   have hl:=J.i.len
   replace hl:R.nm.length=2*d.ae.length+1:=hl
   have hz:=J.z
   cases hn:R.nm with
   |nil=>rw[hn]at hl;simp at hl
   |cons v r=>
    have hz2:ga R.nm 0=0:=hz
    rw[hn]at hl hz2
    have hv:v=0:=hz2
    rw[List.countP_cons_of_neg (by simp[hv])]
    have:=List.countP_le_length (p:=fun v:Int=>decide (v≠0)) (l:=r)
    rw[List.length_cons]at hl
    omega
  show 1<=aL (⟨R.cs,d.loops⟩:Dg) i s/\aL (⟨R.cs,d.loops⟩:Dg) i s<=2*((R.cs.length:Nat):Int)
  rw[a1]at a2 ⊢
  change 0<=ga R.nm _/\ga R.nm _<R.nx at hb
  change(((R.nm.countP fun v=>decide (v≠0)):Nat):Int)=R.nx-1 at hc
  omega
 ·replace hi:i<R.cs.length:=hi
  replace hi':i'<R.cs.length:=hi'
  have ha2:=(Pb i s i' s' (by omega) hs (by omega) hs').2 ha
  have cU:bO d (ga S i).toNat s=bO d (ga S i').toNat s':=by
   have e1:∀c q,c<d.ae.length->bO (⟨R.cs,d.loops⟩:Dg) c q=bO d (ga S c).toNat q:=fun c q hc=>by
    unfold bO kS
    rw[show(ga (⟨R.cs,d.loops⟩:Dg).ae c).plus=(ga d.ae (ga S c).toNat).plus from hp c hc]
   rw[<-e1 i s (by omega),<-e1 i' s' (by omega)];exact he
  obtain⟨u1,u2⟩:=(Mm hab).u _ _ _ _ (hlt i (by omega)) hs (hlt i' (by omega)) hs' cU ha2
  exact⟨hSn i i' (by omega) (by omega) u1,u2⟩
theorem aeN{K:Nat->List Int}(κ:List Nat):∀i,∃kk,qB K κ i kk:=by
 intro i
 induction i with
 |zero=>exact⟨-1,.inl ⟨rfl,fun j hj=>absurd hj (Nat.not_lt_zero _)⟩⟩
 |succ i ih=>
  obtain⟨kk,h⟩:=ih
  by_cases hi:i∈κ
  ·exact⟨kk,h.skip hi⟩
  ·have h0:=h
   rcases h0 with⟨e,_⟩|⟨k,rfl,_⟩
   ·exact⟨_,h.first (by omega) hi⟩
   ·cases hl:gV (K i) (K k)with
    |true=>exact⟨_,h.take hi hl⟩
    |false=>exact⟨_,h.stay hl⟩
theorem ade{K:Nat->List Int}(m:Nat):∃σ,q9 K m σ:=by
 have:∀t,t<=m->∃κ,ve K m κ/\κ.length=t:=by
  intro t
  induction t with
  |zero=>intro _;exact⟨[],ve.nil,rfl⟩
  |succ t ih=>
   intro ht
   obtain⟨κ,h1,h2⟩:=ih (by omega)
   obtain⟨kk,hk⟩:=aeN (K:=K) κ m
   rcases hk with⟨_,h3⟩|⟨k,_,h3,h4,h5⟩
   ·obtain⟨x,hx,hn⟩:=TA h1.td (by omega:κ.length<m)
    exact absurd (h3 x hx) hn
   ·exact⟨κ++[k],h1.snoc h3 h4 (fun y hy hn hne=>h5 y hy hn hne),by simp[h2]⟩
 obtain⟨κ,h1,h2⟩:=this m (Nat.le_refl _)
 exact⟨κ,h1.sort h2⟩
theorem L8{d:Dg}(hab:aO d=true):(∃f g,fH (gF d) d f g)/\aO (gF d)=true:=by
 obtain⟨σ,Cb⟩:=ade (K:=kO (eD d)) (bD d).length
 have e:gF d=⟨(gS d (ui d σ)).cs,d.loops⟩:=by unfold gF;rw[Nn Cb]
 obtain⟨f,g,h1,h2⟩:=aee hab Cb
 rw[e]
 exact⟨⟨f,g,h1⟩,Lq h2⟩
end Go.Proofs.YtcohmplpgcddiaaGreatDoor
namespace Go.Proofs.YtcohmplpgcddiaaGreatDoor
open Go.ChangeShapes Go.WideShapes Go.ChangeAt Go.RowKit
def tj(f:Nat->Nat)(z:Nat×Nat):Nat×Nat:=(f z.1,z.2)
def fu(x y:Dg)(f:Nat->Nat)(u:Da):Da:=⟨aL y (f (aF x u.a true).1) (aF x u.a true).2,u.b⟩
section
variable {x y : Dg} {f g : Nat → Nat}
theorem MC(h:fH x y f g)(hx:aO x=true){u:Da}(hu:okD x u){c s:Nat}(hc:c<x.ae.length)(hs:s<4)(e:aL x c s=u.a):(fu x y f u).a=aL y (f c) s:=by
 obtain⟨h1,h2,_⟩:=fO hx hu true
 obtain⟨t1,_⟩:=ot hx hu true
 exact(h.a _ _ _ _ h1 h2 hc hs).2 (t1.trans e.symm)
theorem rY(h:fH x y f g)(hx:aO x=true)(hy:aO y=true){u:Da}(hu:okD x u)(b:Bool):aF y (fu x y f u).a b=tj f (aF x u.a b)/\okD y (fu x y f u):=by
 have hn:=h.n
 obtain⟨h1,h2,_⟩:=fO hx hu b
 obtain⟨t1,t2⟩:=ot hx hu b
 have e:=MC h hx hu h1 h2 t1
 have hf:=(h.fl _ h1).1
 have hb:=ey hy (i:=f (aF x u.a b).1) (by omega) h2
 refine⟨?_,?_⟩
 ·rw[e]
  exact sW hy (by omega) h2 (by rw[h.e h1];exact t2)
 ·unfold okD
  rw[e];exact hb
theorem adV(h:fH x y f g)(hx:aO x=true)(hy:aO y=true){u:Da}(hu:okD x u):jQ y (fu x y f u)=fu x y f (jQ x u):=by
 obtain⟨h1,h2,_⟩:=fO hx hu u.b
 have he:=(rY h hx hy hu u.b).1
 have hl:=LC hx hu
 have h3:((aF x u.a u.b).2+3)%4<4:=Nat.mod_lt _ (by decide)
 have ea:=MC h hx hl h1 h3 rfl
 have eb:=h.e h1 (((aF x u.a u.b).2+3)%4)
 have e1:jQ y (fu x y f u)=⟨aL y (f (aF x u.a u.b).1) (((aF x u.a u.b).2+3)%4),bO y (f (aF x u.a u.b).1) (((aF x u.a u.b).2+3)%4)⟩:=by
  unfold jQ
  rw[show(fu x y f u).b=u.b from rfl,he];rfl
 have e2:fu x y f (jQ x u)=⟨(fu x y f (jQ x u)).a,(jQ x u).b⟩:=rfl
 rw[e1,e2,ea,eb];rfl
theorem wH(h:fH x y f g)(hx:aO x=true)(hy:aO y=true){u:Da}(hu:okD x u):fu y x g (fu x y f u)=u:=by
 obtain⟨h1,_⟩:=fO hx hu true
 obtain⟨t1,_⟩:=ot hx hu true
 obtain⟨e,_⟩:=rY h hx hy hu true
 have e1:(fu y x g (fu x y f u)).a=u.a:=by
  unfold fu at e ⊢
  simp only at e ⊢
  rw[e]
  show aL x (g (f _)) _=_
  rw[(h.fl _ h1).2];exact t1
 cases u
 exact congrArg (fun a=>(⟨a,_⟩:Da)) e1
def nM(x y:Dg)(f:Nat->Nat)(c:Nat):Nat:=lL (fu x y f (dA c))
theorem yD(h:fH x y f g)(hx:aO x=true)(hy:aO y=true){c:Nat}(hc:jS x c):jS y (nM x y f c)/\dA (nM x y f c)=fu x y f (dA c):=by
 have ho:=(rY h hx hy (nE hc) true).2
 exact⟨EC ho,E5 (by unfold okD at ho;omega)⟩
theorem Iq(h:fH x y f g)(hx:aO x=true)(hy:aO y=true){c:Nat}(hc:jS x c):nM y x g (nM x y f c)=c:=by
 unfold nM
 rw[show dA (lL (fu x y f (dA c)))=fu x y f (dA c)from(yD h hx hy hc).2,wH h hx hy (nE hc),wL]
theorem ae9(h:fH x y f g)(hx:aO x=true)(hy:aO y=true){c:Nat}(hc:jS x c):fP y (nM x y f c)=nM x y f (fP x c):=by
 show lL (jQ y (dA (nM x y f c)))=lL (fu x y f (dA (fP x c)))
 rw[(yD h hx hy hc).2,Ai hx hc,adV h hx hy (nE hc)]
end
theorem aaU{d:Dg}(h:aO d=true)(k:Nat)(hk:k<=4*d.ae.length):∀r∈(gG d k).2,∃c0,jS d c0/\∀Q:Nat->Prop,(∀c,Q c->Q (fP d c))->Q c0->∀y∈r,∃c:Nat,y=(c:Int)/\Q c:=by
 induction k with
 |zero=>intro r hr;simp[gG]at hr
 |succ k ih=>
  by_cases hg:ga (gG d k).1 (k+2)=true
  ·rw[xL rfl hg];exact ih (by omega)
  ·rw[xK rfl (by simpa using hg) rfl]
   intro r hr
   rcases List.mem_append.1 hr with hr|hr
   ·exact ih (by omega) r hr
   ·rw[List.mem_singleton]at hr
    subst hr
    exact⟨k+2,⟨by omega,by omega⟩,fun Q hQ h0=>Sm hQ _ _ _ h0 (fun y hy=>by cases hy)⟩
theorem SQ{d:Dg}(h:aO d=true){Z:Nat->Prop}(hZ:∀c,jS d c->(Z (fP d c)<->Z c)){c e:Nat}(hc:jS d c)(he:jS d e)(hf:kT d c=kT d e):Z c<->Z e:=by
 obtain⟨h1,h2⟩:=yF h hc
 obtain⟨_,h3⟩:=yF h he
 rw[<-hf]at h3
 obtain⟨c0,h4,h5⟩:=aaU h _ (Nat.le_refl _) (ga (jg d) (kT d c)) (by rw[cZ h1];exact List.getElem_mem _)
 have key:=h5 (fun c=>jS d c/\(Z c<->Z c0)) (fun c hq=>⟨zW h hq.1,(hZ c hq.1).trans hq.2⟩) ⟨h4,Iff.rfl⟩
 obtain⟨c',e1,_,e2⟩:=key _ h2
 obtain⟨e',e3,_,e4⟩:=key _ h3
 obtain rfl:c=c':=by omega
 obtain rfl:e=e':=by omega
 exact e2.trans e4.symm
theorem NU{x y:Dg}{f g:Nat->Nat}(h:fH x y f g)(hx:aO x=true)(hy:aO y=true){c e:Nat}(hc:jS x c)(he:jS x e)(hf:kT x c=kT x e):kT y (nM x y f c)=kT y (nM x y f e):=
 (SQ hx (Z:=fun z=>kT y (nM x y f z)=kT y (nM x y f e)) (fun z hz=>by rw[<-ae9 h hx hy hz,afw hy (yD h hx hy hz).1]) hc he hf).2 rfl
theorem agH{d:Dg}(h:aO d=true){c k:Nat}(hc:c<d.ae.length)(hk:k<4):bB d c k<d.ae.length:=(fO h (ey h hc hk) _).1
theorem agI{x y:Dg}{f g:Nat->Nat}(h:fH x y f g)(hx:aO x=true)(hy:aO y=true){c k:Nat}(hc:c<x.ae.length)(hk:k<4):bB y (f c) k=f (bB x c k):=by
 have hu:okD x ⟨aL x c k,bO x c k⟩:=ey hx hc hk
 have e1:=MC h hx hu hc hk rfl
 have e2:=(rY h hx hy hu (bO x c k)).1
 unfold bB
 rw[h.e hc,<-e1,e2];rfl
theorem Wi{d:Dg}(h:aO d=true){c k:Nat}(hc:c<d.ae.length)(hk:k<4):cg d (bB d c k)=cg d c:=by
 obtain⟨h1,h2,_⟩:=mZ h hc
 exact(tL h h1 ((oY h).Hk _ h1 c h2 k hk)).2
theorem aaV{d:Dg}(h:aO d=true){Z:Nat->Prop}(hZ:∀c k,c<d.ae.length->k<4->(Z (bB d c k)<->Z c)){a b:Nat}(ha:a<d.ae.length)(hb:b<d.ae.length)(e:cg d a=cg d b):Z a<->Z b:=by
 obtain⟨h1,h2,_⟩:=mZ h ha
 obtain⟨_,h3,_⟩:=mZ h hb
 rw[<-e]at h3
 obtain⟨_,c0,hc0,_,h4⟩:=(oY h).el _ h1
 have key:∀z,Rc d c0 z->z<d.ae.length/\(Z z<->Z c0):=by
  intro z hz
  induction hz with
  |refl=>exact⟨hc0,Iff.rfl⟩
  |step _ hk ih=>exact⟨agH h ih.1 hk,(hZ _ _ ih.1 hk).trans ih.2⟩
 obtain⟨z1,e1,_,r1⟩:=h4 _ h2
 obtain⟨z2,e2,_,r2⟩:=h4 _ h3
 obtain rfl:a=z1:=by omega
 obtain rfl:b=z2:=by omega
 exact(key _ r1).2.trans (key _ r2).2.symm
theorem Wl{x y:Dg}{f g:Nat->Nat}(h:fH x y f g)(hx:aO x=true)(hy:aO y=true){a b:Nat}(ha:a<x.ae.length)(hb:b<x.ae.length)(e:cg x a=cg x b):cg y (f a)=cg y (f b):=
 (aaV hx (Z:=fun z=>cg y (f z)=cg y (f b)) (fun c k hc hk=>by rw[<-agI h hx hy hc hk,Wi hy (by have:=h.n;have:=(h.fl c hc).1;omega) hk]) ha hb e).2 rfl
end Go.Proofs.YtcohmplpgcddiaaGreatDoor
namespace Go.Proofs.YtcohmplpgcddiaaGreatDoor
open Go.ChangeShapes Go.WideShapes Go.ChangeAt Go.RowKit
theorem VM(P:Nat->Bool)(n:Nat):cn P n=((List.range n).filter P).length:=by
 induction n with
 |zero=>rfl
 |succ n ih=>
  rw[cn,ih,List.range_succ,List.filter_append,List.length_append]
  cases h:P n<;>simp[h]
theorem VL{P Q:Nat->Bool}{n m:Nat}(φ:Nat->Nat)(h1:∀k,k<n->P k=true->φ k<m/\Q (φ k)=true)(h2:∀k l,k<n->l<n->P k=true->P l=true->φ k=φ l->k=l):cn P n<=cn Q m:=by
 rw[VM,VM]
 have e:((List.range n).filter P).length=(((List.range n).filter P).map φ).length:=by rw[List.length_map]
 rw[e]
 refine nK ?_ fun y hy=>?_
 ·rw[List.Nodup,List.pairwise_map]
  refine List.Pairwise.imp_of_mem ?_ (List.nodup_range.filter P)
  intro a b ha hb hab e
  obtain⟨a1,a2⟩:=List.mem_filter.1 ha
  obtain⟨b1,b2⟩:=List.mem_filter.1 hb
  exact hab (h2 a b (List.mem_range.1 a1) (List.mem_range.1 b1) a2 b2 e)
 ·obtain⟨a,ha,rfl⟩:=List.mem_map.1 hy
  obtain⟨a1,a2⟩:=List.mem_filter.1 ha
  obtain⟨q1,q2⟩:=h1 a (List.mem_range.1 a1) a2
  exact List.mem_filter.2 ⟨List.mem_range.2 q1,q2⟩
def qO(d:Dg)(k:Nat):Nat:=(ga (ga (jg d) k) 0).toNat
theorem E7{d:Dg}(h:aO d=true){k:Nat}(hk:k<(jg d).length):jS d (qO d k)/\kT d (qO d k)=k/\kJ d k=fw d (dA (qO d k)):=by
 have hm:ga (jg d) k∈(gG d (4*d.ae.length)).2:=by rw[cZ hk];exact List.getElem_mem _
 have hp:0<(ga (jg d) k).length:=by
  have:=(E3 (d:=d) (k:=k) (by rw[rG,List.length_map];exact hk)).1
  rw[rG,om _ _ _ hk]at this
  unfold jY at this
  rwa [List.length_map]at this
 have h0:ga (ga (jg d) k) 0∈ga (jg d) k:=cY hp
 obtain⟨c,e,hc⟩:=((BJ h _ (Nat.le_refl _)).2.2 _ hm).2 _ h0
 have e2:qO d k=c:=by unfold qO;omega
 rw[e2]
 refine⟨hc,I2 h hc hk (by rw[<-e];exact h0),?_⟩
 unfold kJ fw hd0
 rw[rG,om _ _ _ hk]
 unfold jY
 rw[om _ _ _ hp,e,Int.toNat_natCast]
theorem agn{d:Dg}(h:aO d=true){u:Da}(hu:okD d u):cg d (fw d u)=cg d (fh d u):=by
 obtain⟨h1,h2,_⟩:=fO h hu (!u.b)
 obtain⟨t1,t2⟩:=ot h hu (!u.b)
 have e:bB d (aF d u.a (!u.b)).1 (aF d u.a (!u.b)).2=fw d u:=by
  unfold bB fw
  rw[t1,t2,Bool.not_not]
 unfold fh
 rw[<-e,Wi h h1 h2]
theorem adW{d:Dg}(h:aO d=true){c e:Nat}(hc:jS d c)(he:jS d e)(hf:kT d c=kT d e):cg d (fw d (dA c))=cg d (fw d (dA e)):=
 (SQ h (Z:=fun z=>cg d (fw d (dA z))=cg d (fw d (dA e))) (fun z hz=>by
  have h1:=CV h hz
  rw[agn h (nE (zW h hz)),<-h1]) hc he hf).2 rfl
section
variable {x y : Dg} {f g : Nat → Nat}
theorem Wj(h:fH x y f g)(hx:aO x=true)(hy:aO y=true){c:Nat}(hc:c<x.ae.length):(ga (bD x) (cg x c)).length<=(ga (bD y) (cg y (f c))).length:=by
 have hn:=h.n
 obtain⟨p1,p2,_⟩:=mZ hx hc
 have hnd:=((oY hx).el _ p1).1
 have e:(ga (bD x) (cg x c)).length=((ga (bD x) (cg x c)).map fun z=>((f z.toNat:Nat):Int)).length:=by rw[List.length_map]
 rw[e]
 refine nK ?_ fun y' hy'=>?_
 ·rw[List.Nodup,List.pairwise_map]
  refine List.Pairwise.imp_of_mem ?_ hnd
  intro a b ha hb hab e
  have qa:=wG hx p1 ha
  have qb:=wG hx p1 hb
  have fa:=(h.fl _ qa.2.1).2
  have fb:=(h.fl _ qb.2.1).2
  have e2:f a.toNat=f b.toNat:=by omega
  rw[e2,fb]at fa
  exact hab (by omega)
 ·obtain⟨a,ha,rfl⟩:=List.mem_map.1 hy'
  have qa:=wG hx p1 ha
  have gZ:=(h.fl _ qa.2.1).1
  have:=Wl h hx hy qa.2.1 hc qa.2.2
  have h2:=(mZ hy (x:=f a.toNat) (by omega)).2.1
  rwa [this]at h2
theorem WW(h:fH x y f g)(hx:aO x=true)(hy:aO y=true){c:Nat}(hc:c<x.ae.length):cn (fun k=>decide (cg x (kJ x k)=cg x c)) (ai x).length<=cn (fun k=>decide (cg y (kJ y k)=cg y (f c))) (ai y).length:=by
 have lx:(ai x).length=(jg x).length:=by rw[rG,List.length_map]
 have ly:(ai y).length=(jg y).length:=by rw[rG,List.length_map]
 rw[lx,ly]
 refine VL (fun k=>kT y (nM x y f (qO x k))) (fun k hk hP=>?_) (fun k l hk hl _ _ e=>?_)
 ·obtain⟨a1,a2,a3⟩:=E7 hx hk
  obtain⟨b1,b2⟩:=yD h hx hy a1
  have hlt:=(yF hy b1).1
  obtain⟨q1,q2,q3⟩:=E7 hy hlt
  refine⟨hlt,decide_eq_true ?_⟩
  have hP:=of_decide_eq_true hP
  rw[a3]at hP
  obtain⟨d1,_⟩:=fO hx (nE a1) (dA (qO x k)).b
  show cg y (kJ y (kT y (nM x y f (qO x k))))=_
  rw[q3,adW hy q1 b1 q2,b2]
  have e1:fw y (fu x y f (dA (qO x k)))=f (fw x (dA (qO x k))):=by
   unfold fw
   rw[show(fu x y f (dA (qO x k))).b=(dA (qO x k)).b from rfl,(rY h hx hy (nE a1) _).1];rfl
  rw[e1]
  exact Wl h hx hy d1 hc hP
 ·obtain⟨a1,a2,_⟩:=E7 hx hk
  obtain⟨b1,b2,_⟩:=E7 hx hl
  have e2:=NU h.symm hy hx (yD h hx hy a1).1 (yD h hx hy b1).1 e
  rw[Iq h hx hy a1,Iq h hx hy b1]at e2
  rw[<-a2,<-b2,e2]
theorem adv(h:fH x y f g)(hx:aO x=true)(hy:aO y=true)(hp:ml x=true):ml y=true:=by
 have hn:=h.n
 unfold ml at hp ⊢
 rw[List.all_eq_true]at hp ⊢
 intro i hi
 have hi:=List.mem_range.1 hi
 refine decide_eq_true ?_
 obtain⟨_,c0,hc0,hm,_⟩:=(oY hy).el i hi
 have e0:=(tL hy hi hm).2
 obtain⟨g1,g2⟩:=h.gl c0 (by omega)
 obtain⟨p1,_⟩:=mZ hx g1
 have hq:=of_decide_eq_true (hp _ (List.mem_range.2 p1))
 rw[MQ x _ p1]at hq
 rw[MQ y _ hi]
 have a1:=Wj h hx hy g1
 have a2:=Wj h.symm hy hx hc0
 have b1:=WW h hx hy g1
 have b2:=WW h.symm hy hx hc0
 rw[g2,e0]at a1 b1
 rw[e0]at a2 b2
 omega
end
end Go.Proofs.YtcohmplpgcddiaaGreatDoor
namespace Go.Proofs.YtcohmplpgcddiaaGreatDoor
open Go.ChangeShapes Go.WideShapes Go.ChangeAt Go.RowKit
section
variable {x y : Dg} {f g : Nat → Nat} {gn fE : Nat → Bool}
theorem I4(h:fH x y f g)(hx:aO x=true)(hy:aO y=true)(rP:∀c,c<x.ae.length->fE (f c)=gn c){c s c' s':Nat}(hc:c<x.ae.length)(hs:s<4)(hc':c'<x.ae.length)(hs':s'<4)(e:cT x gn (aL x c s).toNat=cT x gn (aL x c' s').toNat):cT y fE (aL y (f c) s).toNat=cT y fE (aL y (f c') s').toNat:=by
 have hn:=h.n
 have bd:=fun{c s:Nat}(hc:c<x.ae.length) (hs:s<4)=>ey hx hc hs
 have hP:∀{c1 s1 c2 s2:Nat},c1<x.ae.length->s1<4->c2<x.ae.length->s2<4->(aL x c1 s1).toNat=(aL x c2 s2).toNat->aL y (f c1) s1=aL y (f c2) s2:=by
  intro c1 s1 c2 s2 h1 k1 h2 k2 e
  have b1:=bd h1 k1
  have b2:=bd h2 k2
  exact(h.a _ _ _ _ h1 k1 h2 k2).2 (by omega)
 have hZ:∀{c s:Nat},c<x.ae.length->s<4->((∀c1 s1,c1<x.ae.length->s1<4->(aL x c1 s1).toNat=(aL x c s).toNat->cT y fE (aL y (f c1) s1).toNat=cT y fE (aL y (f c') s').toNat)<->cT y fE (aL y (f c) s).toNat=cT y fE (aL y (f c') s').toNat):=by
  intro c s hc hs
  constructor
  ·intro q;exact q c s hc hs rfl
  ·intro q c1 s1 h1 k1 e1;rw[hP h1 k1 hc hs e1];exact q
 have bc:=bd hc hs
 have bc':=bd hc' hs'
 have key:=U8 hx gn (fun a=>∀c1 s1,c1<x.ae.length->s1<4->(aL x c1 s1).toNat=a->cT y fE (aL y (f c1) s1).toNat=cT y fE (aL y (f c') s').toNat) (fun c s hc hg hs _=>by
  rw[hZ hc hs,hZ hc (Nat.mod_lt _ (by decide)),U0 hy (by have:=(h.fl c hc).1;omega) (by rw[rP c hc];exact hg) hs]) (by omega) (by omega) e
 exact(hZ hc hs).1 (key.2 ((hZ hc' hs').2 rfl))
theorem U9{d:Dg}(h:aO d=true){gn:Nat->Bool}{i s i' s':Nat}(hi:i<(tR d gn).length)(hs:s<4)(hi':i'<(tR d gn).length)(hs':s'<4):aL (ik d gn) i s=aL (ik d gn) i' s'<->cT d gn (aL d (eY d gn i) s).toNat=cT d gn (aL d (eY d gn i') s').toNat:=by
 rw[(CS hi hs).1,(CS hi' hs').1]
 obtain⟨a1,a2⟩:=Fh h hi hs
 obtain⟨b1,b2⟩:=Fh h hi' hs'
 rw[a2,b2]
 constructor
 ·intro e;exact VK a1 b1 (by omega)
 ·intro e;rw[e]
theorem Vu{d:Dg}{gn:Nat->Bool}{r:Int}:nk (tC d gn) (tR d gn) r=true<->∃c s,c<d.ae.length/\gn c=false/\s<4/\r=ga (tC d gn) (aL d c s).toNat:=by
 rw[Ip]
 constructor
 ·rintro⟨v,hv,t,ht,e⟩
  obtain⟨i,hi,rfl⟩:=List.mem_iff_getElem.1 hv
  obtain⟨s1,s2⟩:=rE hi
  refine⟨_,t,s1,s2,ht,?_⟩
  rw[e,<-cZ hi,IK hi];rfl
 ·rintro⟨c,s,hc,hg,hs,e⟩
  exact⟨_,Ng hc hg,s,hs,e⟩
theorem V5(h:fH x y f g)(hx:aO x=true)(hy:aO y=true)(rP:∀c,c<x.ae.length->fE (f c)=gn c):cn (iD (tC x gn) (tR x gn)) (2*x.ae.length+1)<=cn (iD (tC y fE) (tR y fE)) (2*y.ae.length+1):=by
 have hn:=h.n
 have hlo:∀k,k<2*x.ae.length+1->iD (tC x gn) (tR x gn) k=true->(1<=k/\cT x gn k=k/\nk (tC x gn) (tR x gn) (k:Int)=false)/\∃c s,c<x.ae.length/\s<4/\(aL x c s).toNat=k/\aF x (k:Int) true=(c,s):=by
  intro k hk h0
  unfold iD at h0
  rw[Bool.and_eq_true,Bool.and_eq_true,decide_eq_true_iff,decide_eq_true_iff]at h0
  obtain⟨h1,h2,h3⟩:=h0
  obtain⟨e1,e2,_⟩:=fO hx (a:=(k:Int)) (by omega) true
  obtain⟨t1,_⟩:=ot hx (a:=(k:Int)) (by omega) true
  exact⟨⟨h1,by unfold cT;rw[h2];rfl,by simpa using h3⟩,_,_,e1,e2,by rw[t1];rfl,rfl⟩
 refine VL (fun k=>cT y fE (aL y (f (aF x (k:Int) true).1) (aF x (k:Int) true).2).toNat) (fun k hk hP=>?_) (fun k l hk hl hPk KJ e=>?_)
 ·obtain⟨⟨h1,h2,h3⟩,c,s,hc,hs,ha,he⟩:=hlo k hk hP
  rw[he]
  show cT y fE (aL y (f c) s).toNat<_/\_
  have hf:=(h.fl c hc).1
  have hb:=ey hy (i:=f c) (by omega) hs
  have hlt:(aL y (f c) s).toNat<2*y.ae.length+1:=by omega
  obtain⟨c1,c2,c3⟩:=yR hy fE hlt
  have hp:=IG hy fE (x:=(aL y (f c) s).toNat) (by omega) hlt
  refine⟨by omega,?_⟩
  show iD _ _ (cT y fE (aL y (f c) s).toNat)=true
  unfold iD
  rw[decide_eq_true (show 1<=cT y fE (aL y (f c) s).toNat by omega),decide_eq_true c3]
  cases hl:nk (tC y fE) (tR y fE) ((cT y fE (aL y (f c) s).toNat:Nat):Int)with
  |false=>rfl
  |true=>
   obtain⟨c',s',hc',hg',hs',e⟩:=Vu.1 hl
   have b':=ey hy hc' hs'
   obtain⟨d1,_,_⟩:=yR hy fE (x:=(aL y c' s').toNat) (by omega)
   rw[d1]at e
   have e2:cT y fE (aL y c' s').toNat=cT y fE (aL y (f c) s).toNat:=by omega
   have hg2:=(h.gl c' (by omega))
   have e3:=I4 (gn:=fE) (fE:=gn) h.symm hy hx (fun c hc=>by
    have:=h.gl c (by omega)
    rw[<-rP _ this.1,this.2]) hc' hs' (by omega) hs e2
   rw[(h.fl c hc).2,ha,h2]at e3
   have h9:=(Vu (d:=x) (gn:=gn)).2 ⟨g c',s',hg2.1,by rw[<-rP _ hg2.1,hg2.2];exact hg',hs',rfl⟩
   have b9:=ey hx hg2.1 hs'
   rw[(yR hx gn (x:=(aL x (g c') s').toNat) (by omega)).1,e3,h3]at h9
   cases h9
 ·obtain⟨⟨h1,h2,_⟩,c,s,hc,hs,ha,he⟩:=hlo k hk hPk
  obtain⟨⟨h1',h2',_⟩,c',s',hc',hs',ha',he'⟩:=hlo l hl KJ
  rw[he,he']at e
  have hf:=(h.fl c hc).1
  have hf':=(h.fl c' hc').1
  have e3:=I4 (gn:=fE) (fE:=gn) h.symm hy hx (fun c hc=>by
   have:=h.gl c (by omega)
   rw[<-rP _ this.1,this.2]) (c:=f c) (c':=f c') (by omega) hs (by omega) hs' e
  rw[(h.fl c hc).2,(h.fl c' hc').2,ha,ha',h2,h2']at e3
  exact e3
theorem V6(h:fH x y f g)(rP:∀c,c<x.ae.length->fE (f c)=gn c):(tR x gn).length<=(tR y fE).length:=by
 have hn:=h.n
 rw[<-Cy,<-Cy,show(yX gn x.ae.length).length=((yX gn x.ae.length).map f).length from by rw[List.length_map]]
 refine nK ?_ fun z hz=>?_
 ·rw[List.Nodup,List.pairwise_map]
  refine List.Pairwise.imp_of_mem ?_ (List.nodup_range.filter _)
  intro a b ha hb hab e
  have fa:=(h.fl _ (List.mem_range.1 (List.mem_filter.1 ha).1)).2
  have fb:=(h.fl _ (List.mem_range.1 (List.mem_filter.1 hb).1)).2
  rw[e,fb]at fa
  exact hab fa.symm
 ·obtain⟨a,ha,rfl⟩:=List.mem_map.1 hz
  obtain⟨a1,a2⟩:=List.mem_filter.1 ha
  have a1:=List.mem_range.1 a1
  exact List.mem_filter.2 ⟨List.mem_range.2 (by have:=(h.fl a a1).1;omega),by rw[rP a a1];exact a2⟩
theorem aeC(h:fH x y f g)(hx:aO x=true)(hy:aO y=true)(rP:∀c,c<x.ae.length->fE (f c)=gn c):∃f' g',fH (ik x gn) (ik y fE) f' g':=by
 have hn:=h.n
 have JN:∀c,c<y.ae.length->gn (g c)=fE c:=fun c hc=>by
  have:=h.gl c (by omega)
  rw[<-rP _ this.1,this.2]
 have hF:∀i,i<(tR x gn).length->∃j,j<(tR y fE).length/\eY y fE j=f (eY x gn i):=fun i hi=>by
  obtain⟨s1,s2⟩:=rE hi
  exact LM (by have:=(h.fl _ s1).1;omega) (by rw[rP _ s1];exact s2)
 have hG:∀j,j<(tR y fE).length->∃i,i<(tR x gn).length/\eY x gn i=g (eY y fE j):=fun j hj=>by
  obtain⟨s1,s2⟩:=rE hj
  exact LM (h.gl _ (by omega)).1 (by rw[JN _ s1];exact s2)
 have hle:=V6 h rP
 have hge:=V6 h.symm JN
 have lx:=IE x gn
 have ly:=IE y fE
 refine⟨fun i=>if hi:i<(tR x gn).length then(hF i hi).choose else 0,fun j=>if hj:j<(tR y fE).length then(hG j hj).choose else 0,⟨by omega,fun c hc=>?_,fun c hc=>?_,fun c hc=>?_,fun c s c' s' hc hs hc' hs'=>?_,?_⟩⟩
 ·rw[lx]at hc ⊢
  obtain⟨j1,j2⟩:=(hF c hc).choose_spec
  simp only[dif_pos hc,dif_pos j1]
  obtain⟨i1,i2⟩:=(hG _ j1).choose_spec
  refine⟨by omega,LN i1 hc ?_⟩
  rw[i2,j2,(h.fl _ (rE hc).1).2]
 ·rw[lx]at hc ⊢
  have hc2:c<(tR y fE).length:=by omega
  obtain⟨j1,j2⟩:=(hG c hc2).choose_spec
  simp only[dif_pos hc2,dif_pos j1]
  obtain⟨i1,i2⟩:=(hF _ j1).choose_spec
  refine⟨by omega,LN i1 hc2 ?_⟩
  have:=(rE hc2).1
  rw[i2,j2,(h.gl _ (by omega)).2]
 ·rw[lx]at hc
  obtain⟨j1,j2⟩:=(hF c hc).choose_spec
  simp only[dif_pos hc]
  have e:∀(d:Dg) (gn:Nat->Bool) i,i<(tR d gn).length->(ga (ik d gn).ae i).plus=(ga d.ae (eY d gn i)).plus:=fun d gn i hi=>by
   have:ga (ik d gn).ae i=BZ (tC d gn) (tR d gn) (ga (tR d gn) i):=om _ _ _ hi
   rw[this,IK hi];rfl
  rw[e y fE _ j1,e x gn _ hc,j2,h.p _ (rE hc).1]
 ·rw[lx]at hc hc'
  obtain⟨j1,j2⟩:=(hF c hc).choose_spec
  obtain⟨k1,k2⟩:=(hF c' hc').choose_spec
  simp only[dif_pos hc,dif_pos hc']
  rw[U9 hy j1 hs k1 hs',U9 hx hc hs hc' hs',j2,k2]
  have a1:=(rE hc).1
  have b1:=(rE hc').1
  have fa:=h.fl _ a1
  have fb:=h.fl _ b1
  constructor
  ·intro e
   have:=I4 (gn:=fE) (fE:=gn) h.symm hy hx JN (c:=f (eY x gn c)) (c':=f (eY x gn c')) (by omega) hs (by omega) hs' e
   rwa [fa.2,fb.2]at this
  ·exact I4 h hx hy rP a1 hs b1 hs'
 ·have l1:=V5 h hx hy rP
  have l2:=V5 (gn:=fE) (fE:=gn) h.symm hy hx JN
  have l3:=h.l
  show y.loops+_=x.loops+_
  omega
end
end Go.Proofs.YtcohmplpgcddiaaGreatDoor
namespace Go.Proofs.YtcohmplpgcddiaaGreatDoor
open Go.ChangeShapes Go.WideShapes Go.ChangeAt Go.RowKit
theorem L5{d:Dg}(h:aO d=true){k:Nat}(hk:k<(jg d).length):(ga (jg d) k).Nodup/\∀y∈ga (jg d) k,∃c:Nat,y=(c:Int)/\jS d c:=by
 obtain⟨i1,_,i3⟩:=BJ h _ (Nat.le_refl _)
 have hm:ga (jg d) k∈(gG d (4*d.ae.length)).2:=by rw[cZ hk];exact List.getElem_mem _
 exact⟨(List.pairwise_flatten.1 i1.1).1 _ hm,(i3 _ hm).2⟩
theorem qF{d:Dg}(h:aO d=true){k:Nat}(hk:k<(ai d).length){u:Da}:u∈ga (ai d) k<->okD d u/\kT d (lL u)=k:=by
 have hk2:k<(jg d).length:=by rwa [rG,List.length_map]at hk
 rw[rG,om _ _ _ hk2]
 obtain⟨n1,n2⟩:=L5 h hk2
 unfold jY
 rw[List.mem_map]
 constructor
 ·rintro⟨c,hc,rfl⟩
  obtain⟨e,rfl,he⟩:=n2 c hc
  rw[Int.toNat_natCast]
  exact⟨nE he,by rw[wL];exact I2 h he hk2 hc⟩
 ·rintro⟨h1,h2⟩
  have:=(yF h (EC h1)).2
  rw[h2]at this
  exact⟨_,this,by rw[Int.toNat_natCast];exact E5 (by unfold okD at h1;omega)⟩
theorem Eo{d:Dg}(h:aO d=true){k:Nat}(hk:k<(ai d).length):(ga (ai d) k).Nodup:=by
 have hk2:k<(jg d).length:=by rwa [rG,List.length_map]at hk
 rw[rG,om _ _ _ hk2]
 obtain⟨n1,n2⟩:=L5 h hk2
 unfold jY
 rw[List.Nodup,List.pairwise_map]
 refine List.Pairwise.imp_of_mem ?_ n1
 intro a b ha hb hab e
 obtain⟨c,rfl,_⟩:=n2 a ha
 obtain⟨c',rfl,_⟩:=n2 b hb
 rw[Int.toNat_natCast,Int.toNat_natCast]at e
 have:=congrArg lL e
 rw[wL,wL]at this
 exact hab (by omega)
instance :DecidableEq Da:=fun a b=>decidable_of_iff (a.a=b.a/\a.b=b.b) (by cases a;cases b;simp)
section
variable {x y : Dg} {f g : Nat → Nat}
theorem agL(h:fH x y f g)(hx:aO x=true){u:Da}(hu:okD x u):lL (fu x y f u)=nM x y f (lL u):=by
 unfold nM
 rw[E5 (by unfold okD at hu;omega)]
theorem UR(h:fH x y f g)(hx:aO x=true)(hy:aO y=true){k:Nat}(hk:k<(ai x).length):∃k',k'<(ai y).length/\(ga (ai x) k).length<=(ga (ai y) k').length/\∀u,okD x u->(u∈ga (ai x) k<->fu x y f u∈ga (ai y) k'):=by
 have hk2:k<(jg x).length:=by rwa [rG,List.length_map]at hk
 obtain⟨a1,a2,_⟩:=E7 hx hk2
 obtain⟨b1,b2⟩:=yD h hx hy a1
 have hl:=(yF hy b1).1
 have hl2:kT y (nM x y f (qO x k))<(ai y).length:=by rw[rG,List.length_map];exact hl
 have hmem:∀u,okD x u->(u∈ga (ai x) k<->fu x y f u∈ga (ai y) (kT y (nM x y f (qO x k)))):=by
  intro u hu
  rw[qF hx hk,qF hy hl2,agL h hx hu]
  have hr:=EC hu
  constructor
  ·rintro⟨_,h2⟩
   exact⟨(rY h hx hy hu true).2,NU h hx hy hr a1 (h2.trans a2.symm)⟩
  ·rintro⟨_,h2⟩
   have:=NU h.symm hy hx (yD h hx hy hr).1 b1 h2
   rw[Iq h hx hy hr,Iq h hx hy a1,a2]at this
   exact⟨hu,this⟩
 refine⟨_,hl2,?_,hmem⟩
 rw[show(ga (ai x) k).length=((ga (ai x) k).map (fu x y f)).length from by rw[List.length_map]]
 refine nK ?_ fun v hv=>?_
 ·rw[List.Nodup,List.pairwise_map]
  refine List.Pairwise.imp_of_mem ?_ (Eo hx hk)
  intro a b ha hb hab e
  have e2:=congrArg (fu y x g) e
  rw[wH h hx hy ((qF hx hk).1 ha).1,wH h hx hy ((qF hx hk).1 hb).1]at e2
  exact hab e2
 ·obtain⟨u,hu,rfl⟩:=List.mem_map.1 hv
  exact(hmem u ((qF hx hk).1 hu).1).1 hu
theorem TQ(h:fH x y f g)(hx:aO x=true)(hy:aO y=true){k:Nat}(hk:k<(ai x).length):∃k',k'<(ai y).length/\(ga (ai y) k').length=(ga (ai x) k).length/\(∀u,okD x u->(u∈ga (ai x) k<->fu x y f u∈ga (ai y) k'))/\∀v∈ga (ai y) k',∃u∈ga (ai x) k,v=fu x y f u:=by
 obtain⟨k',h1,h2,h3⟩:=UR h hx hy hk
 obtain⟨k2,q1,q2,q3⟩:=UR h.symm hy hx h1
 have hp:0<(ga (ai x) k).length:=(E3 hk).1
 have hm0:ga (ga (ai x) k) 0∈ga (ai x) k:=cY hp
 have ho:=((qF hx hk).1 hm0).1
 have e:k2=k:=by
  have:=(q3 _ (rY h hx hy ho true).2).1 ((h3 _ ho).1 hm0)
  rw[wH h hx hy ho]at this
  exact((qF hx q1).1 this).2.symm.trans ((qF hx hk).1 hm0).2
 subst e
 refine⟨k',h1,by omega,h3,fun v hv=>?_⟩
 have hv2:=((qF hy h1).1 hv).1
 refine⟨fu y x g v,(q3 v hv2).1 hv,?_⟩
 exact(wH h.symm hy hx hv2).symm
theorem Fm(h:fH x y f g)(hx:aO x=true)(hy:aO y=true){u:Da}(hu:okD x u):fh y (fu x y f u)=f (fh x u)/\hgt y (fu x y f u).a=hgt x u.a:=by
 unfold fh hgt
 rw[show(fu x y f u).b=u.b from rfl,(rY h hx hy hu _).1,(rY h hx hy hu false).1,(rY h hx hy hu true).1]
 exact⟨rfl,rfl⟩
theorem aeQ(h:fH x y f g)(hx:aO x=true)(hy:aO y=true){i j:Nat}(hp:(ai x).any (kR x (i:Int) (j:Int))=true):(ai y).any (kR y ((f i:Nat):Int) ((f j:Nat):Int))=true/\(ai y).any (kR y ((f j:Nat):Int) ((f i:Nat):Int))=true:=by
 rw[List.any_eq_true]at hp
 obtain⟨F,hF,hp⟩:=hp
 obtain⟨k,hk,rfl⟩:=List.mem_iff_getElem.1 hF
 rw[<-cZ hk]at hp
 unfold kR at hp
 obtain⟨hl,ht,hh⟩:=of_decide_eq_true hp
 obtain⟨k',k1,k2,k3,_⟩:=TQ h hx hy hk
 have m0:ga (ga (ai x) k) 0∈ga (ai x) k:=cY (by omega)
 have m1:ga (ga (ai x) k) 1∈ga (ai x) k:=cY (by omega)
 have o0:=((qF hx hk).1 m0).1
 have o1:=((qF hx hk).1 m1).1
 have hne:ga (ga (ai x) k) 0≠ga (ga (ai x) k) 1:=by
  have:=List.pairwise_iff_getElem.1 (Eo hx hk) 0 1 (by omega) (by omega) (by omega)
  rwa [<-cZ,<-cZ]at this
 have i0:=(k3 _ o0).1 m0
 have i1:=(k3 _ o1).1 m1
 have t0:=Fm h hx hy o0
 have t1:=Fm h hx hy o1
 generalize hu:ga (ga (ai x) k) 0=u at*
 generalize hv:ga (ga (ai x) k) 1=v at*
 have FP:fu x y f u≠fu x y f v:=fun e=>hne (by
  have:=congrArg (fu y x g) e
  rwa [wH h hx hy o0,wH h hx hy o1]at this)
 have hG:ga (ai y) k'∈ai y:=cY k1
 have ag4:∀G:List Da,G.length=2->fu x y f u∈G->fu x y f v∈G->(ga G 0=fu x y f u/\ga G 1=fu x y f v)\/(ga G 0=fu x y f v/\ga G 1=fu x y f u):=by
  intro G hG h1 h2
  match G,hG with
  |[a,b],_=>
   show(a=_/\b=_)\/(a=_/\b=_)
   simp only[List.mem_cons,List.not_mem_nil,or_false]at h1 h2
   rcases h1 with h1|h1<;>rcases h2 with h2|h2
   ·exact absurd (h1.trans h2.symm) FP
   ·exact .inl ⟨h1.symm,h2.symm⟩
   ·exact .inr ⟨h2.symm,h1.symm⟩
   ·exact absurd (h1.trans h2.symm) FP
 have ft:∀{a b:Nat},((a:Nat):Int)=b->((f a:Nat):Int)=f b:=fun{a b} e=>by
  have e2:a=b:=by omega
  rw[e2]
 have hc:=ag4 _ (by omega) i0 i1
 rw[List.any_eq_true,List.any_eq_true]
 refine⟨⟨_,hG,?_⟩,⟨_,hG,?_⟩⟩
 all_goals
  unfold kR
  refine decide_eq_true ⟨by omega,?_⟩
  rcases hc with⟨e0,e1⟩|⟨e0,e1⟩<;>rw[e0,e1,t0.1,t0.2,t1.1,t1.2]<;>rcases ht with⟨a,b⟩|⟨a,b⟩<;>have a':=ft a<;>have b':=ft b<;>exact⟨by omega,by omega⟩
theorem ad6(h:fH x y f g){c:Nat}(hc:c<x.ae.length)(hp:curlN (ga x.ae c) 4=true):curlN (ga y.ae (f c)) 4=true:=by
 have e:∀k,k<4->decide (dw (ga y.ae (f c)) k=dw (ga y.ae (f c)) ((k+1)%4))=decide (dw (ga x.ae c) k=dw (ga x.ae c) ((k+1)%4)):=fun k hk=>decide_eq_decide.2 (h.a c k c ((k+1)%4) hc hk hc (Nat.mod_lt _ (by decide)))
 have e0:=e 0 (by omega)
 have e1:=e 1 (by omega)
 have e2:=e 2 (by omega)
 have e3:=e 3 (by omega)
 simp only[curlN]at hp ⊢
 rw[e0,e1,e2,e3]
 exact hp
end
end Go.Proofs.YtcohmplpgcddiaaGreatDoor
namespace Go.Proofs.YtcohmplpgcddiaaGreatDoor
open Go.ChangeShapes Go.WideShapes Go.ChangeAt Go.RowKit
theorem acj{xs:List Cr}{k z:Nat×Nat}(hk:k.1<xs.length/\k.2<4)(hz:z.2<4)(v:Int):dw (ga (eB xs k.1 k.2 v) z.1) z.2=(if z=k then v else dw (ga xs z.1) z.2)/\(ga (eB xs k.1 k.2 v) z.1).plus=(ga xs z.1).plus:=by
 obtain⟨c,s⟩:=k
 obtain⟨c',s'⟩:=z
 simp only at hk hz ⊢
 obtain⟨hc,hs⟩:=hk
 unfold eB
 rw[eX _ _ _ _ hc]
 by_cases e:c=c'
 ·subst e
  rw[if_pos rfl]
  obtain rfl|rfl|rfl|rfl:s=0\/s=1\/s=2\/s=3:=by omega
  all_goals obtain rfl|rfl|rfl|rfl:s'=0\/s'=1\/s'=2\/s'=3:=by omega
  all_goals simp[vB,dw]
 ·rw[if_neg e,if_neg (fun h=>e (by injection h with h _;exact h.symm))]
  exact⟨rfl,rfl⟩
def MT(p q z w:Nat×Nat):Prop:=(z=p/\w=cd q)\/(z=cd p/\w=q)\/(z=cd q/\w=p)\/(z=q/\w=cd p)
def NT(p q z:Nat×Nat):Prop:=z≠p/\z≠cd p/\z≠cd q/\z≠q
theorem MT.comm{p q z w:Nat×Nat}(h:MT p q z w):MT q p z w:=by
 rcases h with h|h|h|h
 ·exact .inr (.inr (.inr h))
 ·exact .inr (.inr (.inl h))
 ·exact .inr (.inl h)
 ·exact .inl h
theorem NT.comm{p q z:Nat×Nat}(h:NT p q z):NT q p z:=⟨h.2.2.2,h.2.2.1,h.2.1,h.1⟩
theorem MT.symm{p q z w:Nat×Nat}(h:MT p q z w):MT p q w z:=by
 rcases h with⟨a,b⟩|⟨a,b⟩|⟨a,b⟩|⟨a,b⟩
 ·exact .inr (.inr (.inl ⟨b,a⟩))
 ·exact .inr (.inr (.inr ⟨b,a⟩))
 ·exact .inl ⟨b,a⟩
 ·exact .inr (.inl ⟨b,a⟩)
def l9(d:Dg)(u:Da):Nat×Nat:=aF d u.a u.b
def lg(d:Dg)(u:Da):Nat×Nat:=aF d u.a (!u.b)
def SL(d:Dg)(F:List Da)(z w:Nat×Nat):Prop:=(∃u∈F,MT (l9 d u) (lg d u) z w)\/((∀u∈F,NT (l9 d u) (lg d u) z)/\w=z)
noncomputable def sgN(d:Dg)(f:List Da):Nat->Nat×Nat->Nat×Nat
 |0,z=>z
 |i+1,z=>if z=aF d (ga f i).a true then cd (aF d (ga f i).a false)else if z=cd (aF d (ga f i).a true)then aF d (ga f i).a false else if z=cd (aF d (ga f i).a false)then aF d (ga f i).a true else if z=aF d (ga f i).a false then cd (aF d (ga f i).a true)else sgN d f i z
theorem agv(d:Dg)(f:List Da)(i:Nat)(z:Nat×Nat):(∃j,j<i/\MT (l9 d (ga f j)) (lg d (ga f j)) z (sgN d f i z))\/((∀j,j<i->NT (l9 d (ga f j)) (lg d (ga f j)) z)/\sgN d f i z=z):=by
 have hM:∀(u:Da) (w:Nat×Nat),MT (aF d u.a true) (aF d u.a false) z w->MT (l9 d u) (lg d u) z w:=fun u w h=>by
  unfold l9 lg
  cases hb:u.b
  ·exact h.comm
  ·exact h
 have hN:∀u:Da,NT (aF d u.a true) (aF d u.a false) z->NT (l9 d u) (lg d u) z:=fun u h=>by
  unfold l9 lg
  cases hb:u.b
  ·exact h.comm
  ·exact h
 induction i with
 |zero=>exact .inr ⟨fun j hj=>absurd hj (Nat.not_lt_zero _),rfl⟩
 |succ i ih=>
  unfold sgN
  split
  ·rename_i h1;exact .inl ⟨i,by omega,hM _ _ (.inl ⟨h1,rfl⟩)⟩
  ·split
   ·rename_i h1;exact .inl ⟨i,by omega,hM _ _ (.inr (.inl ⟨h1,rfl⟩))⟩
   ·split
    ·rename_i h1;exact .inl ⟨i,by omega,hM _ _ (.inr (.inr (.inl ⟨h1,rfl⟩)))⟩
    ·split
     ·rename_i h1;exact .inl ⟨i,by omega,hM _ _ (.inr (.inr (.inr ⟨h1,rfl⟩)))⟩
     ·rename_i h1 h2 h3 h4
      rcases ih with⟨j,hj,h⟩|⟨h5,h6⟩
      ·exact .inl ⟨j,by omega,h⟩
      ·refine .inr ⟨fun j hj=>?_,h6⟩
       by_cases e:j=i
       ·subst e;exact hN _ ⟨h1,h2,h3,h4⟩
       ·exact h5 j (by omega)
theorem agu(d:Dg)(F:List Da)(z:Nat×Nat):SL d F z (sgN d F F.length z):=by
 rcases agv d F F.length z with⟨j,hj,h⟩|⟨h1,h2⟩
 ·exact .inl ⟨_,cY hj,h⟩
 ·refine .inr ⟨fun u hu=>?_,h2⟩
  obtain⟨j,hj,rfl⟩:=List.mem_iff_getElem.1 hu
  rw[<-cZ hj];exact h1 j hj
theorem SL.symm{d:Dg}{F:List Da}{z w:Nat×Nat}(h:SL d F z w):SL d F w z:=by
 rcases h with⟨u,hu,h⟩|⟨h1,rfl⟩
 ·exact .inl ⟨u,hu,h.symm⟩
 ·exact .inr ⟨h1,rfl⟩
theorem aeI{d:Dg}(hab:aO d=true){f:List Da}(hf:∀u∈f,okD d u)(lo:Int):∀i,i<=f.length->∀z:Nat×Nat,z.2<4->aL ⟨iu d.ae (nY d f i),lo⟩ z.1 z.2=aL d (sgN d f i z).1 (sgN d f i z).2/\(ga (iu d.ae (nY d f i)) z.1).plus=(ga d.ae z.1).plus:=by
 intro i
 induction i with
 |zero=>intro _ z _;exact⟨rfl,rfl⟩
 |succ i ih=>
  intro hi z hz
  have hu:=hf _ (cY (show i<f.length by omega))
  have h1:=CA hab hu true
  have h2:=CA hab hu false
  have p0:=LU hab hf i (by omega)
  obtain⟨t1,_⟩:=ot hab hu true
  obtain⟨t2,_⟩:=ot hab hu false
  have L:∀es,(iu d.ae es).length=d.ae.length:=fun es=>HJ _ _
  have p1:=p0.put h2 (aL d (cd (aF d (ga f i).a true)).1 (cd (aF d (ga f i).a true)).2)
  have p2:=p1.put (oo h2) (ga f i).a
  have p3:=p2.put (oo h1) (ga f i).a
  have hi2:=ih (by omega) z hz
  have R:∀(es:List ((Nat×Nat)×Int)) (_:tI d es) (k:Nat×Nat) (_:pP d k) (v:Int),dw (ga (iu d.ae (mp k v es)) z.1) z.2=(if z=k then v else dw (ga (iu d.ae es) z.1) z.2)/\(ga (iu d.ae (mp k v es)) z.1).plus=(ga (iu d.ae es) z.1).plus:=by
   intro es pe k hk v
   rw[El pe hk]
   exact acj ⟨by rw[L];exact hk.1,hk.2⟩ hz v
  have e1:=R _ p0 _ h2 (aL d (cd (aF d (ga f i).a true)).1 (cd (aF d (ga f i).a true)).2)
  have e2:=R _ p1 _ (oo h2) (ga f i).a
  have e3:=R _ p2 _ (oo h1) (ga f i).a
  have e4:=R _ p3 _ h1 (aL d (cd (aF d (ga f i).a false)).1 (cd (aF d (ga f i).a false)).2)
  unfold nY
  refine⟨?_,?_⟩
  ·refine Eq.trans e4.1 ?_
   unfold sgN
   split
   ·rfl
   ·refine Eq.trans e3.1 ?_
    split
    ·exact t2.symm
    ·refine Eq.trans e2.1 ?_
     split
     ·exact t1.symm
     ·refine Eq.trans e1.1 ?_
      split
      ·rfl
      ·exact hi2.1
  ·exact e4.2.trans (e3.2.trans (e2.2.trans (e1.2.trans hi2.2)))
end Go.Proofs.YtcohmplpgcddiaaGreatDoor
namespace Go.Proofs.YtcohmplpgcddiaaGreatDoor
open Go.ChangeShapes Go.WideShapes Go.ChangeAt Go.RowKit
structure SF(d:Dg)(F:List Da):Prop where
 ok:∀u∈F,okD d u
 hd:∀u∈F,∀v∈F,(l9 d u).1=(l9 d v).1->u=v
 tl:∀u∈F,∀v∈F,(lg d u).1=(lg d v).1->u=v
 ad:∀u∈F,∀v∈F,(l9 d u).1=(lg d v).1->(lg d v).2=((l9 d u).2+3)%4
theorem Sc{F:List Da}(hl:F.length=3){t:Da->Nat}(h:t (ga F 0)≠t (ga F 1)/\t (ga F 0)≠t (ga F 2)/\t (ga F 1)≠t (ga F 2)):∀u∈F,∀v∈F,t u=t v->u=v:=by
 match F,hl with
 |[a,b,c],_=>
  replace h:t a≠t b/\t a≠t c/\t b≠t c:=h
  obtain⟨h1,h2,h3⟩:=h
  intro u hu v hv e
  simp only[List.mem_cons,List.not_mem_nil,or_false]at hu hv
  rcases hu with rfl|rfl|rfl<;>rcases hv with rfl|rfl|rfl<;>first|rfl|(exfalso;first|exact h1 e|exact h1 e.symm|exact h2 e|exact h2 e.symm|exact h3 e|exact h3 e.symm)
theorem abI{d:Dg}(h:aO d=true){k:Nat}(hk:k<(ai d).length){v:Da}(hv:v∈ga (ai d) k):∃w∈ga (ai d) k,jQ d w=v:=by
 have hk2:k<(jg d).length:=by rwa [rG,List.length_map]at hk
 obtain⟨n1,n2⟩:=L5 h hk2
 obtain⟨o,e⟩:=(qF h hk).1 hv
 have hr:=EC o
 have hm:=(yF h hr).2
 rw[e]at hm
 have hc:Dr d (ga (jg d) k):=((BJ h _ (Nat.le_refl _)).2.2 (ga (jg d) k) (by rw[cZ hk2];exact List.getElem_mem _)).1
 obtain⟨z,hz,e2⟩:=RF (fun y=>((fP d y.toNat:Nat):Int)) n1 (fun y hy=>hc y hy) (fun a ha b hb e=>by
  obtain⟨c,rfl,hc⟩:=n2 a ha
  obtain⟨c',rfl,hc'⟩:=n2 b hb
  simp only[Int.toNat_natCast]at e
  rw[zX h hc hc' (by omega)]) hm
 obtain⟨c,rfl,hc2⟩:=n2 z hz
 simp only[Int.toNat_natCast]at e2
 refine⟨dA c,(qF h hk).2 ⟨nE hc2,by rw[wL];exact I2 h hc2 hk2 hz⟩,?_⟩
 rw[<-Ai h hc2,show fP d c=lL v from by omega,E5 (by unfold okD at o;omega)]
theorem Nk{d:Dg}(h:aO d=true){k:Nat}(hk:k<(ai d).length)(hs:ky d (ga (ai d) k)=true):SF d (ga (ai d) k)/\(ga (ai d) k).length=3:=by
 have hF:ga (ai d) k∈ai d:=cY hk
 unfold ky at hs
 obtain⟨hl,he,_,_⟩:=of_decide_eq_true hs
 have ht:=(QA d (ga (ai d) k)).1 he
 have hh:=(WX h hF hl).1 ht
 have hok:∀u∈ga (ai d) k,okD d u:=fun u hu=>((qF h hk).1 hu).1
 have hd:=Sc hl (t:=fun u=>(l9 d u).1) hh
 refine⟨⟨hok,hd,Sc hl (t:=fun u=>(lg d u).1) ht,fun u hu v hv e=>?_⟩,hl⟩
 obtain⟨w,hw,rfl⟩:=abI h hk hv
 have e1:=WN h (hok w hw)
 have e2:w=u:=hd w hw u hu (by show fw d w=fw d u;rw[e1];exact e.symm)
 subst e2
 obtain⟨q1,q2,_⟩:=fO h (hok w hw) w.b
 have e3:=sW h (c:=(aF d w.a w.b).1) (k:=((aF d w.a w.b).2+3)%4) (b:=!(jQ d w).b) q1 (Nat.mod_lt _ (by decide)) (by show bO d _ _=!!(bO d _ _);rw[Bool.not_not])
 unfold lg l9
 rw[show(jQ d w).a=aL d (aF d w.a w.b).1 (((aF d w.a w.b).2+3)%4)from rfl,e3]
theorem MT.ty{p q z w:Nat×Nat}(h:MT p q z w):(z.1=p.1/\(z.2=p.2/\w=cd q\/z.2=(p.2+2)%4/\w=q))\/(z.1=q.1/\(z.2=q.2/\w=cd p\/z.2=(q.2+2)%4/\w=p)):=by
 rcases h with⟨rfl,rfl⟩|⟨rfl,rfl⟩|⟨rfl,rfl⟩|⟨rfl,rfl⟩
 ·exact .inl ⟨rfl,.inl ⟨rfl,rfl⟩⟩
 ·exact .inl ⟨rfl,.inr ⟨rfl,rfl⟩⟩
 ·exact .inr ⟨rfl,.inr ⟨rfl,rfl⟩⟩
 ·exact .inr ⟨rfl,.inl ⟨rfl,rfl⟩⟩
theorem SL.one{d:Dg}{F:List Da}(h:aO d=true)(hF:SF d F){z w w':Nat×Nat}(h1:SL d F z w)(h2:SL d F z w'):w=w':=by
 have hno:∀{u w},u∈F->MT (l9 d u) (lg d u) z w->(∀u∈F,NT (l9 d u) (lg d u) z)->False:=fun{u w} hu hm hn=>by
  obtain⟨n1,n2,n3,n4⟩:=hn u hu
  rcases hm with⟨a,_⟩|⟨a,_⟩|⟨a,_⟩|⟨a,_⟩
  ·exact n1 a
  ·exact n2 a
  ·exact n3 a
  ·exact n4 a
 rcases h1 with⟨u,hu,h1⟩|⟨h1,rfl⟩<;>rcases h2 with⟨v,hv,h2⟩|⟨h2,rfl⟩
 ·have lu:=(fO h (hF.ok u hu) u.b).2.1
  have lu':=(fO h (hF.ok u hu) (!u.b)).2.1
  have lv:=(fO h (hF.ok v hv) v.b).2.1
  have lv':=(fO h (hF.ok v hv) (!v.b)).2.1
  change(l9 d u).2<4 at lu
  change(lg d u).2<4 at lu'
  change(l9 d v).2<4 at lv
  change(lg d v).2<4 at lv'
  rcases h1.ty with⟨a,a2⟩|⟨a,a2⟩<;>rcases h2.ty with⟨b,b2⟩|⟨b,b2⟩
  ·obtain rfl:=hF.hd u hu v hv (a.symm.trans b)
   rcases a2 with⟨a2,a3⟩|⟨a2,a3⟩<;>rcases b2 with⟨b2,b3⟩|⟨b2,b3⟩<;>first|exact a3.trans b3.symm|(exfalso;omega)
  ·have e:=hF.ad u hu v hv (a.symm.trans b)
   exfalso
   rcases a2 with⟨a2,_⟩|⟨a2,_⟩<;>rcases b2 with⟨b2,_⟩|⟨b2,_⟩<;>omega
  ·have e:=hF.ad v hv u hu (b.symm.trans a)
   exfalso
   rcases a2 with⟨a2,_⟩|⟨a2,_⟩<;>rcases b2 with⟨b2,_⟩|⟨b2,_⟩<;>omega
  ·obtain rfl:=hF.tl u hu v hv (a.symm.trans b)
   rcases a2 with⟨a2,a3⟩|⟨a2,a3⟩<;>rcases b2 with⟨b2,b3⟩|⟨b2,b3⟩<;>first|exact a3.trans b3.symm|(exfalso;omega)
 ·exact(hno hu h1 h2).elim
 ·exact(hno hv h2 h1).elim
 ·rfl
theorem SL.at_{d:Dg}{F:List Da}(h:aO d=true)(hF:SF d F){z w:Nat×Nat}(hz:pP d z)(h1:SL d F z w):pP d w/\bO d w.1 w.2=bO d z.1 z.2:=by
 rcases h1 with⟨u,hu,h1⟩|⟨_,rfl⟩
 ·obtain⟨p1,p2,_⟩:=fO h (hF.ok u hu) u.b
  obtain⟨q1,q2,_⟩:=fO h (hF.ok u hu) (!u.b)
  obtain⟨_,t1⟩:=ot h (hF.ok u hu) u.b
  obtain⟨_,t2⟩:=ot h (hF.ok u hu) (!u.b)
  have o1:=EF d (aF d u.a u.b).1 p2
  have o2:=EF d (aF d u.a (!u.b)).1 q2
  rcases h1 with⟨rfl,rfl⟩|⟨rfl,rfl⟩|⟨rfl,rfl⟩|⟨rfl,rfl⟩
  ·exact⟨oo ⟨q1,q2⟩,by show bO d (aF d u.a (!u.b)).1 (((aF d u.a (!u.b)).2+2)%4)=bO d (aF d u.a u.b).1 (aF d u.a u.b).2;rw[o2,t1,t2,Bool.not_not]⟩
  ·exact⟨⟨q1,q2⟩,by show bO d (aF d u.a (!u.b)).1 (aF d u.a (!u.b)).2=bO d (aF d u.a u.b).1 (((aF d u.a u.b).2+2)%4);rw[o1,t1,t2]⟩
  ·exact⟨⟨p1,p2⟩,by show bO d (aF d u.a u.b).1 (aF d u.a u.b).2=bO d (aF d u.a (!u.b)).1 (((aF d u.a (!u.b)).2+2)%4);rw[o2,t1,t2,Bool.not_not]⟩
  ·exact⟨oo ⟨p1,p2⟩,by show bO d (aF d u.a u.b).1 (((aF d u.a u.b).2+2)%4)=bO d (aF d u.a (!u.b)).1 (aF d u.a (!u.b)).2;rw[o1,t1,t2]⟩
 ·exact⟨hz,rfl⟩
end Go.Proofs.YtcohmplpgcddiaaGreatDoor
namespace Go.Proofs.YtcohmplpgcddiaaGreatDoor
open Go.ChangeShapes Go.WideShapes Go.ChangeAt Go.RowKit
def mq(d:Dg)(F:List Da):Dg:=⟨iu d.ae (nY d F 3),d.loops⟩
theorem IJ{d:Dg}(h:aO d=true){F:List Da}(hF:SF d F)(hl:F.length=3):(mq d F).ae.length=d.ae.length/\(∀c,(ga (mq d F).ae c).plus=(ga d.ae c).plus)/\∀z:Nat×Nat,z.2<4->aL (mq d F) z.1 z.2=aL d (sgN d F 3 z).1 (sgN d F 3 z).2/\SL d F z (sgN d F 3 z):=by
 have k:=aeI h hF.ok d.loops 3 (by omega)
 have s:=agu d F
 rw[hl]at s
 unfold mq
 generalize nY d F 3=es at k ⊢
 generalize sgN d F 3=sg at k s ⊢
 exact⟨HJ _ _,fun c=>(k (c,0) (show(0:Nat)<4 by decide)).2,fun z hz=>⟨(k z hz).1,s z⟩⟩
theorem adf{d:Dg}(h:aO d=true){F:List Da}(hF:SF d F)(hl:F.length=3):aO (mq d F)=true:=by
 obtain⟨k1,k2,k3⟩:=IJ h hF hl
 have he:∀c s,bO (mq d F) c s=bO d c s:=fun c s=>by unfold bO kS;rw[k2]
 refine Lq ⟨fun i s hi hs=>?_,fun i s i' s' hi hs hi' hs' bN ha=>?_⟩
 ·rw[k1]at hi ⊢
  obtain⟨a1,a2⟩:=k3 (i,s) hs
  obtain⟨b1,_⟩:=SL.at_ h hF (z:=(i,s)) ⟨hi,hs⟩ a2
  have:=ey h b1.1 b1.2
  rw[show aL (mq d F) i s=_ from a1];exact this
 ·rw[k1]at hi hi'
  obtain⟨a1,a2⟩:=k3 (i,s) hs
  obtain⟨b1,b2⟩:=k3 (i',s') hs'
  obtain⟨p1,p2⟩:=SL.at_ h hF (z:=(i,s)) ⟨hi,hs⟩ a2
  obtain⟨q1,q2⟩:=SL.at_ h hF (z:=(i',s')) ⟨hi',hs'⟩ b2
  rw[he,he]at bN
  have e:=(Mm h).u _ _ _ _ p1.1 p1.2 q1.1 q1.2 (p2.trans (bN.trans q2.symm)) (a1.symm.trans (ha.trans b1))
  have e2:sgN d F 3 (i,s)=sgN d F 3 (i',s'):=Prod.ext e.1 e.2
  rw[e2]at a2
  have:=SL.one h hF a2.symm b2.symm
  injection this with t1 t2
  exact⟨t1,t2⟩
theorem VD(d:Dg)(f:List Da)(h:Nat):∀i,i<=f.length->kf d f h i=(f.take i).countP fun u=>decide (hgt d u.a=h):=by
 intro i
 induction i with
 |zero=>intro _;rfl
 |succ i ih=>
  intro hi
  rw[na _ i (by omega),List.countP_append,List.countP_singleton,kf,ih (by omega)]
  simp
theorem agG{G:List Da}(h:G.Nodup){i j:Nat}(hij:i<j)(hj:j<G.length):ga G i≠ga G j:=by
 rw[cZ (show i<G.length by omega),cZ hj]
 exact List.pairwise_iff_getElem.1 h i j (by omega) hj hij
section
variable {x y : Dg} {f g : Nat → Nat}
theorem SL.im(h:fH x y f g)(hx:aO x=true)(hy:aO y=true){F G:List Da}(hF:SF x F)(h1:∀u∈F,fu x y f u∈G)(h2:∀v∈G,∃u∈F,v=fu x y f u){z w:Nat×Nat}(hz:pP x z)(k:SL x F z w):SL y G (tj f z) (tj f w):=by
 have eh:∀u∈F,l9 y (fu x y f u)=tj f (l9 x u)/\lg y (fu x y f u)=tj f (lg x u):=fun u hu=>⟨(rY h hx hy (hF.ok u hu) _).1,(rY h hx hy (hF.ok u hu) _).1⟩
 rcases k with⟨u,hu,k⟩|⟨k1,hw⟩
 ·refine .inl ⟨_,h1 u hu,?_⟩
  rw[(eh u hu).1,(eh u hu).2]
  rcases k with⟨rfl,rfl⟩|⟨rfl,rfl⟩|⟨rfl,rfl⟩|⟨rfl,rfl⟩
  ·exact .inl ⟨rfl,rfl⟩
  ·exact .inr (.inl ⟨rfl,rfl⟩)
  ·exact .inr (.inr (.inl ⟨rfl,rfl⟩))
  ·exact .inr (.inr (.inr ⟨rfl,rfl⟩))
 ·refine .inr ⟨fun v hv=>?_,by rw[hw]⟩
  obtain⟨u,hu,rfl⟩:=h2 v hv
  obtain⟨n1,n2,n3,n4⟩:=k1 u hu
  rw[(eh u hu).1,(eh u hu).2]
  have hp:=(fO hx (hF.ok u hu) u.b).1
  have hq:=(fO hx (hF.ok u hu) (!u.b)).1
  have inj:∀p:Nat×Nat,p.1<x.ae.length->tj f z=tj f p->z=p:=fun p hp e=>by
   have e1:f z.1=f p.1:=(congrArg Prod.fst e:(tj f z).1=(tj f p).1)
   have e2:z.2=p.2:=(congrArg Prod.snd e:(tj f z).2=(tj f p).2)
   have a:=(h.fl _ hz.1).2
   have b:=(h.fl _ hp).2
   rw[e1,b]at a
   exact Prod.ext a.symm e2
  exact⟨fun e=>n1 (inj _ hp e),fun e=>n2 (inj (cd (l9 x u)) hp e),fun e=>n3 (inj (cd (lg x u)) hq e),fun e=>n4 (inj _ hq e)⟩
set_option maxHeartbeats 4000000 in
theorem aca(h:fH x y f g)(hx:aO x=true)(hy:aO y=true){k:Nat}(hk:k<(ai x).length)(hs:ky x (ga (ai x) k)=true):∃k',k'<(ai y).length/\ky y (ga (ai y) k')=true/\fH (mq x (ga (ai x) k)) (mq y (ga (ai y) k')) f g:=by
 have hn:=h.n
 obtain⟨k',k1,k2,k3,k4⟩:=TQ h hx hy hk
 obtain⟨hF,hl⟩:=Nk hx hk hs
 have hm:∀u∈ga (ai x) k,fu x y f u∈ga (ai y) k':=fun u hu=>(k3 u (hF.ok u hu)).1 hu
 have oD:(ga (ai y) k').Perm ((ga (ai x) k).map (fu x y f)):=by
  refine(List.perm_ext_iff_of_nodup (Eo hy k1) ?_).2 fun v=>?_
  ·rw[List.Nodup,List.pairwise_map]
   refine List.Pairwise.imp_of_mem ?_ (Eo hx hk)
   intro a b ha hb hab e
   have e2:=congrArg (fu y x g) e
   rw[wH h hx hy (hF.ok a ha),wH h hx hy (hF.ok b hb)]at e2
   exact hab e2
  ·rw[List.mem_map]
   exact⟨fun hv=>by obtain⟨u,hu,e⟩:=k4 v hv;exact⟨u,hu,e.symm⟩,fun⟨u,hu,e⟩=>e▸hm u hu⟩
 have hs2:ky y (ga (ai y) k')=true:=by
  unfold ky at hs ⊢
  obtain⟨_,_,c2,c0⟩:=of_decide_eq_true hs
  have XU:∀q,kf y (ga (ai y) k') q 3=kf x (ga (ai x) k) q 3:=fun q=>by
   rw[VD _ _ _ _ (by omega),VD _ _ _ _ (by omega),List.take_of_length_le (by omega),List.take_of_length_le (by omega),oD.countP_eq,List.countP_map]
   refine List.countP_congr fun u hu=>?_
   rw[Function.comp_apply,(Fm h hx hy (hF.ok u hu)).2]
  have htl:∀u∈ga (ai y) k',∀v∈ga (ai y) k',fh y u=fh y v->u=v:=fun u hu v hv e=>by
   obtain⟨u',hu',rfl⟩:=k4 u hu
   obtain⟨v',hv',rfl⟩:=k4 v hv
   rw[(Fm h hx hy (hF.ok u' hu')).1,(Fm h hx hy (hF.ok v' hv')).1]at e
   have a:=(h.fl _ (fO hx (hF.ok u' hu') (!u'.b)).1).2
   have b:=(h.fl _ (fO hx (hF.ok v' hv') (!v'.b)).1).2
   rw[hF.tl u' hu' v' hv' (show(lg x u').1=(lg x v').1 from a.symm.trans ((congrArg g e).trans b))]
  have hnd:=Eo hy k1
  have hne:∀i j,i<j->j<3->fh y (ga (ga (ai y) k') i)≠fh y (ga (ga (ai y) k') j):=fun i j hij hj e=>agG hnd hij (by omega) (htl _ (cY (by omega)) _ (cY (by omega)) e)
  exact decide_eq_true ⟨by omega,(QA _ _).2 ⟨hne 0 1 (by omega) (by omega),hne 0 2 (by omega) (by omega),hne 1 2 (by omega) (by omega)⟩,by rw[XU];exact c2,by rw[XU];exact c0⟩
 obtain⟨hG,hl2⟩:=Nk hy k1 hs2
 obtain⟨a1,a2,a3⟩:=IJ hx hF hl
 obtain⟨b1,b2,b3⟩:=IJ hy hG hl2
 refine⟨k',k1,hs2,?_⟩
 have hlo:(mq y (ga (ai y) k')).loops=(mq x (ga (ai x) k)).loops:=h.l
 generalize mq x (ga (ai x) k)=X at a1 a2 a3 hlo ⊢
 generalize mq y (ga (ai y) k')=Y at b1 b2 b3 hlo ⊢
 generalize sgN x (ga (ai x) k) 3=sx at a3
 generalize sgN y (ga (ai y) k') 3=sy at b3
 have key:∀z,pP x z->aL Y (f z.1) z.2=aL y (f (sx z).1) (sx z).2/\pP x (sx z)/\aL X z.1 z.2=aL x (sx z).1 (sx z).2:=fun z hz=>by
  obtain⟨p1,p2⟩:=a3 z hz.2
  obtain⟨q1,q2⟩:=b3 (tj f z) hz.2
  have e:=SL.one hy hG q2 (SL.im h hx hy hF hm k4 hz p2)
  rw[e]at q1
  exact⟨q1,(SL.at_ hx hF hz p2).1,p1⟩
 refine⟨by omega,fun c hc=>?_,fun c hc=>?_,fun c hc=>by rw[b2,a2];exact h.p c (by omega),fun c s c' s' hc hs hc' hs'=>?_,hlo⟩
 ·rw[a1]at hc ⊢;exact h.fl c hc
 ·rw[a1]at hc ⊢;exact h.gl c hc
 ·rw[a1]at hc hc'
  obtain⟨e1,o1,d1⟩:=key (c,s) ⟨hc,hs⟩
  obtain⟨e2,o2,d2⟩:=key (c',s') ⟨hc',hs'⟩
  simp only at e1 e2 d1 d2
  rw[e1,e2,d1,d2]
  exact h.a _ _ _ _ o1.1 o1.2 o2.1 o2.2
end
end Go.Proofs.YtcohmplpgcddiaaGreatDoor
namespace Go.Proofs.YtcohmplpgcddiaaGreatDoor
open Go.ChangeShapes Go.WideShapes Go.ChangeAt Go.RowKit
def Gd(d:Dg):Prop:=d.ae.length<=8/\0<=d.loops/\d.loops<=16/\aO d=true
theorem E6{x:Dg}(h:Gd x)(hz:x.ae.length≠0):(gF x).ae.length<=16/\aO (gF x)=true/\(0<=(gF x).loops/\(gF x).loops<=16)/\1<=(allT (gF x)).length/\fp (gF x)=true/\fp x=true:=by
 obtain⟨h1,h2,h3,h4⟩:=h
 obtain⟨⟨f,g,hi⟩,ha⟩:=L8 h4
 have hn:=hi.n
 have hl:=hi.l
 have hm:∀z:Dg,z.ae.length<=16->0<=z.loops->z.loops<=16->z.ae.length≠0->aO z=true->fp z=true:=fun z a1 a2 a3 a4 a5=>by
  rw[Eh,a5,Bool.and_true,decide_eq_true_iff]
  exact⟨a1,a2,a3,fun h=>a4 h.1⟩
 have hc:=hm (gF x) (by omega) (by omega) (by omega) (by omega) ha
 exact⟨by omega,ha,by omega,Vt hc,hc,hm x (by omega) h2 h3 hz h4⟩
theorem MS{x:Dg}{m:Mv}(h:(bR x m).2=0):fD x=true/\jC x m=0/\(bR x m).1=jT x m:=by
 unfold bR at h ⊢
 by_cases h1:fD x=false
 ·rw[if_pos h1]at h;cases h
 ·rw[if_neg h1]at h ⊢
  by_cases h2:jC x m=0
  ·rw[if_pos h2];exact⟨by simpa using h1,h2,rfl⟩
  ·rw[if_neg h2]at h;exact absurd h h2
theorem zT{x:Dg}{m:Mv}(h:Gd x)(hm:lh m)(h0:(bR x m).2=0):Gd (bR x m).1:=by
 obtain⟨_,hE,hD⟩:=MS h0
 rw[hD]
 obtain⟨g1,g2,g3,g4⟩:=h
 have tk:∀gs,mL x gs=0->Gd (ik x (cG gs)):=fun gs e=>by
  unfold mL at e
  split at e
  ·rename_i hl
   have h1:=IE x (cG gs)
   have h2:(tR x (cG gs)).length<=x.ae.length:=LK _ _ _
   refine⟨by omega,?_,hl,ac6 g4 _⟩
   show 0<=x.loops+(cn _ _:Int)
   omega
  ·cases e
 rcases hm with hk|hk|hk
 ·have e1:jC x m=jW x m:=by unfold jC;rw[if_pos hk]
  have e2:jT x m=C9 x m:=by unfold jT;rw[if_pos hk]
  rw[e1]at hE
  rw[e2]
  unfold jW at hE
  split at hE
  ·split at hE
   ·exact tk _ hE
   ·cases hE
  ·cases hE
 ·have e1:jC x m=iG x m:=by unfold jC;rw[if_neg (by omega),if_pos hk]
  have e2:jT x m=DU x m:=by unfold jT;rw[if_neg (by omega),if_pos hk]
  rw[e1]at hE
  rw[e2]
  unfold iG at hE
  split at hE
  ·split at hE
   ·exact tk _ hE
   ·cases hE
  ·cases hE
 ·have e1:jC x m=iR x m:=by unfold jC;rw[if_neg (by omega),if_neg (by omega)]
  have e2:jT x m=oX x m:=by unfold jT;rw[if_neg (by omega),if_neg (by omega)]
  rw[e1]at hE
  rw[e2]
  unfold iR at hE
  split at hE
  ·rename_i hr
   have hk9:m.at_.toNat<(ai x).length:=by clear hE h0 e1;omega
   split at hE
   ·rename_i hs
    obtain⟨hF,hl⟩:=Nk g4 (k:=m.at_.toNat) hk9 hs
    have e3:oX x m=mq x (ga (ai x) m.at_.toNat):=by simp only[oX,mq]
    have e4:(mq x (ga (ai x) m.at_.toNat)).loops=x.loops:=by simp only[mq]
    have e5:=(IJ g4 hF hl).1
    have e6:=adf g4 hF hl
    rw[e3]
    generalize mq x (ga (ai x) m.at_.toNat)=X at e4 e5 e6 ⊢
    exact⟨by rw[e5];exact g1,by rw[e4];exact g2,by rw[e4];exact g3,e6⟩
   ·cases hE
  ·cases hE
end Go.Proofs.YtcohmplpgcddiaaGreatDoor
namespace Go.Proofs.YtcohmplpgcddiaaGreatDoor
open Go.ChangeShapes Go.WideShapes Go.ChangeAt Go.RowKit
noncomputable def iw(d:Dg):List UInt8:=(allT (gF d)).drop 1
theorem aeK{d:Dg}{i k:Nat}:∀m∈skJ d i k,lh m:=by
 induction k with
 |zero=>intro m h;cases h
 |succ k ih=>
  intro m h
  rw[skJ,List.mem_append]at h
  rcases h with h|h
  ·exact ih m h
  ·split at h
   ·rw[List.mem_singleton]at h;subst h;exact .inr (.inl rfl)
   ·cases h
theorem aeL{d:Dg}{i:Nat}:∀m∈qH d i,lh m:=by
 induction i with
 |zero=>intro m h;cases h
 |succ i ih=>
  intro m h
  rw[qH,List.mem_append,List.mem_append]at h
  rcases h with(h|h)|h
  ·exact ih m h
  ·split at h
   ·rw[List.mem_singleton]at h;subst h;exact .inl rfl
   ·cases h
  ·exact aeK m h
theorem aeM{d:Dg}{i:Nat}:∀m∈qI d i,lh m:=by
 induction i with
 |zero=>intro m h;cases h
 |succ i ih=>
  intro m h
  rw[qI,List.mem_append]at h
  rcases h with h|h
  ·exact ih m h
  ·split at h
   ·rw[List.mem_singleton]at h;subst h;exact .inr (.inr rfl)
   ·cases h
theorem CM{d:Dg}:∀m∈dJ d,lh m:=by
 intro m h
 rcases List.mem_append.1 h with h|h
 ·exact aeL m h
 ·exact aeM m h
theorem Ug{d:Dg}(h:d.ae.length<=8):(dJ d).length<=104:=by
 have h1:=LO d d.ae.length
 have h2:=Uj d (ai d).length
 have h3:=BF d
 have h4:d.ae.length*(d.ae.length+1)<=8*9:=Nat.mul_le_mul h (by omega)
 unfold dJ
 rw[List.length_append]
 omega
abbrev Ss:=List (List UInt8)×List Dg
noncomputable def s7(s:Ss)(x:Dg):Ss:=if iw x∈s.1 then s else(s.1++[iw x],s.2++[x])
noncomputable def slK(x:Dg)(l:List Mv)(s:Ss):Nat->Ss
 |0=>s
 |k+1=>if(bR x (ga l k)).2=0 then s7 (slK x l s k) (bR x (ga l k)).1 else slK x l s k
noncomputable def qG(nw:List Dg)(s:Ss):Nat->Ss
 |0=>s
 |i+1=>slK (ga nw i) (dJ (ga nw i)) (qG nw s i) (dJ (ga nw i)).length
noncomputable def iQ(d:Dg):Nat->Ss
 |0=>([iw d],[d])
 |n+1=>qG (iQ d n).2 ((iQ d n).1,[]) (iQ d n).2.length
def PZ(x:Dg)(l:List Mv)(k:Nat):Prop:=∀q,q<k->(bR x (ga l q)).2=0->(bR x (ga l q)).1.ae.length≠0
def P4(nw:List Dg)(i:Nat):Prop:=∀q,q<i->PZ (ga nw q) (dJ (ga nw q)) (dJ (ga nw q)).length
def Kr(d:Dg)(n:Nat):Prop:=∀q,q<n->P4 (iQ d q).2 (iQ d q).2.length
def Rl(d:Dg)(dp:Nat)(r:Int):Prop:=(d.ae.length=0/\r=0)\/d.ae.length≠0/\((r=-1/\Kr d dp)\/∃n i k,r=((n+1:Nat):Int)/\n<dp/\Kr d n/\i<(iQ d n).2.length/\k<(dJ (ga (iQ d n).2 i)).length/\(bR (ga (iQ d n).2 i) (ga (dJ (ga (iQ d n).2 i)) k)).2=0/\(bR (ga (iQ d n).2 i) (ga (dJ (ga (iQ d n).2 i)) k)).1.ae.length=0)
def Cx(s:Ss)(a b:Nat):Prop:=(∀x∈s.2,Gd x)/\s.1.length<=a/\s.2.length<=b
theorem aeJ{s:Ss}{x:Dg}{a b:Nat}(h:Cx s a b)(hx:Gd x):Cx (s7 s x) (a+1) (b+1):=by
 obtain⟨h1,h2,h3⟩:=h
 unfold s7
 split
 ·exact⟨h1,by omega,by omega⟩
 ·refine⟨fun y hy=>?_,by simp;omega,by simp;omega⟩
  rcases List.mem_append.1 hy with hy|hy
  ·exact h1 y hy
  ·rw[List.mem_singleton]at hy;subst hy;exact hx
theorem Vf{x:Dg}{l:List Mv}{s:Ss}{a b k:Nat}(h:Cx s a b)(hx:Gd x)(hl:∀m∈l,lh m)(hk:k<=l.length):Cx (slK x l s k) (a+k) (b+k):=by
 induction k with
 |zero=>exact h
 |succ k ih=>
  have ih:=ih (by omega)
  unfold slK
  split
  ·rename_i h0
   exact aeJ ih (zT hx (hl _ (cY (by omega))) h0)
  ·exact⟨ih.1,by have:=ih.2.1;omega,by have:=ih.2.2;omega⟩
theorem Vg{nw:List Dg}{s:Ss}{a b i:Nat}(h:Cx s a b)(hn:∀x∈nw,Gd x)(hi:i<=nw.length):Cx (qG nw s i) (a+104*i) (b+104*i):=by
 induction i with
 |zero=>exact h
 |succ i ih=>
  have ih:=ih (by omega)
  have hx:=hn _ (cY (show i<nw.length by omega))
  have h9:=Vf ih hx CM (Nat.le_refl (dJ (ga nw i)).length)
  have:=Ug hx.1
  unfold qG
  exact⟨h9.1,by have:=h9.2.1;omega,by have:=h9.2.2;omega⟩
def lN:Nat->Nat
 |0=>1
 |n+1=>105*lN n
theorem MV {n m : Nat} (h : n ≤ m) : lN n ≤ lN m := by
  induction m with
  | zero => obtain rfl : n = 0 := by omega
            exact Nat.le_refl _
  | succ m ih =>
    by_cases e : n = m + 1
    · rw [e]; exact Nat.le_refl _
    · have := ih (by omega)
      have e : lN (m + 1) = 105 * lN m := rfl
      omega
theorem ahL{n:Nat}(h:n<=5):lN n<=12762815625:=Nat.le_trans (MV h) (by decide)
theorem Ve{d:Dg}(h:Gd d)(n:Nat):Cx (iQ d n) (lN n) (lN n):=by
 induction n with
 |zero=>exact⟨fun x hx=>by rw[iQ,List.mem_singleton]at hx;subst hx;exact h,Nat.le_refl _,Nat.le_refl _⟩
 |succ n ih=>
  have h9:=Vg (s:=((iQ d n).1,[])) (a:=lN n) (b:=0) (nw:=(iQ d n).2) (by exact⟨fun x hx=>absurd hx List.not_mem_nil,ih.2.1,Nat.le_refl _⟩) ih.1 (Nat.le_refl _)
  have h8:=ih.2.2
  have e:lN (n+1)=105*lN n:=rfl
  rw[e]
  exact⟨h9.1,by have h7:=h9.2.1;show(qG _ _ _).1.length<=_;omega,by have h7:=h9.2.2;show(qG _ _ _).2.length<=_;omega⟩
end Go.Proofs.YtcohmplpgcddiaaGreatDoor
