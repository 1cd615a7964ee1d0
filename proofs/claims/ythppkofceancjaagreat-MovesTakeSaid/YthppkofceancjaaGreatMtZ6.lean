/- Part 6 of the proof of the law MovesTake: the walks through its functions and the plain laws that they need. -/
import Derived.Test.YthppkofceancjaaGreatMtZ5
import Derived.OrdersIn
set_option linter.unusedSimpArgs false
set_option linter.unusedVariables false
noncomputable section
namespace Go.Proofs.YthppkofceancjaaGreat
open Go.ChangeShapes Go.WideShapes Go.ChangeAt Go.RowKit
def qB{α:Type}(p:α->Bool)(xs:List α):Int:=match xs.findIdx? p with
 |some i=>(i:Int)
 |none=>-1
section
variable {α : Type} [Inhabited α]
theorem Gq{p:α->Bool}{xs:List α}{k:Nat}(hk:k<xs.length)(h:p (ga xs k)=true)(h0:∀j,j<k->p (ga xs j)=false):qB p xs=k:=by
 have:xs.findIdx? p=some k:=by
  rw[List.findIdx?_eq_some_iff_getElem]
  refine⟨hk,by rw[<-eo hk];exact h,fun j hj=>?_⟩
  rw[<-eo (by omega),h0 j hj];simp
 simp[qB,this]
theorem Gg{p:α->Bool}{xs:List α}(h0:∀j,j<xs.length->p (ga xs j)=false):qB p xs=-1:=by
 have:xs.findIdx? p=none:=by
  rw[List.findIdx?_eq_none_iff]
  intro x hx
  obtain⟨j,hj,rfl⟩:=List.mem_iff_getElem.1 hx
  rw[<-eo hj];exact h0 j hj
 simp[qB,this]
end
theorem Gs{α:Type}(p:α->Bool)(xs:List α):decide (0<=qB p xs)=xs.any p:=by
 unfold qB
 cases h:xs.findIdx? p with
 |some i=>
  rw[List.findIdx?_eq_some_iff_getElem]at h
  obtain⟨h1,h2,_⟩:=h
  rw[Bool.eq_iff_iff,decide_eq_true_iff,List.any_eq_true]
  exact⟨fun _=>⟨xs[i],List.getElem_mem h1,h2⟩,fun _=>by show(0:Int)<=(i:Int);omega⟩
 |none=>
  rw[List.findIdx?_eq_none_iff]at h
  rw[Bool.eq_iff_iff,decide_eq_true_iff,List.any_eq_true]
  constructor
  ·intro h1;exact absurd h1 (by decide)
  ·rintro⟨x,hx,hp⟩;rw[h x hx]at hp;cases hp
theorem aj8(gs:List Nat)(c:Nat):(gs.map fun x:Nat=>(x:Int)).any (fun y=>decide ((c:Int)=y))=bh gs c:=by
 rw[Bool.eq_iff_iff,List.any_eq_true,wE]
 constructor
 ·rintro⟨y,hy,e⟩
  obtain⟨x,hx,rfl⟩:=List.mem_map.1 hy
  have:=of_decide_eq_true e
  obtain rfl:c=x:=by omega
  exact hx
 ·intro h
  exact⟨(c:Int),List.mem_map.2 ⟨c,h,rfl⟩,decide_eq_true rfl⟩
theorem aiH{d:Dg}(h:aN d=true){gn:Nat->Bool}{c:Nat}(hc:c<d.ae.length)(hg:gn c=true){j:Nat}(hj:j<2):Value.agg [if j=0 then Value.int .i64 (ga d.ae c).a else Value.int .i64 (iM (ga d.ae c)).1,if j=0 then Value.int .i64 (ga d.ae c).c else Value.int .i64 (iM (ga d.ae c)).2].toArray=Value.agg [.int .i64 ((ek d gn (2*c+j):Nat):Int),.int .i64 ((ei d gn (2*c+j):Nat):Int)].toArray:=by
 obtain⟨ha,_,hc',_⟩:=HV h hc
 have hv:=adJ h hc
 have e1:(2*c+j)/2=c:=by omega
 have e2:(2*c+j)%2=j:=by omega
 unfold ek ei
 rw[e1,e2,hg,if_pos rfl,if_pos rfl]
 split
 ·rw[Int.toNat_of_nonneg (by omega),Int.toNat_of_nonneg (by omega)]
 ·rw[Int.toNat_of_nonneg (by omega),Int.toNat_of_nonneg (by omega)]
noncomputable def Ya:=Tryz.f149.body.getD .skip
def Zhb:=cL Ya
def X9:=cR Ya
def X8:=cL X9
def X7:=cR X9
def Zhf:=cL X8
def Zhg:=cR X8
def Zhh:=cL Zhg
def X6:=cL Zhh
def Zhj:=cL X6
def X5:=cR X6
def X4:=cL X5
def X3:=cR X5
def Zhn:=cL X4
def Zho:=cR X4
def Zhp:=cL X3
def Zhq:=cR X3
def XZ:=cL Zhp
def Zhs:=cL XZ
def XY:=cR XZ
def Zhu:=cL XY
def XX:=cR XY
def XW:=cL XX
def Zhx:=cR XX
def Zhy:=cL XW
def Zhz:=cR XW
def Zi0:=cL X7
def Zi1:=cR X7
set_option maxRecDepth 10000 in
theorem ajw{w:World}{M:Hp}{X:Fr}(s:List Int){sA:Option Addr}{sc:Nat}(v:Int)(hs:aG Uv (M.un X.h) sA sc s)(S:SH w M X []):Cq Tryz.prog 149 [.slice sA s.length sc,.int .i64 v] w M X (fun u=>u=.int .i64 (qB (fun y=>decide (v=y)) s)):=by
 unfold Cq
 have uJ:s.length*8<=140737488355328:=hs.room
 refine Up (b:=Ya) Tryz.func149 rfl Tryz.ntmps149 rfl (fun C hC=>(bq [(0,_),(1,_)] ⟨rfl,rfl,trivial⟩ (U2 Zhb X9 rfl rfl rfl (U0 rfl (ag 0 1 rfl rfl (U5 rfl (ah [0,1] rfl (U3 (U2 X8 X7 rfl rfl rfl ?_)))))))))
 refine U2 Zhf Zhg rfl rfl rfl (U0 rfl (ag 0 1 rfl rfl (af 1 rfl (cU rfl rfl rfl rfl rfl rfl dY) (ag 2 1 rfl rfl (U5 rfl (ah [0,1,7,8] rfl (U3 (Uc Zhh 0 rfl rfl rfl ?_))))))))
 refine Ux (fun aS au aM=>∃(i:Nat),aS=s.length-i/\Env 19 [(0,.slice sA s.length sc),(1,.int .i64 v),(7,.int .i64 (s.length:Int)),(8,.int .i64 (i:Int))] au/\SH aM M X []/\i<=s.length/\(∀j,j<i->decide (v=ga s j)=false)) rfl ?_ ?_
 ·intro au aq
  refine⟨_,⟨0,rfl,aq.sub ⟨rfl,rfl,rfl,rfl,trivial⟩,S.pick [] [] (by decide) trivial,?cd,?dm⟩⟩
  case cd=>omega
  case dm=>(intro j hj;omega)
 ·rintro m1 a1 w1 ⟨i,rfl,aY,S1,hi,hq⟩
  clear S
  refine bX aY (c:=X6) rfl ?_
  clear aY a1
  refine U2 Zhj X5 rfl rfl rfl (U0 rfl (af 0 rfl (bS rfl rfl rfl) (U5 rfl (U3 (U2 X4 X3 rfl rfl rfl ?_)))))
  refine Uf Zhn Zho rfl rfl rfl rfl (fun jI=>?_) (fun jI=>?_)
  ·refine Ue rfl (ah [0,1,7,8] rfl (U3 (U2 Zhp Zhq rfl rfl rfl (Uc XZ 1 rfl rfl rfl (U2 Zhs XY rfl rfl rfl (U0 rfl (ag 0 2 rfl rfl (U5 rfl ?_))))))))
   refine ah [0,1,7,8,5] rfl (U3 (U2 Zhu XX rfl rfl rfl (U0 rfl (ag 0 3 rfl rfl (af 3 rfl (Ul (C:=Uv) i rfl rfl rfl bA (by first|rfl|omega) hs (by first|omega|(simp only[ls];omega))) ?_)))))
   refine af 4 rfl (U4 rfl rfl av rfl (hs.cell S1.um (i:=i) (by first|omega|(simp only[ls];omega)) 0 rfl rfl)) ?_
   refine af 5 rfl (bR rfl rfl rfl) (U5 rfl (ah [0,1,7,8,5,16] rfl (U3 ?_)))
   refine Uf XW Zhx rfl rfl rfl rfl (fun mZ=>?_) (fun mZ=>?_)
   ·refine U2 Zhy Zhz rfl rfl rfl (U0 rfl (ag 0 2 rfl rfl (U5 rfl (ah [4] rfl (U3 (Uk hC [_] rfl rfl ⟨rfl,trivial⟩ ?_))))))
    exact⟨_,rfl,(S1.pick [] [] (by decide) trivial),(by rw[Gq (p:=fun y=>decide (v=y)) (k:=i) (by omega) (decide_eq_true mZ) hq];rfl)⟩
   ·refine Ue rfl (bj (ah [0,1,7,8] rfl (U3 (U0 rfl (af 0 rfl (Ug rfl rfl rfl (by first|omega|(simp only[ls];omega))) ?_)))))
    refine ag 1 1 rfl rfl (U5 rfl (aO ?_))
    intro au aq
    refine⟨_,?dQ,⟨i+1,rfl,aq.sub ⟨rfl,rfl,rfl,rfl,trivial⟩,S1.pick [] [] (by decide) trivial,?cx,?dC⟩⟩
    case cx=>omega
    case dC=>(intro j hj;by_cases e:j=i;(subst e;exact decide_eq_false mZ);exact hq j (by omega))
    case dQ=>omega
  ·refine bP rfl rfl (bN [] trivial (U3 (U2 Zi0 Zi1 rfl rfl rfl (U0 rfl (ag 0 1 rfl rfl (U5 rfl (U3 (Uk hC [_] rfl rfl ⟨rfl,trivial⟩ ?_))))))))
   exact⟨_,rfl,(S1.pick [] [] (by decide) trivial),(by rw[Gg (p:=fun y=>decide (v=y)) (fun j hj=>hq j (by omega))];rfl)⟩
noncomputable def XV:=Tryz.f136.body.getD .skip
def Zi3:=cL XV
def XU:=cR XV
def Zi5:=cL XU
def Zi6:=cR XU
set_option maxRecDepth 10000 in
theorem aht{w:World}{M:Hp}{X:Fr}(s:List Int){sA:Option Addr}{sc:Nat}(v:Nat)(hs:aG Uv (M.un X.h) sA sc s){gs:List Nat}(pU:s=gs.map fun x:Nat=>(x:Int))(S:SH w M X []):Cq Tryz.prog 136 [.slice sA s.length sc,.int .i64 (v:Int)] w M X (fun u=>u=.bool (bh gs v)):=by
 unfold Cq
 have uJ:s.length*8<=140737488355328:=hs.room
 refine Up (b:=XV) Tryz.func136 rfl Tryz.ntmps136 rfl (fun C hC=>(bq [(0,_),(1,_)] ⟨rfl,rfl,trivial⟩ (U2 Zi3 XU rfl rfl rfl (U0 rfl (ag 0 1 rfl rfl (U5 rfl (ah [0,1] rfl (U3 (U2 Zi5 Zi6 rfl rfl rfl ?_)))))))))
 refine U0 rfl (ag 0 2 rfl rfl (ak 2 3 rfl rfl rfl (cS rfl rfl rfl rfl rfl rfl rfl ano S (ajw s (v:Int) (hs.mono S.Uy) S.aD) ?_)))
 rintro _ w1 S1 rfl;clear S
 refine af 3 rfl (lg rfl rfl rfl) (ag 4 1 rfl rfl (U5 rfl (ah [4] rfl (U3 (Uk hC [_] rfl rfl ⟨rfl,trivial⟩ ?_)))))
 exact⟨_,rfl,(S1.pick [] [] (by decide) trivial),(by show Value.bool _=_;rw[Gs,pU,aj8])⟩
noncomputable def XT:=Tryz.f165.body.getD .skip
def Zi8:=cL XT
def XS:=cR XT
def Zia:=cL XS
def Zib:=cR XS
set_option maxRecDepth 10000 in
theorem air{w:World}{M:Hp}{X:Fr}(x:Cr)(S:SH w M X []):Cq Tryz.prog 165 [.agg [.int .i64 x.a,.int .i64 x.b,.int .i64 x.c,.int .i64 x.d,.bool x.plus].toArray] w M X (fun u=>u=.agg [.int .i64 x.a,.int .i64 x.c,.int .i64 (iM x).1,.int .i64 (iM x).2].toArray):=by
 unfold Cq
 refine Up (b:=XT) Tryz.func165 rfl Tryz.ntmps165 rfl (fun C hC=>(bq [(0,_)] ⟨rfl,trivial⟩ (U2 Zi8 XS rfl rfl rfl (U0 rfl (ak 0 1 rfl rfl rfl (bE (l:=[_,_,_,_,_]) rfl rfl rfl rfl rfl S ?_))))))
 intro aI w1 S1;clear S
 refine ak 1 2 rfl rfl rfl (Uh (l:=[_,_,_,_]) rfl rfl rfl ac1 rfl S1 ?_)
 intro aQ w2 S2;clear S1
 refine U5 rfl (ah [1,2] rfl (U3 (U2 Zia Zib rfl rfl rfl (bM rfl (by kernel_rfl) S2 6 rfl ?_))))
 clear S2
 refine aj 0 5 rfl (by kernel_rfl) (fun _ _ _ hz Sz=>.inl (U8 (us:=[_,_,_,_,_]) rfl rfl aW rfl cg (Sz.suf.aw (i:=1) rfl ⟨rfl,rfl,rfl,rfl,rfl,trivial⟩))) ?_
 refine aj 1 4 rfl (by kernel_rfl) (fun _ _ _ hz Sz=>Ur rfl rfl rfl rfl rfl anr Sz (akE x Sz.aD)) ?_
 refine aj 2 3 rfl (by kernel_rfl) (fun _ _ _ hz Sz=>.inl (U8 (us:=[_,_,_,_,_]) rfl rfl aW rfl cg (Sz.suf.aw (i:=1) rfl ⟨rfl,rfl,rfl,rfl,rfl,trivial⟩))) ?_
 refine aj 3 2 rfl (by kernel_rfl) (fun _ _ _ hz Sz=>Ur rfl rfl rfl rfl rfl anq Sz (akF x Sz.aD)) ?_
 refine aj 4 1 rfl (by kernel_rfl) (fun _ _ _ hz Sz=>.inl (jN (l:=[_,_,_,_]) (pl:=[(0,2),(2,2)]) rfl rfl HT ac1 gh rfl rfl rfl)) ?_
 refine Un (i:=5) 0 rfl (by kernel_rfl) rfl rfl (fun w9 S9=>?_)
 refine(U6 (i:=0) (us:=[_,_,_,_]) (l':=[_,_,_,_]) (H':=[_,_]) rfl rfl S9 rfl rfl rfl rfl ade rfl rfl rfl rfl ?_)
 intro jT bw;clear S9
 refine aP.turn (by kernel_rfl) bw ?_;clear bw
 change WA _ _ _ _ _ _ _ _ _ _ _ _ [_,_]
 refine Uu (by kernel_rfl) (fun kV bW=>?_)
 refine ah [2] rfl (U3 (Uk hC [_] rfl rfl ⟨⟨_,rfl,Um (us:=[_,_,_,_]) HT rfl ade (bW.aw (i:=0) rfl ⟨rfl,rfl,rfl,rfl,trivial⟩)⟩,trivial⟩ ?_))
 exact⟨_,rfl,(bW.pick [] [] (by decide) trivial),rfl⟩
noncomputable def XR:=Tryz.f137.body.getD .skip
def Zid:=cL XR
def XQ:=cR XR
def Zif:=cL XQ
def Zig:=cR XQ
set_option maxRecDepth 10000 in
theorem CS{w:World}{M:Hp}{X:Fr}(y:Int)(nu:List Int){g0:Nat}{nA:Option Addr}{nc:Nat}(cl:List Int){g1:Nat}{lA:Option Addr}{lc:Nat}(Fv:dG (M.un X.h) g0 53 [.slice nA nu.length nc])(hn:aG Uv (M.un X.h) nA nc nu)(hbl:dG (M.un X.h) g1 53 [.slice lA cl.length lc])(hl:aG Uv (M.un X.h) lA lc cl)(hy:0<=y/\y.toNat<cl.length)(hz:0<=ga cl y.toNat/\(ga cl y.toNat).toNat<nu.length)(S:SH w M X []):Cq Tryz.prog 137 [.int .i64 y,.pointer (some ⟨g0,0,none⟩),.pointer (some ⟨g1,0,none⟩)] w M X (fun u=>u=.int .i64 (ga nu (ga cl y.toNat).toNat)):=by
 unfold Cq
 refine Up (b:=XR) Tryz.func137 rfl Tryz.ntmps137 rfl (fun C hC=>(bq [(0,_),(1,_),(2,_)] ⟨rfl,rfl,rfl,trivial⟩ (U2 Zid XQ rfl rfl rfl (U0 rfl (ag 0 1 rfl rfl (U5 rfl (ah [0,1,2] rfl (U3 (U2 Zif Zig rfl rfl rfl ?_)))))))))
 refine bM rfl (by kernel_rfl) S 8 rfl ?_
 clear S
 refine aj 0 7 rfl (by kernel_rfl) (fun _ _ _ hz Sz=>.inl (U4 rfl rfl dY rfl ((Fv.mono (Hp.Ua hz Sz.mx)).cell Sz.um rfl))) ?_
 refine aj 1 6 rfl (by kernel_rfl) (fun _ _ _ hz Sz=>.inl (U4 rfl rfl dY rfl ((hbl.mono (Hp.Ua hz Sz.mx)).cell Sz.um rfl))) ?_
 refine ai 2 5 rfl (by kernel_rfl) (fun _=>run_move rfl rfl) ?_
 refine aj 3 4 rfl (by kernel_rfl) (fun _ _ _ hz Sz=>.inl (Ul (C:=Uv) y.toNat rfl rfl rfl bA (by first|rfl|omega) (hl.mono (Hp.Ua hz Sz.mx)) (by first|omega|(simp only[ls];omega)))) ?_
 refine aj 4 3 rfl (by kernel_rfl) (fun _ _ _ hz Sz=>.inl (U4 rfl rfl av rfl ((hl.mono (Hp.Ua hz Sz.mx)).cell Sz.um (i:=y.toNat) (by first|omega|(simp only[ls];omega)) 0 rfl rfl))) ?_
 refine aj 5 2 rfl (by kernel_rfl) (fun _ _ _ hz Sz=>.inl (Ul (C:=Uv) ((ga cl y.toNat).toNat) rfl rfl rfl bA (by first|rfl|omega) (hn.mono (Hp.Ua hz Sz.mx)) (by first|omega|(simp only[ls];omega)))) ?_
 refine aj 6 1 rfl (by kernel_rfl) (fun _ _ _ hz Sz=>.inl (U4 rfl rfl av rfl ((hn.mono (Hp.Ua hz Sz.mx)).cell Sz.um (i:=(ga cl y.toNat).toNat) (by first|omega|(simp only[ls];omega)) 0 rfl rfl))) ?_
 refine ai 7 0 rfl (by kernel_rfl) (fun _=>run_assign rfl rfl) ?_
 refine Uu (by kernel_rfl) (fun w9 S9=>?_)
 refine ah [4] rfl (U3 (Uk hC [_] rfl rfl ⟨rfl,trivial⟩ ?_))
 exact⟨_,rfl,(S9.pick [] [] (by decide) trivial),rfl⟩
theorem seven{α:Type}[Inhabited α]{f:α->α}{xs c:List α}{i:Nat}{y:α}(h:c=(xs.take i).map f++xs.drop i)(hi:i<xs.length)(hy:y=f (ga xs i)):c.set i y=(xs.take (i+1)).map f++xs.drop (i+1):=by
 have hl:((xs.take i).map f).length=i:=by rw[List.length_map,List.length_take];omega
 rw[h,hy,List.set_append_right _ _ (by omega),hl,Nat.sub_self,Cu xs i hi,List.map_append,List.append_assoc,List.drop_eq_getElem_cons hi,List.set_cons_zero]
 rfl
theorem aiQ{α:Type}[Inhabited α]{f:α->α}{xs c:List α}{i:Nat}(h:c=(xs.take i).map f++xs.drop i)(hi:i<xs.length):ga c i=ga xs i:=by
 have hl:((xs.take i).map f).length=i:=by rw[List.length_map,List.length_take];omega
 rw[h,FO _ _ _ (by omega),hl,Nat.sub_self,List.drop_eq_getElem_cons hi,eo (by simp;omega),eo hi]
 rfl
theorem ajm(x:Int)(n:Nat):x+((n:Nat):Int)+1=x+((n+1:Nat):Int):=by omega
noncomputable def XP:=Tryz.f87.body.getD .skip
def Zii:=cL XP
def XO:=cR XP
def Zik:=cL XO
def XM:=cR XO
def XL:=cL XM
def XK:=cR XM
def Zio:=cL XL
def Zip:=cR XL
def Ziq:=cL Zip
def XJ:=cL Ziq
def Zis:=cL XJ
def XI:=cR XJ
def XG:=cL XI
def XF:=cR XI
def Ziw:=cL XG
def Zix:=cR XG
def Ziy:=cL XF
def Ziz:=cR XF
def XE:=cL Ziy
def Zj1:=cL XE
def Zj2:=cR XE
def Zj3:=cL XK
def XD:=cR XK
def Zj5:=cL XD
def XC:=cR XD
def XB:=cL XC
def XA:=cR XC
def Zj9:=cL XB
def Zja:=cR XB
def Zjb:=cL Zja
def Xz:=cL Zjb
def Zjd:=cL Xz
def Xy:=cR Xz
def Xx:=cL Xy
def Xw:=cR Xy
def Zjh:=cL Xx
def Zji:=cR Xx
def Zjj:=cL Xw
def Zjk:=cR Xw
def Xv:=cL Zjj
def Zjm:=cL Xv
def Xu:=cR Xv
def Xt:=cL Xu
def Xr:=cR Xu
def Zjq:=cL Xt
def Xq:=cR Xt
def Xp:=cL Xq
def Zjt:=cR Xq
def Zju:=cL Xp
def Zjv:=cR Xp
def Zjw:=cL Xr
def Zjx:=cR Xr
def Zjy:=cL Zjx
def Xo:=cL Zjy
def Zk0:=cL Xo
def Xn:=cR Xo
def Xm:=cL Xn
def Xl:=cR Xn
def Zk4:=cL Xm
def Zk5:=cR Xm
def Zk6:=cL Xl
def Zk7:=cR Xl
def Xk:=cL Zk6
def Zk9:=cL Xk
def Xj:=cR Xk
def Zkb:=cL Xj
def Xi:=cR Xj
def Zkd:=cL Xi
def Zke:=cR Xi
def Zkf:=cL Zke
def Xh:=cL Zkf
def Zkh:=cL Xh
def Xg:=cR Xh
def Xf:=cL Xg
def Xe:=cR Xg
def Zkl:=cL Xf
def Zkm:=cR Xf
def Zkn:=cL Xe
def Zko:=cR Xe
def Xd:=cL Zkn
def Zkq:=cL Xd
def Xc:=cR Xd
def Zks:=cL Xc
def Xb:=cR Xc
def Zku:=cL Xb
def Zkv:=cR Xb
def Xa:=cL XA
def W9:=cR XA
def Zky:=cL Xa
def Zkz:=cR Xa
def Zl0:=cL Zkz
def W8:=cL Zl0
def Zl2:=cL W8
def W7:=cR W8
def W6:=cL W7
def W5:=cR W7
def Zl6:=cL W6
def Zl7:=cR W6
def Zl8:=cL W5
def Zl9:=cR W5
def W4:=cL Zl8
def Zlb:=cL W4
def WZ:=cR W4
def Zld:=cL WZ
def Zle:=cR WZ
def Zlf:=cL Zle
def WY:=cL Zlf
def Zlh:=cL WY
def WX:=cR WY
def WW:=cL WX
def WV:=cR WX
def Zll:=cL WW
def Zlm:=cR WW
def Zln:=cL WV
def Zlo:=cR WV
def WU:=cL Zln
def Zlq:=cL WU
def Zlr:=cR WU
def Zls:=cL W9
def WT:=cR W9
def Zlu:=cL WT
def WR:=cR WT
def WQ:=cL WR
def WN:=cR WR
def Zly:=cL WQ
def Zlz:=cR WQ
def Zm0:=cL Zlz
def WM:=cL Zm0
def WK:=cL WM
def WJ:=cR WM
def Zm4:=cL WK
def WI:=cR WK
def Zm6:=cL WI
def Zm7:=cR WI
def Zm8:=cL WJ
def Zm9:=cR WJ
def Zma:=cL Zm8
def WH:=cL Zma
def Zmc:=cL WH
def WG:=cR WH
def Zme:=cL WG
def WE:=cR WG
def Zmg:=cL WE
def WD:=cR WE
def WC:=cL WD
def Zmj:=cR WD
def Zmk:=cL WC
def Zml:=cR WC
def Zmm:=cL WN
def WB:=cR WN
def Wz:=cL WB
def Wy:=cR WB
def Zmq:=cL Wz
def Zmr:=cR Wz
def Zms:=cL Zmr
def Wx:=cL Zms
def Zmu:=cL Wx
def Ww:=cR Wx
def Wv:=cL Ww
def Wu:=cR Ww
def Zmy:=cL Wv
def Zmz:=cR Wv
def Zn0:=cL Wu
def Zn1:=cR Wu
def Wt:=cL Zn0
def Zn3:=cL Wt
def Zn4:=cR Wt
def Zn5:=cL Wy
def Zn6:=cR Wy
set_option maxHeartbeats 4000000 in
set_option maxRecDepth 10000 in
theorem ahN{w:World}{M:Hp}{X:Fr}(d:Dg){bL:Nat}{cA iA oA:Option Addr}{cc ic oc:Nat}(gone:List Int){jq:Option Addr}{jo:Nat}(bu:dG (M.un X.h) bL 70 [.slice cA d.ae.length cc,.int .i64 d.loops,.slice iA (ax d false (4*d.ae.length)).length ic,.slice oA (ax d true (4*d.ae.length)).length oc])(hsc:aG aF (M.un X.h) cA cc d.ae)(hsi:aG br (M.un X.h) iA ic (ax d false (4*d.ae.length)))(aK:aG br (M.un X.h) oA oc (ax d true (4*d.ae.length)))(iH:aG Uv (M.un X.h) jq jo gone){gs:List Nat}(pU:gone=gs.map fun x:Nat=>(x:Int))(hn:d.ae.length<=16)(hab:aN d=true)(aeh:0<=d.loops/\d.loops<=1000)(S:SH w M X []):Ct Tryz.prog 87 [.pointer (some ⟨bL,0,none⟩),.func (.func 165) #[] #[],.slice jq gone.length jo] w M X (fun u N=>∃A c,u=.agg [.slice A (bB d (bh gs)).ae.length c,.int .i64 (bB d (bh gs)).loops].toArray/\aG aF N A c (bB d (bh gs)).ae):=by
 unfold Ct
 have abR:gone.length*8<=140737488355328:=iH.room
 refine Up (b:=XP) Tryz.func87 rfl Tryz.ntmps87 rfl (fun C hC=>(bq [(0,_),(1,_),(2,_)] ⟨rfl,rfl,rfl,trivial⟩ (U2 Zii XO rfl rfl rfl (U0 rfl (ak 0 1 rfl rfl rfl (Uh (l:=[_,_]) rfl rfl rfl fR rfl S ?_))))))
 intro aI w1 S1;clear S
 refine U5 rfl (U3 (U2 Zik XM rfl rfl rfl (U0 rfl (ag 0 1 rfl rfl (ak 1 2 rfl rfl rfl (cS rfl rfl rfl rfl rfl rfl rfl sG S1 (r8 d (bu.mono S1.Uy) (hsc.mono S1.Uy) (hsi.mono S1.Uy) (aK.mono S1.Uy) (by omega) S1.aD) ?_))))))
 rintro _ w2 S2 rfl;clear S1
 refine af 2 rfl (Ug rfl rfl rfl (by first|omega|(simp only[ls];omega))) ?_
 refine ak 3 4 rfl rfl rfl (qj (C:=Uv) ((2*(d.ae.length:Int)).toNat+1) rfl rfl rfl rfl rfl bA (by first|rfl|omega) (by show _*8<=_;first|omega|(simp only[ls];omega)) S2 ?_)
 intro AL w3 S3;clear S2
 refine ak 4 5 rfl rfl rfl (Uh (l:=[_]) rfl rfl rfl adN rfl S3 ?_)
 intro aQ w4 S4;clear S3
 refine ak 5 6 rfl rfl rfl (U6 (i:=0) (us:=[_]) (l':=[_]) (H':=[_,_,_]) rfl rfl S4 rfl rfl rfl (S4.ke (i:=1) rfl) ad3 rfl (dD (S4.one (i:=1) rfl) rfl) rfl rfl ?_)
 intro w5 S5;clear S4
 refine U5 rfl (ah [0,1,2,6,7] rfl (U3 (U2 XL XK rfl rfl rfl (U2 Zio Zip rfl rfl rfl (U0 rfl (af 0 rfl (U4 rfl rfl dY rfl (S5.ar (i:=0) rfl rfl)) (af 1 rfl (qa (C:=Uv) (i:=1) rfl rfl rfl rfl rfl rfl bA S5 rfl) (cy 32 (.int .i64 ((2*d.ae.length+1:Nat):Int)) rfl (int_eq (by rw[List.length_replicate];omega)) ?_))))))))
 refine ag 2 1 rfl rfl (U5 rfl (ah [0,1,2,6,7,32,33] rfl (U3 (Uc Ziq 0 rfl rfl rfl ?_))))
 refine Ux (fun aS au aM=>∃(i:Nat) (ws:List Int) (o6:Value),aS=2*d.ae.length+1-i/\Env 198 [(0,.pointer (some ⟨bL,0,none⟩)),(1,.func (.func 165) #[] #[]),(2,.slice jq gone.length jo),(6,.pointer (some ⟨aI,0,none⟩)),(7,.pointer (some ⟨aQ,0,none⟩)),(32,.int .i64 ((2*d.ae.length+1:Nat):Int)),(33,.int .i64 (i:Int))] au/\SH aM M X [Rs.box aQ 53 [o6],Rs.row Uv o6 ws,Rs.box aI 24 [.slice none 0 0,.int .i64 0]]/\i<=2*d.ae.length+1/\ws=iniW (2*d.ae.length+1) i) rfl ?_ ?_
 ·intro au aq
  refine⟨_,⟨0,_,_,rfl,aq.sub ⟨rfl,rfl,rfl,rfl,rfl,rfl,rfl,trivial⟩,S5.pick [0,1,2] [_,_,_] (by decide) ⟨rfl,rfl,rfl,trivial⟩,?cd,?dm⟩⟩
  case cd=>omega
  case dm=>rfl
 ·rintro m1 a1 w6 ⟨i,ws,o6,rfl,aY,S6,hi,hw⟩
  clear S5
  refine bX aY (c:=XJ) rfl ?_
  clear aY a1
  have Fj:ws.length=2*d.ae.length+1:=by rw[hw,tK]
  refine U2 Zis XI rfl rfl rfl (U0 rfl (af 0 rfl (bS rfl rfl rfl) (U5 rfl (U3 (U2 XG XF rfl rfl rfl ?_)))))
  refine Uf Ziw Zix rfl rfl rfl rfl (fun ao2=>?_) (fun ao2=>?_)
  ·refine Ue rfl (ah [0,1,2,6,7,32,33] rfl (U3 (U2 Ziy Ziz rfl rfl rfl (Uc XE 1 rfl rfl rfl (U2 Zj1 Zj2 rfl rfl rfl (U0 rfl (ag 0 2 rfl rfl (U5 rfl ?_))))))))
   refine ah [0,1,2,6,7,32,33,8] rfl (U3 (U0 rfl (af 0 rfl (U4 rfl rfl dY rfl (S6.ar (i:=0) rfl rfl)) (ag 1 2 rfl rfl (af 3 rfl (Uj (C:=Uv) (i:=1) i rfl rfl rfl bA S6 rfl (by first|rfl|omega) (by first|omega|(simp only[ls];omega))) ?_)))))
   refine ak 4 5 rfl rfl rfl (ig (C:=Uv) (i:=1) (e:=i) (j:=0) (us:=[_]) (H':=[_,_,_]) (i:Int) rfl rfl S6 rfl (by first|omega|(simp only[ls];omega)) rfl rfl rfl bg rfl rfl rfl rfl ?_)
   intro w7 S7;clear S6
   refine U5 rfl (bj (ah [0,1,2,6,7,32,33] rfl (U3 (U0 rfl (af 0 rfl (Ug rfl rfl rfl (by first|omega|(simp only[ls];omega))) ?_)))))
   refine ag 1 1 rfl rfl (U5 rfl (aO ?_))
   intro au aq
   refine⟨_,?dQ,⟨i+1,_,_,rfl,aq.sub ⟨rfl,rfl,rfl,rfl,rfl,rfl,rfl,trivial⟩,S7.pick [0,1,2] [_,_,_] (by decide) ⟨rfl,rfl,rfl,trivial⟩,?cx,?dC⟩⟩
   case cx=>omega
   case dC=>(rw[hw];rfl)
   case dQ=>omega
  ·refine bP rfl rfl (ah [0,1,2,6,7] rfl (U3 (U2 Zj3 XD rfl rfl rfl (U0 rfl (ak 0 1 rfl rfl rfl (yq Int Bool (Value.int .i64) Value.bool rfl rfl rfl S6 ?_))))))
   intro nZ w8 S8;clear S6
   refine ag 1 1 rfl rfl (U5 rfl (ah [0,1,2,6,7,9] rfl (U3 (U2 Zj5 XC rfl rfl rfl (U0 rfl (ag 0 1 rfl rfl (af 1 rfl (U9 rfl rfl) (af 2 rfl (U1 rfl rfl dR rfl (fE) (fD)) ?_))))))))
   refine af 3 rfl (U1 rfl rfl ay rfl (aC) (aB)) (af 4 rfl (U4 rfl rfl av rfl (bu.cell S8.um rfl)) (af 5 rfl (run_build (l:=[_,_]) rfl rfl dI rfl rfl) (ak 6 7 rfl rfl rfl (Uh (l:=[_,_]) rfl rfl rfl fR rfl S8 ?_))))
   intro bz w9 S9;clear S8
   refine ak 7 8 rfl rfl rfl (U6 (i:=0) (us:=[_,_]) (l':=[_,_]) (H':=[_,_,_,_,_]) rfl rfl S9 rfl rfl rfl rfl aA rfl rfl rfl rfl ?_)
   intro jT bw;clear S9
   refine U5 rfl (ah [0,1,2,6,7,9,10] rfl (U3 (U2 XB XA rfl rfl rfl (U2 Zj9 Zja rfl rfl rfl (U0 rfl (ag 0 1 rfl rfl (af 1 rfl (U9 rfl rfl) (af 2 rfl (U1 rfl rfl dR rfl (fE) (fD)) ?_))))))))
   refine af 3 rfl (U1 rfl rfl ay rfl (bK) (bJ)) (af 4 rfl (U4 rfl rfl bt rfl (bu.cell bw.um rfl)) (af 5 rfl (cU rfl rfl rfl rfl rfl rfl bt) (ag 6 1 rfl rfl (U5 rfl (ah [1,2,6,7,9,10,52,53,54] rfl (U3 (Uc Zjb 2 rfl rfl rfl ?_)))))))
   have bW:=bw.nH aF;clear bw
   refine Ux (fun aS au aM=>∃(c:Nat) (cl:List Int) (oc:List Cr) (rf:Value) (fM:Value),aS=d.ae.length-c/\Env 198 [(1,.func (.func 165) #[] #[]),(2,.slice jq gone.length jo),(6,.pointer (some ⟨aI,0,none⟩)),(7,.pointer (some ⟨aQ,0,none⟩)),(9,.map (some nZ)),(10,.pointer (some ⟨bz,0,none⟩)),(52,.slice cA d.ae.length cc),(53,.int .i64 (d.ae.length:Int)),(54,.int .i64 (c:Int))] au/\SH aM M X [Rs.row aF fM oc,Rs.box bz 24 [fM,.int .i64 d.loops],Rs.mp (Value.int .i64) Value.bool nZ ([]),Rs.box aQ 53 [rf],Rs.row Uv rf cl,Rs.box aI 24 [.slice none 0 0,.int .i64 0]]/\c<=d.ae.length/\cl=lX d (bh gs) (2*c)/\oc=tRN d (bh gs) c) rfl ?_ ?_
   ·intro au aq
    refine⟨_,⟨0,_,_,_,_,rfl,aq.sub ⟨rfl,rfl,rfl,rfl,rfl,rfl,rfl,rfl,rfl,trivial⟩,bW.pick [0,1,2,3,4,5] [_,_,_,_,_,_] (by decide) ⟨rfl,rfl,rfl,rfl,rfl,rfl,trivial⟩,?eB,?gu,?qs⟩⟩
    case eB=>omega
    case gu=>(obtain rfl:i=2*d.ae.length+1:=(by omega);exact hw)
    case qs=>rfl
   ·rintro m3 a2 kV ⟨c,cl,oc,rf,fM,rfl,cB,bV,hc,hcl,vH⟩
    clear bW
    refine bX cB (c:=Xz) rfl ?_
    clear cB a2
    have hll:cl.length=2*d.ae.length+1:=by rw[hcl];exact GD _ _ _
    have hol:oc.length<=c:=by rw[vH];exact GA _ _ _
    refine U2 Zjd Xy rfl rfl rfl (U0 rfl (af 0 rfl (bS rfl rfl rfl) (U5 rfl (U3 (U2 Xx Xw rfl rfl rfl ?_)))))
    refine Uf Zjh Zji rfl rfl rfl rfl (fun xu=>?_) (fun xu=>?_)
    ·refine Ue rfl (ah [1,2,6,7,9,10,52,53,54] rfl (U3 (U2 Zjj Zjk rfl rfl rfl (Uc Xv 3 rfl rfl rfl (U2 Zjm Xu rfl rfl rfl (U0 rfl (ag 0 1 rfl rfl (af 1 rfl (Ul (C:=aF) c rfl rfl rfl cD (by first|rfl|omega) hsc (by first|omega|(simp only[ls];omega))) ?_))))))))
     refine af 2 rfl (U8 (us:=[_,_,_,_,_]) rfl rfl aW rfl cg (hsc.fU bV.um (e:=c) (by first|omega|(simp only[ls];omega)) (j:=0) ⟨rfl,rfl,rfl,rfl,rfl,trivial⟩)) ?_
     refine ak 3 4 rfl rfl rfl (Uh (l:=[_,_,_,_,_]) rfl rfl rfl lG rfl bV ?_)
     intro gZ lU bZ;clear bV
     refine ag 4 1 rfl rfl (ak 5 6 rfl rfl rfl (U6 (i:=0) (us:=[_,_,_,_,_]) (l':=[_,_,_,_,_]) (H':=[_,_,_,_,_,_,_]) rfl rfl bZ rfl rfl rfl rfl cg rfl rfl rfl rfl ?_))
     intro kz bI;clear bZ
     refine U5 rfl (ah [1,2,6,7,9,10,52,53,54,12,11] rfl (U3 (U2 Xt Xr rfl rfl rfl (U2 Zjq Xq rfl rfl rfl (U0 rfl (ag 0 2 rfl rfl (ak 2 3 rfl rfl rfl (cS rfl rfl rfl rfl rfl rfl rfl ans bI (aht gone c (iH.mono bI.Uy) (pU) bI.aD) ?_))))))))
     rintro _ jG bO rfl;clear bI
     refine af 3 rfl (dS rfl rfl) (U5 rfl (ah [1,2,6,7,9,10,52,53,54,12,62] rfl (U3 ?_)))
     refine dN Xp Zjt rfl rfl rfl rfl (fun kT=>?_) (fun kT=>?_)
     ·simp only[Bool.and_eq_true,Bool.or_eq_true,Bool.and_eq_false_iff,Bool.or_eq_false_iff,decide_eq_true_eq,decide_eq_false_iff_not,Bool.not_eq_true',Bool.not_eq_false']at kT
      refine U2 Zju Zjv rfl rfl rfl (U0 rfl (af 0 rfl (U1 rfl rfl ay rfl (bK) (bJ)) (af 1 rfl (U4 rfl rfl bt rfl (bO.ar (i:=2) rfl rfl)) (af 2 rfl (U8 (us:=[_,_,_,_,_]) rfl rfl aW rfl cg (bO.aw (i:=0) rfl ⟨rfl,rfl,rfl,rfl,rfl,trivial⟩)) (ak 3 4 rfl rfl rfl (ij (C:=aF) (l:=[_,_,_,_,_]) rfl rfl rfl rfl cD rfl rfl rfl rfl bO ?_))))))
      intro iy nW cm;clear bO
      refine ak 4 5 rfl rfl rfl (ji (C:=aF) (i:=2) (q:=0) (⟨(ga d.ae c).a,(ga d.ae c).b,(ga d.ae c).c,(ga d.ae c).d,(ga d.ae c).plus⟩:Cr) rfl rfl rfl rfl rfl rfl rfl rfl cD cm rfl rfl rfl (by show(_+1)*40<=_;first|omega|(simp only[ls];omega)) ?_)
      intro adX ni bF;clear cm
      have bU:=bF.pick [1,2,3,4,5,6,7] [_,_,_,_,_,_,_] (by decide) ⟨rfl,rfl,rfl,rfl,rfl,rfl,rfl,trivial⟩;clear bF
      refine af 5 rfl (U1 rfl rfl ay rfl (bK) (bJ)) (ak 6 7 rfl rfl rfl (U6 (i:=2) (us:=[_]) (l':=[_,_]) (H':=[_,_,_,_,_,_,_]) rfl rfl bU rfl rfl rfl (bU.ke (i:=1) rfl) mv rfl (dD (bU.one (i:=1) rfl) rfl) rfl rfl ?_))
      intro kU dP;clear bU
      refine U5 rfl (ah [1,2,6,7,9,10,52,53,54] rfl (U3 (bP rfl rfl (U3 (U0 rfl (af 0 rfl (Ug rfl rfl rfl (by first|omega|(simp only[ls];omega))) ?_))))))
      refine ag 1 1 rfl rfl (U5 rfl (aO ?_))
      intro au aq
      refine⟨_,?kx,⟨c+1,_,_,_,_,rfl,aq.sub ⟨rfl,rfl,rfl,rfl,rfl,rfl,rfl,rfl,rfl,trivial⟩,dP.pick [1,2,3,4,5,6] [_,_,_,_,_,_] (by decide) ⟨rfl,rfl,rfl,rfl,rfl,rfl,trivial⟩,?eW,?gq,?oG⟩⟩
      case eW=>omega
      case gq=>first|(rw[hcl,abj (by simpa using kT)])|(obtain rfl:j=2:=(by omega);exact Fs)
      case oG=>first|(rw[tRN,if_pos (by simpa using kT)];exact vH)|(rw[tRN,if_neg (by simpa using kT),vH])
      case kx=>omega
     ·simp only[Bool.and_eq_true,Bool.or_eq_true,Bool.and_eq_false_iff,Bool.or_eq_false_iff,decide_eq_true_eq,decide_eq_false_iff_not,Bool.not_eq_true',Bool.not_eq_false']at kT
      have hgc:bh gs c=true:=by simpa using kT
      refine Ue rfl (ah [1,2,6,7,9,10,52,53,54,12] rfl (U3 (U2 Zjw Zjx rfl rfl rfl (U0 rfl (ag 0 1 rfl rfl (af 1 rfl (U8 (us:=[_,_,_,_,_]) rfl rfl aW rfl cg (bO.aw (i:=0) rfl ⟨rfl,rfl,rfl,rfl,rfl,trivial⟩)) (ak 2 3 rfl rfl rfl (cS rfl rfl rfl rfl rfl rfl rfl ank bO (air (ga d.ae c) bO.aD) ?_))))))))
      rintro _ tA cN rfl;clear bO
      refine ag 3 1 rfl rfl (U5 rfl (ah [1,2,6,7,9,10,52,53,54,71,72] rfl (U3 (Uc Zjy 4 rfl rfl rfl ?_))))
      refine Ux (fun aS au aM=>∃(j:Nat) (cj:List Int) (Ro:Value),aS=2-j/\Env 198 [(1,.func (.func 165) #[] #[]),(2,.slice jq gone.length jo),(6,.pointer (some ⟨aI,0,none⟩)),(7,.pointer (some ⟨aQ,0,none⟩)),(9,.map (some nZ)),(10,.pointer (some ⟨bz,0,none⟩)),(52,.slice cA d.ae.length cc),(53,.int .i64 (d.ae.length:Int)),(54,.int .i64 (c:Int)),(71,.agg [.int .i64 ((ga d.ae c).a),.int .i64 ((ga d.ae c).c),.int .i64 ((iM (ga d.ae c)).1),.int .i64 ((iM (ga d.ae c)).2)].toArray),(72,.int .i64 (j:Int))] au/\SH aM M X [Rs.row aF fM oc,Rs.box bz 24 [fM,.int .i64 d.loops],Rs.mp (Value.int .i64) Value.bool nZ ([]),Rs.box aQ 53 [Ro],Rs.row Uv Ro cj,Rs.box aI 24 [.slice none 0 0,.int .i64 0]]/\j<=2/\cj=lX d (bh gs) (2*c+j)) rfl ?_ ?_
      ·intro au aq
       refine⟨_,⟨0,_,_,rfl,aq.sub ⟨rfl,rfl,rfl,rfl,rfl,rfl,rfl,rfl,rfl,rfl,rfl,trivial⟩,cN.pick [1,2,3,4,5,6] [_,_,_,_,_,_] (by decide) ⟨rfl,rfl,rfl,rfl,rfl,rfl,trivial⟩,?fC,?gp⟩⟩
       case fC=>omega
       case gp=>(rw[hcl];rfl)
      ·rintro m4 a3 oZ ⟨j,cj,Ro,rfl,fu,cM,hj,Fs⟩
       clear cN
       refine bX fu (c:=Xo) rfl ?_
       clear fu a3
       have hlj:cj.length=2*d.ae.length+1:=by rw[Fs];exact GD _ _ _
       refine U2 Zk0 Xn rfl rfl rfl (U0 rfl (af 0 rfl (bS rfl rfl rfl) (U5 rfl (U3 (U2 Xm Xl rfl rfl rfl ?_)))))
       refine Uf Zk4 Zk5 rfl rfl rfl rfl (fun Jq=>?_) (fun Jq=>?_)
       ·refine Ue rfl (ah [1,2,6,7,9,10,52,53,54,71,72] rfl (U3 (U2 Zk6 Zk7 rfl rfl rfl (Uc Xk 5 rfl rfl rfl (U2 Zk9 Xj rfl rfl rfl (U0 rfl (af 0 rfl (ahl (e:=j) rfl rfl rfl HT fB rfl gh (by first|rfl|omega) (by first|omega|(simp only[ls];omega))) ?_)))))))
        refine cy 74 (.agg [.int .i64 ((ek d (bh gs) (2*c+j):Nat):Int),.int .i64 ((ei d (bh gs) (2*c+j):Nat):Int)].toArray) rfl (aiH hab (by omega) hgc (by omega)) ?_
        obtain⟨hb2,hb4,_⟩:=nK hab (bh gs) (i:=2*c+j) (by omega)
        refine ak 1 2 rfl rfl rfl (Uh (l:=[_,_]) rfl rfl rfl kL rfl cM ?_)
        intro pZ q9 dz;clear cM
        refine ak 2 3 rfl rfl rfl (U6 (i:=0) (us:=[_,_]) (l':=[_,_]) (H':=[_,_,_,_,_,_,_]) rfl rfl dz rfl rfl rfl rfl gh rfl rfl rfl rfl ?_)
        intro tv dE;clear dz
        refine U5 rfl (ah [1,2,6,7,9,10,52,53,54,71,72,14] rfl (U3 (U2 Zkb Xi rfl rfl rfl (bM rfl (by kernel_rfl) dE 24 rfl ?_))))
        clear dE
        refine aj 0 23 rfl (by kernel_rfl) (fun _ _ _ hz Sz=>.inl (U4 rfl rfl dY rfl (Sz.suf.ar (i:=4) rfl rfl))) ?_
        refine aj 1 22 rfl (by kernel_rfl) (fun _ _ _ hz Sz=>.inl (iD (e:=0) (k:=1) rfl rfl rfl fB bg (by first|rfl|omega) (by first|omega|(simp only[ls];omega)))) ?_
        refine aj 2 21 rfl (by kernel_rfl) (fun _ _ _ hz Sz=>.inl (U4 rfl rfl av rfl (Sz.suf.ar (i:=0) rfl rfl))) ?_
        refine aj 3 20 rfl (by kernel_rfl) (fun _ _ _ hz Sz=>.inl (Uj (C:=Uv) (i:=5) (ek d (bh gs) (2*c+j)) rfl rfl rfl bA Sz.suf rfl (by first|rfl|omega) (by first|omega|(simp only[ls];omega)))) ?_
        refine aj 4 19 rfl (by kernel_rfl) (fun _ _ _ hz Sz=>.inl (U4 rfl rfl av rfl (Sz.suf.dW (i:=5) (e:=ek d (bh gs) (2*c+j)) (j:=0) rfl (by first|omega|(simp only[ls];omega)) rfl rfl))) ?_
        refine aj 5 18 rfl (by kernel_rfl) (fun _ _ _ hz Sz=>.inl (U4 rfl rfl dY rfl (Sz.suf.ar (i:=4) rfl rfl))) ?_
        refine aj 6 17 rfl (by kernel_rfl) (fun _ _ _ hz Sz=>.inl (iD (e:=1) (k:=1) rfl rfl rfl fB bg (by first|rfl|omega) (by first|omega|(simp only[ls];omega)))) ?_
        refine aj 7 16 rfl (by kernel_rfl) (fun _ _ _ hz Sz=>.inl (U4 rfl rfl av rfl (Sz.suf.ar (i:=0) rfl rfl))) ?_
        refine aj 8 15 rfl (by kernel_rfl) (fun _ _ _ hz Sz=>.inl (Uj (C:=Uv) (i:=5) (ei d (bh gs) (2*c+j)) rfl rfl rfl bA Sz.suf rfl (by first|rfl|omega) (by first|omega|(simp only[ls];omega)))) ?_
        refine aj 9 14 rfl (by kernel_rfl) (fun _ _ _ hz Sz=>.inl (U4 rfl rfl av rfl (Sz.suf.dW (i:=5) (e:=ei d (bh gs) (2*c+j)) (j:=0) rfl (by first|omega|(simp only[ls];omega)) rfl rfl))) ?_
        refine aj 10 13 rfl (by kernel_rfl) (fun _ _ _ hz Sz=>.inl (ajL rfl rfl rfl rfl rfl)) ?_
        refine aj 11 12 rfl (by kernel_rfl) (fun _ _ _ hz Sz=>.inl (U4 rfl rfl dY rfl (Sz.suf.ar (i:=4) rfl rfl))) ?_
        refine aj 12 11 rfl (by kernel_rfl) (fun _ _ _ hz Sz=>.inl (iD (e:=0) (k:=1) rfl rfl rfl fB bg (by first|rfl|omega) (by first|omega|(simp only[ls];omega)))) ?_
        refine aj 13 10 rfl (by kernel_rfl) (fun _ _ _ hz Sz=>.inl (U4 rfl rfl av rfl (Sz.suf.ar (i:=0) rfl rfl))) ?_
        refine aj 14 9 rfl (by kernel_rfl) (fun _ _ _ hz Sz=>.inl (Uj (C:=Uv) (i:=5) (ek d (bh gs) (2*c+j)) rfl rfl rfl bA Sz.suf rfl (by first|rfl|omega) (by first|omega|(simp only[ls];omega)))) ?_
        refine aj 15 8 rfl (by kernel_rfl) (fun _ _ _ hz Sz=>.inl (U4 rfl rfl av rfl (Sz.suf.dW (i:=5) (e:=ek d (bh gs) (2*c+j)) (j:=0) rfl (by first|omega|(simp only[ls];omega)) rfl rfl))) ?_
        refine aj 16 7 rfl (by kernel_rfl) (fun _ _ _ hz Sz=>.inl (U4 rfl rfl dY rfl (Sz.suf.ar (i:=4) rfl rfl))) ?_
        refine aj 17 6 rfl (by kernel_rfl) (fun _ _ _ hz Sz=>.inl (iD (e:=1) (k:=1) rfl rfl rfl fB bg (by first|rfl|omega) (by first|omega|(simp only[ls];omega)))) ?_
        refine aj 18 5 rfl (by kernel_rfl) (fun _ _ _ hz Sz=>.inl (U4 rfl rfl av rfl (Sz.suf.ar (i:=0) rfl rfl))) ?_
        refine aj 19 4 rfl (by kernel_rfl) (fun _ _ _ hz Sz=>.inl (Uj (C:=Uv) (i:=5) (ei d (bh gs) (2*c+j)) rfl rfl rfl bA Sz.suf rfl (by first|rfl|omega) (by first|omega|(simp only[ls];omega)))) ?_
        refine aj 20 3 rfl (by kernel_rfl) (fun _ _ _ hz Sz=>.inl (U4 rfl rfl av rfl (Sz.suf.dW (i:=5) (e:=ei d (bh gs) (2*c+j)) (j:=0) rfl (by first|omega|(simp only[ls];omega)) rfl rfl))) ?_
        refine aj 21 2 rfl (by kernel_rfl) (fun _ _ _ hz Sz=>.inl (ajK rfl rfl rfl rfl rfl)) ?_
        refine ai 22 1 rfl (by kernel_rfl) (fun _=>run_assign rfl rfl) ?_
        refine ai 23 0 rfl (by kernel_rfl) (fun _=>run_assign rfl rfl) ?_
        refine Uu (by kernel_rfl) (fun Rj jl=>?_)
        refine ah [1,2,6,7,9,10,52,53,54,71,72,15,16] rfl (U3 (U2 Zkd Zke rfl rfl rfl (kf 15 (.int .i64 (kD (ek d (bh gs)) (ei d (bh gs)) cj (2*c+j))) rfl (int_eq rfl) (kf 16 (.int .i64 (lW (ek d (bh gs)) (ei d (bh gs)) cj (2*c+j))) rfl (int_eq rfl) (U0 rfl (af 0 rfl (U4 rfl rfl dY rfl (jl.ar (i:=4) rfl rfl)) (af 1 rfl (qa (C:=Uv) (i:=5) rfl rfl rfl rfl rfl rfl bA jl rfl) (cy 98 (.int .i64 ((2*d.ae.length+1:Nat):Int)) rfl (int_eq (by rw[hlj])) ?_))))))))
        refine ag 2 1 rfl rfl (U5 rfl (ah [1,2,6,7,9,10,52,53,54,71,72,15,16,98,99] rfl (U3 (Uc Zkf 6 rfl rfl rfl ?_))))
        refine Ux (fun aS au aM=>∃(a:Nat) (vR:List Int) (IU:Value),aS=2*d.ae.length+1-a/\Env 198 [(1,.func (.func 165) #[] #[]),(2,.slice jq gone.length jo),(6,.pointer (some ⟨aI,0,none⟩)),(7,.pointer (some ⟨aQ,0,none⟩)),(9,.map (some nZ)),(10,.pointer (some ⟨bz,0,none⟩)),(52,.slice cA d.ae.length cc),(53,.int .i64 (d.ae.length:Int)),(54,.int .i64 (c:Int)),(71,.agg [.int .i64 ((ga d.ae c).a),.int .i64 ((ga d.ae c).c),.int .i64 ((iM (ga d.ae c)).1),.int .i64 ((iM (ga d.ae c)).2)].toArray),(72,.int .i64 (j:Int)),(15,.int .i64 (kD (ek d (bh gs)) (ei d (bh gs)) cj (2*c+j))),(16,.int .i64 (lW (ek d (bh gs)) (ei d (bh gs)) cj (2*c+j))),(98,.int .i64 ((2*d.ae.length+1:Nat):Int)),(99,.int .i64 (a:Int))] au/\SH aM M X [Rs.row aF fM oc,Rs.box bz 24 [fM,.int .i64 d.loops],Rs.mp (Value.int .i64) Value.bool nZ ([]),Rs.box aQ 53 [IU],Rs.row Uv IU vR,Rs.box aI 24 [.slice none 0 0,.int .i64 0]]/\a<=2*d.ae.length+1/\vR=relN cj (kD (ek d (bh gs)) (ei d (bh gs)) cj (2*c+j)) (lW (ek d (bh gs)) (ei d (bh gs)) cj (2*c+j)) a) rfl ?_ ?_
        ·intro au aq
         refine⟨_,⟨0,_,_,rfl,aq.sub ⟨rfl,rfl,rfl,rfl,rfl,rfl,rfl,rfl,rfl,rfl,rfl,rfl,rfl,rfl,rfl,trivial⟩,jl.pick [1,2,3,4,5,6] [_,_,_,_,_,_] (by decide) ⟨rfl,rfl,rfl,rfl,rfl,rfl,trivial⟩,?gW,?iY⟩⟩
         case gW=>omega
         case iY=>rfl
        ·rintro m5 a4 Ri ⟨a,vR,IU,rfl,mK,jk,ha,hc2⟩
         clear jl
         refine bX mK (c:=Xh) rfl ?_
         clear mK a4
         have hl2:vR.length=2*d.ae.length+1:=by rw[hc2,Ca,hlj]
         refine U2 Zkh Xg rfl rfl rfl (U0 rfl (af 0 rfl (bS rfl rfl rfl) (U5 rfl (U3 (U2 Xf Xe rfl rfl rfl ?_)))))
         refine Uf Zkl Zkm rfl rfl rfl rfl (fun amT=>?_) (fun amT=>?_)
         ·refine Ue rfl (ah [1,2,6,7,9,10,52,53,54,71,72,15,16,98,99] rfl (U3 (U2 Zkn Zko rfl rfl rfl (Uc Xd 7 rfl rfl rfl (U2 Zkq Xc rfl rfl rfl (U0 rfl (ag 0 2 rfl rfl (U5 rfl ?_))))))))
          refine ah [1,2,6,7,9,10,52,53,54,71,72,15,16,98,99,17] rfl (U3 (U2 Zks Xb rfl rfl rfl (U0 rfl (af 0 rfl (U4 rfl rfl dY rfl (jk.ar (i:=3) rfl rfl)) (ag 1 1 rfl rfl (af 2 rfl (Uj (C:=Uv) (i:=4) a rfl rfl rfl bA jk rfl (by first|rfl|omega) (by first|omega|(simp only[ls];omega))) ?_))))))
          refine af 3 rfl (U4 rfl rfl av rfl (jk.dW (i:=4) (e:=a) (j:=0) rfl (by first|omega|(simp only[ls];omega)) rfl rfl)) ?_
          refine ag 4 1 rfl rfl (af 5 rfl (bR rfl rfl rfl) (U5 rfl (ah [1,2,6,7,9,10,52,53,54,71,72,15,16,98,99,17,107] rfl (U3 ?_))))
          refine Uf Zku Zkv rfl rfl rfl rfl (fun iI=>?_) (fun iI=>?_)
          ·refine U0 rfl (af 0 rfl (U4 rfl rfl dY rfl (jk.ar (i:=3) rfl rfl)) (ag 1 2 rfl rfl (af 3 rfl (Uj (C:=Uv) (i:=4) a rfl rfl rfl bA jk rfl (by first|rfl|omega) (by first|omega|(simp only[ls];omega))) ?_)))
           refine ak 4 5 rfl rfl rfl (ig (C:=Uv) (i:=4) (e:=a) (j:=0) (us:=[_]) (H':=[_,_,_,_,_,_]) (lW (ek d (bh gs)) (ei d (bh gs)) cj (2*c+j)) rfl rfl jk rfl (by first|omega|(simp only[ls];omega)) rfl rfl rfl bg rfl rfl rfl rfl ?_)
           intro Rh kH;clear jk
           refine U5 rfl (bj (ah [1,2,6,7,9,10,52,53,54,71,72,15,16,98,99] rfl (U3 (U0 rfl (af 0 rfl (Ug rfl rfl rfl (by first|omega|(simp only[ls];omega))) ?_)))))
           refine ag 1 1 rfl rfl (U5 rfl (aO ?_))
           intro au aq
           refine⟨_,?lL,⟨a+1,_,_,rfl,aq.sub ⟨rfl,rfl,rfl,rfl,rfl,rfl,rfl,rfl,rfl,rfl,rfl,rfl,rfl,rfl,rfl,trivial⟩,kH.pick [0,1,2,3,4,5] [_,_,_,_,_,_] (by decide) ⟨rfl,rfl,rfl,rfl,rfl,rfl,trivial⟩,?iX,?ki⟩⟩
           case iX=>omega
           case ki=>(rw[relN,<-hc2];first|rw[if_pos iI]|rw[if_neg iI])
           case lL=>omega
          ·refine Ue rfl (bj (ah [1,2,6,7,9,10,52,53,54,71,72,15,16,98,99] rfl (U3 (U0 rfl (af 0 rfl (Ug rfl rfl rfl (by first|omega|(simp only[ls];omega))) ?_)))))
           refine ag 1 1 rfl rfl (U5 rfl (aO ?_))
           intro au aq
           refine⟨_,?lK,⟨a+1,_,_,rfl,aq.sub ⟨rfl,rfl,rfl,rfl,rfl,rfl,rfl,rfl,rfl,rfl,rfl,rfl,rfl,rfl,rfl,trivial⟩,jk.pick [0,1,2,3,4,5] [_,_,_,_,_,_] (by decide) ⟨rfl,rfl,rfl,rfl,rfl,rfl,trivial⟩,?jC,?lB⟩⟩
           case jC=>omega
           case lB=>(rw[relN,<-hc2];first|rw[if_pos iI]|rw[if_neg iI])
           case lK=>omega
         ·refine bP rfl rfl (bj (ah [1,2,6,7,9,10,52,53,54,71,72] rfl (U3 (U0 rfl (af 0 rfl (Ug rfl rfl rfl (by first|omega|(simp only[ls];omega))) ?_)))))
          refine ag 1 1 rfl rfl (U5 rfl (aO ?_))
          intro au aq
          refine⟨_,?IW,⟨j+1,_,_,rfl,aq.sub ⟨rfl,rfl,rfl,rfl,rfl,rfl,rfl,rfl,rfl,rfl,rfl,trivial⟩,jk.pick [0,1,2,3,4,5] [_,_,_,_,_,_] (by decide) ⟨rfl,rfl,rfl,rfl,rfl,rfl,trivial⟩,?uz,?zo⟩⟩
          case uz=>omega
          case zo=>(obtain rfl:a=2*d.ae.length+1:=(by omega);rw[hc2,Fs];rfl)
          case IW=>omega
       ·refine bP rfl rfl (bj (ah [1,2,6,7,9,10,52,53,54] rfl (U3 (U0 rfl (af 0 rfl (Ug rfl rfl rfl (by first|omega|(simp only[ls];omega))) ?_)))))
        refine ag 1 1 rfl rfl (U5 rfl (aO ?_))
        intro au aq
        refine⟨_,?amE,⟨c+1,_,_,_,_,rfl,aq.sub ⟨rfl,rfl,rfl,rfl,rfl,rfl,rfl,rfl,rfl,trivial⟩,cM.pick [0,1,2,3,4,5] [_,_,_,_,_,_] (by decide) ⟨rfl,rfl,rfl,rfl,rfl,rfl,trivial⟩,?ze,?Hv,?Hu⟩⟩
        case ze=>omega
        case Hv=>first|(rw[hcl,abj (by simpa using kT)])|(obtain rfl:j=2:=(by omega);exact Fs)
        case Hu=>first|(rw[tRN,if_pos (by simpa using kT)];exact vH)|(rw[tRN,if_neg (by simpa using kT),vH])
        case amE=>omega
    ·refine bP rfl rfl (ah [6,7,9,10] rfl (U3 (U2 Xa W9 rfl rfl rfl (U2 Zky Zkz rfl rfl rfl ?_))))
     obtain rfl:c=d.ae.length:=by omega
     have mB:cl=tC d (bh gs):=hcl
     have nQ:oc=tR d (bh gs):=vH
     refine U0 rfl (af 0 rfl (U1 rfl rfl ay rfl (bK) (bJ)) (af 1 rfl (U4 rfl rfl bt rfl (bV.ar (i:=1) rfl rfl)) (af 2 rfl (qa (C:=aF) (i:=0) rfl rfl rfl rfl rfl rfl cD bV rfl) (ag 3 1 rfl rfl (U5 rfl (ah [6,7,9,10,116,117,118] rfl (U3 (Uc Zl0 8 rfl rfl rfl ?_))))))))
     refine Ux (fun aS au aM=>∃(i4:Nat) (es:List (Int×Bool)),aS=oc.length-i4/\Env 198 [(6,.pointer (some ⟨aI,0,none⟩)),(7,.pointer (some ⟨aQ,0,none⟩)),(9,.map (some nZ)),(10,.pointer (some ⟨bz,0,none⟩)),(116,fM),(117,.int .i64 (oc.length:Int)),(118,.int .i64 (i4:Int))] au/\SH aM M X [Rs.row aF fM oc,Rs.box bz 24 [fM,.int .i64 d.loops],Rs.mp (Value.int .i64) Value.bool nZ es,Rs.box aQ 53 [rf],Rs.row Uv rf cl,Rs.box aI 24 [.slice none 0 0,.int .i64 0]]/\i4<=oc.length/\(∀x,(mg x es).getD false=jV cl (oc.take i4) x)) rfl ?_ ?_
     ·intro au aq
      refine⟨_,⟨0,[],rfl,aq.sub ⟨rfl,rfl,rfl,rfl,rfl,rfl,rfl,trivial⟩,bV.pick [0,1,2,3,4,5] [_,_,_,_,_,_] (by decide) ⟨rfl,rfl,rfl,rfl,rfl,rfl,trivial⟩,?zb,?Ht⟩⟩
      case zb=>omega
      case Ht=>(intro x;rfl)
     ·rintro m6 a5 Rg ⟨i4,es,rfl,Bi,jO,hi4,hes⟩
      clear bV
      refine bX Bi (c:=W8) rfl ?_
      clear Bi a5
      have hrm:i4<oc.length->∀s,s<4->1<=cK (ga oc i4) s/\cK (ga oc i4) s<=2*(d.ae.length:Int):=fun h s hs=>ow hab (Nat.le_refl _) (v:=ga oc i4) (gn:=bh gs) (by rw[<-show oc=tRN d (bh gs) d.ae.length from vH];exact iB h) hs
      refine U2 Zl2 W7 rfl rfl rfl (U0 rfl (af 0 rfl (bS rfl rfl rfl) (U5 rfl (U3 (U2 W6 W5 rfl rfl rfl ?_)))))
      refine Uf Zl6 Zl7 rfl rfl rfl rfl (fun amR=>?_) (fun amR=>?_)
      ·refine Ue rfl (ah [6,7,9,10,116,117,118] rfl (U3 (U2 Zl8 Zl9 rfl rfl rfl (Uc W4 9 rfl rfl rfl (U2 Zlb WZ rfl rfl rfl (U0 rfl (af 0 rfl (Uj (C:=aF) (i:=0) i4 rfl rfl rfl cD jO rfl (by first|rfl|omega) (by first|omega|(simp only[ls];omega))) ?_)))))))
       refine af 1 rfl (U8 (us:=[_,_,_,_,_]) rfl rfl aW rfl cg (jO.CZ (i:=0) (e:=i4) (j:=0) rfl (by first|omega|(simp only[ls];omega)) ⟨rfl,rfl,rfl,rfl,rfl,trivial⟩)) ?_
       refine ak 2 3 rfl rfl rfl (Uh (l:=[_,_,_,_,_]) rfl rfl rfl lG rfl jO ?_)
       intro pY E4 qi;clear jO
       refine ak 3 4 rfl rfl rfl (U6 (i:=0) (us:=[_,_,_,_,_]) (l':=[_,_,_,_,_]) (H':=[_,_,_,_,_,_,_]) rfl rfl qi rfl rfl rfl rfl cg rfl rfl rfl rfl ?_)
       intro w51 kG;clear qi
       refine U5 rfl (ah [6,7,9,10,116,117,118,19] rfl (U3 (U2 Zld Zle rfl rfl rfl (U0 rfl (ag 0 1 rfl rfl (U5 rfl (U3 (Uc Zlf 10 rfl rfl rfl ?_))))))))
       refine Ux (fun aS au aM=>∃(s5:Nat) (Fx:List (Int×Bool)),aS=4-s5/\Env 198 [(6,.pointer (some ⟨aI,0,none⟩)),(7,.pointer (some ⟨aQ,0,none⟩)),(9,.map (some nZ)),(10,.pointer (some ⟨bz,0,none⟩)),(116,fM),(117,.int .i64 (oc.length:Int)),(118,.int .i64 (i4:Int)),(19,.pointer (some ⟨pY,0,none⟩)),(122,.int .i64 (s5:Int))] au/\SH aM M X [Rs.box pY 77 [.int .i64 ((ga oc i4).a),.int .i64 ((ga oc i4).b),.int .i64 ((ga oc i4).c),.int .i64 ((ga oc i4).d),.bool ((ga oc i4).plus)],Rs.row aF fM oc,Rs.box bz 24 [fM,.int .i64 d.loops],Rs.mp (Value.int .i64) Value.bool nZ Fx,Rs.box aQ 53 [rf],Rs.row Uv rf cl,Rs.box aI 24 [.slice none 0 0,.int .i64 0]]/\s5<=4/\(∀x,(mg x Fx).getD false=(jV cl (oc.take i4) x||lf1 cl (ga oc i4) s5 x))) rfl ?_ ?_
       ·intro au aq
        refine⟨_,⟨0,es,rfl,aq.sub ⟨rfl,rfl,rfl,rfl,rfl,rfl,rfl,rfl,rfl,trivial⟩,kG.pick [0,1,2,3,4,5,6] [_,_,_,_,_,_,_] (by decide) ⟨rfl,rfl,rfl,rfl,rfl,rfl,rfl,trivial⟩,?za,?Hr⟩⟩
        case za=>omega
        case Hr=>(intro x;rw[hes,lf1,Bool.or_false])
       ·rintro m7 a6 Rf ⟨s5,Fx,rfl,Bh,rN,hs5,aeo⟩
        clear kG
        refine bX Bh (c:=WY) rfl ?_
        clear Bh a6
        have mJ:=fun h=>hrm (by omega) s5 h
        refine U2 Zlh WX rfl rfl rfl (U0 rfl (af 0 rfl (bS rfl rfl rfl) (U5 rfl (U3 (U2 WW WV rfl rfl rfl ?_)))))
        refine Uf Zll Zlm rfl rfl rfl rfl (fun amQ=>?_) (fun amQ=>?_)
        ·refine Ue rfl (ah [6,7,9,10,116,117,118,19,122] rfl (U3 (U2 Zln Zlo rfl rfl rfl (Uc WU 11 rfl rfl rfl (U2 Zlq Zlr rfl rfl rfl (U0 rfl (ag 0 2 rfl rfl (U5 rfl ?_))))))))
         refine ah [6,7,9,10,116,117,118,19,122,20] rfl (U3 ?_)
         have hrr:=mJ (by omega)
         refine bM rfl (by kernel_rfl) rN 8 rfl ?_
         clear rN
         refine ai 0 7 rfl (by kernel_rfl) (fun _=>run_move rfl rfl) ?_
         refine aj 1 6 rfl (by kernel_rfl) (fun _ _ _ hz Sz=>.inl (U4 rfl rfl dY rfl (Sz.suf.ar (i:=4) rfl rfl))) ?_
         refine aj 2 5 rfl (by kernel_rfl) (fun _ _ _ hz Sz=>.inl (U8 (us:=[_,_,_,_,_]) rfl rfl aW rfl cg (Sz.suf.aw (i:=0) rfl ⟨rfl,rfl,rfl,rfl,rfl,trivial⟩))) ?_
         refine ai 3 4 rfl (by kernel_rfl) (fun _=>run_move rfl rfl) ?_
         refine aj 4 3 rfl (by kernel_rfl) (fun _ _ _ hz Sz=>Ur rfl rfl rfl rfl rfl Df Sz (Dn (ga oc i4) s5 (by omega) Sz.aD)) ?_
         refine aj 5 2 rfl (by kernel_rfl) (fun _ _ _ hz Sz=>.inl (Uj (C:=Uv) (i:=5) ((cK (ga oc i4) s5).toNat) rfl rfl rfl bA Sz.suf rfl (by first|rfl|omega) (by first|omega|(simp only[ls];omega)))) ?_
         refine aj 6 1 rfl (by kernel_rfl) (fun _ _ _ hz Sz=>.inl (U4 rfl rfl av rfl (Sz.suf.dW (i:=5) (e:=(cK (ga oc i4) s5).toNat) (j:=0) rfl (by first|omega|(simp only[ls];omega)) rfl rfl))) ?_
         refine Un (i:=7) 0 rfl (by kernel_rfl) rfl rfl (fun Q9 kF=>?_)
         refine(om (kc:=Value.int .i64) (vc:=Value.bool) (es:=Fx) (k:=(ga cl ((cK (ga oc i4) s5).toNat))) (e:=true) (i:=3) (H':=[_,_,_,_,_,_,_]) (.inl rfl) rfl kF rfl rfl rfl rfl CW nX rfl ?_)
         intro Q8 S64;clear kF
         refine aP.turn (by kernel_rfl) S64 ?_;clear S64
         change WA _ _ _ _ _ _ _ _ _ _ _ _ [_,_,_,_,_,_,_]
         refine Uu (by kernel_rfl) (fun Q7 S65=>?_)
         refine bj (ah [6,7,9,10,116,117,118,19,122] rfl (U3 (U0 rfl (af 0 rfl (Ug rfl rfl rfl (by first|omega|(simp only[ls];omega))) ?_))))
         refine ag 1 1 rfl rfl (U5 rfl (aO ?_))
         intro au aq
         refine⟨_,?Io,⟨s5+1,_,rfl,aq.sub ⟨rfl,rfl,rfl,rfl,rfl,rfl,rfl,rfl,rfl,trivial⟩,S65.pick [0,1,2,3,4,5,6] [_,_,_,_,_,_,_] (by decide) ⟨rfl,rfl,rfl,rfl,rfl,rfl,rfl,trivial⟩,?y9,?Hq⟩⟩
         case y9=>omega
         case Hq=>(intro x;rw[C4,lf1];by_cases h9:x=ga cl (cK (ga oc i4) s5).toNat;(rw[if_pos h9];simp[h9]);(rw[if_neg h9,aeo];simp[h9]))
         case Io=>omega
        ·refine bP rfl rfl (bj (ah [6,7,9,10,116,117,118] rfl (U3 (U0 rfl (af 0 rfl (Ug rfl rfl rfl (by first|omega|(simp only[ls];omega))) ?_)))))
         refine ag 1 1 rfl rfl (U5 rfl (aO ?_))
         intro au aq
         refine⟨_,?amB,⟨i4+1,_,rfl,aq.sub ⟨rfl,rfl,rfl,rfl,rfl,rfl,rfl,trivial⟩,rN.pick [1,2,3,4,5,6] [_,_,_,_,_,_] (by decide) ⟨rfl,rfl,rfl,rfl,rfl,rfl,trivial⟩,?y8,?Ho⟩⟩
         case y8=>omega
         case Ho=>(intro x;rw[aeo,Cu oc i4 (by omega),Gn,show s5=4 by omega])
         case amB=>omega
      ·refine bP rfl rfl (ah [6,7,9,10] rfl (U3 (U2 Zls WT rfl rfl rfl ?_)))
       obtain rfl:i4=oc.length:=by omega
       have hlf:∀x,(mg x es).getD false=jV cl oc x:=fun x=>by rw[hes x,List.take_length]
       have hok:∀x,x<2*d.ae.length+1->0<=ga cl x/\ga cl x<=x/\ga cl (ga cl x).toNat=ga cl x:=by rw[mB];exact(wL hab (bh gs) _ (Nat.le_refl _)).2
       refine U0 rfl (af 0 rfl (U4 rfl rfl dY rfl (jO.ar (i:=3) rfl rfl)) (af 1 rfl (qa (C:=Uv) (i:=4) rfl rfl rfl rfl rfl rfl bA jO rfl) (ak 2 3 rfl rfl rfl (qj (C:=Uv) cl.length rfl rfl rfl rfl rfl bA (by first|rfl|omega) (by show _*8<=_;first|omega|(simp only[ls];omega)) jO ?_))))
       intro Rq w64 rM;clear jO
       refine ak 3 4 rfl rfl rfl (Uh (l:=[_]) rfl rfl rfl adN rfl rM ?_)
       intro vQ w65 qg;clear rM
       refine ak 4 5 rfl rfl rfl (U6 (i:=0) (us:=[_]) (l':=[_]) (H':=[_,_,_,_,_,_,_,_]) rfl rfl qg rfl rfl rfl (qg.ke (i:=1) rfl) ad3 rfl (dD (qg.one (i:=1) rfl) rfl) rfl rfl ?_)
       intro w66 wm;clear qg
       refine U5 rfl (ah [6,7,9,10,21] rfl (U3 (U2 Zlu WR rfl rfl rfl (U0 rfl (ag 0 1 rfl rfl (U5 rfl (U3 (U2 WQ WN rfl rfl rfl ?_))))))))
       refine U2 Zly Zlz rfl rfl rfl ?_
       have hz0:d.loops+(cn (fh cl oc) (0+1):Int)=d.loops:=by rw[show cn (fh cl oc) (0+1)=0 from rfl];omega
       rw[<-hz0]at wm
       refine U0 rfl (ag 0 1 rfl rfl (U5 rfl (U3 (Uc Zm0 12 rfl rfl rfl ?_))))
       refine Ux (fun aS au aM=>∃(a6:Nat) (nu:List Int) (ra:Value),aS=2*d.ae.length-a6/\Env 198 [(6,.pointer (some ⟨aI,0,none⟩)),(7,.pointer (some ⟨aQ,0,none⟩)),(9,.map (some nZ)),(10,.pointer (some ⟨bz,0,none⟩)),(21,.pointer (some ⟨vQ,0,none⟩)),(22,.int .i64 (cn (dZ cl oc) (a6+1):Int)),(23,.int .i64 ((a6+1:Nat):Int))] au/\SH aM M X [Rs.box vQ 53 [ra],Rs.row Uv ra nu,Rs.row aF fM oc,Rs.box bz 24 [fM,.int .i64 (d.loops+(cn (fh cl oc) (a6+1):Int))],Rs.mp (Value.int .i64) Value.bool nZ es,Rs.box aQ 53 [rf],Rs.row Uv rf cl,Rs.box aI 24 [.slice none 0 0,.int .i64 0]]/\a6<=2*d.ae.length/\nu.length=2*d.ae.length+1/\(∀x,x<a6+1->dZ cl oc x=true->ga nu x=(cn (dZ cl oc) (x+1):Int))) rfl ?_ ?_
       ·intro au aq
        refine⟨_,⟨0,_,_,rfl,aq.sub ⟨rfl,rfl,rfl,rfl,rfl,rfl,rfl,trivial⟩,wm.pick [0,1,2,3,4,5,6,7] [_,_,_,_,_,_,_,_] (by decide) ⟨rfl,rfl,rfl,rfl,rfl,rfl,rfl,rfl,trivial⟩,?y7,?Hn,?Hm⟩⟩
        case y7=>omega
        case Hn=>(rw[List.length_replicate];omega)
        case Hm=>(intro x hx h9;obtain rfl:x=0:=(by omega);cases h9)
       ·rintro m8 a7 w67 ⟨a6,nu,ra,rfl,Bg,fP,ha6,hnl,kC⟩
        clear wm
        refine bX Bg (c:=WM) rfl ?_
        clear Bg a7
        have aoT:=wY (dZ cl oc) (a6+1)
        have aoS:=wY (fh cl oc) (a6+1)
        have aoy:=fun h=>hok (a6+1) h
        refine U2 WK WJ rfl rfl rfl (U2 Zm4 WI rfl rfl rfl (U0 rfl (ag 0 1 rfl rfl (af 1 rfl (U4 rfl rfl dY rfl (fP.ar (i:=5) rfl rfl)) (af 2 rfl (qa (C:=Uv) (i:=6) rfl rfl rfl rfl rfl rfl bA fP rfl) (af 3 rfl (bS rfl rfl rfl) (U5 rfl (ah [6,7,9,10,21,22,23,140] rfl ?_))))))))
        refine U3 ?_
        refine Uf Zm6 Zm7 rfl rfl rfl rfl (fun amO=>?_) (fun amO=>?_)
        ·refine Ue rfl (ah [6,7,9,10,21,22,23] rfl (U3 (U2 Zm8 Zm9 rfl rfl rfl (Uc Zma 13 rfl rfl rfl (Uc WH 14 rfl rfl rfl (U2 Zmc WG rfl rfl rfl (U0 rfl (af 0 rfl (U4 rfl rfl dY rfl (fP.ar (i:=5) rfl rfl)) ?_))))))))
         refine ag 1 1 rfl rfl (af 2 rfl (Uj (C:=Uv) (i:=6) (a6+1) rfl rfl rfl bA fP rfl (by first|rfl|omega) (by first|omega|(simp only[ls];omega))) ?_)
         refine af 3 rfl (U4 rfl rfl av rfl (fP.dW (i:=6) (e:=a6+1) (j:=0) rfl (by first|omega|(simp only[ls];omega)) rfl rfl)) ?_
         refine ag 4 1 rfl rfl (af 5 rfl (jL rfl rfl rfl) (ag 6 1 rfl rfl (U5 rfl (ah [6,7,9,10,21,22,23,147] rfl (U3 ?_)))))
         refine Uf Zme WE rfl rfl rfl rfl (fun Iq=>?_) (fun Iq=>?_)
         ·have hrt:dZ cl oc (a6+1)=false:=by unfold dZ;rw[decide_eq_false (show¬ga cl (a6+1)=((a6+1:Nat):Int)from Iq)];simp
          have hlo:fh cl oc (a6+1)=false:=by unfold fh;rw[decide_eq_false (show¬ga cl (a6+1)=((a6+1:Nat):Int)from Iq)];simp
          refine Ue rfl (bj (bj (ah [6,7,9,10,21,22,23] rfl (U3 (kf 22 (.int .i64 (cn (dZ cl oc) (a6+1+1):Int)) rfl (int_eq (by rw[sD hrt])) ?_)))))
          rw[<-sD hlo]at fP
          refine U0 rfl (ag 0 1 rfl rfl (af 1 rfl (Ug rfl rfl rfl (by first|omega|(simp only[ls];omega))) ?_))
          refine ag 2 1 rfl rfl (U5 rfl (aO ?_))
          intro au aq
          refine⟨_,?Im,⟨a6+1,_,_,rfl,aq.sub ⟨rfl,rfl,rfl,rfl,rfl,rfl,rfl,trivial⟩,fP.pick [0,1,2,3,4,5,6,7] [_,_,_,_,_,_,_,_] (by decide) ⟨rfl,rfl,rfl,rfl,rfl,rfl,rfl,rfl,trivial⟩,?y5,?Hl,?Hk⟩⟩
          case y5=>omega
          case Hl=>first|assumption|simpa using hnl
          case Hk=>first|(intro x hx h9;by_cases e:x=a6+1;(subst e;rw[eU _ _ _ _ (by omega),if_pos rfl]);(rw[eU _ _ _ _ (by omega),if_neg (fun h=>e h.symm)];exact kC x (by omega) h9))|(intro x hx h9;by_cases e:x=a6+1;(subst e;rw[hrt]at h9;cases h9);exact kC x (by omega) h9)
          case Im=>omega
         ·refine U2 Zmg WD rfl rfl rfl (U0 rfl (ag 0 2 rfl rfl (af 2 rfl (yo (kc:=Value.int .i64) (vc:=Value.bool) (es:=es) (k:=((a6+1:Nat):Int)) (zv:=false) (i:=4) rfl rfl rfl CW nX Q0 fP rfl) (ag 3 1 rfl rfl (U5 rfl (ah [6,7,9,10,21,22,23,154] rfl (U3 ?_)))))))
          refine dN WC Zmj rfl rfl rfl rfl (fun zx=>?_) (fun zx=>?_)
          ·have hlx:=hlf ((a6+1:Nat):Int)
           have hrt:dZ cl oc (a6+1)=true:=by unfold dZ;rw[decide_eq_true (show ga cl (a6+1)=((a6+1:Nat):Int) by omega),<-hlx];simp;exact zx
           have hlo:fh cl oc (a6+1)=false:=by unfold fh;rw[<-hlx];simp;intro _;exact zx
           refine U2 Zmk Zml rfl rfl rfl (U0 rfl (ag 0 1 rfl rfl (af 1 rfl (Ug rfl rfl rfl (by first|omega|(simp only[ls];omega))) ?_)))
           refine ag 2 1 rfl rfl (U5 rfl (ah [6,7,9,10,21,22,23] rfl (U3 (kf 22 (.int .i64 (cn (dZ cl oc) (a6+1+1):Int)) rfl (int_eq (by rw[oz hrt];omega)) ?_))))
           refine U0 rfl (af 0 rfl (U4 rfl rfl dY rfl (fP.ar (i:=0) rfl rfl)) (ag 1 2 rfl rfl (af 3 rfl (Uj (C:=Uv) (i:=1) (a6+1) rfl rfl rfl bA fP rfl (by first|rfl|omega) (by first|omega|(simp only[ls];omega))) ?_)))
           refine ak 4 5 rfl rfl rfl (ig (C:=Uv) (i:=1) (e:=a6+1) (j:=0) (us:=[_]) (H':=[_,_,_,_,_,_,_,_]) (cn (dZ cl oc) (a6+1+1):Int) rfl rfl fP rfl (by first|omega|(simp only[ls];omega)) rfl rfl rfl bg rfl rfl rfl rfl ?_)
           intro w68 BB;clear fP
           refine U5 rfl (bj (bj (ah [6,7,9,10,21,22,23] rfl (U3 ?_))))
           rw[<-sD hlo]at BB
           refine U0 rfl (ag 0 1 rfl rfl (af 1 rfl (Ug rfl rfl rfl (by first|omega|(simp only[ls];omega))) ?_))
           refine ag 2 1 rfl rfl (U5 rfl (aO ?_))
           intro au aq
           refine⟨_,?Il,⟨a6+1,_,_,rfl,aq.sub ⟨rfl,rfl,rfl,rfl,rfl,rfl,rfl,trivial⟩,BB.pick [0,1,2,3,4,5,6,7] [_,_,_,_,_,_,_,_] (by decide) ⟨rfl,rfl,rfl,rfl,rfl,rfl,rfl,rfl,trivial⟩,?Hj,?Hi,?Hh⟩⟩
           case Hj=>omega
           case Hi=>first|assumption|simpa using hnl
           case Hh=>first|(intro x hx h9;by_cases e:x=a6+1;(subst e;rw[eU _ _ _ _ (by omega),if_pos rfl]);(rw[eU _ _ _ _ (by omega),if_neg (fun h=>e h.symm)];exact kC x (by omega) h9))|(intro x hx h9;by_cases e:x=a6+1;(subst e;rw[hrt]at h9;cases h9);exact kC x (by omega) h9)
           case Il=>omega
          ·have hlx:=hlf ((a6+1:Nat):Int)
           have hrt:dZ cl oc (a6+1)=false:=by unfold dZ;rw[<-hlx];simp;intro _;exact zx
           have hlo:fh cl oc (a6+1)=true:=by unfold fh;rw[decide_eq_true (show ga cl (a6+1)=((a6+1:Nat):Int) by omega),<-hlx];simp;exact zx
           refine U0 rfl (af 0 rfl (U1 rfl rfl ay rfl (aC) (aB)) (af 1 rfl (U4 rfl rfl av rfl (fP.ar (i:=3) rfl rfl)) (af 2 rfl (Ug rfl rfl rfl (by first|omega|(simp only[ls];omega))) ?_)))
           refine af 3 rfl (U1 rfl rfl ay rfl (aC) (aB)) (ak 4 5 rfl rfl rfl (U6 (i:=3) (us:=[_]) (l':=[_,_]) (H':=[_,_,_,_,_,_,_,_]) rfl rfl fP rfl rfl rfl rfl bg rfl rfl rfl rfl ?_))
           intro Q6 qf;clear fP
           refine U5 rfl (bj (bj (ah [6,7,9,10,21,22,23] rfl (U3 (kf 22 (.int .i64 (cn (dZ cl oc) (a6+1+1):Int)) rfl (int_eq (by rw[sD hrt])) ?_)))))
           rw[ajm,<-oz hlo]at qf
           refine U0 rfl (ag 0 1 rfl rfl (af 1 rfl (Ug rfl rfl rfl (by first|omega|(simp only[ls];omega))) ?_))
           refine ag 2 1 rfl rfl (U5 rfl (aO ?_))
           intro au aq
           refine⟨_,?amz,⟨a6+1,_,_,rfl,aq.sub ⟨rfl,rfl,rfl,rfl,rfl,rfl,rfl,trivial⟩,qf.pick [0,1,2,3,4,5,6,7] [_,_,_,_,_,_,_,_] (by decide) ⟨rfl,rfl,rfl,rfl,rfl,rfl,rfl,rfl,trivial⟩,?Hg,?Hf,?ald⟩⟩
           case Hg=>omega
           case Hf=>first|assumption|simpa using hnl
           case ald=>first|(intro x hx h9;by_cases e:x=a6+1;(subst e;rw[eU _ _ _ _ (by omega),if_pos rfl]);(rw[eU _ _ _ _ (by omega),if_neg (fun h=>e h.symm)];exact kC x (by omega) h9))|(intro x hx h9;by_cases e:x=a6+1;(subst e;rw[hrt]at h9;cases h9);exact kC x (by omega) h9)
           case amz=>omega
        ·refine bP rfl rfl (ah [6,7,10,21] rfl (U3 (U2 Zmm WB rfl rfl rfl ?_)))
         obtain rfl:a6=2*d.ae.length:=by omega
         obtain⟨M33,wW,j6,⟨A1,c1,e1,hr1⟩⟩:=fP.fZ (i:=1) (H':=[_,_,_,_,_,_,_,_]) rfl rfl (by show _*8<=_;first|omega|(simp only[ls];omega))
         clear fP;subst e1
         replace bu:=bu.mono (Hp.Ua wW j6.mx)
         replace hsc:=hsc.mono (Hp.Ua wW j6.mx)
         replace hsi:=hsi.mono (Hp.Ua wW j6.mx)
         replace aK:=aK.mono (Hp.Ua wW j6.mx)
         replace iH:=iH.mono (Hp.Ua wW j6.mx)
         obtain⟨M34,uD,mb,⟨A2,c2,e2,hr2⟩⟩:=j6.fZ (i:=6) (H':=[_,_,_,_,_,_,_,_]) rfl rfl (by show _*8<=_;first|omega|(simp only[ls];omega))
         clear j6;subst e2
         replace bu:=bu.mono (Hp.Ua uD mb.mx)
         replace hsc:=hsc.mono (Hp.Ua uD mb.mx)
         replace hsi:=hsi.mono (Hp.Ua uD mb.mx)
         replace aK:=aK.mono (Hp.Ua uD mb.mx)
         replace iH:=iH.mono (Hp.Ua uD mb.mx)
         replace hr1:=hr1.mono uD
         refine U0 rfl (af 0 rfl (vZ (vs:=[_,_]) rfl rfl rfl rfl) (ag 1 1 rfl rfl (U5 rfl (ah [6,10,24] rfl (U3 (U2 Wz Wy rfl rfl rfl (U2 Zmq Zmr rfl rfl rfl (U0 rfl ?_))))))))
         refine af 0 rfl (U1 rfl rfl ay rfl (bK) (bJ)) (af 1 rfl (U4 rfl rfl bt rfl (mb.ar (i:=3) rfl rfl)) (af 2 rfl (qa (C:=aF) (i:=2) rfl rfl rfl rfl rfl rfl cD mb rfl) (ag 3 1 rfl rfl (U5 rfl (ah [6,10,24,166,167,168] rfl (U3 (Uc Zms 15 rfl rfl rfl ?_)))))))
         refine Ux (fun aS au aM=>∃(i7:Nat) (c7:List Cr) (Fa:Value),aS=oc.length-i7/\Env 198 [(6,.pointer (some ⟨aI,0,none⟩)),(10,.pointer (some ⟨bz,0,none⟩)),(24,.func (.func 137) #[] [.pointer (some ⟨vQ,0,none⟩),.pointer (some ⟨aQ,0,none⟩)].toArray),(166,Fa),(167,.int .i64 (oc.length:Int)),(168,.int .i64 (i7:Int))] au/\SH aM M34 X [Rs.box vQ 53 [.slice A1 nu.length c1],Rs.row aF Fa c7,Rs.box bz 24 [Fa,.int .i64 (d.loops+(cn (fh cl oc) (2*d.ae.length+1):Int))],Rs.box aQ 53 [.slice A2 cl.length c2],Rs.box aI 24 [.slice none 0 0,.int .i64 0]]/\i7<=oc.length/\c7=(oc.take i7).map (xX cl oc)++oc.drop i7) rfl ?_ ?_
         ·intro au aq
          refine⟨_,⟨0,_,_,rfl,aq.sub ⟨rfl,rfl,rfl,rfl,rfl,rfl,trivial⟩,mb.pick [0,2,3,5,7] [_,_,_,_,_] (by decide) ⟨rfl,rfl,rfl,rfl,rfl,trivial⟩,?He,?Hd⟩⟩
          case He=>omega
          case Hd=>simp
         ·rintro m9 a8 w70 ⟨i7,c7,Fa,rfl,Bf,j5,hi7,Fu⟩
          clear mb
          refine bX Bf (c:=Wx) rfl ?_
          clear Bf a8
          have ayC:c7.length=oc.length:=by rw[Fu];simp;omega
          refine U2 Zmu Ww rfl rfl rfl (U0 rfl (af 0 rfl (bS rfl rfl rfl) (U5 rfl (U3 (U2 Wv Wu rfl rfl rfl ?_)))))
          refine Uf Zmy Zmz rfl rfl rfl rfl (fun amN=>?_) (fun amN=>?_)
          ·have oH:ga oc i7∈tR d (bh gs):=by rw[<-nQ];exact iB (by omega)
           have hx7:=aiQ Fu (by omega)
           have alc:1<=(ga oc i7).a/\(ga oc i7).a<=2*(d.ae.length:Int):=ow hab (Nat.le_refl _) oH (s:=0) (by omega)
           obtain⟨aow,aos,_⟩:=hok (ga oc i7).a.toNat (by omega)
           have alb:1<=(ga oc i7).b/\(ga oc i7).b<=2*(d.ae.length:Int):=ow hab (Nat.le_refl _) oH (s:=1) (by omega)
           obtain⟨aov,aor,_⟩:=hok (ga oc i7).b.toNat (by omega)
           have ala:1<=(ga oc i7).c/\(ga oc i7).c<=2*(d.ae.length:Int):=ow hab (Nat.le_refl _) oH (s:=2) (by omega)
           obtain⟨aou,aoq,_⟩:=hok (ga oc i7).c.toNat (by omega)
           have ak9:1<=(ga oc i7).d/\(ga oc i7).d<=2*(d.ae.length:Int):=ow hab (Nat.le_refl _) oH (s:=3) (by omega)
           obtain⟨aot,aop,_⟩:=hok (ga oc i7).d.toNat (by omega)
           have nr:∀s,s<4->ga nu (ga cl (cK (ga oc i7) s).toNat).toNat=pT cl oc (cK (ga oc i7) s):=fun s hs=>by
            have:=adb hab (nu:=nu) (by rw[<-mB,<-nQ];exact kC) oH hs
            rw[<-mB,<-nQ]at this
            exact this
           refine Ue rfl (ah [6,10,24,166,167,168] rfl (U3 (U2 Zn0 Zn1 rfl rfl rfl (Uc Wt 16 rfl rfl rfl (U2 Zn3 Zn4 rfl rfl rfl (U0 rfl (ag 0 1 rfl rfl (af 1 rfl (Uj (C:=aF) (i:=1) i7 rfl rfl rfl cD j5 rfl (by first|rfl|omega) (by first|omega|(simp only[ls];omega))) ?_))))))))
           refine af 2 rfl (U8 (us:=[_,_,_,_,_]) rfl rfl aW rfl cg (j5.CZ (i:=1) (e:=i7) (j:=0) rfl (by first|omega|(simp only[ls];omega)) ⟨rfl,rfl,rfl,rfl,rfl,trivial⟩)) ?_
           refine cy 172 (.agg [.int .i64 ((ga oc i7).a),.int .i64 ((ga oc i7).b),.int .i64 ((ga oc i7).c),.int .i64 ((ga oc i7).d),.bool ((ga oc i7).plus)].toArray) rfl (by rw[hx7]) ?_
           refine ak 3 4 rfl rfl rfl (Uh (l:=[_,_,_,_,_]) rfl rfl rfl lG rfl j5 ?_)
           intro yb E2 pG;clear j5
           refine ag 4 1 rfl rfl (ak 5 6 rfl rfl rfl (U6 (i:=0) (us:=[_,_,_,_,_]) (l':=[_,_,_,_,_]) (H':=[_,_,_,_,_,_]) rfl rfl pG rfl rfl rfl rfl cg rfl rfl rfl rfl ?_))
           intro EZ tQ;clear pG
           refine U5 rfl (ah [6,10,24,166,167,168,26,25] rfl (U3 (bM rfl (by kernel_rfl) tQ 24 rfl ?_)))
           clear tQ
           refine ai 0 23 rfl (by kernel_rfl) (fun _=>U1 rfl rfl ay rfl (bK) (bJ)) ?_
           refine aj 1 22 rfl (by kernel_rfl) (fun _ _ _ hz Sz=>.inl (U4 rfl rfl bt rfl (Sz.suf.ar (i:=3) rfl rfl))) ?_
           refine ai 2 21 rfl (by kernel_rfl) (fun _=>run_move rfl rfl) ?_
           refine ai 3 20 rfl (by kernel_rfl) (fun _=>run_move rfl rfl) ?_
           refine ai 4 19 rfl (by kernel_rfl) (fun _=>U1 rfl rfl aW rfl (aC) (aB)) ?_
           refine aj 5 18 rfl (by kernel_rfl) (fun _ _ _ hz Sz=>.inl (U4 rfl rfl av rfl (Sz.suf.ar (i:=0) rfl rfl))) ?_
           refine aj 6 17 rfl (by kernel_rfl) (fun _ _ _ hz Sz=>tO rfl rfl rfl rfl rfl Db Sz (CS ((ga oc i7).a) nu cl (SH.kq (i:=1) Sz rfl) ((hr1.mono hz).mono (Hp.bY _ _)) (SH.kq (i:=4) Sz rfl) ((hr2.mono hz).mono (Hp.bY _ _)) (by omega) (by omega) Sz.aD)) ?_
           refine ai 7 16 rfl (by kernel_rfl) (fun _=>run_move rfl rfl) ?_
           refine ai 8 15 rfl (by kernel_rfl) (fun _=>U1 rfl rfl aW rfl (aC) (aB)) ?_
           refine aj 9 14 rfl (by kernel_rfl) (fun _ _ _ hz Sz=>.inl (U4 rfl rfl av rfl (Sz.suf.ar (i:=0) rfl rfl))) ?_
           refine aj 10 13 rfl (by kernel_rfl) (fun _ _ _ hz Sz=>tO rfl rfl rfl rfl rfl Db Sz (CS ((ga oc i7).b) nu cl (SH.kq (i:=1) Sz rfl) ((hr1.mono hz).mono (Hp.bY _ _)) (SH.kq (i:=4) Sz rfl) ((hr2.mono hz).mono (Hp.bY _ _)) (by omega) (by omega) Sz.aD)) ?_
           refine ai 11 12 rfl (by kernel_rfl) (fun _=>run_move rfl rfl) ?_
           refine ai 12 11 rfl (by kernel_rfl) (fun _=>U1 rfl rfl aW rfl (aC) (aB)) ?_
           refine aj 13 10 rfl (by kernel_rfl) (fun _ _ _ hz Sz=>.inl (U4 rfl rfl av rfl (Sz.suf.ar (i:=0) rfl rfl))) ?_
           refine aj 14 9 rfl (by kernel_rfl) (fun _ _ _ hz Sz=>tO rfl rfl rfl rfl rfl Db Sz (CS ((ga oc i7).c) nu cl (SH.kq (i:=1) Sz rfl) ((hr1.mono hz).mono (Hp.bY _ _)) (SH.kq (i:=4) Sz rfl) ((hr2.mono hz).mono (Hp.bY _ _)) (by omega) (by omega) Sz.aD)) ?_
           refine ai 15 8 rfl (by kernel_rfl) (fun _=>run_move rfl rfl) ?_
           refine ai 16 7 rfl (by kernel_rfl) (fun _=>U1 rfl rfl aW rfl (aC) (aB)) ?_
           refine aj 17 6 rfl (by kernel_rfl) (fun _ _ _ hz Sz=>.inl (U4 rfl rfl av rfl (Sz.suf.ar (i:=0) rfl rfl))) ?_
           refine aj 18 5 rfl (by kernel_rfl) (fun _ _ _ hz Sz=>tO rfl rfl rfl rfl rfl Db Sz (CS ((ga oc i7).d) nu cl (SH.kq (i:=1) Sz rfl) ((hr1.mono hz).mono (Hp.bY _ _)) (SH.kq (i:=4) Sz rfl) ((hr2.mono hz).mono (Hp.bY _ _)) (by omega) (by omega) Sz.aD)) ?_
           refine ai 19 4 rfl (by kernel_rfl) (fun _=>U1 rfl rfl aW rfl (gI) (gH)) ?_
           refine aj 20 3 rfl (by kernel_rfl) (fun _ _ _ hz Sz=>.inl (U4 rfl rfl dL rfl (Sz.suf.ar (i:=0) rfl rfl))) ?_
           refine aj 21 2 rfl (by kernel_rfl) (fun _ _ _ hz Sz=>.inl (run_build (l:=[_,_,_,_,_]) rfl rfl mY rfl rfl)) ?_
           refine aj 22 1 rfl (by kernel_rfl) (fun _ _ _ hz Sz=>.inl (Uj (C:=aF) (i:=2) i7 rfl rfl rfl cD Sz.suf rfl (by first|rfl|omega) (by first|omega|(simp only[ls];omega)))) ?_
           refine Un (i:=23) 0 rfl (by kernel_rfl) rfl rfl (fun w97 AA=>?_)
           refine(ig (C:=aF) (i:=2) (e:=i7) (j:=0) (us:=[_,_,_,_,_]) (H':=[_,_,_,_,_,_]) (⟨ga nu (ga cl ((ga oc i7).a).toNat).toNat,ga nu (ga cl ((ga oc i7).b).toNat).toNat,ga nu (ga cl ((ga oc i7).c).toNat).toNat,ga nu (ga cl ((ga oc i7).d).toNat).toNat,(ga oc i7).plus⟩:Cr) rfl rfl AA rfl (by first|omega|(simp only[ls];omega)) rfl rfl rfl cg rfl rfl rfl rfl ?_)
           intro w98 qV;clear AA
           refine aP.turn (by kernel_rfl) qV ?_;clear qV
           change WA _ _ _ _ _ _ _ _ _ _ _ _ [_,_,_,_,_,_]
           refine Uu (by kernel_rfl) (fun w99 vk=>?_)
           refine bj (ah [6,10,24,166,167,168] rfl (U3 (U0 rfl (af 0 rfl (Ug rfl rfl rfl (by first|omega|(simp only[ls];omega))) ?_))))
           refine ag 1 1 rfl rfl (U5 rfl (aO ?_))
           intro au aq
           refine⟨_,?Ik,⟨i7+1,_,_,rfl,aq.sub ⟨rfl,rfl,rfl,rfl,rfl,rfl,trivial⟩,vk.pick [1,2,3,4,5] [_,_,_,_,_] (by decide) ⟨rfl,rfl,rfl,rfl,rfl,trivial⟩,?G9,?G8⟩⟩
           case G9=>omega
           case G8=>(refine seven Fu (by omega) ?_;show(⟨ga nu (ga cl (cK (ga oc i7) 0).toNat).toNat,ga nu (ga cl (cK (ga oc i7) 1).toNat).toNat,ga nu (ga cl (cK (ga oc i7) 2).toNat).toNat,ga nu (ga cl (cK (ga oc i7) 3).toNat).toNat,(ga oc i7).plus⟩:Cr)=_;rw[nr 0 (by omega),nr 1 (by omega),nr 2 (by omega),nr 3 (by omega)];rfl)
           case Ik=>omega
          ·refine bP rfl rfl (ah [6,10] rfl (U3 (U2 Zn5 Zn6 rfl rfl rfl (U0 rfl (af 0 rfl (U8 (us:=[_,_]) rfl rfl ay rfl aA (j5.aw (i:=2) rfl ⟨rfl,rfl,trivial⟩)) (ak 1 2 rfl rfl rfl (U6 (i:=4) (us:=[_,_]) (l':=[_,_]) (H':=[_,_,_,_,_]) rfl rfl j5 rfl rfl rfl rfl aA rfl (dD (j5.one (i:=1) rfl) (dD rfl rfl)) rfl rfl ?_)))))))
           intro adV Az;clear j5
           refine U5 rfl (ah [6] rfl (U3 ?_))
           obtain⟨M59,sw,nV,⟨A3,c3,e3,hr3⟩⟩:=Az.fZ (i:=1) (H':=[_,_,_,_,_]) rfl rfl (by show _*40<=_;first|omega|(simp only[ls];omega))
           clear Az;subst e3
           replace bu:=bu.mono (Hp.Ua sw nV.mx)
           replace hsc:=hsc.mono (Hp.Ua sw nV.mx)
           replace hsi:=hsi.mono (Hp.Ua sw nV.mx)
           replace aK:=aK.mono (Hp.Ua sw nV.mx)
           replace iH:=iH.mono (Hp.Ua sw nV.mx)
           replace hr1:=hr1.mono sw
           replace hr2:=hr2.mono sw
           refine Uk hC [_] rfl rfl ⟨⟨_,rfl,Um (us:=[_,_]) ay rfl aA (nV.aw (i:=4) rfl ⟨rfl,rfl,trivial⟩)⟩,trivial⟩ ?_
           refine⟨_,rfl,_,(wW.trans uD).trans sw,(nV.pick [] [] (by decide) trivial),?_⟩
           obtain rfl:i7=oc.length:=by omega
           have e9:(bB d (bh gs)).ae=c7:=by rw[Fu,List.take_length,List.drop_length,List.append_nil,mB,nQ];rfl
           have e8:(bB d (bh gs)).loops=d.loops+(cn (fh cl oc) (2*d.ae.length+1):Int):=by rw[mB,nQ];rfl
           rw[e9,e8]
           exact⟨_,_,rfl,hr3⟩
end Go.Proofs.YthppkofceancjaaGreat
namespace Go.Proofs.YthppkofceancjaaGreat
open Go.ChangeShapes Go.WideShapes Go.ChangeAt Go.RowKit
namespace InF
def C0:Go.Proofs.YthppkofceancjaaGreat.Ctx:=⟨default,fun _ _=>False⟩
section
variable {P : Program} {n : Nat} {C : InF.Ctx} {c : Code} {s : List K} {L : List (Nat × Value)} {w : World} {M Mb : Hp} {X : Fr} {H Hb : List Rs} {l : Array Bool} {f : Nat}
def sk(P:Program)(C:InF.Ctx)(s:List K):List K:=[.lp fun a w=>InF.post P C s .normal a w]
theorem abk{ch:List PanicEntry}{a:Act}{w:World}(h:Go.Proofs.YthppkofceancjaaGreat.post P C0 (sk P C s) (.panic ch) a w):False:=h.2
theorem acF(h:LetsOut (Go.Proofs.YthppkofceancjaaGreat.post P C0 (sk P C s))):False:=by
 obtain⟨a,w,h⟩:=h
 exact h
theorem ai0{o:Oper}{a:Act}{w:World}{next:Act->World->Prop}(hnd:∀c,o.op≠.defer c)(h:o.wp P a w next (Go.Proofs.YthppkofceancjaaGreat.post P C0 (sk P C s))):o.wpIn C.F 0 P a w next (InF.post P C s):=by
 refine⟨fun f _=>C.qY f,?_⟩
 rw[Oper.semAt_eq _ _ _ hnd]
 unfold Oper.wp at h
 generalize (execOp a.eval o).run P w=r at h
 cases r with
 |ok nx w'=>
  cases nx with
  |value v=>exact h
  |skip=>exact h
  |defer d=>exact h
  |enter f args=>
   refine⟨C.tG,CR C (Calls.mono h ?_)⟩
   rintro e w2 hh
   cases e with
   |returned v=>exact hh
   |panicked chain=>exact(abk hh).elim
   |outgrown=>exact(acF hh).elim
  |row row args=>exact⟨C.tG,H7 C h⟩
  |_=>exact h.elim
 |halt x w'=>
  cases x with
  |panic v=>exact(abk h).elim
  |_=>exact h.elim
theorem aiA{ops:Array Oper}{j:Nat}{K:Act->World->Prop}{a:Act}{w:World}(hnd:ops.toList.all sL=true)(h:wpOp P ops (Go.Proofs.YthppkofceancjaaGreat.post P C0 (sk P C s)) j K a w):wpOpIn C.F 0 P ops (InF.post P C s) j K a w:=by
 unfold wpOp at h
 unfold wpOpIn
 cases ho:ops[j]? with
 |none=>simp only[ho]at h ⊢;exact h
 |some o=>
  simp only[ho]at h ⊢
  split
  ·rename_i hw
   simp only[hw,if_true]at h
   rcases h with h|⟨_,h⟩
   ·refine ai0 (Gc ?_) h
    obtain⟨hj,e⟩:=Array.getElem?_eq_some_iff.1 ho
    exact List.all_eq_true.1 hnd o (by rw[<-e];exact Array.getElem_mem_toList hj)
   ·exact(acF h).elim
  ·rename_i hw
   simp only[hw]at h
   exact⟨fun f _=>C.qY f,h⟩
theorem adK{ops:Array Oper}{md:Region.Mode}(hnd:ops.toList.all sL=true):∀(f:Nat) (l:Array Bool) (a:Act) (Mb:Hp) (Hb:List Rs) (M:Hp) (H:List Rs) (w:World),SH w M X H->Down md ops l->gP P md ops (Go.Proofs.YthppkofceancjaaGreat.post P C0 (sk P C s)) X f l a Mb Hb M H->wpAnyIn C.F 0 P md ops (InF.post P C s) f l a w:=by
 intro f
 induction f with
 |zero=>intro l a Mb Hb M H w S _ h;exact h w S
 |succ f ih=>
  intro l a Mb Hb M H w S hd h
  obtain⟨h0,h1⟩:=h w S hd
  refine⟨h0,fun j hj=>wpOpIn_mono (fun a2 w2 hc=>?_) (aiA hnd (h1 j hj))⟩
  obtain⟨M2,H2,S2,⟨_,hc⟩|⟨_,hc⟩⟩:=hc
  ·exact ih _ _ _ _ _ _ _ S2 (yN hd hj) hc
  ·exact ih _ _ _ _ _ _ _ S2 (yN hd hj) hc
theorem bM(hk:kind c=8)(hm:P.follows .mixedOrders=true)(S:SH w M X H)(f:Nat)(hf:(rg c).size=f)(h:WA P n C0 c (sk P C s) X f (Array.replicate f false) L M H M H)(hnd:(rg c).toList.all sL=true:=by rfl):InF.WS P n C c s L w:=by
 intro a ha
 rw[BN hk]
 refine wpIn_region_any hm ?_
 rw[hf]
 exact adK hnd _ _ _ _ _ _ _ _ (S.kp ⟨rfl,rfl,rfl,Nat.le_refl _⟩ fun _ _=>rfl) (BJ _) (h (Grown.refl _ _) a ha)
theorem jM(N Hb:List Rs)(hk:kind c=8)(hm:P.follows .mixedOrders=true)(S:SH w M X (N++Hb))(f:Nat)(hf:(rg c).size=f)(h:WA P n C0 c (sk P C s) X f (Array.replicate f false) L M Hb M (N++Hb))(hnd:(rg c).toList.all sL=true:=by rfl):InF.WS P n C c s L w:=by
 intro a ha
 rw[BN hk]
 refine wpIn_region_any hm ?_
 rw[hf]
 exact adK hnd _ _ _ _ _ _ _ _ (S.kp ⟨rfl,rfl,rfl,Nat.le_refl _⟩ fun _ _=>rfl) (BJ _) (h ⟨Hp.le_refl _,N,rfl⟩ a ha)
theorem Uu(hr:Region.ready .any (rg c) l=[])(h:∀w,SH w M X H->InF.NM P n C s L w):WA P n C0 c (sk P C s) X f l L Mb Hb M H:=
 Go.Proofs.YthppkofceancjaaGreat.Uu hr fun w S a ha=>h w S a ha
end
end InF
theorem kg{P:Program}{n:Nat}{C:Ctx}{c:Code}{s:List K}{X:Fr}{f:Nat}{l:Array Bool}{L:List (Nat×Value)}{M Mb:Hp}{H Hb:List Rs}(t:Nat){v:Value}(v':Value)(hl:lk L t=some v)(e:v=v')(h:WA P n C c s X f l ((t,v')::L) Mb Hb M H):WA P n C c s X f l L Mb Hb M H:=by
 subst e
 exact fun hg a ha=>h hg a ⟨ha.sz,ha.df,fun u x hx=>by
  rw[ql]at hx
  split at hx
  ·rename_i e;subst e;injection hx with hx;subst hx;exact ha.at_ _ _ hl
  ·exact ha.at_ _ _ hx⟩
end Go.Proofs.YthppkofceancjaaGreat
