/- Part 4 of the proof of the law KhovanovTells: the walks through its functions and the plain laws that they need. -/
import Derived.Test.YthppkofceancjaaGreatKhX3
set_option linter.unusedSimpArgs false
set_option linter.unusedVariables false
noncomputable section
namespace Go.Proofs.YthppkofceancjaaGreat
open Go.ChangeShapes Go.WideShapes Go.ChangeAt Go.RowKit
def Bd(l:List Tm)(B:Nat):Prop:=∀t∈l,-(B:Int)<=t.e/\t.e<=B
theorem Bd.mono{l:List Tm}{B C:Nat}(h:Bd l B)(k:B<=C):Bd l C:=fun t ht=>by have:=h t ht;omega
theorem adw{l:List Tm}{B:Nat}(h:Bd l B){e c:Int}(he:-(B:Int)<=e/\e<=B):Bd (put l e c) B:=fun t ht=>by
 rcases acs ht with e1|h1
 ·rw[e1];exact he
 ·exact h t h1
theorem JC:∀{ks:List Int}{lo hi:Int},ks.Pairwise (fun a b=>a<b)->(∀k∈ks,lo<=k/\k<=hi)->lo<=hi+1->(ks.length:Int)<=hi-lo+1
 |[],lo,hi,_,_,h=>by simp;omega
 |k::ks,lo,hi,hp,hb,h=>by
  obtain⟨h1,h2⟩:=List.pairwise_cons.1 hp
  have hk:=hb k (by simp)
  have:=JC (lo:=k+1) (hi:=hi) h2 (fun j hj=>⟨by have:=h1 j hj;omega,(hb j (by simp[hj])).2⟩) (by omega)
  simp only[List.length_cons]
  omega
theorem JL{l:List Tm}{B:Nat}(h:Can l)(hb:Bd l B):l.length<=2*B+1:=by
 have:=JC (ks:=l.map (·.e)) (lo:=-(B:Int)) (hi:=B) (by rw[List.pairwise_map];exact h.1) (fun k hk=>by
  obtain⟨t,ht,rfl⟩:=List.mem_map.1 hk
  exact hb t ht) (by omega)
 rw[List.length_map]at this
 omega
def jO(es:List (Int×Int))(B:Nat):Prop:=(es.map Prod.fst).Nodup/\∀q∈es,(-(B:Int)<=q.1/\q.1<=B)/\wr q.2=q.2
theorem jO.bN(B:Nat):jO [] B:=⟨by simp,by simp⟩
theorem jO.mono{es:List (Int×Int)}{B C:Nat}(h:jO es B)(k:B<=C):jO es C:=⟨h.1,fun q hq=>by have:=h.2 q hq;exact⟨by omega,this.2⟩⟩
theorem anh{k v:Int}{es:List (Int×Int)}{q:Int×Int}(h:q∈mp k v es):q=(k,v)\/q∈es:=by
 induction es with
 |nil=>simp[mp]at h;exact .inl h
 |cons p r ih=>
  unfold mp at h
  split at h
  ·rcases List.mem_cons.1 h with e|h
   ·exact .inl e
   ·exact .inr (by simp[h])
  ·rcases List.mem_cons.1 h with e|h
   ·exact .inr (by simp[e])
   ·rcases ih h with e|h
    ·exact .inl e
    ·exact .inr (by simp[h])
theorem alD(k v:Int)(es:List (Int×Int)):(mp k v es).map Prod.fst=if k∈es.map Prod.fst then es.map Prod.fst else es.map Prod.fst++[k]:=by
 induction es with
 |nil=>simp[mp]
 |cons p r ih=>
  unfold mp
  by_cases h:k=p.1
  ·rw[if_pos h];simp[h]
  ·rw[if_neg h,List.map_cons,ih]
   by_cases h2:k∈r.map Prod.fst
   ·rw[if_pos h2,if_pos (by rw[List.map_cons];exact List.mem_cons_of_mem _ h2),List.map_cons]
   ·rw[if_neg h2,if_neg (by rw[List.map_cons];intro h3;exact(List.mem_cons.1 h3).elim h h2),List.map_cons,List.cons_append]
theorem alE{es:List (Int×Int)}{B:Nat}(h:jO es B){k v:Int}(hk:-(B:Int)<=k/\k<=B)(hv:wr v=v):jO (mp k v es) B:=by
 refine⟨?_,fun q hq=>?_⟩
 ·rw[alD]
  split
  ·exact h.1
  ·rename_i hn
   exact List.nodup_append.2 ⟨h.1,by simp,fun a ha b hb=>by simp at hb;subst hb;exact fun e=>hn (e▸ha)⟩
 ·rcases anh hq with rfl|hq
  ·exact⟨hk,hv⟩
  ·exact h.2 q hq
theorem apd(k v:Int)(es:List (Int×Int)):mk (mp k v es)=mk es+mono k (v-(mg k es).getD 0):=by
 induction es with
 |nil=>
  show mk [(k,v)]=aC.o+mono k (v-0)
  rw[aC.zero_add,Int.sub_zero];rfl
 |cons p r ih=>
  unfold mp mg
  by_cases h:k=p.1
  ·rw[if_pos h,if_pos h,ue,ue]
   subst h
   show mono p.1 v+mk r=mono p.1 p.2+mk r+mono p.1 (v-p.2)
   rw[aC.add_assoc,aC.add_comm (mk r),<-aC.add_assoc,<-Ja,show p.2+(v-p.2)=v by omega]
  ·rw[if_neg h,if_neg h,ue,ue,ih,aC.add_assoc]
theorem aaW(k c:Int)(es:List (Int×Int)):mk (mp k (wr ((mg k es).getD 0+c)) es)=mk es+mono k c:=by
 rw[apd]
 refine congrArg _ (Ew rfl ?_)
 have h1:=Bl (BQ ((mg k es).getD 0+c)) (rfl:md (-(mg k es).getD 0)=_)
 rw[show wr ((mg k es).getD 0+c) -(mg k es).getD 0=wr ((mg k es).getD 0+c)+-(mg k es).getD 0 by omega,h1]
 congr 1;omega
theorem adK{es:List (Int×Int)}(h:(es.map Prod.fst).Nodup){q:Int×Int}(hq:q∈es):(mg q.1 es).getD 0=q.2:=by
 induction es with
 |nil=>simp at hq
 |cons p r ih=>
  obtain⟨h1,h2⟩:=List.nodup_cons.1 (by simpa using h:(p.1::r.map Prod.fst).Nodup)
  unfold mg
  rcases List.mem_cons.1 hq with rfl|hq
  ·rw[if_pos rfl];rfl
  ·rw[if_neg (fun e=>h1 (by rw[<-e];exact List.mem_map.2 ⟨q,hq,rfl⟩))]
   exact ih h2 hq
theorem alL{es:List (Int×Int)}{k:Int}(h:k∉es.map Prod.fst):(mg k es).getD 0=0:=by
 induction es with
 |nil=>rfl
 |cons p r ih=>
  unfold mg
  rw[if_neg (fun e=>h (by simp[e]))]
  exact ih fun h2=>h (by rw[List.map_cons];exact List.mem_cons_of_mem _ h2)
theorem anl{es:List (Int×Int)}{B:Nat}(h:jO es B)(k:Int):wr ((mg k es).getD 0)=(mg k es).getD 0:=by
 by_cases hk:k∈es.map Prod.fst
 ·obtain⟨q,hq,rfl⟩:=List.mem_map.1 hk
  rw[adK h.1 hq];exact(h.2 q hq).2
 ·rw[alL hk];exact pP (by omega)
theorem AQ{ks:List Int}(h:ks.Nodup):(cC ks).Pairwise (fun a b=>a<b):=by
 have h1:(cC ks).Pairwise (fun a b=>decide (a<=b)=true):=List.pairwise_mergeSort (fun a b c h1 h2=>by simp at*;omega) (fun a b=>by simp;omega) ks
 have h2:(cC ks).Nodup:=(Au ks).nodup_iff.2 h
 exact(h1.and h2).imp fun{a b} h=>by have:=h.1;have:=h.2;simp at*;omega
theorem abY{es:List (Int×Int)}{B:Nat}(h:jO es B):es.length<=2*B+1:=by
 have:=JC (ks:=cC (es.map Prod.fst)) (lo:=-(B:Int)) (hi:=B) (AQ h.1) (fun k hk=>by
  obtain⟨q,hq,rfl⟩:=List.mem_map.1 (n9.1 hk)
  exact(h.2 q hq).1) (by omega)
 rw[AP,List.length_map]at this
 omega
def fm(es:List (Int×Int))(ks:List Int):List Tm:=ks.flatMap fun e=>if(mg e es).getD 0=0 then[]else[⟨e,(mg e es).getD 0⟩]
theorem acP(es:List (Int×Int))(ks:List Int)(e:Int):fm es (ks++[e])=fm es ks++(if(mg e es).getD 0=0 then[]else[⟨e,(mg e es).getD 0⟩]):=by
 unfold fm;rw[List.flatMap_append];simp
theorem KB{es:List (Int×Int)}{ks:List Int}{t:Tm}(h:t∈fm es ks):t.e∈ks/\t.c=(mg t.e es).getD 0/\t.c≠0:=by
 obtain⟨e,he,ht⟩:=List.mem_flatMap.1 h
 split at ht
 ·simp at ht
 ·rename_i h0
  simp at ht;subst ht;exact⟨he,rfl,h0⟩
theorem adR(es:List (Int×Int))(ks:List Int):(fm es ks).length<=ks.length:=by
 induction ks with
 |nil=>simp[fm]
 |cons k ks ih=>
  have:fm es (k::ks)=(if(mg k es).getD 0=0 then[]else[⟨k,(mg k es).getD 0⟩])++fm es ks:=by unfold fm;rw[List.flatMap_cons]
  rw[this,List.length_append,List.length_cons]
  split<;>simp<;>omega
theorem KC{es:List (Int×Int)}:∀{ks:List Int},ks.Pairwise (fun a b=>a<b)->(fm es ks).Pairwise (fun s t=>s.e<t.e)
 |[],_=>List.Pairwise.nil
 |k::ks,h=>by
  obtain⟨h1,h2⟩:=List.pairwise_cons.1 h
  have e:fm es (k::ks)=(if(mg k es).getD 0=0 then[]else[⟨k,(mg k es).getD 0⟩])++fm es ks:=by unfold fm;rw[List.flatMap_cons]
  rw[e]
  split
  ·exact KC h2
  ·exact List.pairwise_cons.2 ⟨fun t ht=>h1 _ (KB ht).1,KC h2⟩
theorem ape(es:List (Int×Int))(ks:List Int):mk (pr (fm es ks))=mk (ks.map fun e=>(e,(mg e es).getD 0)):=by
 induction ks with
 |nil=>rfl
 |cons k ks ih=>
  have e:fm es (k::ks)=(if(mg k es).getD 0=0 then[]else[⟨k,(mg k es).getD 0⟩])++fm es ks:=by unfold fm;rw[List.flatMap_cons]
  rw[e,List.map_cons,ue,<-ih]
  split
  ·rename_i h0
   show mk (pr (fm es ks))=mono k ((mg k es).getD 0)+_
   rw[h0,Aj,aC.zero_add]
  ·rfl
def yX(es:List (Int×Int)):List Tm:=fm es (cC (es.map Prod.fst))
theorem abN{es:List (Int×Int)}{B:Nat}(h:jO es B):mk (pr (yX es))=mk es:=by
 unfold yX
 rw[ape,alH ((Au (es.map Prod.fst)).map _),List.map_map]
 refine congrArg mk ?_
 conv=>rhs;rw[<-List.map_id es]
 refine List.map_congr_left fun q hq=>?_
 show(q.1,(mg q.1 es).getD 0)=q
 rw[adK h.1 hq]
theorem abT{es:List (Int×Int)}{B:Nat}(h:jO es B):Bd (yX es) B:=fun t ht=>by
 obtain⟨q,hq,e⟩:=List.mem_map.1 (n9.1 (KB ht).1)
 rw[<-e];exact(h.2 q hq).1
theorem aa6{es:List (Int×Int)}{B:Nat}(h:jO es B)(hB:B<=1099511627776):Can (yX es):=by
 refine⟨KC (AQ h.1),fun t ht=>?_⟩
 obtain⟨h1,h2,h3⟩:=KB ht
 have:=abT h t ht
 exact⟨h3,by rw[h2];exact anl h _,pP (by omega)⟩
def Wk(N:Hp)(g:Nat)(B:Nat)(p:aC):Prop:=∃es,eF (Value.int .i64) (Value.int .i64) g es N/\jO es B/\mk es=p
theorem Wk.mono{N N':Hp}{g B:Nat}{p:aC}(h:Wk N g B p)(k:N.le N'):Wk N' g B p:=by
 obtain⟨es,h1,h2⟩:=h
 exact⟨es,h1.mono k,h2⟩
def UZ(o:Option Nat):List Value:=[.map o]
theorem alG(o:Option Nat):∀u∈UZ o,u.oneCell'=true:=fun u hu=>by
 simp[UZ]at hu;subst hu;rfl
def nz(E:TypeId):Cd (Option Nat):=⟨UZ,1,8,E,none,fun _=>rfl,alG⟩
def Wks(bf:Nat->Nat)(N:Hp)(gs:List (Option Nat))(ps:List (Option aC)):Prop:=gs.length=ps.length/\∀i,i<gs.length->match ga ps i with
 |some p=>∃g,ga gs i=some g/\Wk N g (bf i) p
 |none=>ga gs i=none
section
variable {bf : Nat → Nat} {N N' : Hp} {gs : List (Option Nat)} {ps : List (Option aC)}
theorem Wks.mono(h:Wks bf N gs ps)(k:N.le N'):Wks bf N' gs ps:=⟨h.1,fun i hi=>by
 have:=h.2 i hi
 split at this
 ·obtain⟨g,h1,h2⟩:=this
  exact⟨g,h1,h2.mono k⟩
 ·exact this⟩
theorem Wks.bN(bf:Nat->Nat)(N:Hp):Wks bf N [] []:=⟨rfl,fun i hi=>by simp at hi⟩
end
def CR(bf:Nat->Nat)(N:Hp)(zR:List (List (Option Nat)))(bA:List (List (Option aC))):Prop:=zR.length=bA.length/\∀i,i<zR.length->Wks bf N (ga zR i) (ga bA i)
section
variable {bf : Nat → Nat} {N N' : Hp} {zR : List (List (Option Nat))} {bA : List (List (Option aC))}
theorem CR.mono(h:CR bf N zR bA)(k:N.le N'):CR bf N' zR bA:=⟨h.1,fun i hi=>(h.2 i hi).mono k⟩
theorem CR.bN(bf:Nat->Nat)(N:Hp):CR bf N [] []:=⟨rfl,fun i hi=>by simp at hi⟩
end
end Go.Proofs.YthppkofceancjaaGreat
namespace Go.Proofs.YthppkofceancjaaGreat
open Go.ChangeShapes Go.WideShapes Go.ChangeAt Go.RowKit
structure Da where
 a:Int
 b:Bool
instance :Inhabited Da:=⟨⟨0,false⟩⟩
instance :DecidableEq Da:=fun x y=>decidable_of_iff (x.a=y.a/\x.b=y.b) ⟨fun h=>by cases x;cases y;simp at h;simp[h],fun h=>by rw[h];exact⟨rfl,rfl⟩⟩
def zT(x:Da):List Value:=[.int .i64 x.a,.bool x.b]
def gN:Cd Da:=⟨zT,2,16,26,⟨0,false⟩,fun _=>rfl,by
 intro x u hu
 simp[zT]at hu
 rcases hu with rfl|rfl<;>rfl⟩
def okD(d:Dg)(x:Da):Prop:=1<=x.a/\x.a<=2*(d.ae.length:Int)
def lI(d:Dg)(x:Da):Da:=⟨cz d (aX d x.a x.b).1 (((aX d x.a x.b).2+3)%4),cm d (aX d x.a x.b).1 (((aX d x.a x.b).2+3)%4)⟩
theorem iN{d:Dg}(h:Uu d=true){i k:Nat}(hi:i<d.ae.length)(hk:k<4):1<=cz d i k/\cz d i k<=2*(d.ae.length:Int):=by
 have:=tL h (j:=4*i+k) (by omega)
 unfold bh at this
 rwa [show(4*i+k)/4=i by omega,show(4*i+k)%4=k by omega]at this
theorem nH{d:Dg}(h:Uu d=true){a:Int}(ha:1<=a/\a<=2*(d.ae.length:Int))(b:Bool):(aX d a b).1<d.ae.length/\(aX d a b).2<4/\ga (aN d b (4*d.ae.length)) a.toNat=aX d a b/\a.toNat<2*d.ae.length+1/\a=(a.toNat:Int):=by
 have e:a=(a.toNat:Int):=by omega
 obtain⟨h1,h2,h3,_⟩:=ab0 h (a:=a.toNat) (by omega) (by omega) b
 rw[<-e]at h1 h2 h3
 refine⟨h1,h2,?_,by omega,e⟩
 rw[tO (by omega),<-e]
 exact h3
theorem abP{d:Dg}(h:Uu d=true){x:Da}(hx:okD d x):okD d (lI d x):=by
 obtain⟨h1,h2,_⟩:=nH h hx x.b
 exact iN h h1 (Nat.mod_lt _ (by decide))
theorem mH:fN Tryz.prog 22 bw:=⟨.agg [.int .i64 0,.int .i64 0,.int .i64 0,.int .i64 0,.bool false].toArray,bF,by kernel_rfl,rfl,by decide,by decide⟩
theorem Gg:fN Tryz.prog 68 cw:=⟨.agg [.int .i64 0,.int .i64 0].toArray,y9,by kernel_rfl,rfl,by decide,by decide⟩
theorem wF:fN Tryz.prog 141 gN:=⟨.agg [.int .i64 0,.bool false].toArray,FO,by kernel_rfl,rfl,by decide,by decide⟩
theorem FT:fN Tryz.prog 179 (nz 180):=⟨.map none,aoO,by kernel_rfl,rfl,by decide,by decide⟩
noncomputable def Z0:=Tryz.f115.body.getD .skip
def Z1:=cL Z0
def Z2:=cR Z0
def Z3:=cL Z2
def Z4:=cR Z2
set_option maxRecDepth 10000 in
theorem aqC{w:World}{M:Hp}{X:Fr}(x:Cr)(k:Nat)(hk:k<4)(S:SH w M X []):Cq Tryz.prog 115 [.agg [.int .i64 x.a,.int .i64 x.b,.int .i64 x.c,.int .i64 x.d,.bool x.plus].toArray,.int .i64 (k:Int)] w M X (fun u=>u=.int .i64 (wZ x k)):=by
 unfold Cq
 refine Up (b:=Z0) Tryz.func115 rfl Tryz.ntmps115 rfl (fun C hC=>(bu [(0,_),(1,_)] ⟨rfl,rfl,trivial⟩ (U1 Z1 Z2 rfl rfl rfl (U0 rfl (ar 0 1 rfl rfl rfl (cU (l:=[_,_,_,_,_]) rfl rfl rfl rfl rfl S ?_))))))
 intro aI w1 S1;clear S
 refine af 1 1 rfl rfl (U3 rfl (ah [1,2] rfl (U2 (U1 Z3 Z4 rfl rfl rfl (U0 rfl (ag 0 rfl (U4 rfl rfl bR rfl (aL) (aJ)) (ag 1 rfl (U5 rfl rfl aw rfl (S1.aG (i:=0) rfl rfl)) (ag 2 rfl (U4 rfl rfl bR rfl (aL) (aJ)) ?_))))))))
 refine ag 3 rfl (U5 rfl rfl aw rfl (S1.aG (i:=0) rfl rfl)) (ag 4 rfl (U4 rfl rfl bR rfl (aL) (aJ)) (ag 5 rfl (U5 rfl rfl aw rfl (S1.aG (i:=0) rfl rfl)) (ag 6 rfl (U4 rfl rfl bR rfl (aL) (aJ)) (ag 7 rfl (U5 rfl rfl aw rfl (S1.aG (i:=0) rfl rfl)) (ag 8 rfl (xZ (l:=[_,_,_,_]) (pl:=[(0,1),(1,1),(2,1),(3,1)]) rfl rfl aem aoI dw rfl rfl rfl) (af 9 1 rfl rfl (ag 10 rfl (aaq (e:=k) rfl rfl rfl aem aw rfl dw (by first|rfl|omega) (by first|omega|(simp only[ls];omega)) (am9 [x.a,x.b,x.c,x.d] k (by simp;first|omega|(simp only[ls];omega)))) ?_)))))))
 refine af 11 1 rfl rfl (U3 rfl (ah [4] rfl (U2 (Us hC [_] rfl rfl ⟨rfl,trivial⟩ ?_))))
 exact⟨_,rfl,(S1.pick [] [] (by decide) trivial),(by have e0:k=0\/k=1\/k=2\/k=3:=(by omega);rcases e0 with rfl|rfl|rfl|rfl<;>first|rfl|(exfalso;omega))⟩
noncomputable def Z5:=Tryz.f170.body.getD .skip
def Z6:=cL Z5
def Z7:=cR Z5
def Z8:=cL Z7
def Z9:=cR Z7
def Za:=cL Z8
def Zb:=cR Z8
def Zc:=cL Zb
def Zd:=cR Zb
def Ze:=cL Zc
def Zf:=cR Zc
def Zg:=cL Z9
def Zh:=cR Z9
set_option maxRecDepth 10000 in
theorem akN{w:World}{M:Hp}{X:Fr}(x:Cr)(S:SH w M X []):Cq Tryz.prog 170 [.agg [.int .i64 x.a,.int .i64 x.b,.int .i64 x.c,.int .i64 x.d,.bool x.plus].toArray] w M X (fun u=>u=.int .i64 (uj x:Int)):=by
 unfold Cq
 refine Up (b:=Z5) Tryz.func170 rfl Tryz.ntmps170 rfl (fun C hC=>(bu [(0,_)] ⟨rfl,trivial⟩ (U1 Z6 Z7 rfl rfl rfl (U0 rfl (ar 0 1 rfl rfl rfl (cU (l:=[_,_,_,_,_]) rfl rfl rfl rfl rfl S ?_))))))
 intro aI w1 S1;clear S
 refine af 1 1 rfl rfl (U3 rfl (ah [1] rfl (U2 (U1 Z8 Z9 rfl rfl rfl (U1 Za Zb rfl rfl rfl (U0 rfl (ag 0 rfl (U4 rfl rfl bR rfl (rF) (rh)) (ag 1 rfl (U5 rfl rfl gD rfl (S1.aG (i:=0) rfl rfl)) ?_))))))))
 refine U3 rfl (ah [4] rfl (U2 ?_))
 refine dH Zc Zd rfl rfl rfl rfl (fun hb4=>?_) (fun hb4=>?_)
 ·refine U1 Ze Zf rfl rfl rfl (U0 rfl (af 0 1 rfl rfl (U3 rfl (ah [2] rfl (U2 (Us hC [_] rfl rfl ⟨rfl,trivial⟩ ?_))))))
  exact⟨_,rfl,(S1.pick [] [] (by decide) trivial),(by show Value.int _ _=_;unfold uj;rw[hb4];rfl)⟩
 ·refine Ub rfl (Uw [] trivial (U2 (U1 Zg Zh rfl rfl rfl (U0 rfl (af 0 1 rfl rfl (U3 rfl (U2 (Us hC [_] rfl rfl ⟨rfl,trivial⟩ ?_))))))))
  exact⟨_,rfl,(S1.pick [] [] (by decide) trivial),(by show Value.int _ _=_;unfold uj;rw[hb4];rfl)⟩
noncomputable def Zi:=Tryz.f133.body.getD .skip
def Zj:=cL Zi
def Zk:=cR Zi
def Zl:=cL Zk
def Zm:=cR Zk
set_option maxRecDepth 10000 in
theorem ade{w:World}{M:Hp}{X:Fr}(x:Cr)(k:Nat)(hk:k<4)(S:SH w M X []):Cq Tryz.prog 133 [.agg [.int .i64 x.a,.int .i64 x.b,.int .i64 x.c,.int .i64 x.d,.bool x.plus].toArray,.int .i64 (k:Int)] w M X (fun u=>u=.bool (nI x k)):=by
 unfold Cq
 refine Up (b:=Zi) Tryz.func133 rfl Tryz.ntmps133 rfl (fun C hC=>(bu [(0,_),(1,_)] ⟨rfl,rfl,trivial⟩ (U1 Zj Zk rfl rfl rfl (U0 rfl (ar 0 1 rfl rfl rfl (cU (l:=[_,_,_,_,_]) rfl rfl rfl rfl rfl S ?_))))))
 intro aI w1 S1;clear S
 refine af 1 1 rfl rfl (U3 rfl (ah [1,2] rfl (U2 (U1 Zl Zm rfl rfl rfl (U0 rfl (af 0 1 rfl rfl (ag 1 rfl (Uz rfl rfl rfl) (af 2 1 rfl rfl ?_))))))))
 refine Uy (t:=7) rfl (fun hg7=>?_) (fun hg7=>?_)
 ·refine af 3 6 rfl rfl (U3 rfl (ah [4] rfl (U2 (Us hC [_] rfl rfl ⟨rfl,trivial⟩ ?_))))
  exact⟨_,rfl,(S1.pick [] [] (by decide) trivial),(by show Value.bool _=_;refine congrArg Value.bool ?_;unfold nI;first|(symm;rw[decide_eq_true_iff];left;omega)|(unfold uj;refine decide_eq_decide.2 ?_;cases hp9:x.plus<;>simp<;>omega))⟩
 ·refine af 3 1 rfl rfl (aP 4 5 rfl rfl rfl rfl rfl rfl rfl rfl (U8 rfl rfl (Uc (us:=[_,_,_,_,_]) rfl rfl bR rfl kT (S1.aY (i:=0) rfl ⟨rfl,rfl,rfl,rfl,rfl,trivial⟩)) (aP 5 6 rfl rfl rfl rfl rfl rfl rfl rfl (gJ rfl rfl rfl rfl rfl rfl rfl aqh S1 (akN x S1.aR) ?_))))
  rintro _ w2 S2 rfl;clear S1
  refine aP 6 7 rfl rfl rfl rfl rfl rfl rfl rfl (U8 rfl rfl (Uz rfl rfl rfl) (af 7 2 rfl rfl (U3 rfl (ah [4] rfl (U2 (Us hC [_] rfl rfl ⟨rfl,trivial⟩ ?_))))))
  exact⟨_,rfl,(S2.pick [] [] (by decide) trivial),(by show Value.bool _=_;refine congrArg Value.bool ?_;unfold nI;first|(symm;rw[decide_eq_true_iff];left;omega)|(unfold uj;refine decide_eq_decide.2 ?_;cases hp9:x.plus<;>simp<;>omega))⟩
noncomputable def Zn:=Tryz.f129.body.getD .skip
def Zo:=cL Zn
def Zp:=cR Zn
def Zq:=cL Zp
def Zr:=cR Zp
set_option maxRecDepth 10000 in
theorem ah8{w:World}{M:Hp}{X:Fr}(d:Dg){bp:Nat}{cA iA oA:Option Addr}{cc ic oc:Nat}(c k:Nat)(aH:bQ (M.un X.h) bp 70 [.slice cA d.ae.length cc,.int .i64 d.loops,.slice iA (aN d false (4*d.ae.length)).length ic,.slice oA (aN d true (4*d.ae.length)).length oc])(hsc:aB bw (M.un X.h) cA cc d.ae)(hsi:aB cw (M.un X.h) iA ic (aN d false (4*d.ae.length)))(aM:aB cw (M.un X.h) oA oc (aN d true (4*d.ae.length)))(hc:c<d.ae.length)(hk:k<4)(S:SH w M X []):Cq Tryz.prog 129 [.pointer (some ⟨bp,0,none⟩),.agg [.int .i64 (c:Int),.int .i64 (k:Int)].toArray] w M X (fun u=>u=.int .i64 (cz d c k)):=by
 unfold Cq
 refine Up (b:=Zn) Tryz.func129 rfl Tryz.ntmps129 rfl (fun C hC=>(bu [(0,_),(1,_)] ⟨rfl,rfl,trivial⟩ (U1 Zo Zp rfl rfl rfl (U0 rfl (ar 0 1 rfl rfl rfl (cU (l:=[_,_]) rfl rfl rfl rfl rfl S ?_))))))
 intro aI w1 S1;clear S
 refine af 1 1 rfl rfl (U3 rfl (ah [0,3] rfl (U2 (U1 Zq Zr rfl rfl rfl (cM rfl (by kernel_rfl) S1 13 rfl ?_)))))
 clear S1
 refine aq 0 12 rfl (by kernel_rfl) (fun _=>run_move rfl rfl) ?_
 refine aq 1 11 rfl (by kernel_rfl) (fun _=>Ur rfl rfl) ?_
 refine aq 2 10 rfl (by kernel_rfl) (fun _=>U4 rfl rfl jM rfl (lY) (lN)) ?_
 refine aq 3 9 rfl (by kernel_rfl) (fun _=>U4 rfl rfl bg rfl (dV) (dS)) ?_
 refine au 4 8 rfl (by kernel_rfl) (fun _ _ _ aj Sz=>.inl (U5 rfl rfl bF rfl ((aH.mono (Hp.U6 aj Sz.mx)).cell Sz.um rfl))) ?_
 refine aq 5 7 rfl (by kernel_rfl) (fun _=>U4 rfl rfl iZ rfl (aL) (aJ)) ?_
 refine au 6 6 rfl (by kernel_rfl) (fun _ _ _ aj Sz=>.inl (U5 rfl rfl aw rfl (Sz.suf.aG (i:=0) rfl rfl))) ?_
 refine au 7 5 rfl (by kernel_rfl) (fun _ _ _ aj Sz=>.inl (U9 (C:=bw) c rfl rfl rfl mH (by first|rfl|omega) (hsc.mono (Hp.U6 aj Sz.mx)) (by first|omega|(simp only[ls];omega)))) ?_
 refine au 8 4 rfl (by kernel_rfl) (fun _ _ _ aj Sz=>.inl (Uc (us:=[_,_,_,_,_]) rfl rfl bR rfl kT ((hsc.mono (Hp.U6 aj Sz.mx)).fV Sz.um (e:=c) (by first|omega|(simp only[ls];omega)) (j:=0) ⟨rfl,rfl,rfl,rfl,rfl,trivial⟩))) ?_
 refine aq 9 3 rfl (by kernel_rfl) (fun _=>U4 rfl rfl iZ rfl (aL) (aJ)) ?_
 refine au 10 2 rfl (by kernel_rfl) (fun _ _ _ aj Sz=>.inl (U5 rfl rfl aw rfl (Sz.suf.aG (i:=0) rfl rfl))) ?_
 refine au 11 1 rfl (by kernel_rfl) (fun _ _ _ aj Sz=>jT rfl rfl rfl rfl rfl aqo Sz (aqC (ga d.ae c) k (by omega) Sz.aR)) ?_
 refine aq 12 0 rfl (by kernel_rfl) (fun _=>run_assign rfl rfl) ?_
 refine cF (by kernel_rfl) (fun De bT=>?_)
 refine ah [4] rfl (U2 (Us hC [_] rfl rfl ⟨rfl,trivial⟩ ?_))
 exact⟨_,rfl,(bT.pick [] [] (by decide) trivial),rfl⟩
noncomputable def Zs:=Tryz.f111.body.getD .skip
def Zt:=cL Zs
def Zu:=cR Zs
def Zv:=cL Zu
def Zw:=cR Zu
set_option maxRecDepth 10000 in
theorem ad8{w:World}{M:Hp}{X:Fr}(d:Dg){bp:Nat}{cA iA oA:Option Addr}{cc ic oc:Nat}(aH:bQ (M.un X.h) bp 70 [.slice cA d.ae.length cc,.int .i64 d.loops,.slice iA (aN d false (4*d.ae.length)).length ic,.slice oA (aN d true (4*d.ae.length)).length oc])(hsc:aB bw (M.un X.h) cA cc d.ae)(hsi:aB cw (M.un X.h) iA ic (aN d false (4*d.ae.length)))(aM:aB cw (M.un X.h) oA oc (aN d true (4*d.ae.length)))(hn:d.ae.length<=16)(S:SH w M X []):Cq Tryz.prog 111 [.pointer (some ⟨bp,0,none⟩)] w M X (fun u=>u=.int .i64 (2*(d.ae.length:Int))):=by
 unfold Cq
 refine Up (b:=Zs) Tryz.func111 rfl Tryz.ntmps111 rfl (fun C hC=>(bu [(0,_)] ⟨rfl,trivial⟩ (U1 Zt Zu rfl rfl rfl (U0 rfl (af 0 1 rfl rfl (U3 rfl (ah [0] rfl (U2 (U1 Zv Zw rfl rfl rfl ?_)))))))))
 refine U0 rfl (af 0 1 rfl rfl (ag 1 rfl (Ur rfl rfl) (ag 2 rfl (U4 rfl rfl jM rfl (lY) (lN)) (ag 3 rfl (U4 rfl rfl bg rfl (dV) (dS)) (ag 4 rfl (U5 rfl rfl bF rfl (aH.cell S.um rfl)) (ag 5 rfl (Uv rfl rfl rfl rfl rfl rfl bF) (ag 6 rfl (pj rfl rfl rfl (by first|omega|(simp only[ls];omega))) ?_)))))))
 refine af 7 1 rfl rfl (U3 rfl (ah [2] rfl (U2 (Us hC [_] rfl rfl ⟨rfl,trivial⟩ ?_))))
 exact⟨_,rfl,(S.pick [] [] (by decide) trivial),rfl⟩
end Go.Proofs.YthppkofceancjaaGreat
namespace Go.Proofs.YthppkofceancjaaGreat
open Go.ChangeShapes Go.WideShapes Go.ChangeAt Go.RowKit
noncomputable def Zx:=Tryz.f106.body.getD .skip
def Zy:=cL Zx
def Zz:=cR Zx
def Z10:=cL Zz
def Z11:=cR Zz
def Z12:=cL Z10
def Z13:=cR Z10
def Z14:=cL Z13
def Z15:=cR Z13
def Z16:=cL Z14
def Z17:=cR Z14
def Z18:=cL Z11
def Z19:=cR Z11
set_option maxRecDepth 10000 in
theorem ad7{w:World}{M:Hp}{X:Fr}(d:Dg){bp:Nat}{cA iA oA:Option Addr}{cc ic oc:Nat}(x:Da)(aH:bQ (M.un X.h) bp 70 [.slice cA d.ae.length cc,.int .i64 d.loops,.slice iA (aN d false (4*d.ae.length)).length ic,.slice oA (aN d true (4*d.ae.length)).length oc])(hsc:aB bw (M.un X.h) cA cc d.ae)(hsi:aB cw (M.un X.h) iA ic (aN d false (4*d.ae.length)))(aM:aB cw (M.un X.h) oA oc (aN d true (4*d.ae.length)))(hn:d.ae.length<=16)(hab:Uu d=true)(hx:okD d x)(S:SH w M X []):Cq Tryz.prog 106 [.pointer (some ⟨bp,0,none⟩),.agg [.int .i64 x.a,.bool x.b].toArray] w M X (fun u=>u=.agg (rf (aX d x.a x.b)).toArray):=by
 unfold Cq
 obtain⟨cd,VD,qo,VC,VB⟩:=nH hab hx x.b
 have htl:∀b,(aN d b (4*d.ae.length)).length=2*d.ae.length+1:=fun b=>jo d b _
 have htf:=htl false
 have htt:=htl true
 have hx1:=hx.1
 have hx2:=hx.2
 refine Up (b:=Zx) Tryz.func106 rfl Tryz.ntmps106 rfl (fun C hC=>(bu [(0,_),(1,_)] ⟨rfl,rfl,trivial⟩ (U1 Zy Zz rfl rfl rfl (U0 rfl (ar 0 1 rfl rfl rfl (cU (l:=[_,_]) rfl rfl rfl rfl rfl S ?_))))))
 intro aI w1 S1;clear S
 refine ar 1 2 rfl rfl rfl (dh (l:=[_,_]) rfl rfl rfl FI rfl S1 ?_)
 intro bq w2 S2;clear S1
 refine U3 rfl (ah [0,3,4] rfl (U2 (U1 Z10 Z11 rfl rfl rfl (U1 Z12 Z13 rfl rfl rfl (U0 rfl (ag 0 rfl (U4 rfl rfl gw rfl (rF) (rh)) (ag 1 rfl (U5 rfl rfl gD rfl (S2.aG (i:=1) rfl rfl)) (U3 rfl ?_))))))))
 refine ah [0,3,4,6] rfl (U2 ?_)
 refine dH Z14 Z15 rfl rfl rfl rfl (fun DC=>?_) (fun DC=>?_)
 ·refine U1 Z16 Z17 rfl rfl rfl (cM rfl (by kernel_rfl) S2 9 rfl ?_)
  clear S2
  refine aq 0 8 rfl (by kernel_rfl) (fun _=>run_move rfl rfl) ?_
  refine aq 1 7 rfl (by kernel_rfl) (fun _=>Ur rfl rfl) ?_
  refine aq 2 6 rfl (by kernel_rfl) (fun _=>U4 rfl rfl jM rfl (Gz) (Gh)) ?_
  refine au 3 5 rfl (by kernel_rfl) (fun _ _ _ aj Sz=>.inl (U5 rfl rfl y9 rfl ((aH.mono (Hp.U6 aj Sz.mx)).cell Sz.um rfl))) ?_
  refine aq 4 4 rfl (by kernel_rfl) (fun _=>U4 rfl rfl gw rfl (aL) (aJ)) ?_
  refine au 5 3 rfl (by kernel_rfl) (fun _ _ _ aj Sz=>.inl (U5 rfl rfl aw rfl (Sz.suf.aG (i:=1) rfl rfl))) ?_
  refine au 6 2 rfl (by kernel_rfl) (fun _ _ _ aj Sz=>.inl (U9 (C:=cw) x.a.toNat rfl rfl rfl Gg (by first|rfl|omega) (aM.mono (Hp.U6 aj Sz.mx)) (by first|omega|(simp only[ls];omega)))) ?_
  refine au 7 1 rfl (by kernel_rfl) (fun _ _ _ aj Sz=>.inl (Uc (us:=[_,_]) rfl rfl iZ rfl kQ ((aM.mono (Hp.U6 aj Sz.mx)).fV Sz.um (e:=x.a.toNat) (by first|omega|(simp only[ls];omega)) (j:=0) ⟨rfl,rfl,trivial⟩))) ?_
  refine dv (i:=8) 0 rfl (by kernel_rfl) rfl rfl (fun ra cB=>?_)
  refine(Uo (i:=0) (us:=[_,_]) (l':=[_,_]) (H':=[_,_]) rfl rfl cB rfl rfl rfl rfl kQ rfl rfl rfl rfl ?_)
  intro q8 bY;clear cB
  refine bU.turn (by kernel_rfl) bY ?_;clear bY
  change WA _ _ _ _ _ _ _ _ _ _ _ _ [_,_]
  refine cF (by kernel_rfl) (fun zx bX=>?_)
  refine ah [4] rfl (U2 (Us hC [_] rfl rfl ⟨⟨_,rfl,oa (us:=[_,_]) iZ rfl kQ (bX.aY (i:=0) rfl ⟨rfl,rfl,trivial⟩)⟩,trivial⟩ ?_))
  exact⟨_,rfl,(bX.pick [] [] (by decide) trivial),(by rw[DC]at qo;show Value.agg (rf (ga (aN d _ (4*d.ae.length)) x.a.toNat)).toArray=_;rw[qo,DC])⟩
 ·refine Ub rfl (ah [0,3,4] rfl (U2 (U1 Z18 Z19 rfl rfl rfl (cM rfl (by kernel_rfl) S2 9 rfl ?_))))
  clear S2
  refine aq 0 8 rfl (by kernel_rfl) (fun _=>run_move rfl rfl) ?_
  refine aq 1 7 rfl (by kernel_rfl) (fun _=>Ur rfl rfl) ?_
  refine aq 2 6 rfl (by kernel_rfl) (fun _=>U4 rfl rfl jM rfl (Gz) (Gh)) ?_
  refine au 3 5 rfl (by kernel_rfl) (fun _ _ _ aj Sz=>.inl (U5 rfl rfl y9 rfl ((aH.mono (Hp.U6 aj Sz.mx)).cell Sz.um rfl))) ?_
  refine aq 4 4 rfl (by kernel_rfl) (fun _=>U4 rfl rfl gw rfl (aL) (aJ)) ?_
  refine au 5 3 rfl (by kernel_rfl) (fun _ _ _ aj Sz=>.inl (U5 rfl rfl aw rfl (Sz.suf.aG (i:=1) rfl rfl))) ?_
  refine au 6 2 rfl (by kernel_rfl) (fun _ _ _ aj Sz=>.inl (U9 (C:=cw) x.a.toNat rfl rfl rfl Gg (by first|rfl|omega) (hsi.mono (Hp.U6 aj Sz.mx)) (by first|omega|(simp only[ls];omega)))) ?_
  refine au 7 1 rfl (by kernel_rfl) (fun _ _ _ aj Sz=>.inl (Uc (us:=[_,_]) rfl rfl iZ rfl kQ ((hsi.mono (Hp.U6 aj Sz.mx)).fV Sz.um (e:=x.a.toNat) (by first|omega|(simp only[ls];omega)) (j:=0) ⟨rfl,rfl,trivial⟩))) ?_
  refine dv (i:=8) 0 rfl (by kernel_rfl) rfl rfl (fun UJ mZ=>?_)
  refine(Uo (i:=0) (us:=[_,_]) (l':=[_,_]) (H':=[_,_]) rfl rfl mZ rfl rfl rfl rfl kQ rfl rfl rfl rfl ?_)
  intro Dd gK;clear mZ
  refine bU.turn (by kernel_rfl) gK ?_;clear gK
  change WA _ _ _ _ _ _ _ _ _ _ _ _ [_,_]
  refine cF (by kernel_rfl) (fun zu il=>?_)
  refine ah [4] rfl (U2 (Us hC [_] rfl rfl ⟨⟨_,rfl,oa (us:=[_,_]) iZ rfl kQ (il.aY (i:=0) rfl ⟨rfl,rfl,trivial⟩)⟩,trivial⟩ ?_))
  exact⟨_,rfl,(il.pick [] [] (by decide) trivial),(by rw[DC]at qo;show Value.agg (rf (ga (aN d _ (4*d.ae.length)) x.a.toNat)).toArray=_;rw[qo,DC])⟩
noncomputable def Z1a:=Tryz.f108.body.getD .skip
def Z1b:=cL Z1a
def Z1c:=cR Z1a
def Z1d:=cL Z1c
def Z1e:=cR Z1c
def Z1f:=cL Z1e
def Z1g:=cR Z1e
def Z1h:=cL Z1g
def Z1i:=cR Z1g
set_option maxRecDepth 10000 in
theorem aoC{w:World}{M:Hp}{X:Fr}(d:Dg){bp:Nat}{cA iA oA:Option Addr}{cc ic oc:Nat}(x:Da)(aH:bQ (M.un X.h) bp 70 [.slice cA d.ae.length cc,.int .i64 d.loops,.slice iA (aN d false (4*d.ae.length)).length ic,.slice oA (aN d true (4*d.ae.length)).length oc])(hsc:aB bw (M.un X.h) cA cc d.ae)(hsi:aB cw (M.un X.h) iA ic (aN d false (4*d.ae.length)))(aM:aB cw (M.un X.h) oA oc (aN d true (4*d.ae.length)))(hn:d.ae.length<=16)(hab:Uu d=true)(hx:okD d x)(S:SH w M X []):Cq Tryz.prog 108 [.pointer (some ⟨bp,0,none⟩),.agg [.int .i64 x.a,.bool x.b].toArray] w M X (fun u=>u=.agg (zT (lI d x)).toArray):=by
 unfold Cq
 obtain⟨cd,VD,qo,VC,VB⟩:=nH hab hx x.b
 have htl:∀b,(aN d b (4*d.ae.length)).length=2*d.ae.length+1:=fun b=>jo d b _
 have htf:=htl false
 have htt:=htl true
 have hx1:=hx.1
 have hx2:=hx.2
 refine Up (b:=Z1a) Tryz.func108 rfl Tryz.ntmps108 rfl (fun C hC=>(bu [(0,_),(1,_)] ⟨rfl,rfl,trivial⟩ (U1 Z1b Z1c rfl rfl rfl (U0 rfl (ar 0 1 rfl rfl rfl (cU (l:=[_,_]) rfl rfl rfl rfl rfl S ?_))))))
 intro aI w1 S1;clear S
 refine ar 1 2 rfl rfl rfl (dh (l:=[_,_]) rfl rfl rfl y7 rfl S1 ?_)
 intro bq w2 S2;clear S1
 refine U3 rfl (ah [0,3,4] rfl (U2 (U1 Z1d Z1e rfl rfl rfl (U0 rfl (af 0 1 rfl rfl (ag 1 rfl (Uc (us:=[_,_]) rfl rfl gw rfl iz (S2.aY (i:=1) rfl ⟨rfl,rfl,trivial⟩)) (ar 2 3 rfl rfl rfl (gJ rfl rfl rfl rfl rfl rfl rfl aeY S2 (ad7 d x (aH.mono S2.Uq) (hsc.mono S2.Uq) (hsi.mono S2.Uq) (aM.mono S2.Uq) (by first|assumption|omega) hab (by first|assumption|omega) S2.aR) ?_))))))))
 rintro _ w3 S3 rfl;clear S2
 refine ar 3 4 rfl rfl rfl (dh (l:=[_,_]) rfl rfl rfl FI rfl S3 ?_)
 intro dD w4 S4;clear S3
 refine ar 4 5 rfl rfl rfl (Uo (i:=0) (us:=[_,_]) (l':=[_,_]) (H':=[_,_,_]) rfl rfl S4 rfl rfl rfl rfl kQ rfl rfl rfl rfl ?_)
 intro w5 S5;clear S4
 refine U3 rfl (ah [0,4,5] rfl (U2 (U1 Z1f Z1g rfl rfl rfl (U0 rfl (ag 0 rfl (U4 rfl rfl iZ rfl (aL) (aJ)) (ag 1 rfl (U5 rfl rfl aw rfl (S5.aG (i:=0) rfl rfl)) (ag 2 rfl (U4 rfl rfl iZ rfl (aL) (aJ)) (ag 3 rfl (U5 rfl rfl aw rfl (S5.aG (i:=0) rfl rfl)) ?_))))))))
 refine ag 4 rfl (Ud rfl rfl rfl (by first|omega|(simp only[ls];omega))) ?_
 refine ag 5 rfl (qy rfl rfl rfl (by first|omega|(simp only[ls];omega))) ?_
 refine ag 6 rfl (EX rfl rfl rfl (by first|omega|(simp only[ls];omega))) ?_
 refine cZ 16 (.int .i64 ((((aX d x.a x.b).2+3)%4:Nat):Int)) rfl (int_eq (by omega)) ?_
 have afC:((aX d x.a x.b).2+3)%4<4:=Nat.mod_lt _ (by decide)
 refine ag 7 rfl (run_build (l:=[_,_]) rfl rfl aes rfl rfl) (ar 8 9 rfl rfl rfl (dh (l:=[_,_]) rfl rfl rfl FI rfl S5 ?_))
 intro jR w6 S6;clear S5
 refine ar 9 10 rfl rfl rfl (Uo (i:=0) (us:=[_,_]) (l':=[_,_]) (H':=[_,_,_,_]) rfl rfl S6 rfl rfl rfl rfl kQ rfl rfl rfl rfl ?_)
 intro w7 S7;clear S6
 refine U3 rfl (ah [0,4,6] rfl (U2 (U1 Z1h Z1i rfl rfl rfl (cM rfl (by kernel_rfl) S7 17 rfl ?_))))
 clear S7
 refine aq 0 16 rfl (by kernel_rfl) (fun _=>run_move rfl rfl) ?_
 refine au 1 15 rfl (by kernel_rfl) (fun _ _ _ aj Sz=>.inl (Uc (us:=[_,_]) rfl rfl iZ rfl kQ (Sz.suf.aY (i:=0) rfl ⟨rfl,rfl,trivial⟩))) ?_
 refine au 2 14 rfl (by kernel_rfl) (fun _ _ _ aj Sz=>jT rfl rfl rfl rfl rfl aeW Sz (ah8 d ((aX d x.a x.b).1) (((aX d x.a x.b).2+3)%4) ((aH.mono (Hp.U6 aj Sz.mx)).mono Sz.Uq) ((hsc.mono (Hp.U6 aj Sz.mx)).mono Sz.Uq) ((hsi.mono (Hp.U6 aj Sz.mx)).mono Sz.Uq) ((aM.mono (Hp.U6 aj Sz.mx)).mono Sz.Uq) (by omega) (by omega) Sz.aR)) ?_
 refine aq 3 13 rfl (by kernel_rfl) (fun _=>run_move rfl rfl) ?_
 refine aq 4 12 rfl (by kernel_rfl) (fun _=>Ur rfl rfl) ?_
 refine aq 5 11 rfl (by kernel_rfl) (fun _=>U4 rfl rfl jM rfl (lY) (lN)) ?_
 refine aq 6 10 rfl (by kernel_rfl) (fun _=>U4 rfl rfl bg rfl (dV) (dS)) ?_
 refine au 7 9 rfl (by kernel_rfl) (fun _ _ _ aj Sz=>.inl (U5 rfl rfl bF rfl ((aH.mono (Hp.U6 aj Sz.mx)).cell Sz.um rfl))) ?_
 refine aq 8 8 rfl (by kernel_rfl) (fun _=>U4 rfl rfl iZ rfl (aL) (aJ)) ?_
 refine au 9 7 rfl (by kernel_rfl) (fun _ _ _ aj Sz=>.inl (U5 rfl rfl aw rfl (Sz.suf.aG (i:=0) rfl rfl))) ?_
 refine au 10 6 rfl (by kernel_rfl) (fun _ _ _ aj Sz=>.inl (U9 (C:=bw) ((aX d x.a x.b).1) rfl rfl rfl mH (by first|rfl|omega) (hsc.mono (Hp.U6 aj Sz.mx)) (by first|omega|(simp only[ls];omega)))) ?_
 refine au 11 5 rfl (by kernel_rfl) (fun _ _ _ aj Sz=>.inl (Uc (us:=[_,_,_,_,_]) rfl rfl bR rfl kT ((hsc.mono (Hp.U6 aj Sz.mx)).fV Sz.um (e:=(aX d x.a x.b).1) (by first|omega|(simp only[ls];omega)) (j:=0) ⟨rfl,rfl,rfl,rfl,rfl,trivial⟩))) ?_
 refine aq 12 4 rfl (by kernel_rfl) (fun _=>U4 rfl rfl iZ rfl (aL) (aJ)) ?_
 refine au 13 3 rfl (by kernel_rfl) (fun _ _ _ aj Sz=>.inl (U5 rfl rfl aw rfl (Sz.suf.aG (i:=0) rfl rfl))) ?_
 refine au 14 2 rfl (by kernel_rfl) (fun _ _ _ aj Sz=>jT rfl rfl rfl rfl rfl aeU Sz (ade (ga d.ae ((aX d x.a x.b).1)) (((aX d x.a x.b).2+3)%4) (by omega) Sz.aR)) ?_
 refine au 15 1 rfl (by kernel_rfl) (fun _ _ _ aj Sz=>.inl (run_build (l:=[_,_]) rfl rfl Gd rfl rfl)) ?_
 refine dv (i:=16) 0 rfl (by kernel_rfl) rfl rfl (fun Dd gK=>?_)
 refine(Uo (i:=2) (us:=[_,_]) (l':=[_,_]) (H':=[_,_,_,_]) rfl rfl gK rfl rfl rfl rfl iz rfl rfl rfl rfl ?_)
 intro zu il;clear gK
 refine bU.turn (by kernel_rfl) il ?_;clear il
 change WA _ _ _ _ _ _ _ _ _ _ _ _ [_,_,_,_]
 refine cF (by kernel_rfl) (fun Dc fQ=>?_)
 refine ah [4] rfl (U2 (Us hC [_] rfl rfl ⟨⟨_,rfl,oa (us:=[_,_]) gw rfl iz (fQ.aY (i:=2) rfl ⟨rfl,rfl,trivial⟩)⟩,trivial⟩ ?_))
 exact⟨_,rfl,(fQ.pick [] [] (by decide) trivial),rfl⟩
noncomputable def Z1j:=Tryz.f163.body.getD .skip
def Z1k:=cL Z1j
def Z1l:=cR Z1j
def Z1m:=cL Z1l
def Z1n:=cR Z1l
def Z1o:=cL Z1n
def Z1p:=cR Z1n
def Z1q:=cL Z1o
def Z1r:=cR Z1o
def Z1s:=cL Z1r
def Z1t:=cR Z1r
def Z1u:=cL Z1s
def Z1v:=cR Z1s
def Z1w:=cL Z1p
def Z1x:=cR Z1p
set_option maxRecDepth 10000 in
theorem amA{w:World}{M:Hp}{X:Fr}(d:Dg){bp:Nat}{cA iA oA:Option Addr}{cc ic oc:Nat}(c k:Nat)(aH:bQ (M.un X.h) bp 70 [.slice cA d.ae.length cc,.int .i64 d.loops,.slice iA (aN d false (4*d.ae.length)).length ic,.slice oA (aN d true (4*d.ae.length)).length oc])(hsc:aB bw (M.un X.h) cA cc d.ae)(hsi:aB cw (M.un X.h) iA ic (aN d false (4*d.ae.length)))(aM:aB cw (M.un X.h) oA oc (aN d true (4*d.ae.length)))(hn:d.ae.length<=16)(hab:Uu d=true)(hc:c<d.ae.length)(hk:k<4)(S:SH w M X []):Cq Tryz.prog 163 [.pointer (some ⟨bp,0,none⟩),.agg [.int .i64 (c:Int),.int .i64 (k:Int)].toArray] w M X (fun u=>u=.agg (rf (aX d (cz d c k) (cm d c k))).toArray):=by
 unfold Cq
 have hx:=iN hab hc hk
 have hx1:=hx.1
 have hx2:=hx.2
 obtain⟨cd,VD,qo,VC,VB⟩:=nH hab hx (cm d c k)
 have htl:∀b,(aN d b (4*d.ae.length)).length=2*d.ae.length+1:=fun b=>jo d b _
 have htf:=htl false
 have htt:=htl true
 refine Up (b:=Z1j) Tryz.func163 rfl Tryz.ntmps163 rfl (fun C hC=>(bu [(0,_),(1,_)] ⟨rfl,rfl,trivial⟩ (U1 Z1k Z1l rfl rfl rfl (U0 rfl (ar 0 1 rfl rfl rfl (cU (l:=[_,_]) rfl rfl rfl rfl rfl S ?_))))))
 intro aI w1 S1;clear S
 refine ar 1 2 rfl rfl rfl (dh (l:=[_,_]) rfl rfl rfl FI rfl S1 ?_)
 intro bq w2 S2;clear S1
 refine U3 rfl (ah [0,3,4] rfl (U2 (U1 Z1m Z1n rfl rfl rfl (U0 rfl (af 0 1 rfl rfl (ag 1 rfl (Uc (us:=[_,_]) rfl rfl iZ rfl kQ (S2.aY (i:=1) rfl ⟨rfl,rfl,trivial⟩)) (ar 2 3 rfl rfl rfl (gJ rfl rfl rfl rfl rfl rfl rfl aeW S2 (ah8 d c k (aH.mono S2.Uq) (hsc.mono S2.Uq) (hsi.mono S2.Uq) (aM.mono S2.Uq) (by omega) (by omega) S2.aR) ?_))))))))
 rintro _ w3 S3 rfl;clear S2
 refine af 3 1 rfl rfl (U3 rfl (ah [0,3,4,5] rfl (U2 (U1 Z1o Z1p rfl rfl rfl (U1 Z1q Z1r rfl rfl rfl (cM rfl (by kernel_rfl) S3 12 rfl ?_))))))
 clear S3
 refine aq 0 11 rfl (by kernel_rfl) (fun _=>run_move rfl rfl) ?_
 refine aq 1 10 rfl (by kernel_rfl) (fun _=>Ur rfl rfl) ?_
 refine aq 2 9 rfl (by kernel_rfl) (fun _=>U4 rfl rfl jM rfl (lY) (lN)) ?_
 refine aq 3 8 rfl (by kernel_rfl) (fun _=>U4 rfl rfl bg rfl (dV) (dS)) ?_
 refine au 4 7 rfl (by kernel_rfl) (fun _ _ _ aj Sz=>.inl (U5 rfl rfl bF rfl ((aH.mono (Hp.U6 aj Sz.mx)).cell Sz.um rfl))) ?_
 refine aq 5 6 rfl (by kernel_rfl) (fun _=>U4 rfl rfl iZ rfl (aL) (aJ)) ?_
 refine au 6 5 rfl (by kernel_rfl) (fun _ _ _ aj Sz=>.inl (U5 rfl rfl aw rfl (Sz.suf.aG (i:=1) rfl rfl))) ?_
 refine au 7 4 rfl (by kernel_rfl) (fun _ _ _ aj Sz=>.inl (U9 (C:=bw) c rfl rfl rfl mH (by first|rfl|omega) (hsc.mono (Hp.U6 aj Sz.mx)) (by first|omega|(simp only[ls];omega)))) ?_
 refine au 8 3 rfl (by kernel_rfl) (fun _ _ _ aj Sz=>.inl (Uc (us:=[_,_,_,_,_]) rfl rfl bR rfl kT ((hsc.mono (Hp.U6 aj Sz.mx)).fV Sz.um (e:=c) (by first|omega|(simp only[ls];omega)) (j:=0) ⟨rfl,rfl,rfl,rfl,rfl,trivial⟩))) ?_
 refine aq 9 2 rfl (by kernel_rfl) (fun _=>U4 rfl rfl iZ rfl (aL) (aJ)) ?_
 refine au 10 1 rfl (by kernel_rfl) (fun _ _ _ aj Sz=>.inl (U5 rfl rfl aw rfl (Sz.suf.aG (i:=1) rfl rfl))) ?_
 refine au 11 0 rfl (by kernel_rfl) (fun _ _ _ aj Sz=>jT rfl rfl rfl rfl rfl aeU Sz (ade (ga d.ae c) k (by omega) Sz.aR)) ?_
 refine cF (by kernel_rfl) (fun Hm cO=>?_)
 refine ah [0,4,5,20] rfl (U2 ?_)
 refine dH Z1s Z1t rfl rfl rfl rfl (fun nE=>?_) (fun nE=>?_)
 ·refine U1 Z1u Z1v rfl rfl rfl (U0 rfl (af 0 1 rfl rfl (ag 1 rfl (Ur rfl rfl) (ag 2 rfl (U4 rfl rfl jM rfl (Gz) (Gh)) (ag 3 rfl (U5 rfl rfl y9 rfl (aH.cell cO.um rfl)) (af 4 1 rfl rfl (ag 5 rfl (U9 (C:=cw) ((cz d c k).toNat) rfl rfl rfl Gg (by first|rfl|omega) aM (by first|omega|(simp only[ls];omega))) ?_)))))))
  refine ag 6 rfl (Uc (us:=[_,_]) rfl rfl iZ rfl kQ (aM.fV cO.um (e:=(cz d c k).toNat) (by first|omega|(simp only[ls];omega)) (j:=0) ⟨rfl,rfl,trivial⟩)) ?_
  refine ar 7 8 rfl rfl rfl (Uo (i:=0) (us:=[_,_]) (l':=[_,_]) (H':=[_,_]) rfl rfl cO rfl rfl rfl rfl kQ rfl rfl rfl rfl ?_)
  intro zw dK;clear cO
  refine U3 rfl (ah [4] rfl (U2 (Us hC [_] rfl rfl ⟨⟨_,rfl,oa (us:=[_,_]) iZ rfl kQ (dK.aY (i:=0) rfl ⟨rfl,rfl,trivial⟩)⟩,trivial⟩ ?_)))
  exact⟨_,rfl,(dK.pick [] [] (by decide) trivial),(by have qm:cm d c k=_:=nE;rw[qm]at qo ⊢;show Value.agg (rf (ga (aN d _ (4*d.ae.length)) (cz d c k).toNat)).toArray=_;rw[qo])⟩
 ·refine Ub rfl (ah [0,4,5] rfl (U2 (U1 Z1w Z1x rfl rfl rfl (U0 rfl (af 0 1 rfl rfl (ag 1 rfl (Ur rfl rfl) (ag 2 rfl (U4 rfl rfl jM rfl (Gz) (Gh)) (ag 3 rfl (U5 rfl rfl y9 rfl (aH.cell cO.um rfl)) ?_))))))))
  refine af 4 1 rfl rfl (ag 5 rfl (U9 (C:=cw) ((cz d c k).toNat) rfl rfl rfl Gg (by first|rfl|omega) hsi (by first|omega|(simp only[ls];omega))) ?_)
  refine ag 6 rfl (Uc (us:=[_,_]) rfl rfl iZ rfl kQ (hsi.fV cO.um (e:=(cz d c k).toNat) (by first|omega|(simp only[ls];omega)) (j:=0) ⟨rfl,rfl,trivial⟩)) ?_
  refine ar 7 8 rfl rfl rfl (Uo (i:=0) (us:=[_,_]) (l':=[_,_]) (H':=[_,_]) rfl rfl cO rfl rfl rfl rfl kQ rfl rfl rfl rfl ?_)
  intro Hl fZ;clear cO
  refine U3 rfl (ah [4] rfl (U2 (Us hC [_] rfl rfl ⟨⟨_,rfl,oa (us:=[_,_]) iZ rfl kQ (fZ.aY (i:=0) rfl ⟨rfl,rfl,trivial⟩)⟩,trivial⟩ ?_)))
  exact⟨_,rfl,(fZ.pick [] [] (by decide) trivial),(by have qm:cm d c k=_:=nE;rw[qm]at qo ⊢;show Value.agg (rf (ga (aN d _ (4*d.ae.length)) (cz d c k).toNat)).toArray=_;rw[qo])⟩
end Go.Proofs.YthppkofceancjaaGreat
namespace Go.Proofs.YthppkofceancjaaGreat
open Go.ChangeShapes Go.WideShapes Go.ChangeAt Go.RowKit
theorem SH.arf{w:World}{M:Hp}{X:Fr}{H H':List Rs}{i g:Nat}{T:TypeId}{l:List Value}(S:SH w M X H)(hi:nth H i=some (Rs.box g T l))(hH:H.set i Rs.emp=H'):∃M',M.le M'/\SH w M' X H'/\bQ M' g T l:=by
 obtain⟨h1,h2,h3⟩:=S.uZ hi hH
 refine⟨_,h1,h2,?_⟩
 show(M.put w _) g=_
 rw[h3 g (by simp[Rs.box])]
 exact S.get hi
theorem LQ:kW Tryz.prog 26 (fun x=>Value.agg (gN.f x).toArray):=JA ara (fun x y=>⟨x.a=y.a/\x.b=y.b,⟨_,_,_,_,rfl,rfl,⟨_,_,rfl,rfl,rfl⟩,rfl⟩,⟨fun h=>by cases x;cases y;simp at h;simp[h],fun h=>by rw[h];exact⟨rfl,rfl⟩⟩⟩) (fun k=>by simp[Instr.sameBits,gN,zT])
def dA(c:Nat):Da:=⟨((c/2:Nat):Int),decide (c%2=1)⟩
def wY(k:Nat):Da:=dA (k+2)
def CL(k:Nat):Value:=.agg (zT (wY k)).toArray
def aoG(g:Nat)(u:Value)(M:Hp):Prop:=∃b,u=.func (.func 164) #[] [.pointer (some ⟨b,0,none⟩)].toArray/\bQ M b 64 [.pointer (some ⟨g,0,none⟩)]
theorem amf(a i:Nat)(hi:i<2):(Value.agg [.int .i64 ((a:Int)+1),.bool (ga [false,true] i)].toArray)=CL (2*a+i):=by
 have e:i=0\/i=1:=by omega
 unfold CL wY dA
 rcases e with rfl|rfl
 ·rw[show(2*a+0+2)/2=a+1 by omega,show(2*a+0+2)%2=0 by omega];rfl
 ·rw[show(2*a+1+2)/2=a+1 by omega,show(2*a+1+2)%2=1 by omega];rfl
noncomputable def Z1y:=Tryz.f107.body.getD .skip
def Z1z:=cL Z1y
def Z20:=cR Z1y
def Z21:=cL Z20
def Z22:=cR Z20
set_option maxRecDepth 10000 in
theorem amH{w:World}{M:Hp}{X:Fr}(d:Dg){bp:Nat}{cA iA oA:Option Addr}{cc ic oc:Nat}(aH:bQ (M.un X.h) bp 70 [.slice cA d.ae.length cc,.int .i64 d.loops,.slice iA (aN d false (4*d.ae.length)).length ic,.slice oA (aN d true (4*d.ae.length)).length oc])(hsc:aB bw (M.un X.h) cA cc d.ae)(hsi:aB cw (M.un X.h) iA ic (aN d false (4*d.ae.length)))(aM:aB cw (M.un X.h) oA oc (aN d true (4*d.ae.length)))(S:SH w M X []):Ct Tryz.prog 107 [.pointer (some ⟨bp,0,none⟩)] w M X (aoG bp):=by
 unfold Ct
 refine Up (b:=Z1y) Tryz.func107 rfl Tryz.ntmps107 rfl (fun C hC=>?_)
 refine bu [(0,_)] ⟨rfl,trivial⟩ ?_
 refine U1 Z1z Z20 rfl rfl rfl ?_
 refine U0 rfl ?_
 refine Uj (k:=0) (k':=1) rfl rfl rfl (cU (l:=[_]) rfl rfl rfl rfl rfl S ?_)
 intro aI w1 S1;clear S
 refine Uj (k:=1) (k':=2) rfl rfl rfl (U8 rfl rfl (run_assign rfl rfl) ?_)
 refine U3 rfl ?_
 refine Uw [(1,_)] ⟨rfl,trivial⟩ ?_
 refine U2 ?_
 refine U1 Z21 Z22 rfl rfl rfl ?_
 refine U0 rfl ?_
 refine Uj (k:=0) (k':=1) rfl rfl rfl (U8 rfl rfl (Eb (vs:=[_]) rfl rfl rfl rfl) ?_)
 refine Uj (k:=1) (k':=2) rfl rfl rfl (U8 rfl rfl (run_assign rfl rfl) ?_)
 refine U3 rfl ?_
 refine Uw [(2,_)] ⟨rfl,trivial⟩ ?_
 refine U2 ?_
 obtain⟨M1,hle1,S2,lW⟩:=S1.arf (i:=0) (H':=[_]) rfl rfl
 clear S1
 replace aH:=aH.mono (Hp.U6 hle1 S2.mx)
 replace hsc:=hsc.mono (Hp.U6 hle1 S2.mx)
 replace hsi:=hsi.mono (Hp.U6 hle1 S2.mx)
 replace aM:=aM.mono (Hp.U6 hle1 S2.mx)
 refine Us hC [_] rfl rfl ⟨rfl,trivial⟩ ?_
 refine⟨_,rfl,_,hle1,(S2.pick [] [] (by decide) trivial),?_⟩
 exact⟨_,rfl,lW⟩
namespace InF
noncomputable def Z23:=Tryz.f164.body.getD .skip
def Z24:=cL Z23
def Z25:=cR Z23
def Z26:=cL Z25
def Z27:=cL Z26
def Z28:=cL Z27
def Z29:=cR Z27
def Z2a:=cL Z28
def Z2b:=cR Z28
def Z2c:=cL Z2b
def Z2d:=cR Z2b
def Z2e:=cL Z29
def Z2f:=cR Z29
def Z2g:=cL Z2e
def Z2h:=cL Z2g
def Z2i:=cR Z2g
def Z2j:=cL Z2i
def Z2k:=cL Z2j
def Z2l:=cL Z2k
def Z2m:=cR Z2k
def Z2n:=cL Z2m
def Z2o:=cR Z2m
def Z2p:=cL Z2n
def Z2q:=cR Z2n
def Z2r:=cL Z2o
def Z2s:=cR Z2o
def Z2t:=cL Z2r
def Z2u:=cL Z2t
def Z2v:=cR Z2t
def Z2w:=cL Z2v
def Z2x:=cR Z2v
def Z2y:=cR Z2x
set_option maxRecDepth 10000 in
theorem aiA{M:Hp}{X:Fr}(d:Dg){bp:Nat}{cA iA oA:Option Addr}{cc ic oc:Nat}{b:Nat}(aH:bQ (M.un X.h) bp 70 [.slice cA d.ae.length cc,.int .i64 d.loops,.slice iA (aN d false (4*d.ae.length)).length ic,.slice oA (aN d true (4*d.ae.length)).length oc])(hsc:aB bw (M.un X.h) cA cc d.ae)(hsi:aB cw (M.un X.h) iA ic (aN d false (4*d.ae.length)))(aM:aB cw (M.un X.h) oA oc (aN d true (4*d.ae.length)))(dP:bQ M b 64 [.pointer (some ⟨bp,0,none⟩)])(hn:d.ae.length<=16):Iter Tryz.prog 164 [.pointer (some ⟨b,0,none⟩)] CL (4*d.ae.length) M X:=by
 intro l J w M1 B hle0 hY S hJ0
 replace aH:=aH.mono (Hp.U6 hle0 S.mx)
 replace hsc:=hsc.mono (Hp.U6 hle0 S.mx)
 replace hsi:=hsi.mono (Hp.U6 hle0 S.mx)
 replace aM:=aM.mono (Hp.U6 hle0 S.mx)
 replace dP:=dP.mono hle0
 refine Up (b:=Z23) Tryz.func164 rfl Tryz.ntmps164 rfl (fun C qp hC=>?_)
 have DG:C.F=Fence.wide:=by unfold Ctx.F;rw[qp]
 refine bu [(0,_),(1,_)] ⟨rfl,rfl,trivial⟩ ?_
 refine U1 Z24 Z25 rfl rfl rfl ?_
 refine U0 rfl ?_
 refine Uj (k:=0) (k':=1) rfl rfl rfl (U8 rfl rfl (run_assign rfl rfl) ?_)
 refine U3 rfl ?_
 refine U2 ?_
 refine U7 Z26 0 rfl rfl rfl ?_
 refine Ui (fun aF ak aA=>∃(a:Nat) (B1:Rs) (M2:Hp),M1.le M2/\aF=2*d.ae.length-a/\Env 23 [(0,.func (.yield l) #[] #[]),(1,.pointer (some ⟨b,0,none⟩)),(3,.int .i64 ((a:Int)+1))] ak/\SH aA M2 X [B1]/\a<=2*d.ae.length/\J (2*a) M2 B1) rfl ?_ ?_
 ·intro ak ai
  refine⟨_,⟨0,_,_,Hp.le_refl _,rfl,ai.sub ⟨rfl,rfl,rfl,trivial⟩,S.pick [0] [_] (by decide) ⟨rfl,trivial⟩,?bn,?bE⟩⟩
  case bn=>omega
  case bE=>exact hJ0
 ·rintro m1 a1 w1 ⟨a,B1,M2,hle1,rfl,aQ,S1,ha,vt⟩
  clear S
  refine aW aQ (c:=Z27) rfl ?_
  clear aQ a1
  replace aH:=aH.mono (Hp.U6 hle1 S1.mx)
  replace hsc:=hsc.mono (Hp.U6 hle1 S1.mx)
  replace hsi:=hsi.mono (Hp.U6 hle1 S1.mx)
  replace aM:=aM.mono (Hp.U6 hle1 S1.mx)
  replace dP:=dP.mono hle1
  refine U1 Z28 Z29 rfl rfl rfl ?_
  refine U1 Z2a Z2b rfl rfl rfl ?_
  refine U0 rfl ?_
  refine Uj (k:=0) (k':=1) rfl rfl rfl (U8 rfl rfl (run_move rfl rfl) ?_)
  refine Uj (k:=1) (k':=2) rfl rfl rfl (U8 rfl rfl (U5 rfl rfl qP rfl (dP.cell S1.m rfl)) ?_)
  refine Uj (k:=2) (k':=3) rfl rfl rfl (gJ rfl rfl rfl rfl rfl rfl rfl aeX S1 (ad8 d (aH.mono S1.Uq) (hsc.mono S1.Uq) (hsi.mono S1.Uq) (aM.mono S1.Uq) (by omega) S1.aR) ?_)
  rintro _ w2 S2 rfl;clear S1
  refine Uj (k:=3) (k':=4) rfl rfl rfl (U8 rfl rfl (acp rfl rfl rfl) ?_)
  refine U3 rfl ?_
  refine Uw [(0,_),(1,_),(3,_),(9,_)] ⟨rfl,rfl,rfl,rfl,trivial⟩ ?_
  refine U2 ?_
  refine dH Z2c Z2d rfl rfl rfl rfl (fun qm=>?_) (fun qm=>?_)
  ·replace qm:=of_decide_eq_true qm
   refine Ub rfl ?_
   refine Uw [(0,_),(1,_),(3,_)] ⟨rfl,rfl,rfl,trivial⟩ ?_
   refine U2 ?_
   refine U1 Z2e Z2f rfl rfl rfl ?_
   refine U7 Z2g 1 rfl rfl rfl ?_
   refine U1 Z2h Z2i rfl rfl rfl ?_
   refine U0 rfl ?_
   refine Uj (k:=0) (k':=1) rfl rfl rfl (U8 rfl rfl (xZ (l:=[_,_]) (pl:=[(0,1),(1,1)]) rfl rfl aeg aoH xH rfl rfl rfl) ?_)
   refine Uj (k:=1) (k':=2) rfl rfl rfl (U8 rfl rfl (run_move rfl rfl) ?_)
   refine U3 rfl ?_
   refine U2 ?_
   refine U7 Z2j 2 rfl rfl rfl ?_
   refine Ui (fun aF ak aA=>∃(i:Nat) (B2:Rs) (M3:Hp),M2.le M3/\aF=2-i/\Env 23 [(0,.func (.yield l) #[] #[]),(1,.pointer (some ⟨b,0,none⟩)),(3,.int .i64 ((a:Int)+1)),(12,.agg [.bool false,.bool true].toArray),(13,.int .i64 (i:Int))] ak/\SH aA M3 X [B2]/\i<=2/\J (2*a+i) M3 B2) rfl ?_ ?_
   ·intro ak ai
    refine⟨_,⟨0,_,_,Hp.le_refl _,rfl,ai.sub ⟨rfl,rfl,rfl,rfl,rfl,trivial⟩,S2.pick [0] [_] (by decide) ⟨rfl,trivial⟩,?bk,?bD⟩⟩
    case bk=>omega
    case bD=>exact vt
   ·rintro m2 a2 w3 ⟨i,B2,M3,hle2,rfl,bS,S3,hi,hJi⟩
    clear S2
    refine aW bS (c:=Z2k) rfl ?_
    clear bS a2
    replace aH:=aH.mono (Hp.U6 hle2 S3.mx)
    replace hsc:=hsc.mono (Hp.U6 hle2 S3.mx)
    replace hsi:=hsi.mono (Hp.U6 hle2 S3.mx)
    replace aM:=aM.mono (Hp.U6 hle2 S3.mx)
    replace dP:=dP.mono hle2
    refine U1 Z2l Z2m rfl rfl rfl ?_
    refine U0 rfl ?_
    refine Uj (k:=0) (k':=1) rfl rfl rfl (U8 rfl rfl (Un rfl rfl rfl) ?_)
    refine U3 rfl ?_
    refine U2 ?_
    refine U1 Z2n Z2o rfl rfl rfl ?_
    refine dH Z2p Z2q rfl rfl rfl rfl (fun iT=>?_) (fun iT=>?_)
    ·replace iT:=of_decide_eq_true iT
     refine Ub rfl ?_
     refine Uw [(0,_),(1,_),(3,_),(12,_),(13,_)] ⟨rfl,rfl,rfl,rfl,rfl,trivial⟩ ?_
     refine U2 ?_
     refine U1 Z2r Z2s rfl rfl rfl ?_
     refine U7 Z2t 3 rfl rfl rfl ?_
     refine U1 Z2u Z2v rfl rfl rfl ?_
     refine U0 rfl ?_
     refine Uj (k:=0) (k':=1) rfl rfl rfl (U8 rfl rfl (aaq (e:=i) rfl rfl rfl aeg gD rfl xH (by first|rfl|omega) (by first|omega|(simp only[ls];omega)) (ana [false,true] i (by simp;first|omega|(simp only[ls];omega)))) ?_)
     refine Uj (k:=1) (k':=2) rfl rfl rfl (U8 rfl rfl (run_assign rfl rfl) ?_)
     refine U3 rfl ?_
     refine Uw [(0,_),(1,_),(3,_),(12,_),(13,_),(5,_)] ⟨rfl,rfl,rfl,rfl,rfl,rfl,trivial⟩ ?_
     refine U2 ?_
     refine U1 Z2w Z2x rfl rfl rfl ?_
     refine U0 rfl ?_
     refine Uj (k:=0) (k':=1) rfl rfl rfl (U8 rfl rfl (run_move rfl rfl) ?_)
     refine Uj (k:=1) (k':=2) rfl rfl rfl (U8 rfl rfl (run_move rfl rfl) ?_)
     refine Uj (k:=2) (k':=3) rfl rfl rfl (U8 rfl rfl (run_move rfl rfl) ?_)
     refine Uj (k:=3) (k':=4) rfl rfl rfl (U8 rfl rfl (run_build (l:=[_,_]) rfl rfl Gd rfl rfl) ?_)
     have afC:2*a+i<4*d.ae.length:=by omega
     refine IZ (k:=4) (k':=5) rfl rfl rfl rfl rfl rfl rfl rfl rfl rfl (by rw[DG];have h9:=hY (2*a+i) _ _ _ (by omega) (hle1.trans hle2) S3 hJi;rw[<-amf a i (by omega)]at h9;exact h9) ?_
     rintro _ w4 ⟨rfl,M4,B6,cG,S4,hJ1⟩;clear S3
     replace aH:=aH.mono (Hp.U6 cG S4.mx)
     replace hsc:=hsc.mono (Hp.U6 cG S4.mx)
     replace hsi:=hsi.mono (Hp.U6 cG S4.mx)
     replace aM:=aM.mono (Hp.U6 cG S4.mx)
     replace dP:=dP.mono cG
     refine Uj (k:=5) (k':=6) rfl rfl rfl (U8 rfl rfl (mX rfl rfl) ?_)
     refine U3 rfl ?_
     refine Uw [(0,_),(1,_),(3,_),(12,_),(13,_),(21,_)] ⟨rfl,rfl,rfl,rfl,rfl,rfl,trivial⟩ ?_
     refine U2 ?_
     refine jq Z2y rfl rfl rfl ?_
     refine Ub rfl ?_
     refine Ul ?_
     refine Uw [(0,_),(1,_),(3,_),(12,_),(13,_)] ⟨rfl,rfl,rfl,rfl,rfl,trivial⟩ ?_
     refine U2 ?_
     refine U0 rfl ?_
     refine Uj (k:=0) (k':=1) rfl rfl rfl (U8 rfl rfl (Ud rfl rfl rfl (by first|omega|(simp only[ls];omega))) ?_)
     refine Uj (k:=1) (k':=2) rfl rfl rfl (U8 rfl rfl (run_move rfl rfl) ?_)
     refine U3 rfl ?_
     refine Ut ?_
     intro ak ai
     refine⟨_,?fM,⟨i+1,_,_,(hle2.trans cG),rfl,ai.sub ⟨rfl,rfl,rfl,rfl,rfl,trivial⟩,S4.pick [0] [_] (by decide) ⟨rfl,trivial⟩,?cu,?cN⟩⟩
     case cu=>omega
     case cN=>first|assumption|(rw[show 2*a+(i+1)=2*a+i+1 by omega];assumption)
     case fM=>omega
    ·replace iT:=of_decide_eq_false iT
     refine Uk rfl rfl ?_
     refine Ul ?_
     refine Uw [(0,_),(1,_),(3,_)] ⟨rfl,rfl,rfl,trivial⟩ ?_
     refine U2 ?_
     refine U0 rfl ?_
     refine Uj (k:=0) (k':=1) rfl rfl rfl (U8 rfl rfl (run_move rfl rfl) ?_)
     refine Uj (k:=1) (k':=2) rfl rfl rfl (U8 rfl rfl (Ud rfl rfl rfl (by first|omega|(simp only[ls];omega))) ?_)
     refine Uj (k:=2) (k':=3) rfl rfl rfl (U8 rfl rfl (run_assign rfl rfl) ?_)
     refine U3 rfl ?_
     refine Ut ?_
     intro ak ai
     refine⟨_,?jf,⟨a+1,_,_,(hle1.trans hle2),rfl,ai.sub ⟨rfl,rfl,rfl,trivial⟩,S3.pick [0] [_] (by decide) ⟨rfl,trivial⟩,?dL,?ek⟩⟩
     case dL=>omega
     case ek=>(rw[show 2*(a+1)=2*a+i by omega];exact hJi)
     case jf=>omega
  ·replace qm:=of_decide_eq_false qm
   refine Uk rfl rfl ?_
   refine Bk hC [] rfl trivial ?_
   refine⟨⟨_,rfl⟩,_,_,hle1,S2,?_⟩
   rw[show 4*d.ae.length=2*a by omega]
   exact vt
end InF
end Go.Proofs.YthppkofceancjaaGreat
namespace Go.Proofs.YthppkofceancjaaGreat
open Go.RowKit
def free(seen:List Bool):Nat:=seen.countP (fun b=>!b)
theorem px{seen:List Bool}{x:Nat}(h:x<seen.length)(hx:ga seen x=false):free (seen.set x true)+1=free seen:=by
 induction seen generalizing x with
 |nil=>simp at h
 |cons b seen ih=>
  cases x with
  |zero=>
   have:b=false:=by simpa[ga]using hx
   subst this
   simp[free]
  |succ x=>
   have h1:ga (b::seen) (x+1)=ga seen x:=by simp[ga]
   rw[h1]at hx
   have h2:=ih (by simpa using h) hx
   unfold free at*
   rw[List.set_cons_succ,List.countP_cons,List.countP_cons]
   omega
def fA(nx:Nat->Nat)(seen:List Bool)(x:Nat)(acc:List Int):List Bool×List Int:=
 if _h:x<seen.length/\ga seen x=false then fA nx (seen.set x true) (nx x) (acc++[(x:Int)])else(seen,acc)
termination_by free seen
decreasing_by have := px _h.1 _h.2; omega
theorem vG{nx:Nat->Nat}{seen:List Bool}{x:Nat}{acc:List Int}(h:x<seen.length)(hx:ga seen x=false):fA nx seen x acc=fA nx (seen.set x true) (nx x) (acc++[(x:Int)]):=by
 rw[fA];simp[h,hx]
theorem IB{nx:Nat->Nat}{seen:List Bool}{x:Nat}{acc:List Int}(hx:ga seen x=true):fA nx seen x acc=(seen,acc):=by
 rw[fA];simp[hx]
theorem ai1(nx:Nat->Nat)(seen:List Bool)(x:Nat)(acc:List Int):(fA nx seen x acc).1.length=seen.length:=by
 induction hk:free seen using Nat.strongRecOn generalizing seen x acc with
 |_ k ih=>
  by_cases h:x<seen.length/\ga seen x=false
  ·rw[vG h.1 h.2]
   have:=px h.1 h.2
   rw[ih (free (seen.set x true)) (by omega) _ _ _ rfl,List.length_set]
  ·rw[fA];simp[h]
end Go.Proofs.YthppkofceancjaaGreat
namespace Go.Proofs.YthppkofceancjaaGreat
open Go.ChangeShapes Go.WideShapes Go.ChangeAt Go.RowKit
def kg(x:Da):Nat:=(2*x.a+(if x.b=true then 1 else 0)).toNat
theorem KH{x:Da}(h:0<=x.a):dA (kg x)=x:=by
 obtain⟨a,b⟩:=x
 simp only at h
 unfold dA kg
 cases b
 ·simp only[Bool.false_eq_true,if_false,Int.add_zero]
  congr 1
  ·omega
  ·rw[decide_eq_false_iff_not];omega
 ·simp only[if_true]
  congr 1
  ·omega
  ·rw[decide_eq_true_iff];omega
theorem yL(c:Nat):kg (dA c)=c:=by
 unfold kg dA
 by_cases h:c%2=1
 ·simp only[h,decide_true,if_true];omega
 ·simp only[h,decide_false,Bool.false_eq_true,if_false];omega
theorem ad1{c e:Nat}(h:dA c=dA e):c=e:=by rw[<-yL c,h,yL]
theorem oG{d:Dg}{c:Nat}(h:2<=c/\c<4*d.ae.length+2):okD d (dA c):=by
 show 1<=((c/2:Nat):Int)/\((c/2:Nat):Int)<=2*(d.ae.length:Int)
 omega
def dI(d:Dg)(c:Nat):Nat:=kg (lI d (dA c))
theorem yw{d:Dg}{x:Da}(h:okD d x):2<=kg x/\kg x<4*d.ae.length+2:=by
 unfold okD at h
 unfold kg
 split<;>omega
theorem AW{d:Dg}(hab:Uu d=true){c:Nat}(h:2<=c/\c<4*d.ae.length+2):2<=dI d c/\dI d c<4*d.ae.length+2:=yw (abP hab (oG h))
theorem Fz{d:Dg}(hab:Uu d=true){c:Nat}(h:2<=c/\c<4*d.ae.length+2):dA (dI d c)=lI d (dA c):=KH (by have:=abP hab (oG h);unfold okD at this;omega)
def dQ(d:Dg):Nat->List Bool×List (List Int)
 |0=>(List.replicate (4*d.ae.length+2) false,[])
 |k+1=>
  let s:=dQ d k
  if ga s.1 (k+2)=true then s else((fA (dI d) s.1 (k+2) []).1,s.2++[(fA (dI d) s.1 (k+2) []).2])
theorem vR{d:Dg}{k:Nat}{s:List Bool×List (List Int)}(h:dQ d k=s)(hg:ga s.1 (k+2)=true):dQ d (k+1)=s:=by
 subst h
 show(if _ then _ else _)=_
 rw[if_pos hg]
theorem vQ{d:Dg}{k:Nat}{s:List Bool×List (List Int)}{r:List Bool×List Int}(h:dQ d k=s)(hg:ga s.1 (k+2)=false)(hr:fA (dI d) s.1 (k+2) []=r):dQ d (k+1)=(r.1,s.2++[r.2]):=by
 subst h;subst hr
 show(if _ then _ else _)=_
 rw[if_neg (by rw[hg];exact Bool.false_ne_true)]
theorem xY(d:Dg)(k:Nat):(dQ d k).1.length=4*d.ae.length+2:=by
 induction k with
 |zero=>simp[dQ]
 |succ k ih=>
  cases hg:ga (dQ d k).1 (k+2)with
  |true=>rw[vR rfl hg];exact ih
  |false=>rw[vQ rfl hg rfl,ai1];exact ih
theorem Ev(d:Dg)(k:Nat):(dQ d k).2.length<=k:=by
 induction k with
 |zero=>simp[dQ]
 |succ k ih=>
  cases hg:ga (dQ d k).1 (k+2)with
  |true=>rw[vR rfl hg];omega
  |false=>rw[vQ rfl hg rfl];simp;omega
def jY(r:List Int):List Da:=r.map fun c=>dA c.toNat
theorem abe(r:List Int)(c:Nat):jY (r++[(c:Int)])=jY r++[dA c]:=by unfold jY;rw[List.map_append];rfl
def BD(d:Dg)(k:Nat):List (List Da):=(dQ d k).2.map jY
def cD(d:Dg):List (List Da):=BD d (4*d.ae.length)
def uH(d:Dg)(es:List (Da×Bool))(seen:List Bool):Prop:=∀c,2<=c->c<4*d.ae.length+2->(mg (dA c) es).getD false=ga seen c
theorem uH.bN(d:Dg):uH d [] (List.replicate (4*d.ae.length+2) false):=fun c _ hc=>by rw[uk _ _ _ hc];rfl
theorem uH.put{d:Dg}{es:List (Da×Bool)}{seen:List Bool}(h:uH d es seen){c:Nat}(hc:c<seen.length):uH d (mp (dA c) true es) (seen.set c true):=fun e h1 h2=>by
 rw[BP,bB _ _ _ _ hc]
 by_cases he:c=e
 ·subst he;rw[if_pos rfl,if_pos rfl];rfl
 ·rw[if_neg (fun e'=>he (ad1 e').symm),if_neg he];exact h e h1 h2
def rfA:Code->Code
 |.rangeFunc _ _ a _=>a
 |c=>c
def Hq:Code->Code
 |.rangeFunc _ _ _ b=>b
 |c=>c
def FF(d:Dg)(bp g1 g3 g4 gm k:Nat)(M:Hp)(H:List Rs):Prop:=∃es vs afe seen jd,
 H=[Rs.mp (fun x=>Value.agg (gN.f x).toArray) Value.bool gm es,Rs.box g4 65 [afe],Rs.row (ck 141) afe vs,Rs.box g3 192 [.map (some gm)],Rs.box g1 64 [.pointer (some ⟨bp,0,none⟩)]]/\iY gN M vs (jd.map jY)/\dQ d k=(seen,jd)/\uH d es seen
def JP(d:Dg)(bp g1 g3 g4 gm k:Nat)(a:Act)(M:Hp)(H:List Rs):Prop:=∃g5 H',Env 35 [(1,.pointer (some ⟨g1,0,none⟩)),(3,.pointer (some ⟨g3,0,none⟩)),(4,.pointer (some ⟨g4,0,none⟩)),(5,.pointer (some ⟨g5,0,none⟩))] a/\H=Rs.box g5 26 [.int .i64 (wY k).a,.bool (wY k).b]::H'/\FF d bp g1 g3 g4 gm k M H'
noncomputable def yj:Code:=cL (cR (cL (cR (cR (cR (Tryz.f66.body.getD .skip))))))
namespace InF
set_option maxRecDepth 10000 in
theorem aio{w:World}{M:Hp}{X:Fr}{d:Dg}{bp vB vw vv gm k:Nat}{C:Ctx}{R0:Rs}{H:List Rs}{L:List (Nat×Value)}(hL:Sub L [(1,.pointer (some ⟨vB,0,none⟩)),(3,.pointer (some ⟨vw,0,none⟩)),(4,.pointer (some ⟨vv,0,none⟩)),(11,CL k)])(S:SH w M X (R0::H))(hI:FF d bp vB vw vv gm k M H):
  WS Tryz.prog 35 C (rfA yj) [.lp (fun a w2=>∃M2 H2,M.le M2/\SH w2 M2 X (R0::H2)/\JP d bp vB vw vv gm k a M2 H2)] L w:=by
 obtain⟨es,vs,wC,seen,jd,rfl,fE,hfn,nQ⟩:=hI
 change SH w M X [R0,Rs.mp (fun x=>Value.agg (gN.f x).toArray) Value.bool gm es,_,Rs.row (ck 141) wC vs,_,_]at S
 refine bu _ hL ?_
 refine U0 rfl ?_
 refine Uj (k:=0) (k':=1) rfl rfl rfl (dh (l:=[_,_]) rfl rfl rfl y7 rfl S ?_)
 intro aI w1 S1;clear S
 refine Uj (k:=1) (k':=2) rfl rfl rfl (Uo (i:=0) (us:=[_,_]) (l':=[_,_]) (H':=[_,_,_,_,_,_,_]) rfl rfl S1 rfl rfl rfl rfl iz rfl rfl rfl rfl ?_)
 intro w2 S2;clear S1
 refine U3 rfl ?_
 refine Ut ?_
 intro ak ai
 exact⟨M,_,Hp.le_refl _,S2.pick [1,0,2,3,4,5,6] [_,_,_,_,_,_,_] (by decide) ⟨rfl,rfl,rfl,rfl,rfl,rfl,rfl,trivial⟩,_,_,ai.sub ⟨rfl,rfl,rfl,rfl,trivial⟩,rfl,es,vs,wC,seen,jd,rfl,fE,hfn,nQ⟩
def Z2z:=Hq yj
def Z30:=cL Z2z
def Z31:=cL Z30
def Z32:=cR Z30
def Z33:=cL Z31
def Z34:=cR Z31
def Z35:=cL Z34
def Z36:=cR Z34
def Z37:=cL Z32
def Z38:=cR Z32
def Z39:=cL Z38
def Z3a:=cR Z38
def Z3b:=cL Z39
def Z3c:=cR Z39
def Z3d:=cL Z3c
def Z3e:=cL Z3d
def Z3f:=cL Z3e
def Z3g:=cR Z3e
def Z3h:=cL Z3f
def Z3i:=cR Z3f
def Z3j:=cL Z3i
def Z3k:=cR Z3i
def Z3l:=cL Z3g
def Z3m:=cR Z3g
def Z3n:=cL Z3l
def Z3o:=cL Z3n
def Z3p:=cR Z3n
def Z3q:=cL Z3m
def Z3r:=cR Z3m
def Z3s:=cL Z3q
def Z3t:=cR Z3q
set_option maxHeartbeats 1000000 in
set_option maxRecDepth 10000 in
theorem aiV{w:World}{M:Hp}{X:Fr}(d:Dg){bp vB vw vv gm k:Nat}{cA iA oA:Option Addr}{cc ic oc:Nat}(aH:bQ (M.un X.h) bp 70 [.slice cA d.ae.length cc,.int .i64 d.loops,.slice iA (aN d false (4*d.ae.length)).length ic,.slice oA (aN d true (4*d.ae.length)).length oc])(hsc:aB bw (M.un X.h) cA cc d.ae)(hsi:aB cw (M.un X.h) iA ic (aN d false (4*d.ae.length)))(aM:aB cw (M.un X.h) oA oc (aN d true (4*d.ae.length)))(hn:d.ae.length<=16)(hab:Uu d=true)(hk:k<4*d.ae.length){C:Ctx}{R0:Rs}{H:List Rs}{a:Act}(S:SH w M X (R0::H))(nT:JP d bp vB vw vv gm k a M H):
  (Hq yj).wpIn C.F 0 Tryz.prog (post Tryz.prog C [.lp (fun _ w2=>∃M2 H2,M.le M2/\SH w2 M2 X (R0::H2)/\FF d bp vB vw vv gm (k+1) M2 H2)]) a w:=by
 obtain⟨gq5,H1,ha,rfl,es,vs,wC,seen,jd,rfl,fE,hfn,nQ⟩:=nT
 change SH w M X [R0,Rs.box gq5 _ _,Rs.mp (fun x=>Value.agg (gN.f x).toArray) Value.bool gm es,_,Rs.row (ck 141) wC vs,_,_]at S
 have hdn:okD d (wY k):=oG (by omega)
 have hvs:=fE.1
 have lK:=Ev d k
 rw[hfn]at lK
 replace lK:jd.length<=k:=lK
 rw[List.length_map]at hvs
 refine aW ha (c:=Hq yj) rfl ?_
 refine U7 Z30 1 rfl rfl rfl ?_
 refine U1 Z31 Z32 rfl rfl rfl ?_
 refine U1 Z33 Z34 rfl rfl rfl ?_
 refine U0 rfl ?_
 refine Uj (k:=0) (k':=1) rfl rfl rfl (U8 rfl rfl (U5 rfl rfl yR rfl (S.aG (i:=5) rfl rfl)) ?_)
 refine Uj (k:=1) (k':=2) rfl rfl rfl (U8 rfl rfl (Uc (us:=[_,_]) rfl rfl gw rfl iz (S.aY (i:=1) rfl ⟨rfl,rfl,trivial⟩)) ?_)
 refine Uj (k:=2) (k':=3) rfl rfl rfl (U8 rfl rfl (qD (kc:=(fun x=>Value.agg (gN.f x).toArray)) (vc:=Value.bool) (es:=es) (k:=(wY k)) (zv:=false) (i:=2) rfl rfl rfl yR LQ Hi S rfl) ?_)
 refine U3 rfl ?_
 refine Uw [(1,_),(3,_),(4,_),(5,_),(14,_)] ⟨rfl,rfl,rfl,rfl,rfl,trivial⟩ ?_
 refine U2 ?_
 refine dH Z35 Z36 rfl rfl rfl rfl (fun iT=>?_) (fun iT=>?_)
 ·refine Uk rfl rfl ?_
  refine Ut ?_
  intro ak ai
  exact⟨_,_,Hp.le_refl _,S.pick [0,2,3,4,5,6] [_,_,_,_,_,_] (by decide) ⟨rfl,rfl,rfl,rfl,rfl,rfl,trivial⟩,es,vs,wC,seen,jd,rfl,fE,vR hfn (by rw[<-nQ (k+2) (by omega) (by omega)];exact iT),nQ⟩
 ·refine Ub rfl ?_
  refine Uw [(1,_),(3,_),(4,_),(5,_)] ⟨rfl,rfl,rfl,rfl,trivial⟩ ?_
  refine U2 ?_
  refine U1 Z37 Z38 rfl rfl rfl ?_
  refine U0 rfl ?_
  refine Uj (k:=0) (k':=1) rfl rfl rfl (U8 rfl rfl (run_assign rfl rfl) ?_)
  refine U3 rfl ?_
  refine U2 ?_
  refine U1 Z39 Z3a rfl rfl rfl ?_
  refine U1 Z3b Z3c rfl rfl rfl ?_
  refine U0 rfl ?_
  refine Uj (k:=0) (k':=1) rfl rfl rfl (U8 rfl rfl (Uc (us:=[_,_]) rfl rfl gw rfl iz (S.aY (i:=1) rfl ⟨rfl,rfl,trivial⟩)) ?_)
  refine Uj (k:=1) (k':=2) rfl rfl rfl (dh (l:=[_,_]) rfl rfl rfl y7 rfl S ?_)
  intro aI w1 S1;clear S
  refine Uj (k:=2) (k':=3) rfl rfl rfl (Uo (i:=0) (us:=[_,_]) (l':=[_,_]) (H':=[_,_,_,_,_,_,_,_]) rfl rfl S1 rfl rfl rfl rfl iz rfl rfl rfl rfl ?_)
  intro w2 S2;clear S1
  refine U3 rfl ?_
  refine Uw [(1,_),(3,_),(4,_),(6,_),(7,_)] ⟨rfl,rfl,rfl,rfl,rfl,trivial⟩ ?_
  refine U2 ?_
  refine U7 Z3d 2 rfl rfl rfl ?_
  have S3:=S2.gL gN;clear S2
  refine Ui (fun aF ak aA=>∃(rE:List (Da×Bool)) (gh:List Bool) (x:Nat) (y:Da) (acc:List Int) (mE:List Da) (wD:Value) (nV:Nat),aF=free gh/\Env 35 [(1,.pointer (some ⟨vB,0,none⟩)),(3,.pointer (some ⟨vw,0,none⟩)),(4,.pointer (some ⟨vv,0,none⟩)),(6,wD),(7,.pointer (some ⟨nV,0,none⟩))] ak/\SH aA M X [Rs.row gN wD mE,Rs.box nV 26 [.int .i64 y.a,.bool y.b],R0,Rs.mp (fun x=>Value.agg (gN.f x).toArray) Value.bool gm rE,Rs.box vv 65 [wC],Rs.row (ck 141) wC vs,Rs.box vw 192 [.map (some gm)],Rs.box vB 64 [.pointer (some ⟨bp,0,none⟩)]]/\fA (dI d) seen (k+2) []=fA (dI d) gh x acc/\mE=jY acc/\uH d rE gh/\(2<=x/\x<4*d.ae.length+2)/\gh.length=4*d.ae.length+2/\y=dA x/\acc.length+free gh<=100) rfl ?_ ?_
  ·intro ak ai
   refine⟨_,⟨es,seen,k+2,wY k,[],_,_,_,rfl,ai.sub ⟨rfl,rfl,rfl,rfl,rfl,trivial⟩,S3.pick [0,1,2,4,5,6,7,8] [_,_,_,_,_,_,_,_] (by decide) ⟨rfl,rfl,rfl,rfl,rfl,rfl,rfl,rfl,trivial⟩,?bn,?bE,?ez,?sB,?wP,?apF,?apE⟩⟩
   case bn=>rfl
   case bE=>rfl
   case ez=>exact nQ
   case sB=>omega
   case wP=>(have h9:=xY d k;rw[hfn]at h9;exact h9)
   case apF=>rfl
   case apE=>(have h9:=xY d k;rw[hfn]at h9;have h8:free seen<=seen.length:=List.countP_le_length;simp only[List.length_nil];simp only at h9;omega)
  ·rintro m1 a1 w3 ⟨rE,gh,x,y,acc,mE,wD,nV,rfl,aQ,S4,hrg,wL,Gn,hx,hs2,hy,hroom⟩
   clear S3
   refine aW aQ (c:=Z3e) rfl ?_
   clear aQ a1
   have hyk:okD d y:=by rw[hy];exact oG hx
   have hrl:mE.length=acc.length:=by rw[wL];simp[jY]
   have Vk:=Gn x hx.1 hx.2
   refine U1 Z3f Z3g rfl rfl rfl ?_
   refine U1 Z3h Z3i rfl rfl rfl ?_
   refine U0 rfl ?_
   refine Uj (k:=0) (k':=1) rfl rfl rfl (U8 rfl rfl (U5 rfl rfl yR rfl (S4.aG (i:=6) rfl rfl)) ?_)
   refine Uj (k:=1) (k':=2) rfl rfl rfl (U8 rfl rfl (Uc (us:=[_,_]) rfl rfl gw rfl iz (S4.aY (i:=1) rfl ⟨rfl,rfl,trivial⟩)) ?_)
   refine Uj (k:=2) (k':=3) rfl rfl rfl (U8 rfl rfl (qD (kc:=(fun x=>Value.agg (gN.f x).toArray)) (vc:=Value.bool) (es:=rE) (k:=y) (zv:=false) (i:=3) rfl rfl rfl yR LQ Hi S4 rfl) ?_)
   refine Uj (k:=3) (k':=4) rfl rfl rfl (U8 rfl rfl (mX rfl rfl) ?_)
   refine U3 rfl ?_
   refine Uw [(1,_),(3,_),(4,_),(6,_),(7,_),(19,_)] ⟨rfl,rfl,rfl,rfl,rfl,rfl,trivial⟩ ?_
   refine U2 ?_
   refine dH Z3j Z3k rfl rfl rfl rfl (fun CD=>?_) (fun CD=>?_)
   ·simp only[Bool.and_eq_true,Bool.or_eq_true,Bool.and_eq_false_iff,Bool.or_eq_false_iff,decide_eq_true_eq,decide_eq_false_iff_not,Bool.not_eq_true',Bool.not_eq_false']at CD
    refine Ub rfl ?_
    refine Uw [(1,_),(3,_),(4,_),(6,_),(7,_)] ⟨rfl,rfl,rfl,rfl,rfl,trivial⟩ ?_
    refine U2 ?_
    refine U1 Z3l Z3m rfl rfl rfl ?_
    refine U7 Z3n 3 rfl rfl rfl ?_
    refine U1 Z3o Z3p rfl rfl rfl ?_
    refine U0 rfl ?_
    refine Uj (k:=0) (k':=1) rfl rfl rfl (U8 rfl rfl (U5 rfl rfl yR rfl (S4.aG (i:=6) rfl rfl)) ?_)
    refine Uj (k:=1) (k':=2) rfl rfl rfl (U8 rfl rfl (Uc (us:=[_,_]) rfl rfl gw rfl iz (S4.aY (i:=1) rfl ⟨rfl,rfl,trivial⟩)) ?_)
    refine Uj (k:=2) (k':=3) rfl rfl rfl (tT (kc:=(fun x=>Value.agg (gN.f x).toArray)) (vc:=Value.bool) (es:=rE) (k:=y) (e:=true) (i:=3) (H':=[_,_,_,_,_,_,_,_]) (.inl rfl) rfl S4 rfl rfl rfl rfl yR LQ rfl ?_)
    intro w4 S5;clear S4
    refine U3 rfl ?_
    refine Uw [(1,_),(3,_),(4,_),(6,_),(7,_)] ⟨rfl,rfl,rfl,rfl,rfl,trivial⟩ ?_
    refine U2 ?_
    refine U0 rfl ?_
    refine Uj (k:=0) (k':=1) rfl rfl rfl (U8 rfl rfl (run_move rfl rfl) ?_)
    refine Uj (k:=1) (k':=2) rfl rfl rfl (U8 rfl rfl (Uc (us:=[_,_]) rfl rfl gw rfl iz (S5.aY (i:=1) rfl ⟨rfl,rfl,trivial⟩)) ?_)
    refine Uj (k:=2) (k':=3) rfl rfl rfl (Uf (C:=gN) (l:=[_,_]) rfl rfl rfl rfl wF rfl rfl rfl rfl S5 ?_)
    intro bq w5 S6;clear S5
    refine Uj (k:=3) (k':=4) rfl rfl rfl (Ux (C:=gN) (i:=1) (q:=0) (⟨y.a,y.b⟩:Da) rfl rfl rfl rfl rfl rfl rfl rfl wF S6 rfl rfl rfl (by show(_+1)*16<=_;first|omega|(simp only[ls];omega)) ?_)
    intro amM w6 S7;clear S6
    have S8:=S7.pick [1,2,3,4,5,6,7,8] [_,_,_,_,_,_,_,_] (by decide) ⟨rfl,rfl,rfl,rfl,rfl,rfl,rfl,rfl,trivial⟩;clear S7
    refine Uj (k:=4) (k':=5) rfl rfl rfl (U8 rfl rfl (run_assign rfl rfl) ?_)
    refine U3 rfl ?_
    refine Ul ?_
    refine Uw [(1,_),(3,_),(4,_),(6,_),(7,_)] ⟨rfl,rfl,rfl,rfl,rfl,trivial⟩ ?_
    refine U2 ?_
    refine U1 Z3q Z3r rfl rfl rfl ?_
    refine U1 Z3s Z3t rfl rfl rfl ?_
    refine U0 rfl ?_
    refine Uj (k:=0) (k':=1) rfl rfl rfl (U8 rfl rfl (Uc (us:=[_,_]) rfl rfl gw rfl iz (S8.aY (i:=1) rfl ⟨rfl,rfl,trivial⟩)) ?_)
    refine U3 rfl ?_
    refine Uw [(1,_),(3,_),(4,_),(6,_),(29,_)] ⟨rfl,rfl,rfl,rfl,rfl,trivial⟩ ?_
    refine U2 ?_
    refine U0 rfl ?_
    refine Uj (k:=0) (k':=1) rfl rfl rfl (dh (l:=[_,_]) rfl rfl rfl y7 rfl S8 ?_)
    intro dD w7 S9;clear S8
    refine Uj (k:=1) (k':=2) rfl rfl rfl (Uo (i:=0) (us:=[_,_]) (l':=[_,_]) (H':=[_,_,_,_,_,_,_,_,_]) rfl rfl S9 rfl rfl rfl rfl iz rfl rfl rfl rfl ?_)
    intro w8 bM;clear S9
    refine U3 rfl ?_
    refine Uw [(1,_),(3,_),(4,_),(6,_),(7,_)] ⟨rfl,rfl,rfl,rfl,rfl,trivial⟩ ?_
    refine U2 ?_
    refine U0 rfl ?_
    refine Uj (k:=0) (k':=1) rfl rfl rfl (U8 rfl rfl (U5 rfl rfl qP rfl (bM.aG (i:=8) rfl rfl)) ?_)
    refine Uj (k:=1) (k':=2) rfl rfl rfl (U8 rfl rfl (Uc (us:=[_,_]) rfl rfl gw rfl iz (bM.aY (i:=0) rfl ⟨rfl,rfl,trivial⟩)) ?_)
    refine Uj (k:=2) (k':=3) rfl rfl rfl (gJ rfl rfl rfl rfl rfl rfl rfl aqp bM (aoC d y (aH.mono bM.Uq) (hsc.mono bM.Uq) (hsi.mono bM.Uq) (aM.mono bM.Uq) (by first|assumption|omega) hab (by first|assumption|omega) bM.aR) ?_)
    rintro _ w9 bJ rfl;clear bM
    refine Uj (k:=3) (k':=4) rfl rfl rfl (Uo (i:=0) (us:=[_,_]) (l':=[_,_]) (H':=[_,_,_,_,_,_,_,_,_]) rfl rfl bJ rfl rfl rfl rfl iz rfl rfl rfl rfl ?_)
    intro oZ cB;clear bJ
    refine U3 rfl ?_
    refine Ut ?_
    have mU:ga gh x=false:=by rw[<-Vk,<-hy];simpa using CD
    have Dy:=px (seen:=gh) (x:=x) (by omega) mU
    intro ak ai
    refine⟨_,?bG,⟨_,gh.set x true,dI d x,lI d y,acc++[(x:Int)],_,_,_,rfl,ai.sub ⟨rfl,rfl,rfl,rfl,rfl,trivial⟩,cB.pick [1,0,3,4,5,6,7,8] [_,_,_,_,_,_,_,_] (by decide) ⟨rfl,rfl,rfl,rfl,rfl,rfl,rfl,rfl,trivial⟩,?bk,?bD,?fL,?BV,?BU,?apz,?apy⟩⟩
    case bk=>(rw[hrg];exact vG (by omega) mU)
    case bD=>(rw[abe,<-wL,hy])
    case fL=>(rw[hy];exact Gn.put (by omega))
    case BV=>exact AW hab hx
    case BU=>(rw[List.length_set];exact hs2)
    case apz=>(rw[hy,Fz hab hx])
    case apy=>(simp only[List.length_append,List.length_cons,List.length_nil];omega)
    case bG=>omega
   ·simp only[Bool.and_eq_true,Bool.or_eq_true,Bool.and_eq_false_iff,Bool.or_eq_false_iff,decide_eq_true_eq,decide_eq_false_iff_not,Bool.not_eq_true',Bool.not_eq_false']at CD
    refine Uk rfl rfl ?_
    refine Uw [(1,_),(3,_),(4,_),(6,_)] ⟨rfl,rfl,rfl,rfl,trivial⟩ ?_
    refine U2 ?_
    refine U0 rfl ?_
    refine Uj (k:=0) (k':=1) rfl rfl rfl (U8 rfl rfl (U5 rfl rfl Cf rfl (S4.aG (i:=4) rfl rfl)) ?_)
    refine Uj (k:=1) (k':=2) rfl rfl rfl (U8 rfl rfl (run_move rfl rfl) ?_)
    obtain⟨M1,hle2,bY,⟨A1,c1,e1,hr1⟩⟩:=S4.gW (i:=0) (H':=[_,_,_,_,_,_,_,_]) rfl rfl (by show _*16<=_;first|omega|(simp only[ls];omega))
    clear S4;subst e1
    replace aH:=aH.mono (Hp.U6 hle2 bY.mx)
    replace hsc:=hsc.mono (Hp.U6 hle2 bY.mx)
    replace hsi:=hsi.mono (Hp.U6 hle2 bY.mx)
    replace aM:=aM.mono (Hp.U6 hle2 bY.mx)
    replace fE:=fE.mono hle2
    refine Uj (k:=2) (k':=3) rfl rfl rfl (Uf (C:=(ck 141)) (l:=[_]) rfl rfl rfl rfl xh rfl rfl rfl rfl bY ?_)
    intro jR mO bX;clear bY
    refine Uj (k:=3) (k':=4) rfl rfl rfl (Ux (C:=(ck 141)) (i:=6) (q:=0) (⟨A1,mE.length,c1⟩:eO) rfl rfl rfl rfl rfl rfl rfl rfl xh bX rfl rfl rfl (by show(_+1)*24<=_;first|omega|(simp only[ls];omega)) ?_)
    intro azw ra bT;clear bX
    have cO:=bT.pick [1,2,3,4,5,6,7,8] [_,_,_,_,_,_,_,_] (by decide) ⟨rfl,rfl,rfl,rfl,rfl,rfl,rfl,rfl,trivial⟩;clear bT
    have hd1:=fE.snoc (c:=c1) hr1
    refine Uj (k:=4) (k':=5) rfl rfl rfl (Uo (i:=4) (us:=[_]) (l':=[_]) (H':=[_,_,_,_,_,_,_,_]) rfl rfl cO rfl rfl rfl (cO.yM (i:=5) rfl) aq3 rfl (py (cO.one (i:=5) rfl) rfl) rfl rfl ?_)
    intro q8 dK;clear cO
    refine U3 rfl ?_
    refine Ul ?_
    refine Ut ?_
    intro ak ai
    exact⟨_,_,hle2,dK.pick [2,3,4,5,6,7] [_,_,_,_,_,_] (by decide) ⟨rfl,rfl,rfl,rfl,rfl,rfl,trivial⟩,_,_,_,gh,jd++[acc],rfl,by rw[List.map_append,show List.map jY [acc]=[mE]from by rw[wL];rfl];exact hd1,vQ hfn (by rw[<-nQ (k+2) (by omega) (by omega)];exact iT) (hrg.trans (IB (by rw[<-Gn x (by omega) (by omega),<-hy];simpa using CD))),Gn⟩
end InF
end Go.Proofs.YthppkofceancjaaGreat
namespace Go.Proofs.YthppkofceancjaaGreat
open Go.ChangeShapes Go.WideShapes Go.ChangeAt Go.RowKit
def KP(d:Dg)(u:Value)(M:Hp):Prop:=∃A c vs,u=.slice A vs.length c/\aB (ck 141) M A c vs/\iY gN M vs (cD d)
namespace InF
noncomputable def Z3u:=Tryz.f66.body.getD .skip
def Z3v:=cL Z3u
def Z3w:=cR Z3u
def Z3x:=cL Z3w
def Z3y:=cR Z3w
def Z3z:=cL Z3y
def Z40:=cR Z3y
def Z41:=cL Z40
def Z42:=cR Z40
def Z43:=cL Z41
def Z44:=cR Z41
def Z45:=cL Z44
set_option maxRecDepth 10000 in
theorem amF{w:World}{M:Hp}{X:Fr}(d:Dg){bp:Nat}{cA iA oA:Option Addr}{cc ic oc:Nat}(aH:bQ (M.un X.h) bp 70 [.slice cA d.ae.length cc,.int .i64 d.loops,.slice iA (aN d false (4*d.ae.length)).length ic,.slice oA (aN d true (4*d.ae.length)).length oc])(hsc:aB bw (M.un X.h) cA cc d.ae)(hsi:aB cw (M.un X.h) iA ic (aN d false (4*d.ae.length)))(aM:aB cw (M.un X.h) oA oc (aN d true (4*d.ae.length)))(hn:d.ae.length<=16)(hab:Uu d=true)(S:SH w M X []):Ct Tryz.prog 66 [.pointer (some ⟨bp,0,none⟩)] w M X (KP d):=by
 unfold Ct
 refine Iz (b:=Z3u) Tryz.func66 rfl Tryz.ntmps66 rfl (fun C qp hC=>?_)
 refine bu [(0,_)] ⟨rfl,trivial⟩ ?_
 refine U1 Z3v Z3w rfl rfl rfl ?_
 refine U0 rfl ?_
 refine Uj (k:=0) (k':=1) rfl rfl rfl (cU (l:=[_]) rfl rfl rfl rfl rfl S ?_)
 intro aI w1 S1;clear S
 refine Uj (k:=1) (k':=2) rfl rfl rfl (U8 rfl rfl (run_assign rfl rfl) ?_)
 refine U3 rfl ?_
 refine Uw [(1,_)] ⟨rfl,trivial⟩ ?_
 refine U2 ?_
 refine U1 Z3x Z3y rfl rfl rfl ?_
 refine U0 rfl ?_
 refine Uj (k:=0) (k':=1) rfl rfl rfl (vP Da Bool (fun x=>Value.agg (gN.f x).toArray) Value.bool rfl rfl rfl S1 ?_)
 intro eV w2 S2;clear S1
 refine Uj (k:=1) (k':=2) rfl rfl rfl (dh (l:=[_]) rfl rfl rfl aoJ rfl S2 ?_)
 intro bq w3 S3;clear S2
 refine Uj (k:=2) (k':=3) rfl rfl rfl (Uo (i:=0) (us:=[_]) (l':=[_]) (H':=[_,_,_]) rfl rfl S3 rfl rfl rfl rfl aoS rfl rfl rfl rfl ?_)
 intro w4 S4;clear S3
 refine U3 rfl ?_
 refine Uw [(1,_),(3,_)] ⟨rfl,rfl,trivial⟩ ?_
 refine U2 ?_
 refine U1 Z3z Z40 rfl rfl rfl ?_
 refine U0 rfl ?_
 refine Uj (k:=0) (k':=1) rfl rfl rfl (dh (l:=[_]) rfl rfl rfl aqD rfl S4 ?_)
 intro dD w5 S5;clear S4
 refine U3 rfl ?_
 refine U2 ?_
 refine U1 Z41 Z42 rfl rfl rfl ?_
 refine U1 Z43 Z44 rfl rfl rfl ?_
 refine U0 rfl ?_
 refine Uj (k:=0) (k':=1) rfl rfl rfl (U8 rfl rfl (U5 rfl rfl qP rfl (S5.aG (i:=3) rfl rfl)) ?_)
 refine Uj (k:=1) (k':=2) rfl rfl rfl (dt rfl rfl rfl rfl rfl rfl rfl aqq S5 (amH d (aH.mono S5.Uq) (hsc.mono S5.Uq) (hsi.mono S5.Uq) (aM.mono S5.Uq) S5.aR) ?_)
 intro vw6 w6 M1 hle1 S6 Mv;clear S5
 replace aH:=aH.mono (Hp.U6 hle1 S6.mx)
 replace hsc:=hsc.mono (Hp.U6 hle1 S6.mx)
 replace hsi:=hsi.mono (Hp.U6 hle1 S6.mx)
 replace aM:=aM.mono (Hp.U6 hle1 S6.mx)
 obtain⟨bd1,rfl,lW⟩:=Mv
 refine U3 rfl ?_
 refine Uw [(1,_),(3,_),(4,_),(10,_)] ⟨rfl,rfl,rfl,rfl,trivial⟩ ?_
 refine U2 ?_
 refine U7 Z45 0 rfl rfl rfl ?_
 have S9:=(S6.gL (ck 141)).pick [3,1,0,2,4] [_,_,_,_,_] (by decide) ⟨rfl,rfl,rfl,rfl,rfl,trivial⟩
 refine aik (p:=11) (f:=164) (lb:=[_]) (asg:=rfA yj) (bd:=Hq yj) (enc:=CL) (N:=4*d.ae.length) qp rfl rfl rfl aqi S9 (FF d bp aI bq dD eV) (JP d bp aI bq dD eV) ?_ (aiA d aH hsc hsi aM lW hn) ?_ ?_ ?_
 ·exact⟨[],[],.slice none 0 0,_,[],rfl,iY.bN,rfl,uH.bN d⟩
 ·intro k M' H' w' C' R0 hk hle S' hI
  exact aio ⟨rfl,rfl,rfl,rfl,trivial⟩ S' hI
 ·intro k M' H' w' C' R0 a hk hle S' nT
  exact aiV d (aH.mono (Hp.U6 hle S'.mx)) (hsc.mono (Hp.U6 hle S'.mx)) (hsi.mono (Hp.U6 hle S'.mx)) (aM.mono (Hp.U6 hle S'.mx)) hn hab hk S' nT
 ·intro a M' H' w' D l rc ha hle S' hI
  obtain⟨es,vs,ae8,seen,jd,rfl,fE,hfn,nQ⟩:=hI
  change SH w' M' X [Rs.lr l D rc,_,_,Rs.row (ck 141) ae8 vs,_,_]at S'
  refine Jr (c:=Z42) (i:=15) (d1:=34) (d2:=2) (v:=ae8) hC rfl rfl rfl rfl rfl rfl rfl ha rfl Cf rfl rfl rfl rfl S' (S'.aG (i:=2) rfl rfl) (fun w2 S2=>?_)
  have hvl:=fE.1
  rw[List.length_map]at hvl
  have lK:=Ev d (4*d.ae.length)
  rw[hfn]at lK
  replace lK:jd.length<=4*d.ae.length:=lK
  obtain⟨M3,cG,S3,⟨A,c,e,hr⟩⟩:=S2.gW (i:=2) (H':=[_,_,_,_,_]) rfl rfl (by show _*24<=_;omega)
  subst e
  refine⟨_,rfl,M3,(hle1).trans (hle.trans cG),S3.pick [] [] (by decide) trivial,A,c,vs,rfl,hr,?_⟩
  have e2:cD d=jd.map jY:=by unfold cD BD;rw[hfn]
  rw[e2]
  exact fE.mono cG
end InF
end Go.Proofs.YthppkofceancjaaGreat
