/- Part 6 of the proof of the law TableSeeks: the walks through its functions and the plain laws that they need. -/
import Derived.Test.YtcohmplpgcddiaaGreatDoorSmZ5
import Derived.Lib.AppendZeros
import Derived.OrdersIn
set_option linter.unusedSimpArgs false
set_option linter.unusedVariables false
noncomputable section
namespace Go.Proofs.YtcohmplpgcddiaaGreatDoor
open Go.ChangeShapes Go.WideShapes Go.ChangeAt Go.RowKit
section
variable {P : Program} {o : Oper} {L : List (Nat × Value)} {w : World} {a b : Int}
theorem adj{ca:Call}{ops:List Operand}{ts:List TypeId}(hop:o.op=.call ca)(eG:ca.callee=.builtin .min)(hxs:ca.args=ops.toArray)(hts:ca.argTypes=ts.toArray)(hx:oevs L ops=some [.int .i64 a,.int .i64 b]):Run P o L w (.int .i64 (min a b)) w:=by
 intro n c he
 have e:(if b<a then b else a)=min a b:=by
  by_cases h:b<a
  ·rw[if_pos h];omega
  ·rw[if_neg h];omega
 unfold execOp
 simp only[hop,resolve,eG,hxs,hts,List.map_toArray,he.pE hx,Sem.run_bind,Sem.run_pure,Result.andThen_ok,invoke,builtin,Builtin.min_,List.foldlM_cons,List.foldlM_nil,Builtin.min2,e]
end
def relN(cl:List Int)(f t:Int):Nat->List Int
 |0=>cl
 |a+1=>if ga (relN cl f t a) a=f then(relN cl f t a).set a t else relN cl f t a
theorem H5(cl:List Int)(f t:Int)(a:Nat):(relN cl f t a).length=cl.length:=by
 induction a with
 |zero=>rfl
 |succ a ih=>rw[relN];split<;>(try rw[List.length_set])<;>exact ih
theorem Ut(cl:List Int)(f t:Int)(a:Nat)(ha:a<=cl.length):∀x,ga (relN cl f t a) x=if x<a/\ga cl x=f then t else ga cl x:=by
 induction a with
 |zero=>intro x;rw[if_neg (by omega)];rfl
 |succ a ih=>
  have ih:=ih (by omega)
  have ha0:ga (relN cl f t a) a=ga cl a:=by rw[ih,if_neg (by omega)]
  intro x
  rw[relN,ha0]
  split
  ·rename_i e
   rw[eX _ _ _ _ (by rw[H5];omega)]
   split
   ·rename_i e2;subst e2
    rw[if_pos ⟨by omega,e⟩]
   ·rw[ih]
    by_cases h9:x<a/\ga cl x=f
    ·rw[if_pos h9,if_pos ⟨by omega,h9.2⟩]
    ·rw[if_neg h9,if_neg (fun h=>h9 ⟨by omega,h.2⟩)]
  ·rename_i e
   rw[ih]
   by_cases h9:x<a/\ga cl x=f
   ·rw[if_pos h9,if_pos ⟨by omega,h9.2⟩]
   ·rw[if_neg h9,if_neg (fun(h:x<a+1/\ga cl x=f)=>by
     by_cases h8:x=a
     ·subst h8;exact e h.2
     ·exact h9 ⟨by omega,h.2⟩)]
def C6(N:Nat)(cl:List Int):Prop:=cl.length=N/\∀x,x<N->0<=ga cl x/\ga cl x<=x/\ga cl (ga cl x).toNat=ga cl x
theorem adE{N:Nat}{cl QC:List Int}{f t:Int}(hok:C6 N cl)(hl:QC.length=N)(hg:∀x,x<N->ga QC x=if ga cl x=f then t else ga cl x)(hft:t<=f)(h0:0<=t)(hti:ga cl t.toNat=t):C6 N QC:=by
 refine⟨hl,fun x hx=>?_⟩
 obtain⟨x1,x2,x3⟩:=hok.2 x hx
 have e:=hg x hx
 by_cases hf:ga cl x=f
 ·rw[if_pos hf]at e
  rw[e]
  refine⟨h0,by omega,?_⟩
  rw[hg _ (by omega)]
  split
  ·rfl
  ·exact hti
 ·rw[if_neg hf]at e
  rw[e]
  refine⟨x1,x2,?_⟩
  rw[hg _ (by omega),x3,if_neg hf]
theorem RR(e1 e2:Nat->Nat)(ws:List Int)(k:Nat):(qE e1 e2 ws k).length=ws.length:=by
 induction k with
 |zero=>rfl
 |succ k ih=>rw[qE,La,ih]
noncomputable def Z2v:=Tryz.f68.body.getD .skip
set_option maxRecDepth 10000 in
theorem adQ{w:World}{M:Hp}{X:Fr}(PK:Value)(ws:List Int)(i:Int)(j:Int)(hi:0<=i/\i<(ws.length:Int))(hj:0<=j/\j<(ws.length:Int))(S:SH w M X [Rs.row aQ PK ws]):C1 Tryz.prog 68 [PK,.int .i64 i,.int .i64 j] w M X (fun u M' r'=>u=tup []/\M'=M/\r'=Rs.row aQ PK (nD ws i.toNat j.toNat)):=by
 unfold C1
 refine cw (b:=Z2v) Tryz.func68 rfl Tryz.ntmps68 rfl (fun C hC=>(cB [0,1,2] rfl (cJ (dH S 9 ?_))))
 clear S
 refine aK 7 [0,1] rfl (ay 2 rfl (fun ah Sz=>bS (i:=0) i.toNat rfl bt Sz.suf rfl) (ay 3 rfl (fun ah Sz=>aw rfl aG (Sz.suf.dS (i:=0) (e:=i.toNat) (j:=0) rfl (by first|omega|(simp only[ls];omega)) rfl rfl)) ?_))
 refine aK 3 [4,5] rfl (ay 6 rfl (fun ah Sz=>bS (i:=0) j.toNat rfl bt Sz.suf rfl) (ay 7 rfl (fun ah Sz=>aw rfl aG (Sz.suf.dS (i:=0) (e:=j.toNat) (j:=0) rfl (by first|omega|(simp only[ls];omega)) rfl rfl)) ?_))
 refine aK 0 [8] rfl (cD (fun ld bQ=>(aW [0,1,2,14] rfl ?_)))
 refine bp rfl (fun jf=>?_) (fun jf=>?_)
 ·refine aH (af 4 rfl (ag rfl (bS (i:=0) i.toNat rfl bt bQ rfl) (ag rfl (aw rfl aG (bQ.dS (i:=0) (e:=i.toNat) (j:=0) rfl (by first|omega|(simp only[ls];omega)) rfl rfl)) ?_)))
  refine ag rfl (bS (i:=0) j.toNat rfl bt bQ rfl) (aj rfl (iE (C:=aQ) (i:=0) (e:=j.toNat) (j:=0) (us:=[_]) (H':=[_]) (ga ws i.toNat) rfl rfl bQ rfl (by first|omega|(simp only[ls];omega)) rfl rfl rfl gp rfl rfl rfl rfl ?_))
  intro lI cz;clear bQ
  refine aB (l8 hC [] rfl trivial ?_)
  exact⟨_,rfl,_,_,Hp.le_refl _,cz.pick [0] [_] (by decide) ⟨rfl,trivial⟩,⟨rfl,rfl,by unfold nD;first|rw[if_pos (by assumption)]|rw[if_neg (by assumption)]⟩⟩
 ·refine aH (af 4 rfl (ag rfl (bS (i:=0) j.toNat rfl bt bQ rfl) (ag rfl (aw rfl aG (bQ.dS (i:=0) (e:=j.toNat) (j:=0) rfl (by first|omega|(simp only[ls];omega)) rfl rfl)) ?_)))
  refine ag rfl (bS (i:=0) i.toNat rfl bt bQ rfl) (aj rfl (iE (C:=aQ) (i:=0) (e:=i.toNat) (j:=0) (us:=[_]) (H':=[_]) (ga ws j.toNat) rfl rfl bQ rfl (by first|omega|(simp only[ls];omega)) rfl rfl rfl gp rfl rfl rfl rfl ?_))
  intro nL cO;clear bQ
  refine aB (l8 hC [] rfl trivial ?_)
  exact⟨_,rfl,_,_,Hp.le_refl _,cO.pick [0] [_] (by decide) ⟨rfl,trivial⟩,⟨rfl,rfl,by unfold nD;first|rw[if_pos (by assumption)]|rw[if_neg (by assumption)]⟩⟩
end Go.Proofs.YtcohmplpgcddiaaGreatDoor
namespace Go.Proofs.YtcohmplpgcddiaaGreatDoor
open Go.ChangeShapes Go.WideShapes Go.ChangeAt Go.RowKit
def lj(x:Cr):Int×Int:=if x.plus=true then(x.d,x.b)else(x.b,x.d)
noncomputable def Z2w:=Tryz.f147.body.getD .skip
set_option maxRecDepth 10000 in
theorem aew{w:World}{M:Hp}{X:Fr}(x:Cr)(S:SH w M X []):Cq Tryz.prog 147 [.agg [.int .i64 x.a,.int .i64 x.b,.int .i64 x.c,.int .i64 x.d,.bool x.plus].toArray] w M X (fun u=>u=.agg [.int .i64 (lj x).1,.int .i64 (lj x).2].toArray):=by
 unfold Cq
 refine cw (b:=Z2w) Tryz.func147 rfl Tryz.ntmps147 rfl (fun C hC=>(cB [0] rfl (ar (aj rfl (dx (l:=[_,_,_,_,_]) rfl rfl rfl rfl rfl S ?_)))))
 intro aP w1 S1;clear S
 refine aj rfl (bW (l:=[_,_]) rfl rfl rfl CP rfl S1 ?_)
 intro bJ w2 S2;clear S1
 refine bM [1,2] rfl (ar (ag rfl (az rfl b6 rfl lM lJ) (ag rfl (aw rfl gY (S2.bc 1 rfl rfl)) (ax [1,2,4] rfl ?_))))
 refine gB rfl (fun hb4=>?_) (fun hb4=>?_)
 ·refine ar (ag rfl (az rfl b6 rfl aY aX) (ag rfl (aw rfl aG (S2.bc 1 rfl rfl)) (ag rfl (az rfl b6 rfl aY aX) (ag rfl (aw rfl aG (S2.bc 1 rfl rfl)) (ag rfl (vL (l:=[_,_]) (pl:=[(0,1),(1,1)]) rfl rfl tO CP gp rfl rfl rfl) (aj rfl (bH 0 [_,_] [_,_] [_,_] rfl S2 rfl rfl wM rfl rfl ?_)))))))
  intro w3 S3;clear S2
  refine ax [2] rfl (dI hC [_] rfl rfl ⟨⟨_,rfl,dK (us:=[_,_]) tO rfl wM (S3.bs 0 rfl rfl)⟩,trivial⟩ ?_)
  exact⟨_,rfl,(S3.pick [] [] (by decide) trivial),(by show Value.agg _=_;unfold lj;first|rw[if_pos (by assumption)]|rw[if_neg (by simp[*])])⟩
 ·refine aV (cP [1,2] rfl (ag rfl (az rfl b6 rfl aY aX) (ag rfl (aw rfl aG (S2.bc 1 rfl rfl)) (ag rfl (az rfl b6 rfl aY aX) (ag rfl (aw rfl aG (S2.bc 1 rfl rfl)) (ag rfl (vL (l:=[_,_]) (pl:=[(0,1),(1,1)]) rfl rfl tO CP gp rfl rfl rfl) (aj rfl (bH 0 [_,_] [_,_] [_,_] rfl S2 rfl rfl wM rfl rfl ?_))))))))
  intro w4 S4;clear S2
  refine ax [2] rfl (dI hC [_] rfl rfl ⟨⟨_,rfl,dK (us:=[_,_]) tO rfl wM (S4.bs 0 rfl rfl)⟩,trivial⟩ ?_)
  exact⟨_,rfl,(S4.pick [] [] (by decide) trivial),(by show Value.agg _=_;unfold lj;first|rw[if_pos (by assumption)]|rw[if_neg (by simp[*])])⟩
noncomputable def Z2x:=Tryz.f146.body.getD .skip
set_option maxRecDepth 10000 in
theorem aev{w:World}{M:Hp}{X:Fr}(x:Cr)(S:SH w M X []):Cq Tryz.prog 146 [.agg [.int .i64 x.a,.int .i64 x.b,.int .i64 x.c,.int .i64 x.d,.bool x.plus].toArray] w M X (fun u=>u=.agg [.int .i64 x.a,.int .i64 x.c].toArray):=by
 unfold Cq
 refine cw (b:=Z2x) Tryz.func146 rfl Tryz.ntmps146 rfl (fun C hC=>(cB [0] rfl (ar (aj rfl (dx (l:=[_,_,_,_,_]) rfl rfl rfl rfl rfl S ?_)))))
 intro aP w1 S1;clear S
 refine aj rfl (bW (l:=[_,_]) rfl rfl rfl CP rfl S1 ?_)
 intro bJ w2 S2;clear S1
 refine bL [1,2] rfl (ag rfl (az rfl b6 rfl aY aX) (ag rfl (aw rfl aG (S2.bc 1 rfl rfl)) (ag rfl (az rfl b6 rfl aY aX) (ag rfl (aw rfl aG (S2.bc 1 rfl rfl)) (ag rfl (vL (l:=[_,_]) (pl:=[(0,1),(1,1)]) rfl rfl tO CP gp rfl rfl rfl) (aj rfl (bH 0 [_,_] [_,_] [_,_] rfl S2 rfl rfl wM rfl rfl ?_)))))))
 intro w3 S3;clear S2
 refine ax [2] rfl (dI hC [_] rfl rfl ⟨⟨_,rfl,dK (us:=[_,_]) tO rfl wM (S3.bs 0 rfl rfl)⟩,trivial⟩ ?_)
 exact⟨_,rfl,(S3.pick [] [] (by decide) trivial),rfl⟩
end Go.Proofs.YtcohmplpgcddiaaGreatDoor
namespace Go.Proofs.YtcohmplpgcddiaaGreatDoor
open Go.ChangeShapes Go.WideShapes Go.ChangeAt Go.RowKit
section
variable (e1 e2 : Nat → Nat) (N : Nat)
def oI(cl:List Int)(k:Nat):Int:=max (ga cl (e1 k)) (ga cl (e2 k))
def pW(cl:List Int)(k:Nat):Int:=min (ga cl (e1 k)) (ga cl (e2 k))
def clsG:Nat->List Int
 |0=>iniW N N
 |k+1=>relN (clsG k) (oI e1 e2 (clsG k) k) (pW e1 e2 (clsG k) k) N
theorem Ep(k:Nat):(clsG e1 e2 N k).length=N:=by
 induction k with
 |zero=>exact zi _ _
 |succ k ih=>rw[clsG,H5,ih]
theorem zZ(k x:Nat)(hx:x<N):ga (clsG e1 e2 N (k+1)) x=if ga (clsG e1 e2 N k) x=oI e1 e2 (clsG e1 e2 N k) k then pW e1 e2 (clsG e1 e2 N k) k else ga (clsG e1 e2 N k) x:=by
 rw[clsG,Ut _ _ _ _ (by rw[Ep];exact Nat.le_refl _)]
 by_cases h9:ga (clsG e1 e2 N k) x=oI e1 e2 (clsG e1 e2 N k) k
 ·rw[if_pos ⟨hx,h9⟩,if_pos h9]
 ·rw[if_neg (fun h=>h9 h.2),if_neg h9]
theorem HR(y:Nat)(hy:y<N):ga (clsG e1 e2 N 0) y=(y:Int):=LW _ _ (Nat.le_refl _) y hy
theorem afu(cl:List Int)(k:Nat):oI e1 e2 cl k=ga cl (e1 k)\/oI e1 e2 cl k=ga cl (e2 k):=by unfold oI;omega
theorem U7(cl:List Int)(k:Nat):pW e1 e2 cl k=ga cl (e1 k)\/pW e1 e2 cl k=ga cl (e2 k):=by unfold pW;omega
variable {e1 e2 N}
theorem Iy{K:Nat}(he:∀k,k<K->e1 k<N/\e2 k<N)(k:Nat)(hk:k<=K):C6 N (clsG e1 e2 N k):=by
 induction k with
 |zero=>exact⟨zi _ _,fun x hx=>by
   rw[HR e1 e2 N x hx]
   refine⟨by omega,by omega,?_⟩
   rw[show((x:Int)).toNat=x by omega,HR e1 e2 N x hx]⟩
 |succ k ih=>
  have ih:=ih (by omega)
  obtain⟨b1,b2⟩:=he k (by omega)
  obtain⟨p1,_,p3⟩:=ih.2 _ b1
  obtain⟨q1,_,q3⟩:=ih.2 _ b2
  refine adE ih (Ep _ _ _ _) (fun x hx=>zZ e1 e2 N k x hx) (by unfold oI pW;omega) (by unfold pW;omega) ?_
  rcases U7 e1 e2 (clsG e1 e2 N k) k with e|e<;>rw[e]<;>assumption
theorem abN{j x y:Nat}(hx:x<N)(hy:y<N)(e:ga (clsG e1 e2 N j) x=ga (clsG e1 e2 N j) y):ga (clsG e1 e2 N (j+1)) x=ga (clsG e1 e2 N (j+1)) y:=by
 rw[zZ e1 e2 N j x hx,zZ e1 e2 N j y hy,e]
theorem DA{k:Nat}(b1:e1 k<N)(b2:e2 k<N)(j:Nat)(hj:k<j):ga (clsG e1 e2 N j) (e1 k)=ga (clsG e1 e2 N j) (e2 k):=by
 induction j with
 |zero=>omega
 |succ j ih=>
  by_cases e:k=j
  ·subst e
   rw[zZ e1 e2 N k _ b1,zZ e1 e2 N k _ b2]
   unfold oI pW
   split<;>split<;>omega
  ·exact abN b1 b2 (ih (by omega))
theorem Er{K:Nat}(he:∀k,k<K->e1 k<N/\e2 k<N)(Z:Nat->Prop)(hZ:∀k,k<K->(Z (e1 k)<->Z (e2 k)))(j:Nat)(hj:j<=K):∀x y,x<N->y<N->ga (clsG e1 e2 N j) x=ga (clsG e1 e2 N j) y->(Z x<->Z y):=by
 induction j with
 |zero=>
  intro x y hx hy e
  rw[HR e1 e2 N x hx,HR e1 e2 N y hy]at e
  obtain rfl:x=y:=by omega
  exact Iff.rfl
 |succ j ih=>
  have ih:=ih (by omega)
  obtain⟨b1,b2⟩:=he j (by omega)
  have hz:=hZ j (by omega)
  have hf:∀x,x<N->ga (clsG e1 e2 N j) x=oI e1 e2 (clsG e1 e2 N j) j->(Z x<->Z (e1 j)):=fun x hx e=>by
   rcases afu e1 e2 (clsG e1 e2 N j) j with h2|h2
   ·exact ih x _ hx b1 (e.trans h2)
   ·exact(ih x _ hx b2 (e.trans h2)).trans hz.symm
  have ht:∀x,x<N->ga (clsG e1 e2 N j) x=pW e1 e2 (clsG e1 e2 N j) j->(Z x<->Z (e1 j)):=fun x hx e=>by
   rcases U7 e1 e2 (clsG e1 e2 N j) j with h2|h2
   ·exact ih x _ hx b1 (e.trans h2)
   ·exact(ih x _ hx b2 (e.trans h2)).trans hz.symm
  intro x y hx hy e
  rw[zZ e1 e2 N j x hx,zZ e1 e2 N j y hy]at e
  by_cases KB:ga (clsG e1 e2 N j) x=oI e1 e2 (clsG e1 e2 N j) j
  ·rw[if_pos KB]at e
   by_cases D2:ga (clsG e1 e2 N j) y=oI e1 e2 (clsG e1 e2 N j) j
   ·exact(hf x hx KB).trans (hf y hy D2).symm
   ·rw[if_neg D2]at e
    exact(hf x hx KB).trans (ht y hy e.symm).symm
  ·rw[if_neg KB]at e
   by_cases D2:ga (clsG e1 e2 N j) y=oI e1 e2 (clsG e1 e2 N j) j
   ·rw[if_pos D2]at e
    exact(ht x hx e).trans (hf y hy D2).symm
   ·rw[if_neg D2]at e
    exact ih x y hx hy e
end
def AW(e1 e2:Nat->Nat)(N K:Nat):Nat->List Int
 |0=>iniW N N
 |j+1=>qE e1 e2 (AW e1 e2 N K j) K
theorem H6(e1 e2:Nat->Nat)(N K j:Nat):(AW e1 e2 N K j).length=N:=by
 induction j with
 |zero=>exact zi _ _
 |succ j ih=>rw[AW,RR,ih]
theorem adr{e1 e2:Nat->Nat}{N K:Nat}(he:∀k,k<K->e1 k<N/\e2 k<N):AW e1 e2 N K N=clsG e1 e2 N K:=by
 have hok:=Iy he K (Nat.le_refl _)
 have hl:=labels (N:=N) (K:=K) e1 e2 he (fun x=>(ga (clsG e1 e2 N K) x).toNat)
  (fun k hk=>congrArg Int.toNat (DA (he k hk).1 (he k hk).2 _ hk))
  (fun Z hZ x y hx hy e hz=>(Er he Z hZ _ (Nat.le_refl _) x y hx hy (by
   have hX:=hok.2 x hx
   have hY:=hok.2 y hy
   have e':(ga (clsG e1 e2 N K) x).toNat=(ga (clsG e1 e2 N K) y).toNat:=e
   omega)).1 hz)
  (AW e1 e2 N K) (H6 _ _ _ _ 0) (fun x hx=>LW _ _ (Nat.le_refl _) x hx) (fun j=>rfl)
 refine Ag (by rw[H6,Ep]) fun x hx=>?_
 rw[H6]at hx
 obtain⟨z,z1,z2,z3,z4⟩:=hl x hx
 obtain⟨x1,x2,x3⟩:=hok.2 x hx
 obtain⟨w1,w2,w3⟩:=hok.2 z z1
 have a1:=z4 (ga (clsG e1 e2 N K) x).toNat (by omega) (by show(ga (clsG e1 e2 N K) (ga (clsG e1 e2 N K) x).toNat).toNat=_;rw[x3])
 replace z3:(ga (clsG e1 e2 N K) z).toNat=(ga (clsG e1 e2 N K) x).toNat:=z3
 rw[z2]
 omega
end Go.Proofs.YtcohmplpgcddiaaGreatDoor
namespace Go.Proofs.YtcohmplpgcddiaaGreatDoor
open Go.ChangeShapes Go.WideShapes Go.ChangeAt Go.RowKit
theorem abw(cl:List Int)(f:Int)(a:Nat)(ha:a<=cl.length):relN cl f f a=cl:=by
 refine Ag (H5 _ _ _ _) fun x _=>?_
 rw[Ut _ _ _ _ ha]
 split
 ·rename_i h;exact h.2.symm
 ·rfl
theorem aec{N:Nat}{c1 c2:List Int}(h1:C6 N c1)(h2:C6 N c2)(h:∀x y,x<N->y<N->(ga c1 x=ga c1 y<->ga c2 x=ga c2 y)):c1=c2:=by
 refine Ag (by rw[h1.1,h2.1]) fun x hx=>?_
 rw[h1.1]at hx
 obtain⟨p1,p2,p3⟩:=h1.2 x hx
 obtain⟨q1,q2,q3⟩:=h2.2 x hx
 have a1:=(h (ga c1 x).toNat x (by omega) hx).1 p3
 have a2:=(h (ga c2 x).toNat x (by omega) hx).2 q3
 obtain⟨_,b2,_⟩:=h2.2 (ga c1 x).toNat (by omega)
 obtain⟨_,d2,_⟩:=h1.2 (ga c2 x).toNat (by omega)
 omega
theorem abM{e1 e2 f1 f2:Nat->Nat}{N K L:Nat}(he:∀k,k<K->e1 k<N/\e2 k<N)(hf:∀k,k<L->f1 k<N/\f2 k<N)
  (h12:∀k,k<K->e1 k=e2 k\/∃j,j<L/\((e1 k=f1 j/\e2 k=f2 j)\/(e1 k=f2 j/\e2 k=f1 j)))(h21:∀j,j<L->∃k,k<K/\((e1 k=f1 j/\e2 k=f2 j)\/(e1 k=f2 j/\e2 k=f1 j))):clsG e1 e2 N K=clsG f1 f2 N L:=by
 refine aec (Iy he K (Nat.le_refl _)) (Iy hf L (Nat.le_refl _)) fun x y hx hy=>⟨fun h=>?_,fun h=>?_⟩
 ·exact(Er he (fun z=>ga (clsG f1 f2 N L) x=ga (clsG f1 f2 N L) z) (fun k hk=>by
   rcases h12 k hk with e|⟨j,hj,⟨e1,e2⟩|⟨e1,e2⟩⟩
   ·rw[e]
   ·rw[e1,e2,DA (hf j hj).1 (hf j hj).2 L hj]
   ·rw[e1,e2,DA (hf j hj).1 (hf j hj).2 L hj]) K (Nat.le_refl _) x y hx hy h).1 rfl
 ·exact(Er hf (fun z=>ga (clsG e1 e2 N K) x=ga (clsG e1 e2 N K) z) (fun j hj=>by
   obtain⟨k,hk,⟨a,b⟩|⟨a,b⟩⟩:=h21 j hj
   ·rw[<-a,<-b,DA (he k hk).1 (he k hk).2 K hk]
   ·rw[<-a,<-b,DA (he k hk).1 (he k hk).2 K hk]) L (Nat.le_refl _) x y hx hy h).1 rfl
def gL(d:Dg)(gn:Nat->Bool)(i:Nat):Nat:=if gn (i/2)=true then(if i%2=0 then(ga d.ae (i/2)).a.toNat else(lj (ga d.ae (i/2))).1.toNat)else 0
def gK(d:Dg)(gn:Nat->Bool)(i:Nat):Nat:=if gn (i/2)=true then(if i%2=0 then(ga d.ae (i/2)).c.toNat else(lj (ga d.ae (i/2))).2.toNat)else 0
def pX(d:Dg)(gn:Nat->Bool)(i:Nat):List Int:=clsG (gL d gn) (gK d gn) (2*d.ae.length+1) i
def tC(d:Dg)(gn:Nat->Bool):List Int:=pX d gn (2*d.ae.length)
theorem Nf{d:Dg}(h:aO d=true){k:Nat}(hk:k<d.ae.length):(1<=(ga d.ae k).a/\(ga d.ae k).a<=2*(d.ae.length:Int))/\(1<=(ga d.ae k).b/\(ga d.ae k).b<=2*(d.ae.length:Int))/\(1<=(ga d.ae k).c/\(ga d.ae k).c<=2*(d.ae.length:Int))/\(1<=(ga d.ae k).d/\(ga d.ae k).d<=2*(d.ae.length:Int)):=
 ⟨ey h hk (k:=0) (by omega),ey h hk (k:=1) (by omega),ey h hk (k:=2) (by omega),ey h hk (k:=3) (by omega)⟩
theorem W7{d:Dg}(h:aO d=true){k:Nat}(hk:k<d.ae.length):1<=(lj (ga d.ae k)).1/\(lj (ga d.ae k)).1<=2*(d.ae.length:Int)/\1<=(lj (ga d.ae k)).2/\(lj (ga d.ae k)).2<=2*(d.ae.length:Int):=by
 obtain⟨_,hb,_,hd⟩:=Nf h hk
 unfold lj
 split<;>dsimp only<;>omega
theorem si{d:Dg}(h:aO d=true)(gn:Nat->Bool){i:Nat}(hi:i<2*d.ae.length):gL d gn i<2*d.ae.length+1/\gK d gn i<2*d.ae.length+1/\(gn (i/2)=true->1<=gL d gn i/\1<=gK d gn i)/\(gn (i/2)=false->gL d gn i=0/\gK d gn i=0):=by
 obtain⟨ha,hb,hc,hd⟩:=Nf h (k:=i/2) (by omega)
 have hv:=W7 h (k:=i/2) (by omega)
 unfold gL gK
 cases hg:gn (i/2)with
 |true=>
  rw[if_pos rfl,if_pos rfl]
  refine⟨by split<;>omega,by split<;>omega,fun _=>⟨by split<;>omega,by split<;>omega⟩,fun h=>by cases h⟩
 |false=>
  rw[if_neg Bool.false_ne_true,if_neg Bool.false_ne_true]
  exact⟨by omega,by omega,fun h=>(by cases h),fun _=>⟨rfl,rfl⟩⟩
theorem LL(d:Dg)(gn:Nat->Bool)(i:Nat):(pX d gn i).length=2*d.ae.length+1:=Ep _ _ _ _
theorem CL{d:Dg}(h:aO d=true)(gn:Nat->Bool)(i:Nat)(hi:i<=2*d.ae.length):C6 (2*d.ae.length+1) (pX d gn i):=Iy (K:=2*d.ae.length) (fun k hk=>⟨(si h gn hk).1,(si h gn hk).2.1⟩) i hi
theorem Tv{d:Dg}{gn:Nat->Bool}{c:Nat}(hg:gn c=false):pX d gn (2*(c+1))=pX d gn (2*c):=by
 have e:∀i,i/2=c->pX d gn (i+1)=pX d gn i:=fun i hi=>by
  have e1:gL d gn i=0:=by unfold gL;rw[hi,if_neg (by rw[hg];exact Bool.false_ne_true)]
  have e2:gK d gn i=0:=by unfold gK;rw[hi,if_neg (by rw[hg];exact Bool.false_ne_true)]
  unfold pX
  rw[clsG]
  have e3:oI (gL d gn) (gK d gn) (clsG (gL d gn) (gK d gn) (2*d.ae.length+1) i) i=pW (gL d gn) (gK d gn) (clsG (gL d gn) (gK d gn) (2*d.ae.length+1) i) i:=by unfold oI pW;rw[e1,e2];omega
  rw[e3]
  exact abw _ _ _ (by rw[Ep];exact Nat.le_refl _)
 rw[show 2*(c+1)=2*c+1+1 by omega,e _ (by omega),e _ (by omega)]
def rK(d:Dg)(gs:List Nat)(i:Nat):Nat:=(aL d (ga gs (i/2)) (i%2)).toNat
def rJ(d:Dg)(gs:List Nat)(i:Nat):Nat:=(aL d (ga gs (i/2)) (i%2+2)).toNat
def cG(gs:List Nat)(c:Nat):Bool:=gs.contains c
theorem CI{gs:List Nat}{c:Nat}:cG gs c=true<->c∈gs:=by unfold cG;exact List.contains_iff_mem
theorem V4{d:Dg}(h:aO d=true){gs:List Nat}(hg:∀x∈gs,x<d.ae.length){i:Nat}(hi:i<2*gs.length):rK d gs i<2*d.ae.length+1/\rJ d gs i<2*d.ae.length+1:=by
 have hm:=hg _ (cY (xs:=gs) (i:=i/2) (by omega))
 have h1:=ey h hm (k:=i%2) (by omega)
 have h2:=ey h hm (k:=i%2+2) (by omega)
 unfold rK rJ
 omega
theorem Tq{d:Dg}{gs:List Nat}{c i:Nat}(hi:i<2*gs.length)(hc:ga gs (i/2)=c)(hg:cG gs c=true):(gL d (cG gs) (2*c+i%2)=rK d gs i/\gK d (cG gs) (2*c+i%2)=rJ d gs i)\/(gL d (cG gs) (2*c+i%2)=rJ d gs i/\gK d (cG gs) (2*c+i%2)=rK d gs i):=by
 have e1:(2*c+i%2)/2=c:=by omega
 have e2:(2*c+i%2)%2=i%2:=by omega
 unfold gL gK rK rJ
 rw[e1,e2,hg,hc,if_pos rfl,if_pos rfl]
 rcases Nat.mod_two_eq_zero_or_one i with h0|h0
 ·rw[h0,if_pos rfl,if_pos rfl];exact .inl ⟨rfl,rfl⟩
 ·rw[h0,if_neg (by decide),if_neg (by decide)]
  unfold lj
  split
  ·exact .inr ⟨rfl,rfl⟩
  ·exact .inl ⟨rfl,rfl⟩
theorem aeB{d:Dg}(h:aO d=true){gs:List Nat}(hg:∀x∈gs,x<d.ae.length):AW (rK d gs) (rJ d gs) (2*d.ae.length+1) (2*gs.length) (2*d.ae.length+1)=tC d (cG gs):=by
 rw[adr fun k hk=>V4 h hg hk]
 symm
 refine abM (fun k hk=>⟨(si h _ hk).1,(si h _ hk).2.1⟩) (fun k hk=>V4 h hg hk) (fun k hk=>?_) (fun j hj=>?_)
 ·cases hq:cG gs (k/2)with
  |false=>left;unfold gL gK;rw[hq];rfl
  |true=>
   right
   obtain⟨j,hj,e⟩:=List.mem_iff_getElem.1 (CI.1 hq)
   refine⟨2*j+k%2,by omega,?_⟩
   have:=Tq (d:=d) (gs:=gs) (c:=k/2) (i:=2*j+k%2) (by omega) (by rw[show(2*j+k%2)/2=j by omega,cZ hj,e]) hq
   rwa [show 2*(k/2)+(2*j+k%2)%2=k by omega]at this
 ·have hm:=cY (xs:=gs) (i:=j/2) (by omega)
  have hl:=hg _ hm
  exact⟨2*ga gs (j/2)+j%2,by omega,Tq hj rfl (CI.2 hm)⟩
def lf1(cl:List Int)(v:Cr):Nat->Int->Bool
 |0,_=>false
 |s+1,x=>lf1 cl v s x||decide (x=ga cl (dw v s).toNat)
def nk(cl:List Int)(l:List Cr)(x:Int):Bool:=l.any fun v=>lf1 cl v 4 x
def tRN(d:Dg)(gn:Nat->Bool):Nat->List Cr
 |0=>[]
 |c+1=>if gn c=true then tRN d gn c else tRN d gn c++[ga d.ae c]
def tR(d:Dg)(gn:Nat->Bool):List Cr:=tRN d gn d.ae.length
theorem LK(d:Dg)(gn:Nat->Bool)(c:Nat):(tRN d gn c).length<=c:=by
 induction c with
 |zero=>exact Nat.le_refl _
 |succ c ih=>
  rw[tRN]
  split
  ·omega
  ·rw[List.length_append,List.length_singleton];omega
theorem ac8{d:Dg}{gn:Nat->Bool}{c:Nat}{v:Cr}(h:v∈tRN d gn c):∃i,i<c/\v=ga d.ae i:=by
 induction c with
 |zero=>cases h
 |succ c ih=>
  rw[tRN]at h
  split at h
  ·obtain⟨i,h1,h2⟩:=ih h;exact⟨i,by omega,h2⟩
  ·rcases List.mem_append.1 h with h|h
   ·obtain⟨i,h1,h2⟩:=ih h;exact⟨i,by omega,h2⟩
   ·rw[List.mem_singleton]at h;exact⟨c,by omega,h⟩
theorem Ng{d:Dg}{gn:Nat->Bool}{c i:Nat}(h1:i<c)(h2:gn i=false):ga d.ae i∈tRN d gn c:=by
 induction c with
 |zero=>omega
 |succ c ih=>
  rw[tRN]
  by_cases e:i=c
  ·subst e;rw[if_neg (by rw[h2];exact Bool.false_ne_true)];exact List.mem_append_right _ (List.mem_singleton.2 rfl)
  ·split
   ·exact ih (by omega)
   ·exact List.mem_append_left _ (ih (by omega))
theorem tK{d:Dg}(h:aO d=true){gn:Nat->Bool}{c:Nat}(hc:c<=d.ae.length){v:Cr}(hv:v∈tRN d gn c){s:Nat}(hs:s<4):1<=dw v s/\dw v s<=2*(d.ae.length:Int):=by
 obtain⟨i,h1,rfl⟩:=ac8 hv
 exact ey h (by omega) hs
theorem UI{cl:List Int}{v:Cr}{s:Nat}{x:Int}:lf1 cl v s x=true<->∃t,t<s/\x=ga cl (dw v t).toNat:=by
 induction s with
 |zero=>exact⟨fun h=>(by cases h),fun⟨t,h,_⟩=>(by omega)⟩
 |succ s ih=>
  rw[lf1,Bool.or_eq_true,ih,decide_eq_true_iff]
  constructor
  ·rintro(⟨t,h1,h2⟩|h)
   ·exact⟨t,by omega,h2⟩
   ·exact⟨s,by omega,h⟩
  ·rintro⟨t,h1,h2⟩
   by_cases e:t=s
   ·subst e;exact .inr h2
   ·exact .inl ⟨t,by omega,h2⟩
theorem Ip{cl:List Int}{l:List Cr}{x:Int}:nk cl l x=true<->∃v∈l,∃t,t<4/\x=ga cl (dw v t).toNat:=by
 unfold nk
 rw[List.any_eq_true]
 constructor
 ·rintro⟨v,h1,h2⟩;exact⟨v,h1,UI.1 h2⟩
 ·rintro⟨v,h1,h2⟩;exact⟨v,h1,UI.2 h2⟩
theorem LA(cl:List Int)(l:List Cr)(v:Cr)(x:Int):nk cl (l++[v]) x=(nk cl l x||lf1 cl v 4 x):=by
 unfold nk;rw[List.any_append];simp
theorem IG{d:Dg}(h:aO d=true)(gn:Nat->Bool){x:Nat}(h1:1<=x)(h2:x<2*d.ae.length+1):1<=ga (tC d gn) x:=by
 obtain⟨o1,o2,o3⟩:=(CL h gn (2*d.ae.length) (Nat.le_refl _)).2 x h2
 have hc:=Er (K:=2*d.ae.length) (e1:=gL d gn) (e2:=gK d gn) (N:=2*d.ae.length+1) (fun k hk=>⟨(si h gn hk).1,(si h gn hk).2.1⟩) (fun y=>y=0) (fun k hk=>by
  obtain⟨_,_,g1,g2⟩:=si h gn hk
  cases hq:gn (k/2)with
  |true=>have:=g1 hq;constructor<;>intro h9<;>omega
  |false=>have:=g2 hq;constructor<;>intro h9<;>omega) (2*d.ae.length) (Nat.le_refl _) x (ga (tC d gn) x).toNat h2 (by show(ga (pX d gn _) x).toNat<_;omega) o3.symm
 have e:tC d gn=pX d gn (2*d.ae.length):=rfl
 rw[e]at*
 rcases Nat.eq_zero_or_pos (ga (pX d gn (2*d.ae.length)) x).toNat with h9|h9
 ·have:=hc.2 h9;omega
 ·omega
theorem ab1{d:Dg}(h:aO d=true){gn:Nat->Bool}{x:Nat}(hl:nk (tC d gn) (tR d gn) (x:Int)=true):1<=x/\x<2*d.ae.length+1/\ga (tC d gn) x=(x:Int):=by
 obtain⟨v,h1,t,h2,h3⟩:=Ip.1 hl
 have ha:=tK h (Nat.le_refl _) h1 h2
 have hp:=IG h gn (x:=(dw v t).toNat) (by omega) (by omega)
 obtain⟨o1,o2,o3⟩:=(CL h gn (2*d.ae.length) (Nat.le_refl _)).2 (dw v t).toNat (by omega)
 have e:pX d gn (2*d.ae.length)=tC d gn:=rfl
 rw[e]at o1 o2 o3
 rw[<-h3]at o3
 refine⟨by omega,by omega,?_⟩
 rwa [show((x:Int)).toNat=x by omega]at o3
theorem Uc{d:Dg}{gn:Nat->Bool}{v:Cr}(hv:v∈tR d gn){s:Nat}(hs:s<4):nk (tC d gn) (tR d gn) (ga (tC d gn) (dw v s).toNat)=true:=Ip.2 ⟨v,hv,s,hs,rfl⟩
def gQ(cl:List Int)(l:List Cr)(a:Nat):Bool:=decide (1<=a)&&(decide (ga cl a=(a:Int))&&nk cl l (a:Int))
def iD(cl:List Int)(l:List Cr)(a:Nat):Bool:=decide (1<=a)&&(decide (ga cl a=(a:Int))&&!nk cl l (a:Int))
def vR(cl:List Int)(l:List Cr)(y:Int):Int:=(cn (gQ cl l) ((ga cl y.toNat).toNat+1):Int)
def BZ(cl:List Int)(l:List Cr)(v:Cr):Cr:=⟨vR cl l v.a,vR cl l v.b,vR cl l v.c,vR cl l v.d,v.plus⟩
def ik(d:Dg)(gn:Nat->Bool):Dg:=⟨(tR d gn).map (BZ (tC d gn) (tR d gn)),d.loops+cn (iD (tC d gn) (tR d gn)) (2*d.ae.length+1)⟩
theorem vp{P:Nat->Bool}{a:Nat}(h:P a=true):cn P (a+1)=cn P a+1:=by rw[cn,if_pos h]
theorem yP{P:Nat->Bool}{a:Nat}(h:P a=false):cn P (a+1)=cn P a:=by rw[cn,if_neg (by rw[h];decide)];rfl
theorem V8{d:Dg}(h:aO d=true){gn:Nat->Bool}{nu:List Int}(nr:∀x,x<2*d.ae.length+1->gQ (tC d gn) (tR d gn) x=true->ga nu x=(cn (gQ (tC d gn) (tR d gn)) (x+1):Int)){v:Cr}(hv:v∈tR d gn){s:Nat}(hs:s<4):
  ga nu (ga (tC d gn) (dw v s).toNat).toNat=vR (tC d gn) (tR d gn) (dw v s):=by
 have ha:=tK h (Nat.le_refl _) hv hs
 have hp:=IG h gn (x:=(dw v s).toNat) (by omega) (by omega)
 have hl:=Uc hv hs
 obtain⟨o1,o2,o3⟩:=(CL h gn (2*d.ae.length) (Nat.le_refl _)).2 (dw v s).toNat (by omega)
 have e:pX d gn (2*d.ae.length)=tC d gn:=rfl
 rw[e]at o1 o2 o3
 have e2:(((ga (tC d gn) (dw v s).toNat).toNat:Nat):Int)=ga (tC d gn) (dw v s).toNat:=by omega
 rw[nr _ (by omega) (by unfold gQ;rw[e2,o3,hl];simp;omega)]
 rfl
end Go.Proofs.YtcohmplpgcddiaaGreatDoor
namespace Go.Proofs.YtcohmplpgcddiaaGreatDoor
open Go.ChangeShapes Go.WideShapes Go.ChangeAt Go.RowKit
section
variable {α : Type} {C : Cd α} {N N' : Hp} {vs vs' : List ei} {xss yss : List (List α)}
theorem adX{β:Type}[Inhabited β](xs:List β)(k i:Nat):ga (xs.drop k) i=ga xs (k+i):=by
 unfold ga;simp[List.getD_eq_getElem?_getD]
def Hy(C:Cd α)(N:Hp)(BS:List (List ei))(mm:List (List (List α))):Prop:=BS.length=mm.length/\∀i,i<BS.length->ia C N (ga BS i) (ga mm i)
variable {BS : List (List ei)} {mm : List (List (List α))}
theorem Hy.mono(h:Hy C N BS mm)(k:N.le N'):Hy C N' BS mm:=⟨h.1,fun i hi=>(h.2 i hi).mono k⟩
theorem Hy.eO:Hy C N [] []:=⟨rfl,fun i hi=>by simp at hi⟩
end
section
variable {P : Program} {o : Oper} {L : List (Nat × Value)} {w : World} {x hx : Operand} {t tn T : TypeId} {n d : Nat} {Kt : List (Nat × Value) → World → Prop} {M : Hp} {X : Fr} {H : List Rs}
end
end Go.Proofs.YtcohmplpgcddiaaGreatDoor
namespace Go.Proofs.YtcohmplpgcddiaaGreatDoor
open Go.ChangeShapes Go.WideShapes Go.ChangeAt Go.RowKit
def VP(H:List Rs):Prop:=H.Pairwise fun r s=>∀b∈r.bl,b∉s.bl
theorem Dy{H:List Rs}:VP H<->∀(i j:Nat) r s,i≠j->H[i]? =some r->H[j]? =some s->∀b∈r.bl,b∉s.bl:=by
 unfold VP
 rw[List.pairwise_iff_getElem]
 constructor
 ·intro h i j r s hij hi hj b hb hbs
  obtain⟨i1,e1⟩:=List.getElem?_eq_some_iff.1 hi
  obtain⟨j1,e2⟩:=List.getElem?_eq_some_iff.1 hj
  rcases Nat.lt_or_ge i j with h1|h1
  ·exact h i j i1 j1 h1 b (by rw[e1];exact hb) (by rw[e2];exact hbs)
  ·exact h j i j1 i1 (by omega) b (by rw[e2];exact hbs) (by rw[e1];exact hb)
 ·intro h i j hi hj hij
  exact h i j _ _ (by omega) (List.getElem?_eq_getElem hi) (List.getElem?_eq_getElem hj)
section
variable {w : World} {M : Hp} {X : Fr} {A B H H' : List Rs}
theorem SH.qy(S:SH w M X (A++B)):SH w M X (Rs.cV A::B):=by
 have hap:=Dy.2 S.ap
 obtain⟨h1,h2,h3⟩:=List.pairwise_append.1 hap
 refine⟨S.m,S.x,S.mx,fun r hr=>?_,fun r hr b hb=>?_,Dy.1 (List.pairwise_cons.2 ⟨fun s hs b hb=>?_,h2⟩),S.like⟩
 ·rcases List.mem_cons.1 hr with rfl|hr
  ·exact⟨fun r hr=>S.ok r (by simp[hr]),Dy.1 h1⟩
  ·exact S.ok r (by simp[hr])
 ·rcases List.mem_cons.1 hr with rfl|hr
  ·obtain⟨q,hq,hb⟩:=List.mem_flatMap.1 hb
   exact S.bl q (by simp[hq]) b hb
  ·exact S.bl r (by simp[hr]) b hb
 ·obtain⟨q,hq,hb⟩:=List.mem_flatMap.1 hb
  exact h3 q hq s hs b hb
theorem SH.rX(S:SH w M X (Rs.cV A::B)):SH w M X (A++B):=by
 obtain⟨hok,hap⟩:=S.ok (Rs.cV A) (by simp)
 obtain⟨h1,h2⟩:=List.pairwise_cons.1 (Dy.2 S.ap)
 refine⟨S.m,S.x,S.mx,fun r hr=>?_,fun r hr b hb=>?_,Dy.1 (List.pairwise_append.2 ⟨Dy.2 hap,h2,fun r hr s hs b hb=>h1 s hs b (List.mem_flatMap.2 ⟨r,hr,hb⟩)⟩),S.like⟩
 ·rcases List.mem_append.1 hr with hr|hr
  ·exact hok r hr
  ·exact S.ok r (by simp[hr])
 ·rcases List.mem_append.1 hr with hr|hr
  ·exact S.bl (Rs.cV A) (by simp) b (List.mem_flatMap.2 ⟨r,hr,hb⟩)
  ·exact S.bl r (by simp[hr]) b hb
end
namespace InF
section
variable {P : Program} {n : Nat} {C : Ctx} {c : Code} {s : List K} {L : List (Nat × Value)} {w : World} {M : Hp} {X : Fr} {H : List Rs}
end
end InF
end Go.Proofs.YtcohmplpgcddiaaGreatDoor
namespace Go.Proofs.YtcohmplpgcddiaaGreatDoor
open Go.ChangeShapes Go.WideShapes Go.ChangeAt Go.RowKit
section
variable {P : Program} {o : Oper} {L : List (Nat × Value)} {w : World} {n d : Nat} {Kt : List (Nat × Value) → World → Prop} {M : Hp} {X : Fr} {H : List Rs} {i : Nat} {r : Rs}
theorem SH.less(S:SH w M X H)(hi:nth H i=some r):SH w M X (H.set i Rs.emp):=S.step hi rfl (ku.refl w) (fun _ _ _=>rfl) trivial (fun b hb=>by cases hb)
theorem IC{f:FuncId}{vs cap:List Value}{ca:Call}{fo:Operand}{xs:List Operand}(hd:o.dst=some d)(hop:o.op=.call ca)(eG:ca.callee=.value fo)(hfo:oev L fo=some (.func (.func f) #[] cap.toArray))
  (hxs:ca.args=xs.toArray)(hvs:oevs L xs=some vs)(hn:Nat.blt d n=true)(hen:∀args w,(callFunc f args).run P w=.ok (.enter f args) w)(S:SH w M X H)(hi:nth H i=some r)
  {R:Value->Hp->Rs->Prop}(hcall:C1 P f (vs++cap) w M (XH w X (H.set i Rs.emp)) R)(h:∀v w' M' r',M.le M'->SH w' M' X (H.set i r')->R v M' r'->Kt ((d,v)::L) w'):WO P n o L w Kt:=by
 intro a ha next Q hk
 have hr:(execOp a.eval o).run P w=.ok (.enter f (vs++cap).toArray) w:=by
  unfold execOp
  simp only[hop,resolve,eG,ha.eval hfo,hxs,List.map_toArray,ha.pE hvs,Deferred.ofValue,Sem.run_bind,Sem.run_pure,Result.andThen_ok,invoke,Array.empty_append,List.append_toArray]
  exact hen _ _
 unfold Oper.wp
 rw[hr,Oper.upon_enter,hd]
 refine hcall.mono ?_
 rintro e w' ⟨v,rfl,M',r',h1,h2,h4⟩
 exact hk _ _ _ (ha.put (by simpa using hn) v) (h v w' M' r' h1 (S.N2 hi h2 rfl) h4)
end
end Go.Proofs.YtcohmplpgcddiaaGreatDoor
namespace Go.Proofs.YtcohmplpgcddiaaGreatDoor
open Go.ChangeShapes Go.WideShapes Go.ChangeAt Go.RowKit
section
variable {P : Program} {o : Oper} {L : List (Nat × Value)} {w w' : World} {x y : Operand} {T E : TypeId} {a : Int} {v : Value} {M : Hp} {X : Fr} {H N : List Rs} {i g : Nat} {l : List Value}
theorem HI{o:Oper}{dP:FuncId}{vs cap:List Value}{ca:Call}{fo:Operand}{xs:List Operand}{v:Value}(hop:o.op=.call ca)(eG:ca.callee=.value fo)(hfo:oev L fo=some (.func (.func dP) #[] cap.toArray))
  (hxs:ca.args=xs.toArray)(hvs:oevs L xs=some vs)(hen:∀args w,(callFunc dP args).run P w=.ok (.enter dP args) w)(S:SH w M X H)(hc:Cq P dP (vs++cap) w M (XH w X H) (fun u=>u=v)):
  Run P o L w v w\/∃dP vs,(∀n a,Env n L a->(execOp a.eval o).run P w=.ok (.enter dP vs) w)/\Calls P dP vs w fun e w3=>e=.returned v/\SH w3 M X H:=by
 refine .inr ⟨dP,(vs++cap).toArray,fun n a ha=>?_,hc.mono fun e w3 ⟨u,h1,h2,h3⟩=>⟨by rw[h1,h3],S.back h2⟩⟩
 unfold execOp
 simp only[hop,resolve,eG,ha.eval hfo,hxs,List.map_toArray,ha.pE hvs,Deferred.ofValue,Sem.run_bind,Sem.run_pure,Result.andThen_ok,invoke,Array.empty_append,List.append_toArray]
 exact hen _ _
theorem UE(N H:List Rs)(i:Nat):nth (N++H) (N.length+i)=nth H i:=by
 rw[ig,ig,List.getElem?_append_right (by omega)]
 congr 1
 omega
theorem SH.wW(S:SH w M X (N++H))(hi:nth H i=some (Rs.box g E l)):fW (M.un (XH w X (N++H)).h) g E l:=S.YG (i:=N.length+i) (by rw[UE];exact hi)
theorem aaC{e:Nat}{p q r s:Value}{dd:TypeDesc}(hop:o.op=.index T x y)(hx:oev L x=some (.agg [p,q,r,s].toArray))(hy:oev L y=some (.int .i64 a))(hu:P.underlying T=some (.array 2 E))(hE:P.underlying E=some dd)(hf:ud dd=false)(hk:(P.info? E).map (·.size)=some 2)
  (ha:a=(e:Int))(he:e<2):Run P o L w (.agg [if e=0 then p else r,if e=0 then q else s].toArray) w:=by
 intro n c hc
 unfold execOp
 have h1:(0:Int)<=(e:Int)/\(e:Int)<((2:Nat):Int):=by omega
 simp only[hop,hc.eval hx,hc.eval hy,Instr.index,asIntOf,Sem.run_bind,Sem.run_pure,Result.andThen_ok,run_underlying hu,ha,h1,and_self,if_true,run_sizeOf hk,Int.toNat_natCast,part,DG hE,hf,Bool.not_false]
 have:e=0\/e=1:=by omega
 rcases this with rfl|rfl<;>rfl
theorem RP{κ ε:Type}[DecidableEq κ]{kc:κ->Value}{vc:ε->Value}{es:List (κ×ε)}{t K V:TypeId}{ca:Call}{xs:List Operand}{ts:List TypeId}(ho:o.op=.call ca)(eG:ca.callee=.builtin .len)(hxs:ca.args=xs.toArray)(hts:ca.argTypes=ts.toArray)(hx:oevs L xs=some [.map (some g)])(ht:nth ts 0=some t)(hu:P.underlying t=some (.map K V))(S:SH w M X H)(hi:nth H i=some (Rs.mp kc vc g es)):Run P o L w (.int .i64 (es.length:Int)) w:=by
 intro n c hc
 obtain⟨arr,clock,hg,ha,oN⟩:=(S.get hi:rD kc vc g es (hp w))
 have hg':w.heap[g]? =some (.map arr clock):=hg
 have hgo:=MapKept.run_getObj_map (P:=P) hg'
 have hl:arr.size=es.length:=by have:=congrArg List.length ha;simpa using this
 rw[ig]at ht
 have ht':ts.toArray[0]? =some t:=by simpa using ht
 unfold execOp
 simp only[ho,resolve,eG,hxs,hts,List.map_toArray,hc.pE hx,invoke,builtin,Builtin.len_,Sem.run_bind,Sem.run_pure,Result.andThen_ok,ht',List.getElem?_toArray,List.getElem?_cons_zero,run_underlying hu,goInt,hgo,hl]
theorem Vs{κ ε:Type}[DecidableEq κ](k:κ)(v:ε):∀es:List (κ×ε),mg k es=none->(mp k v es).length=es.length+1
 |[]=>fun _=>rfl
 |p::r=>fun h=>by
  rw[mg]at h
  split at h
  ·cases h
  ·rename_i hne
   rw[mp,if_neg hne,List.length_cons,Vs k v r h,List.length_cons]
end
end Go.Proofs.YtcohmplpgcddiaaGreatDoor
namespace Go.Proofs.YtcohmplpgcddiaaGreatDoor
open Go.ChangeShapes Go.WideShapes Go.ChangeAt Go.RowKit
def KV(P:Program)(f:FuncId)(vs:List Value)(w:World)(M:Hp)(X:Fr)(R:Value->Hp->List Rs->Prop):Prop:=
 Calls P f vs.toArray w fun e w'=>∃v,e=.returned v/\∃M' N,M.le M'/\SH w' M' X N/\R v M' N
section
variable {P : Program} {o : Oper} {L : List (Nat × Value)} {w : World} {n d : Nat} {Kt : List (Nat × Value) → World → Prop} {M : Hp} {X : Fr} {H : List Rs}
theorem Mk{f:FuncId}{vs:List Value}{ca:Call}{fo:Operand}{xs:List Operand}(hd:o.dst=some d)(hop:o.op=.call ca)(eG:ca.callee=.value fo)(hfo:oev L fo=some (.func (.func f) #[] #[]))
  (hxs:ca.args=xs.toArray)(hvs:oevs L xs=some vs)(hn:Nat.blt d n=true)(hen:∀args w,(callFunc f args).run P w=.ok (.enter f args) w)(S:SH w M X H)
  {R:Value->Hp->List Rs->Prop}(hcall:KV P f vs w M (XH w X H) R)(h:∀v w' M' N,M.le M'->SH w' M' X (N++H)->R v M' N->Kt ((d,v)::L) w'):WO P n o L w Kt:=
 Eu (R:=fun v w'=>∃M' N,M.le M'/\SH w' M' (XH w X H) N/\R v M' N) hd hop eG hfo hxs hvs hn hen hcall fun v w' ⟨M',N,h1,h2,h4⟩=>h v w' M' N h1 (S.W6 h2) h4
end
section
variable {bf : Nat → Nat} {N : Hp} {gs : List (Option Nat)} {ps : List (Option bV)} {Cn : List (List (Option Nat))} {dD : List (List (Option bV))} {α : Type} {C : Cd α} {BS : List (List ei)} {mm : List (List (List α))}
end
end Go.Proofs.YtcohmplpgcddiaaGreatDoor
namespace Go.Proofs.YtcohmplpgcddiaaGreatDoor
open Go.ChangeShapes Go.WideShapes Go.ChangeAt Go.RowKit
def y8{α:Type}(p:α->Bool)(xs:List α):Int:=match xs.findIdx? p with
 |some i=>(i:Int)
 |none=>-1
section
variable {α : Type} [Inhabited α]
theorem TL{p:α->Bool}{xs:List α}{k:Nat}(hk:k<xs.length)(h:p (ga xs k)=true)(h0:∀j,j<k->p (ga xs j)=false):y8 p xs=k:=by
 have:xs.findIdx? p=some k:=by
  rw[List.findIdx?_eq_some_iff_getElem]
  refine⟨hk,by rw[<-cZ hk];exact h,fun j hj=>?_⟩
  rw[<-cZ (by omega),h0 j hj];simp
 simp[y8,this]
theorem SJ{p:α->Bool}{xs:List α}(h0:∀j,j<xs.length->p (ga xs j)=false):y8 p xs=-1:=by
 have:xs.findIdx? p=none:=by
  rw[List.findIdx?_eq_none_iff]
  intro x hx
  obtain⟨j,hj,rfl⟩:=List.mem_iff_getElem.1 hx
  rw[<-cZ hj];exact h0 j hj
 simp[y8,this]
end
theorem TM{α:Type}(p:α->Bool)(xs:List α):decide (0<=y8 p xs)=xs.any p:=by
 unfold y8
 cases h:xs.findIdx? p with
 |some i=>
  rw[List.findIdx?_eq_some_iff_getElem]at h
  obtain⟨h1,h2,_⟩:=h
  rw[Bool.eq_iff_iff,decide_eq_true_iff,List.any_eq_true]
  exact⟨fun _=>⟨xs[i],List.getElem_mem h1,h2⟩,fun _=>by show(0:Int)<=(i:Int);omega⟩
 |none=>
  rw[List.findIdx?_eq_none_iff]at h
  rw[Bool.eq_iff_iff,decide_eq_true_iff,List.any_eq_true]
  constructor
  ·intro h1;exact absurd h1 (by decide)
  ·rintro⟨x,hx,hp⟩;rw[h x hx]at hp;cases hp
theorem adU(gs:List Nat)(c:Nat):(gs.map fun x:Nat=>(x:Int)).any (fun y=>decide ((c:Int)=y))=cG gs c:=by
 rw[Bool.eq_iff_iff,List.any_eq_true,CI]
 constructor
 ·rintro⟨y,hy,e⟩
  obtain⟨x,hx,rfl⟩:=List.mem_map.1 hy
  have:=of_decide_eq_true e
  obtain rfl:c=x:=by omega
  exact hx
 ·intro h
  exact⟨(c:Int),List.mem_map.2 ⟨c,h,rfl⟩,decide_eq_true rfl⟩
theorem ab3{d:Dg}(h:aO d=true){gn:Nat->Bool}{c:Nat}(hc:c<d.ae.length)(hg:gn c=true){j:Nat}(hj:j<2):Value.agg [if j=0 then Value.int .i64 (ga d.ae c).a else Value.int .i64 (lj (ga d.ae c)).1,if j=0 then Value.int .i64 (ga d.ae c).c else Value.int .i64 (lj (ga d.ae c)).2].toArray=Value.agg [.int .i64 ((gL d gn (2*c+j):Nat):Int),.int .i64 ((gK d gn (2*c+j):Nat):Int)].toArray:=by
 obtain⟨ha,_,hc',_⟩:=Nf h hc
 have hv:=W7 h hc
 have e1:(2*c+j)/2=c:=by omega
 have e2:(2*c+j)%2=j:=by omega
 unfold gL gK
 rw[e1,e2,hg,if_pos rfl,if_pos rfl]
 split
 ·rw[Int.toNat_of_nonneg (by omega),Int.toNat_of_nonneg (by omega)]
 ·rw[Int.toNat_of_nonneg (by omega),Int.toNat_of_nonneg (by omega)]
noncomputable def Z2y:=Tryz.f156.body.getD .skip
set_option maxRecDepth 10000 in
theorem ac2{w:World}{M:Hp}{X:Fr}(s:List Int){sA:Option Addr}{sc:Nat}(v:Int)(hs:aJ aQ (M.un X.h) sA sc s)(S:SH w M X []):Cq Tryz.prog 156 [.slice sA s.length sc,.int .i64 v] w M X (fun u=>u=.int .i64 (y8 (fun y=>decide (v=y)) s)):=by
 unfold Cq
 have Df:s.length*8<=140737488355328:=hs.room
 refine cw (b:=Z2y) Tryz.func156 rfl Tryz.ntmps156 rfl (fun C hC=>(cB [0,1] rfl (ar (af 1 rfl (bM [0,1] rfl (ar (af 1 rfl (ag rfl (cK rfl dm) (af 1 rfl ?_)))))))))
 refine ax [0,1,7,8] rfl (bg ?_)
 refine ck (fun aZ au aR=>∃(i:Nat),aZ=s.length-i/\Env 19 [(0,.slice sA s.length sc),(1,.int .i64 v),(7,.int .i64 (s.length:Int)),(8,.int .i64 (i:Int))] au/\SH aR M X []/\i<=s.length/\(∀j,j<i->decide (v=ga s j)=false)) rfl ?_ ?_
 ·intro au aq
  refine⟨_,⟨0,rfl,aq.su rfl,S.pick [] [] (by decide) trivial,?dh,?dC⟩⟩
  case dh=>omega
  case dC=>(intro j hj;omega)
 ·rintro m1 a1 w1 ⟨i,rfl,bN,S1,hi,hq⟩
  clear S
  refine cy bN ?_
  clear bN a1
  refine ar (af 1 rfl (aB (di ?_)))
  refine bp rfl (fun oH=>?_) (fun oH=>?_)
  ·refine aV (bC [0,1,7,8] rfl (bg (ar (af 2 rfl (bL [0,1,7,8,5] rfl (af 3 rfl (ag rfl (cN i rfl bt hs) (ag rfl (aw rfl aG (hs.cell S1.um (i:=i) (by first|omega|(simp only[ls];omega)) 0 rfl rfl)) ?_))))))))
   refine af 1 rfl (ax [0,1,7,8,5,16] rfl ?_)
   refine bp rfl (fun uv=>?_) (fun uv=>?_)
   ·refine ar (af 2 rfl (ax [4] rfl (bU hC rfl ?_)))
    exact⟨_,rfl,(S1.pick [] [] (by decide) trivial),(by rw[TL (p:=fun y=>decide (v=y)) (k:=i) (by omega) (decide_eq_true uv) hq];rfl)⟩
   ·refine aV (bE (aW [0,1,7,8] rfl (aH (ag rfl (bj rfl) (af 1 rfl (aB (br ?_)))))))
    intro au aq
    refine⟨_,?fK,⟨i+1,rfl,aq.su rfl,S1.pick [] [] (by decide) trivial,?dv,?dL⟩⟩
    case dv=>omega
    case dL=>(intro j hj;by_cases e:j=i;(subst e;exact decide_eq_false uv);exact hq j (by omega))
    case fK=>omega
  ·refine bX rfl (cP [] rfl (af 1 rfl (aB (bK (bU hC rfl ?_)))))
   exact⟨_,rfl,(S1.pick [] [] (by decide) trivial),(by rw[SJ (p:=fun y=>decide (v=y)) (fun j hj=>hq j (by omega))];rfl)⟩
noncomputable def Z2z:=Tryz.f144.body.getD .skip
set_option maxRecDepth 10000 in
theorem aaL{w:World}{M:Hp}{X:Fr}(s:List Int){sA:Option Addr}{sc:Nat}(v:Nat)(hs:aJ aQ (M.un X.h) sA sc s){gs:List Nat}(vU:s=gs.map fun x:Nat=>(x:Int))(S:SH w M X []):Cq Tryz.prog 144 [.slice sA s.length sc,.int .i64 (v:Int)] w M X (fun u=>u=.bool (cG gs v)):=by
 unfold Cq
 have Df:s.length*8<=140737488355328:=hs.room
 refine cw (b:=Z2z) Tryz.func144 rfl Tryz.ntmps144 rfl (fun C hC=>(cB [0,1] rfl (ar (af 1 rfl (bL [0,1] rfl (af 2 rfl (aj rfl (dU rfl rfl rfl rfl rfl rfl rfl ahz S (ac2 s (v:Int) (hs.mono S.bn) S.aT) ?_))))))))
 rintro _ w1 S1 rfl;clear S
 refine af 2 rfl (ax [4] rfl (bU hC rfl ?_))
 exact⟨_,rfl,(S1.pick [] [] (by decide) trivial),(by show Value.bool _=_;rw[TM,vU,adU])⟩
noncomputable def Z30:=Tryz.f123.body.getD .skip
set_option maxRecDepth 10000 in
theorem abS{w:World}{M:Hp}{X:Fr}(x:Cr)(S:SH w M X []):Cq Tryz.prog 123 [.agg [.int .i64 x.a,.int .i64 x.b,.int .i64 x.c,.int .i64 x.d,.bool x.plus].toArray] w M X (fun u=>u=.agg [.int .i64 x.a,.int .i64 x.c,.int .i64 (lj x).1,.int .i64 (lj x).2].toArray):=by
 unfold Cq
 refine cw (b:=Z30) Tryz.func123 rfl Tryz.ntmps123 rfl (fun C hC=>(cB [0] rfl (ar (aj rfl (dx (l:=[_,_,_,_,_]) rfl rfl rfl rfl rfl S ?_)))))
 intro aP w1 S1;clear S
 refine aj rfl (bW (l:=[_,_,_,_]) rfl rfl rfl VS rfl S1 ?_)
 intro bJ w2 S2;clear S1
 refine bM [1,2] rfl (dH S2 6 ?_)
 clear S2
 refine ay 0 rfl (fun ah Sz=>aU [_,_,_,_,_] rfl b6 fN (Sz.suf.bs 1 rfl rfl)) (dQ 1 rfl (fun ah Sz=>dZ rfl rfl rfl rfl rfl ahB Sz (aev x Sz.aT)) (ay 2 rfl (fun ah Sz=>aU [_,_,_,_,_] rfl b6 fN (Sz.suf.bs 1 rfl rfl)) (dQ 3 rfl (fun ah Sz=>dZ rfl rfl rfl rfl rfl ahA Sz (aew x Sz.aT)) (ay 4 rfl (fun ah Sz=>vL (l:=[_,_,_,_]) (pl:=[(0,2),(2,2)]) rfl rfl Nc VS wM rfl rfl rfl) (cm 5 rfl (fun w9 S9=>((bH 0 [_,_,_,_] [_,_,_,_] [_,_] rfl S9 rfl rfl V9 rfl rfl ?_))))))))
 intro ld bQ;clear S9
 refine ij bQ ?_;clear bQ
 change WA _ _ _ _ _ _ _ _ _ _ _ _ [_,_]
 refine cD (fun lI cz=>(aW [2] rfl (dI hC [_] rfl rfl ⟨⟨_,rfl,dK (us:=[_,_,_,_]) Nc rfl V9 (cz.bs 0 rfl rfl)⟩,trivial⟩ ?_)))
 exact⟨_,rfl,(cz.pick [] [] (by decide) trivial),rfl⟩
noncomputable def Z31:=Tryz.f145.body.getD .skip
set_option maxRecDepth 10000 in
theorem I7{w:World}{M:Hp}{X:Fr}(y:Int)(nu:List Int){g0:Nat}{nA:Option Addr}{nc:Nat}(cl:List Int){g1:Nat}{lA:Option Addr}{lc:Nat}(zF:fW (M.un X.h) g0 83 [.slice nA nu.length nc])(hn:aJ aQ (M.un X.h) nA nc nu)(hbl:fW (M.un X.h) g1 83 [.slice lA cl.length lc])(hl:aJ aQ (M.un X.h) lA lc cl)(hy:0<=y/\y.toNat<cl.length)(hz:0<=ga cl y.toNat/\(ga cl y.toNat).toNat<nu.length)(S:SH w M X []):Cq Tryz.prog 145 [.int .i64 y,.pointer (some ⟨g0,0,none⟩),.pointer (some ⟨g1,0,none⟩)] w M X (fun u=>u=.int .i64 (ga nu (ga cl y.toNat).toNat)):=by
 unfold Cq
 refine cw (b:=Z31) Tryz.func145 rfl Tryz.ntmps145 rfl (fun C hC=>(cB [0,1,2] rfl (ar (af 1 rfl (bM [0,1,2] rfl (dH S 8 ?_))))))
 clear S
 refine ay 0 rfl (fun ah Sz=>aw rfl dm ((zF.mono (Hp.aD ah Sz.mx)).cell Sz.um rfl)) (ay 1 rfl (fun ah Sz=>aw rfl dm ((hbl.mono (Hp.aD ah Sz.mx)).cell Sz.um rfl)) (aK 5 [2] rfl (ay 3 rfl (fun ah Sz=>cN y.toNat rfl bt (hl.mono (Hp.aD ah Sz.mx))) (ay 4 rfl (fun ah Sz=>aw rfl aG ((hl.mono (Hp.aD ah Sz.mx)).cell Sz.um (i:=y.toNat) (by first|omega|(simp only[ls];omega)) 0 rfl rfl)) ?_))))
 refine ay 5 rfl (fun ah Sz=>cN ((ga cl y.toNat).toNat) rfl bt (hn.mono (Hp.aD ah Sz.mx))) (ay 6 rfl (fun ah Sz=>aw rfl aG ((hn.mono (Hp.aD ah Sz.mx)).cell Sz.um (i:=(ga cl y.toNat).toNat) (by first|omega|(simp only[ls];omega)) 0 rfl rfl)) ?_)
 refine aK 0 [7] rfl (cD (fun w9 S9=>(aW [4] rfl (bU hC rfl ?_))))
 exact⟨_,rfl,(S9.pick [] [] (by decide) trivial),rfl⟩
theorem seven{α:Type}[Inhabited α]{f:α->α}{xs c:List α}{i:Nat}{y:α}(h:c=(xs.take i).map f++xs.drop i)(hi:i<xs.length)(hy:y=f (ga xs i)):c.set i y=(xs.take (i+1)).map f++xs.drop (i+1):=by
 have hl:((xs.take i).map f).length=i:=by rw[List.length_map,List.length_take];omega
 rw[h,hy,List.set_append_right _ _ (by omega),hl,Nat.sub_self,na xs i hi,List.map_append,List.append_assoc,List.drop_eq_getElem_cons hi,List.set_cons_zero]
 rfl
theorem ach{α:Type}[Inhabited α]{f:α->α}{xs c:List α}{i:Nat}(h:c=(xs.take i).map f++xs.drop i)(hi:i<xs.length):ga c i=ga xs i:=by
 have hl:((xs.take i).map f).length=i:=by rw[List.length_map,List.length_take];omega
 rw[h,nC _ _ _ (by omega),hl,Nat.sub_self,List.drop_eq_getElem_cons hi,cZ (by simp;omega),cZ hi]
 rfl
theorem acT(x:Int)(n:Nat):x+((n:Nat):Int)+1=x+((n+1:Nat):Int):=by omega
noncomputable def Z32:=Tryz.f122.body.getD .skip
set_option maxHeartbeats 4000000 in
set_option maxRecDepth 10000 in
theorem aa7{w:World}{M:Hp}{X:Fr}(d:Dg){cI:Nat}{cA iA oA:Option Addr}{cc ic oc:Nat}(gone:List Int){mh:Option Addr}{mf:Nat}(bI:fW (M.un X.h) cI 66 [.slice cA d.ae.length cc,.int .i64 d.loops,.slice iA (aI d false (4*d.ae.length)).length ic,.slice oA (aI d true (4*d.ae.length)).length oc])(hsc:aJ bu (M.un X.h) cA cc d.ae)(hsi:aJ cQ (M.un X.h) iA ic (aI d false (4*d.ae.length)))(bq:aJ cQ (M.un X.h) oA oc (aI d true (4*d.ae.length)))(kW:aJ aQ (M.un X.h) mh mf gone){gs:List Nat}(vU:gone=gs.map fun x:Nat=>(x:Int))(hn:d.ae.length<=16)(hab:aO d=true)(hlo0:0<=d.loops/\d.loops<=1000)(S:SH w M X []):Ct Tryz.prog 122 [.pointer (some ⟨cI,0,none⟩),.func (.func 123) #[] #[],.slice mh gone.length mf] w M X (fun u N=>∃A c,u=.agg [.slice A (ik d (cG gs)).ae.length c,.int .i64 (ik d (cG gs)).loops].toArray/\aJ bu N A c (ik d (cG gs)).ae):=by
 unfold Ct
 have Us:gone.length*8<=140737488355328:=kW.room
 refine cw (b:=Z32) Tryz.func122 rfl Tryz.ntmps122 rfl (fun C hC=>(cB [0,1,2] rfl (ar (aj rfl (bW (l:=[_,_]) rfl rfl rfl jo rfl S ?_)))))
 intro aP w1 S1;clear S
 refine aB (sw (af 1 rfl (aj rfl (dU rfl rfl rfl rfl rfl rfl rfl Yh S1 (VQ d (bI.mono S1.bn) (hsc.mono S1.bn) (hsi.mono S1.bn) (bq.mono S1.bn) (by omega) S1.aT) ?_))))
 rintro _ w2 S2 rfl;clear S1
 refine ag rfl (bj rfl) (aj rfl (sP (C:=aQ) ((2*(d.ae.length:Int)).toNat+1) rfl rfl rfl rfl rfl bt (by first|rfl|omega) (by show _*8<=_;first|omega|(simp only[ls];omega)) S2 ?_))
 intro s6 w3 S3;clear S2
 refine aj rfl (bW (l:=[_]) rfl rfl rfl Xc rfl S3 ?_)
 intro bJ w4 S4;clear S3
 refine aj rfl (gJ (i:=0) (us:=[_]) (l':=[_]) (H':=[_,_,_]) rfl rfl S4 rfl rfl rfl (S4.nS (i:=1) rfl) vz rfl (iq (S4.one (i:=1) rfl) rfl) rfl rfl ?_)
 intro w5 S5;clear S4
 refine bM [0,1,2,6,7] rfl (ar (ag rfl (aw rfl dm (S5.bc 0 rfl rfl)) (ag rfl (kZ (i:=1) rfl bt S5 rfl) (dz 32 (.int .i64 ((2*d.ae.length+1:Nat):Int)) rfl (int_eq (by rw[List.length_replicate];omega)) ?_))))
 refine af 1 rfl (ax [0,1,2,6,7,32,33] rfl (bg ?_))
 refine ck (fun aZ au aR=>∃(i:Nat) (ws:List Int) (pV:Value),aZ=2*d.ae.length+1-i/\Env 198 [(0,.pointer (some ⟨cI,0,none⟩)),(1,.func (.func 123) #[] #[]),(2,.slice mh gone.length mf),(6,.pointer (some ⟨aP,0,none⟩)),(7,.pointer (some ⟨bJ,0,none⟩)),(32,.int .i64 ((2*d.ae.length+1:Nat):Int)),(33,.int .i64 (i:Int))] au/\SH aR M X [Rs.box bJ 83 [pV],Rs.row aQ pV ws,Rs.box aP 24 [.slice none 0 0,.int .i64 0]]/\i<=2*d.ae.length+1/\ws=iniW (2*d.ae.length+1) i) rfl ?_ ?_
 ·intro au aq
  refine⟨_,⟨0,_,_,rfl,aq.su rfl,S5.pick [0,1,2] [_,_,_] (by decide) ⟨rfl,rfl,rfl,trivial⟩,?dh,?dC⟩⟩
  case dh=>omega
  case dC=>rfl
 ·rintro m1 a1 w6 ⟨i,ws,pV,rfl,bN,S6,hi,hw⟩
  clear S5
  refine cy bN ?_
  clear bN a1
  have DY:ws.length=2*d.ae.length+1:=by rw[hw,zi]
  refine ar (af 1 rfl (aB (di ?_)))
  refine bp rfl (fun xq=>?_) (fun xq=>?_)
  ·refine aV (bC [0,1,2,6,7,32,33] rfl (bg (ar (af 2 rfl (ax [0,1,2,6,7,32,33,8] rfl (aH (ag rfl (aw rfl dm (S6.bc 0 rfl rfl)) (af 2 rfl ?_))))))))
   refine ag rfl (bS (i:=1) i rfl bt S6 rfl) (aj rfl (iE (C:=aQ) (i:=1) (e:=i) (j:=0) (us:=[_]) (H':=[_,_,_]) (i:Int) rfl rfl S6 rfl (by first|omega|(simp only[ls];omega)) rfl rfl rfl gp rfl rfl rfl rfl ?_))
   intro w7 S7;clear S6
   refine aB (bE (aW [0,1,2,6,7,32,33] rfl (aH (ag rfl (bj rfl) (af 1 rfl (aB (br ?_)))))))
   intro au aq
   refine⟨_,?fK,⟨i+1,_,_,rfl,aq.su rfl,S7.pick [0,1,2] [_,_,_] (by decide) ⟨rfl,rfl,rfl,trivial⟩,?dv,?dL⟩⟩
   case dv=>omega
   case dL=>(rw[hw];rfl)
   case fK=>omega
  ·refine bX rfl (cP [0,1,2,6,7] rfl (aj rfl (xJ Int Bool (Value.int .i64) Value.bool rfl rfl rfl S6 ?_)))
   intro tv w8 S8;clear S6
   refine af 1 rfl (bL [0,1,2,6,7,9] rfl (af 2 rfl (ag rfl (az rfl jy rfl jZ jX) (ag rfl (az rfl aM rfl aY aX) (ag rfl (aw rfl aG (bI.cell S8.um rfl)) (ag rfl (run_build (l:=[_,_]) rfl rfl iC rfl rfl) (aj rfl (bW (l:=[_,_]) rfl rfl rfl jo rfl S8 ?_))))))))
   intro dE w9 S9;clear S8
   refine aj rfl (bH 0 [_,_] [_,_] [_,_,_,_,_] rfl S9 rfl rfl aN rfl rfl ?_)
   intro ld bQ;clear S9
   refine bM [0,1,2,6,7,9,10] rfl (ar (af 2 rfl (ag rfl (az rfl jy rfl jZ jX) (ag rfl (az rfl aM rfl dN dM) (ag rfl (aw rfl cE (bI.cell bQ.um rfl)) (ag rfl (cK rfl cE) (af 1 rfl (ax [1,2,6,7,9,10,52,53,54] rfl ?_))))))))
   refine bg ?_
   have cz:=bQ.jI bu;clear bQ
   refine ck (fun aZ au aR=>∃(c:Nat) (cl:List Int) (oc:List Cr) (xW:Value) (eV:Value),aZ=d.ae.length-c/\Env 198 [(1,.func (.func 123) #[] #[]),(2,.slice mh gone.length mf),(6,.pointer (some ⟨aP,0,none⟩)),(7,.pointer (some ⟨bJ,0,none⟩)),(9,.map (some tv)),(10,.pointer (some ⟨dE,0,none⟩)),(52,.slice cA d.ae.length cc),(53,.int .i64 (d.ae.length:Int)),(54,.int .i64 (c:Int))] au/\SH aR M X [Rs.row bu eV oc,Rs.box dE 24 [eV,.int .i64 d.loops],Rs.mp (Value.int .i64) Value.bool tv ([]),Rs.box bJ 83 [xW],Rs.row aQ xW cl,Rs.box aP 24 [.slice none 0 0,.int .i64 0]]/\c<=d.ae.length/\cl=pX d (cG gs) (2*c)/\oc=tRN d (cG gs) c) rfl ?_ ?_
   ·intro au aq
    refine⟨_,⟨0,_,_,_,_,rfl,aq.su rfl,cz.pick [0,1,2,3,4,5] [_,_,_,_,_,_] (by decide) ⟨rfl,rfl,rfl,rfl,rfl,rfl,trivial⟩,?fg,?fR,?ko⟩⟩
    case fg=>omega
    case fR=>(obtain rfl:i=2*d.ae.length+1:=(by omega);exact hw)
    case ko=>rfl
   ·rintro m3 a2 lI ⟨c,cl,oc,xW,eV,rfl,cU,cO,hc,hcl,Ch⟩
    clear cz
    refine cy cU ?_
    clear cU a2
    have hll:cl.length=2*d.ae.length+1:=by rw[hcl];exact LL _ _ _
    have hol:oc.length<=c:=by rw[Ch];exact LK _ _ _
    refine ar (af 1 rfl (aB (di ?_)))
    refine bp rfl (fun Bf=>?_) (fun Bf=>?_)
    ·refine aV (bC [1,2,6,7,9,10,52,53,54] rfl (bg (ar (af 1 rfl (ag rfl (cN c rfl fX hsc) (ag rfl (aU [_,_,_,_,_] rfl b6 fN (hsc.j6 cO.um (e:=c) (by first|omega|(simp only[ls];omega)) (j:=0) ⟨rfl,rfl,rfl,rfl,rfl,trivial⟩)) ?_))))))
     refine aj rfl (bW (l:=[_,_,_,_,_]) rfl rfl rfl vt rfl cO ?_)
     intro lK nL cF;clear cO
     refine af 1 rfl (aj rfl (bH 0 [_,_,_,_,_] [_,_,_,_,_] [_,_,_,_,_,_,_] rfl cF rfl rfl fN rfl rfl ?_))
     intro ng ct;clear cF
     refine bM [1,2,6,7,9,10,52,53,54,12,11] rfl (ar (af 2 rfl (aj rfl (dU rfl rfl rfl rfl rfl rfl rfl ahC ct (aaL gone c (kW.mono ct.bn) (vU) ct.aT) ?_))))
     rintro _ lH cS rfl;clear ct
     refine af 1 rfl (ax [1,2,6,7,9,10,52,53,54,12,62] rfl ?_)
     refine gB rfl (fun je=>?_) (fun je=>?_)
     ·simp only[Bool.and_eq_true,Bool.or_eq_true,Bool.and_eq_false_iff,Bool.or_eq_false_iff,decide_eq_true_eq,decide_eq_false_iff_not,Bool.not_eq_true',Bool.not_eq_false']at je
      refine ar (ag rfl (az rfl aM rfl dN dM) (ag rfl (aw rfl cE (cS.bc 2 rfl rfl)) (ag rfl (aU [_,_,_,_,_] rfl b6 fN (cS.bs 0 rfl rfl)) (aj rfl (eQ (C:=bu) (l:=[_,_,_,_,_]) rfl rfl rfl rfl fX rfl rfl rfl rfl cS ?_)))))
      intro iI ow cC;clear cS
      refine aj rfl (gw (C:=bu) (i:=2) (q:=0) (⟨(ga d.ae c).a,(ga d.ae c).b,(ga d.ae c).c,(ga d.ae c).d,(ga d.ae c).plus⟩:Cr) rfl rfl rfl rfl rfl rfl rfl rfl fX cC rfl rfl rfl (by show(_+1)*40<=_;first|omega|(simp only[ls];omega)) ?_)
      intro AU oU bY;clear cC
      have dW:=bY.pick [1,2,3,4,5,6,7] [_,_,_,_,_,_,_] (by decide) ⟨rfl,rfl,rfl,rfl,rfl,rfl,rfl,trivial⟩;clear bY
      refine ag rfl (az rfl aM rfl dN dM) (aj rfl (gJ (i:=2) (us:=[_]) (l':=[_,_]) (H':=[_,_,_,_,_,_,_]) rfl rfl dW rfl rfl rfl (dW.nS (i:=1) rfl) Dc rfl (iq (dW.one (i:=1) rfl) rfl) rfl rfl ?_))
      intro pU ek;clear dW
      refine ax [1,2,6,7,9,10,52,53,54] rfl (bX rfl (bK (aH (ag rfl (bj rfl) (af 1 rfl (aB (br ?_)))))))
      intro au aq
      refine⟨_,?jr,⟨c+1,_,_,_,_,rfl,aq.su rfl,ek.pick [1,2,3,4,5,6] [_,_,_,_,_,_] (by decide) ⟨rfl,rfl,rfl,rfl,rfl,rfl,trivial⟩,?fJ,?fZ,?lX⟩⟩
      case fJ=>omega
      case fZ=>first|(rw[hcl,Tv (by simpa using je)])|(obtain rfl:j=2:=(by omega);exact rQ)
      case lX=>first|(rw[tRN,if_pos (by simpa using je)];exact Ch)|(rw[tRN,if_neg (by simpa using je),Ch])
      case jr=>omega
     ·simp only[Bool.and_eq_true,Bool.or_eq_true,Bool.and_eq_false_iff,Bool.or_eq_false_iff,decide_eq_true_eq,decide_eq_false_iff_not,Bool.not_eq_true',Bool.not_eq_false']at je
      have yh:cG gs c=true:=by simpa using je
      refine aV (cP [1,2,6,7,9,10,52,53,54,12] rfl (af 1 rfl (ag rfl (aU [_,_,_,_,_] rfl b6 fN (cS.bs 0 rfl rfl)) (aj rfl (dU rfl rfl rfl rfl rfl rfl rfl ahE cS (abS (ga d.ae c) cS.aT) ?_)))))
      rintro _ vP fM rfl;clear cS
      refine af 1 rfl (ax [1,2,6,7,9,10,52,53,54,71,72] rfl (bg ?_))
      refine ck (fun aZ au aR=>∃(j:Nat) (cj:List Int) (PT:Value),aZ=2-j/\Env 198 [(1,.func (.func 123) #[] #[]),(2,.slice mh gone.length mf),(6,.pointer (some ⟨aP,0,none⟩)),(7,.pointer (some ⟨bJ,0,none⟩)),(9,.map (some tv)),(10,.pointer (some ⟨dE,0,none⟩)),(52,.slice cA d.ae.length cc),(53,.int .i64 (d.ae.length:Int)),(54,.int .i64 (c:Int)),(71,.agg [.int .i64 ((ga d.ae c).a),.int .i64 ((ga d.ae c).c),.int .i64 ((lj (ga d.ae c)).1),.int .i64 ((lj (ga d.ae c)).2)].toArray),(72,.int .i64 (j:Int))] au/\SH aR M X [Rs.row bu eV oc,Rs.box dE 24 [eV,.int .i64 d.loops],Rs.mp (Value.int .i64) Value.bool tv ([]),Rs.box bJ 83 [PT],Rs.row aQ PT cj,Rs.box aP 24 [.slice none 0 0,.int .i64 0]]/\j<=2/\cj=pX d (cG gs) (2*c+j)) rfl ?_ ?_
      ·intro au aq
       refine⟨_,⟨0,_,_,rfl,aq.su rfl,fM.pick [1,2,3,4,5,6] [_,_,_,_,_,_] (by decide) ⟨rfl,rfl,rfl,rfl,rfl,rfl,trivial⟩,?fI,?fY⟩⟩
       case fI=>omega
       case fY=>(rw[hcl];rfl)
      ·rintro m4 a3 BO ⟨j,cj,PT,rfl,fB,eF,hj,rQ⟩
       clear fM
       refine cy fB ?_
       clear fB a3
       have hlj:cj.length=2*d.ae.length+1:=by rw[rQ];exact LL _ _ _
       refine ar (af 1 rfl (aB (di ?_)))
       refine bp rfl (fun F5=>?_) (fun F5=>?_)
       ·refine aV (bC [1,2,6,7,9,10,52,53,54,71,72] rfl (bg (ar (ag rfl (aaC (e:=j) rfl rfl rfl Nc tO rfl wM (by first|rfl|omega) (by first|omega|(simp only[ls];omega))) ?_))))
        refine dz 74 (.agg [.int .i64 ((gL d (cG gs) (2*c+j):Nat):Int),.int .i64 ((gK d (cG gs) (2*c+j):Nat):Int)].toArray) rfl (ab3 hab (by omega) yh (by omega)) ?_
        obtain⟨hb2,hb4,_⟩:=si hab (cG gs) (i:=2*c+j) (by omega)
        refine aj rfl (bW (l:=[_,_]) rfl rfl rfl CP rfl eF ?_)
        intro rS zu fx;clear eF
        refine aj rfl (bH 0 [_,_] [_,_] [_,_,_,_,_,_,_] rfl fx rfl rfl wM rfl rfl ?_)
        intro vO jw;clear fx
        refine bM [1,2,6,7,9,10,52,53,54,71,72,14] rfl (dH jw 24 ?_)
        clear jw
        refine ay 0 rfl (fun ah Sz=>aw rfl dm (Sz.suf.bc 4 rfl rfl)) (ay 1 rfl (fun ah Sz=>xI (e:=0) (k:=1) rfl rfl rfl tO gp (by first|rfl|omega) (by first|omega|(simp only[ls];omega))) ?_)
        refine ay 2 rfl (fun ah Sz=>aw rfl aG (Sz.suf.bc 0 rfl rfl)) (ay 3 rfl (fun ah Sz=>bS (i:=5) (gL d (cG gs) (2*c+j)) rfl bt Sz.suf rfl) (ay 4 rfl (fun ah Sz=>aw rfl aG (Sz.suf.dS (i:=5) (e:=gL d (cG gs) (2*c+j)) (j:=0) rfl (by first|omega|(simp only[ls];omega)) rfl rfl)) ?_))
        refine ay 5 rfl (fun ah Sz=>aw rfl dm (Sz.suf.bc 4 rfl rfl)) (ay 6 rfl (fun ah Sz=>xI (e:=1) (k:=1) rfl rfl rfl tO gp (by first|rfl|omega) (by first|omega|(simp only[ls];omega))) ?_)
        refine ay 7 rfl (fun ah Sz=>aw rfl aG (Sz.suf.bc 0 rfl rfl)) (ay 8 rfl (fun ah Sz=>bS (i:=5) (gK d (cG gs) (2*c+j)) rfl bt Sz.suf rfl) (ay 9 rfl (fun ah Sz=>aw rfl aG (Sz.suf.dS (i:=5) (e:=gK d (cG gs) (2*c+j)) (j:=0) rfl (by first|omega|(simp only[ls];omega)) rfl rfl)) ?_))
        refine ay 10 rfl (fun ah Sz=>adk rfl rfl rfl rfl rfl) (ay 11 rfl (fun ah Sz=>aw rfl dm (Sz.suf.bc 4 rfl rfl)) (ay 12 rfl (fun ah Sz=>xI (e:=0) (k:=1) rfl rfl rfl tO gp (by first|rfl|omega) (by first|omega|(simp only[ls];omega))) ?_))
        refine ay 13 rfl (fun ah Sz=>aw rfl aG (Sz.suf.bc 0 rfl rfl)) (ay 14 rfl (fun ah Sz=>bS (i:=5) (gL d (cG gs) (2*c+j)) rfl bt Sz.suf rfl) (ay 15 rfl (fun ah Sz=>aw rfl aG (Sz.suf.dS (i:=5) (e:=gL d (cG gs) (2*c+j)) (j:=0) rfl (by first|omega|(simp only[ls];omega)) rfl rfl)) ?_))
        refine ay 16 rfl (fun ah Sz=>aw rfl dm (Sz.suf.bc 4 rfl rfl)) (ay 17 rfl (fun ah Sz=>xI (e:=1) (k:=1) rfl rfl rfl tO gp (by first|rfl|omega) (by first|omega|(simp only[ls];omega))) ?_)
        refine ay 18 rfl (fun ah Sz=>aw rfl aG (Sz.suf.bc 0 rfl rfl)) (ay 19 rfl (fun ah Sz=>bS (i:=5) (gK d (cG gs) (2*c+j)) rfl bt Sz.suf rfl) (ay 20 rfl (fun ah Sz=>aw rfl aG (Sz.suf.dS (i:=5) (e:=gK d (cG gs) (2*c+j)) (j:=0) rfl (by first|omega|(simp only[ls];omega)) rfl rfl)) ?_))
        refine ay 21 rfl (fun ah Sz=>adj rfl rfl rfl rfl rfl) (aK 0 [22,23] rfl (cD (fun GH pg=>(bC [1,2,6,7,9,10,52,53,54,71,72,15,16] rfl (iZ 15 (.int .i64 (oI (gL d (cG gs)) (gK d (cG gs)) cj (2*c+j))) rfl (int_eq rfl) (iZ 16 (.int .i64 (pW (gL d (cG gs)) (gK d (cG gs)) cj (2*c+j))) rfl (int_eq rfl) (aH (ag rfl (aw rfl dm (pg.bc 4 rfl rfl)) (ag rfl (kZ (i:=5) rfl bt pg rfl) ?_)))))))))
        refine dz 98 (.int .i64 ((2*d.ae.length+1:Nat):Int)) rfl (int_eq (by rw[hlj])) ?_
        refine af 1 rfl (ax [1,2,6,7,9,10,52,53,54,71,72,15,16,98,99] rfl (bg ?_))
        refine ck (fun aZ au aR=>∃(a:Nat) (Cs:List Int) (Oi:Value),aZ=2*d.ae.length+1-a/\Env 198 [(1,.func (.func 123) #[] #[]),(2,.slice mh gone.length mf),(6,.pointer (some ⟨aP,0,none⟩)),(7,.pointer (some ⟨bJ,0,none⟩)),(9,.map (some tv)),(10,.pointer (some ⟨dE,0,none⟩)),(52,.slice cA d.ae.length cc),(53,.int .i64 (d.ae.length:Int)),(54,.int .i64 (c:Int)),(71,.agg [.int .i64 ((ga d.ae c).a),.int .i64 ((ga d.ae c).c),.int .i64 ((lj (ga d.ae c)).1),.int .i64 ((lj (ga d.ae c)).2)].toArray),(72,.int .i64 (j:Int)),(15,.int .i64 (oI (gL d (cG gs)) (gK d (cG gs)) cj (2*c+j))),(16,.int .i64 (pW (gL d (cG gs)) (gK d (cG gs)) cj (2*c+j))),(98,.int .i64 ((2*d.ae.length+1:Nat):Int)),(99,.int .i64 (a:Int))] au/\SH aR M X [Rs.row bu eV oc,Rs.box dE 24 [eV,.int .i64 d.loops],Rs.mp (Value.int .i64) Value.bool tv ([]),Rs.box bJ 83 [Oi],Rs.row aQ Oi Cs,Rs.box aP 24 [.slice none 0 0,.int .i64 0]]/\a<=2*d.ae.length+1/\Cs=relN cj (oI (gL d (cG gs)) (gK d (cG gs)) cj (2*c+j)) (pW (gL d (cG gs)) (gK d (cG gs)) cj (2*c+j)) a) rfl ?_ ?_
        ·intro au aq
         refine⟨_,⟨0,_,_,rfl,aq.su rfl,pg.pick [1,2,3,4,5,6] [_,_,_,_,_,_] (by decide) ⟨rfl,rfl,rfl,rfl,rfl,rfl,trivial⟩,?iB,?iW⟩⟩
         case iB=>omega
         case iW=>rfl
        ·rintro m5 a4 PH ⟨a,Cs,Oi,rfl,iT,jG,ha,hc2⟩
         clear pg
         refine cy iT ?_
         clear iT a4
         have hl2:Cs.length=2*d.ae.length+1:=by rw[hc2,H5,hlj]
         refine ar (af 1 rfl (aB (di ?_)))
         refine bp rfl (fun ahd=>?_) (fun ahd=>?_)
         ·refine aV (bC [1,2,6,7,9,10,52,53,54,71,72,15,16,98,99] rfl (bg (ar (af 2 rfl (bL [1,2,6,7,9,10,52,53,54,71,72,15,16,98,99,17] rfl (ag rfl (aw rfl dm (jG.bc 3 rfl rfl)) (af 1 rfl (ag rfl (bS (i:=4) a rfl bt jG rfl) ?_))))))))
          refine ag rfl (aw rfl aG (jG.dS (i:=4) (e:=a) (j:=0) rfl (by first|omega|(simp only[ls];omega)) rfl rfl)) ?_
          refine af 2 rfl (ax [1,2,6,7,9,10,52,53,54,71,72,15,16,98,99,17,107] rfl ?_)
          refine bp rfl (fun AK=>?_) (fun AK=>?_)
          ·refine aH (ag rfl (aw rfl dm (jG.bc 3 rfl rfl)) (af 2 rfl (ag rfl (bS (i:=4) a rfl bt jG rfl) (aj rfl (iE (C:=aQ) (i:=4) (e:=a) (j:=0) (us:=[_]) (H':=[_,_,_,_,_,_]) (pW (gL d (cG gs)) (gK d (cG gs)) cj (2*c+j)) rfl rfl jG rfl (by first|omega|(simp only[ls];omega)) rfl rfl rfl gp rfl rfl rfl rfl ?_)))))
           intro Ki kK;clear jG
           refine aB (bE (aW [1,2,6,7,9,10,52,53,54,71,72,15,16,98,99] rfl (aH (ag rfl (bj rfl) (af 1 rfl (aB (br ?_)))))))
           intro au aq
           refine⟨_,?mO,⟨a+1,_,_,rfl,aq.su rfl,kK.pick [0,1,2,3,4,5] [_,_,_,_,_,_] (by decide) ⟨rfl,rfl,rfl,rfl,rfl,rfl,trivial⟩,?jN,?jM⟩⟩
           case jN=>omega
           case jM=>(rw[relN,<-hc2];first|rw[if_pos AK]|rw[if_neg AK])
           case mO=>omega
          ·refine aV (bE (aW [1,2,6,7,9,10,52,53,54,71,72,15,16,98,99] rfl (aH (ag rfl (bj rfl) (af 1 rfl (aB (br ?_)))))))
           intro au aq
           refine⟨_,?lZ,⟨a+1,_,_,rfl,aq.su rfl,jG.pick [0,1,2,3,4,5] [_,_,_,_,_,_] (by decide) ⟨rfl,rfl,rfl,rfl,rfl,rfl,trivial⟩,?jL,?jK⟩⟩
           case jL=>omega
           case jK=>(rw[relN,<-hc2];first|rw[if_pos AK]|rw[if_neg AK])
           case lZ=>omega
         ·refine bX rfl (bE (aW [1,2,6,7,9,10,52,53,54,71,72] rfl (aH (ag rfl (bj rfl) (af 1 rfl (aB (br ?_)))))))
          intro au aq
          refine⟨_,?n7,⟨j+1,_,_,rfl,aq.su rfl,jG.pick [0,1,2,3,4,5] [_,_,_,_,_,_] (by decide) ⟨rfl,rfl,rfl,rfl,rfl,rfl,trivial⟩,?lU,?lT⟩⟩
          case lU=>omega
          case lT=>(obtain rfl:a=2*d.ae.length+1:=(by omega);rw[hc2,rQ];rfl)
          case n7=>omega
       ·refine bX rfl (bE (aW [1,2,6,7,9,10,52,53,54] rfl (aH (ag rfl (bj rfl) (af 1 rfl (aB (br ?_)))))))
        intro au aq
        refine⟨_,?wQ,⟨c+1,_,_,_,_,rfl,aq.su rfl,eF.pick [0,1,2,3,4,5] [_,_,_,_,_,_] (by decide) ⟨rfl,rfl,rfl,rfl,rfl,rfl,trivial⟩,?qW,?qV,?wK⟩⟩
        case qW=>omega
        case qV=>first|(rw[hcl,Tv (by simpa using je)])|(obtain rfl:j=2:=(by omega);exact rQ)
        case wK=>first|(rw[tRN,if_pos (by simpa using je)];exact Ch)|(rw[tRN,if_neg (by simpa using je),Ch])
        case wQ=>omega
    ·refine bX rfl (bC [6,7,9,10] rfl (cJ ?_))
     obtain rfl:c=d.ae.length:=by omega
     have qw:cl=tC d (cG gs):=hcl
     have sG:oc=tR d (cG gs):=Ch
     refine aH (ag rfl (az rfl aM rfl dN dM) (ag rfl (aw rfl cE (cO.bc 1 rfl rfl)) (ag rfl (kZ (i:=0) rfl fX cO rfl) (af 1 rfl (ax [6,7,9,10,116,117,118] rfl (bg ?_))))))
     refine ck (fun aZ au aR=>∃(i4:Nat) (es:List (Int×Bool)),aZ=oc.length-i4/\Env 198 [(6,.pointer (some ⟨aP,0,none⟩)),(7,.pointer (some ⟨bJ,0,none⟩)),(9,.map (some tv)),(10,.pointer (some ⟨dE,0,none⟩)),(116,eV),(117,.int .i64 (oc.length:Int)),(118,.int .i64 (i4:Int))] au/\SH aR M X [Rs.row bu eV oc,Rs.box dE 24 [eV,.int .i64 d.loops],Rs.mp (Value.int .i64) Value.bool tv es,Rs.box bJ 83 [xW],Rs.row aQ xW cl,Rs.box aP 24 [.slice none 0 0,.int .i64 0]]/\i4<=oc.length/\(∀x,(mg x es).getD false=nk cl (oc.take i4) x)) rfl ?_ ?_
     ·intro au aq
      refine⟨_,⟨0,[],rfl,aq.su rfl,cO.pick [0,1,2,3,4,5] [_,_,_,_,_,_] (by decide) ⟨rfl,rfl,rfl,rfl,rfl,rfl,trivial⟩,?wJ,?wI⟩⟩
      case wJ=>omega
      case wI=>(intro x;rfl)
     ·rintro m6 a5 PG ⟨i4,es,rfl,uU,jF,hi4,hes⟩
      clear cO
      refine cy uU ?_
      clear uU a5
      have hrm:i4<oc.length->∀s,s<4->1<=dw (ga oc i4) s/\dw (ga oc i4) s<=2*(d.ae.length:Int):=fun h s hs=>tK hab (Nat.le_refl _) (v:=ga oc i4) (gn:=cG gs) (by rw[<-show oc=tRN d (cG gs) d.ae.length from Ch];exact cY h) hs
      refine ar (af 1 rfl (aB (di ?_)))
      refine bp rfl (fun aha=>?_) (fun aha=>?_)
      ·refine aV (bC [6,7,9,10,116,117,118] rfl (bg (ar (ag rfl (bS (i:=0) i4 rfl fX jF rfl) (ag rfl (aU [_,_,_,_,_] rfl b6 fN (jF.qY (i:=0) (e:=i4) (j:=0) rfl (by first|omega|(simp only[ls];omega)) ⟨rfl,rfl,rfl,rfl,rfl,trivial⟩)) ?_)))))
       refine aj rfl (bW (l:=[_,_,_,_,_]) rfl rfl rfl vt rfl jF ?_)
       intro uY PF lR;clear jF
       refine aj rfl (bH 0 [_,_,_,_,_] [_,_,_,_,_] [_,_,_,_,_,_,_] rfl lR rfl rfl fN rfl rfl ?_)
       intro PE ll;clear lR
       refine bL [6,7,9,10,116,117,118,19] rfl (af 1 rfl (aB (bK (bg ?_))))
       refine ck (fun aZ au aR=>∃(s5:Nat) (KM:List (Int×Bool)),aZ=4-s5/\Env 198 [(6,.pointer (some ⟨aP,0,none⟩)),(7,.pointer (some ⟨bJ,0,none⟩)),(9,.map (some tv)),(10,.pointer (some ⟨dE,0,none⟩)),(116,eV),(117,.int .i64 (oc.length:Int)),(118,.int .i64 (i4:Int)),(19,.pointer (some ⟨uY,0,none⟩)),(122,.int .i64 (s5:Int))] au/\SH aR M X [Rs.box uY 68 [.int .i64 ((ga oc i4).a),.int .i64 ((ga oc i4).b),.int .i64 ((ga oc i4).c),.int .i64 ((ga oc i4).d),.bool ((ga oc i4).plus)],Rs.row bu eV oc,Rs.box dE 24 [eV,.int .i64 d.loops],Rs.mp (Value.int .i64) Value.bool tv KM,Rs.box bJ 83 [xW],Rs.row aQ xW cl,Rs.box aP 24 [.slice none 0 0,.int .i64 0]]/\s5<=4/\(∀x,(mg x KM).getD false=(nk cl (oc.take i4) x||lf1 cl (ga oc i4) s5 x))) rfl ?_ ?_
       ·intro au aq
        refine⟨_,⟨0,es,rfl,aq.su rfl,ll.pick [0,1,2,3,4,5,6] [_,_,_,_,_,_,_] (by decide) ⟨rfl,rfl,rfl,rfl,rfl,rfl,rfl,trivial⟩,?Af,?Ae⟩⟩
        case Af=>omega
        case Ae=>(intro x;rw[hes,lf1,Bool.or_false])
       ·rintro m7 a6 Kh ⟨s5,KM,rfl,zE,lQ,hs5,XR⟩
        clear ll
        refine cy zE ?_
        clear zE a6
        have ja:=fun h=>hrm (by omega) s5 h
        refine ar (af 1 rfl (aB (di ?_)))
        refine bp rfl (fun ag9=>?_) (fun ag9=>?_)
        ·refine aV (bC [6,7,9,10,116,117,118,19,122] rfl (bg (ar (af 2 rfl (ax [6,7,9,10,116,117,118,19,122,20] rfl ?_)))))
         have hrr:=ja (by omega)
         refine dH lQ 8 ?_
         clear lQ
         refine aK 7 [0] rfl (ay 1 rfl (fun ah Sz=>aw rfl dm (Sz.suf.bc 4 rfl rfl)) (ay 2 rfl (fun ah Sz=>aU [_,_,_,_,_] rfl b6 fN (Sz.suf.bs 0 rfl rfl)) (aK 4 [3] rfl (dQ 4 rfl (fun ah Sz=>dZ rfl rfl rfl rfl rfl Dt Sz (C7 (ga oc i4) s5 (by omega) Sz.aT)) ?_))))
         refine ay 5 rfl (fun ah Sz=>bS (i:=5) ((dw (ga oc i4) s5).toNat) rfl bt Sz.suf rfl) (ay 6 rfl (fun ah Sz=>aw rfl aG (Sz.suf.dS (i:=5) (e:=(dw (ga oc i4) s5).toNat) (j:=0) rfl (by first|omega|(simp only[ls];omega)) rfl rfl)) ?_)
         refine cm 7 rfl (fun w61 mE=>((ou (kc:=Value.int .i64) (vc:=Value.bool) (es:=KM) (k:=(ga cl ((dw (ga oc i4) s5).toNat))) (e:=true) (i:=3) (H':=[_,_,_,_,_,_,_]) (.inl rfl) rfl mE rfl rfl rfl rfl Jj mr rfl ?_)))
         intro w62 S64;clear mE
         refine ij S64 ?_;clear S64
         change WA _ _ _ _ _ _ _ _ _ _ _ _ [_,_,_,_,_,_,_]
         refine cD (fun w63 qh=>(bE (aW [6,7,9,10,116,117,118,19,122] rfl (aH (ag rfl (bj rfl) (af 1 rfl (aB (br ?_))))))))
         intro au aq
         refine⟨_,?AE,⟨s5+1,_,rfl,aq.su rfl,qh.pick [0,1,2,3,4,5,6] [_,_,_,_,_,_,_] (by decide) ⟨rfl,rfl,rfl,rfl,rfl,rfl,rfl,trivial⟩,?Ad,?Ac⟩⟩
         case Ad=>omega
         case Ac=>(intro x;rw[yJ,lf1];by_cases h9:x=ga cl (dw (ga oc i4) s5).toNat;(rw[if_pos h9];simp[h9]);(rw[if_neg h9,XR];simp[h9]))
         case AE=>omega
        ·refine bX rfl (bE (aW [6,7,9,10,116,117,118] rfl (aH (ag rfl (bj rfl) (af 1 rfl (aB (br ?_)))))))
         intro au aq
         refine⟨_,?NG,⟨i4+1,_,rfl,aq.su rfl,lQ.pick [1,2,3,4,5,6] [_,_,_,_,_,_] (by decide) ⟨rfl,rfl,rfl,rfl,rfl,rfl,trivial⟩,?EY,?EX⟩⟩
         case EY=>omega
         case EX=>(intro x;rw[XR,na oc i4 (by omega),LA,show s5=4 by omega])
         case NG=>omega
      ·refine bX rfl (bC [6,7,9,10] rfl ?_)
       obtain rfl:i4=oc.length:=by omega
       have hlf:∀x,(mg x es).getD false=nk cl oc x:=fun x=>by rw[hes x,List.take_length]
       have hok:∀x,x<2*d.ae.length+1->0<=ga cl x/\ga cl x<=x/\ga cl (ga cl x).toNat=ga cl x:=by rw[qw];exact(CL hab (cG gs) _ (Nat.le_refl _)).2
       refine aH (ag rfl (aw rfl dm (jF.bc 3 rfl rfl)) (ag rfl (kZ (i:=4) rfl bt jF rfl) (aj rfl (sP (C:=aQ) cl.length rfl rfl rfl rfl rfl bt (by first|rfl|omega) (by show _*8<=_;first|omega|(simp only[ls];omega)) jF ?_))))
       intro Km w64 tF;clear jF
       refine aj rfl (bW (l:=[_]) rfl rfl rfl Xc rfl tF ?_)
       intro wm w65 o9;clear tF
       refine aj rfl (gJ (i:=0) (us:=[_]) (l':=[_]) (H':=[_,_,_,_,_,_,_,_]) rfl rfl o9 rfl rfl rfl (o9.nS (i:=1) rfl) vz rfl (iq (o9.one (i:=1) rfl) rfl) rfl rfl ?_)
       intro w66 o8;clear o9
       refine bL [6,7,9,10,21] rfl (af 1 rfl (aB (di (cJ ?_))))
       have hz0:d.loops+(cn (iD cl oc) (0+1):Int)=d.loops:=by rw[show cn (iD cl oc) (0+1)=0 from rfl];omega
       rw[<-hz0]at o8
       refine aH (af 1 rfl (aB (bK (bg ?_))))
       refine ck (fun aZ au aR=>∃(a6:Nat) (nu:List Int) (kB:Value),aZ=2*d.ae.length-a6/\Env 198 [(6,.pointer (some ⟨aP,0,none⟩)),(7,.pointer (some ⟨bJ,0,none⟩)),(9,.map (some tv)),(10,.pointer (some ⟨dE,0,none⟩)),(21,.pointer (some ⟨wm,0,none⟩)),(22,.int .i64 (cn (gQ cl oc) (a6+1):Int)),(23,.int .i64 ((a6+1:Nat):Int))] au/\SH aR M X [Rs.box wm 83 [kB],Rs.row aQ kB nu,Rs.row bu eV oc,Rs.box dE 24 [eV,.int .i64 (d.loops+(cn (iD cl oc) (a6+1):Int))],Rs.mp (Value.int .i64) Value.bool tv es,Rs.box bJ 83 [xW],Rs.row aQ xW cl,Rs.box aP 24 [.slice none 0 0,.int .i64 0]]/\a6<=2*d.ae.length/\nu.length=2*d.ae.length+1/\(∀x,x<a6+1->gQ cl oc x=true->ga nu x=(cn (gQ cl oc) (x+1):Int))) rfl ?_ ?_
       ·intro au aq
        refine⟨_,⟨0,_,_,rfl,aq.su rfl,o8.pick [0,1,2,3,4,5,6,7] [_,_,_,_,_,_,_,_] (by decide) ⟨rfl,rfl,rfl,rfl,rfl,rfl,rfl,rfl,trivial⟩,?EW,?EU,?MG⟩⟩
        case EW=>omega
        case EU=>(rw[List.length_replicate];omega)
        case MG=>(intro x hx h9;obtain rfl:x=0:=(by omega);cases h9)
       ·rintro m8 a7 w67 ⟨a6,nu,kB,rfl,G8,jb,ha6,hnl,nr⟩
        clear o8
        refine cy G8 ?_
        clear G8 a7
        have ajs:=yQ (gQ cl oc) (a6+1)
        have ajr:=yQ (iD cl oc) (a6+1)
        have aiP:=fun h=>hok (a6+1) h
        refine cJ (ar (af 1 rfl (ag rfl (aw rfl dm (jb.bc 5 rfl rfl)) (ag rfl (kZ (i:=6) rfl bt jb rfl) (af 1 rfl (ax [6,7,9,10,21,22,23,140] rfl ?_))))))
        refine bp rfl (fun ag6=>?_) (fun ag6=>?_)
        ·refine aV (bC [6,7,9,10,21,22,23] rfl (bg (bg (ar (ag rfl (aw rfl dm (jb.bc 5 rfl rfl)) (af 1 rfl (ag rfl (bS (i:=6) (a6+1) rfl bt jb rfl) (ag rfl (aw rfl aG (jb.dS (i:=6) (e:=a6+1) (j:=0) rfl (by first|omega|(simp only[ls];omega)) rfl rfl)) ?_))))))))
         refine af 3 rfl (ax [6,7,9,10,21,22,23,147] rfl ?_)
         refine bp rfl (fun AJ=>?_) (fun AJ=>?_)
         ·have hrt:gQ cl oc (a6+1)=false:=by unfold gQ;rw[decide_eq_false (show¬ga cl (a6+1)=((a6+1:Nat):Int)from AJ)];simp
          have hlo:iD cl oc (a6+1)=false:=by unfold iD;rw[decide_eq_false (show¬ga cl (a6+1)=((a6+1:Nat):Int)from AJ)];simp
          refine aV (bE (bE (aW [6,7,9,10,21,22,23] rfl (iZ 22 (.int .i64 (cn (gQ cl oc) (a6+1+1):Int)) rfl (int_eq (by rw[yP hrt])) ?_))))
          rw[<-yP hlo]at jb
          refine aH (af 1 rfl (ag rfl (bj rfl) (af 1 rfl (aB (br ?_)))))
          intro au aq
          refine⟨_,?NF,⟨a6+1,_,_,rfl,aq.su rfl,jb.pick [0,1,2,3,4,5,6,7] [_,_,_,_,_,_,_,_] (by decide) ⟨rfl,rfl,rfl,rfl,rfl,rfl,rfl,rfl,trivial⟩,?ET,?ES,?ER⟩⟩
          case ET=>omega
          case ES=>first|assumption|simpa using hnl
          case ER=>first|(intro x hx h9;by_cases e:x=a6+1;(subst e;rw[eX _ _ _ _ (by omega),if_pos rfl]);(rw[eX _ _ _ _ (by omega),if_neg (fun h=>e h.symm)];exact nr x (by omega) h9))|(intro x hx h9;by_cases e:x=a6+1;(subst e;rw[hrt]at h9;cases h9);exact nr x (by omega) h9)
          case NF=>omega
         ·refine ar (af 2 rfl (ag rfl (zn (kc:=Value.int .i64) (vc:=Value.bool) (es:=es) (k:=((a6+1:Nat):Int)) (zv:=false) (i:=4) rfl rfl rfl Jj mr Ke jb rfl) (af 1 rfl (ax [6,7,9,10,21,22,23,154] rfl ?_))))
          refine gB rfl (fun FB=>?_) (fun FB=>?_)
          ·have hlx:=hlf ((a6+1:Nat):Int)
           have hrt:gQ cl oc (a6+1)=true:=by unfold gQ;rw[decide_eq_true (show ga cl (a6+1)=((a6+1:Nat):Int) by omega),<-hlx];simp;exact FB
           have hlo:iD cl oc (a6+1)=false:=by unfold iD;rw[<-hlx];simp;intro _;exact FB
           refine ar (af 1 rfl (ag rfl (bj rfl) (af 1 rfl (ax [6,7,9,10,21,22,23] rfl (iZ 22 (.int .i64 (cn (gQ cl oc) (a6+1+1):Int)) rfl (int_eq (by rw[vp hrt];omega)) ?_)))))
           refine aH (ag rfl (aw rfl dm (jb.bc 0 rfl rfl)) (af 2 rfl (ag rfl (bS (i:=1) (a6+1) rfl bt jb rfl) (aj rfl (iE (C:=aQ) (i:=1) (e:=a6+1) (j:=0) (us:=[_]) (H':=[_,_,_,_,_,_,_,_]) (cn (gQ cl oc) (a6+1+1):Int) rfl rfl jb rfl (by first|omega|(simp only[ls];omega)) rfl rfl rfl gp rfl rfl rfl rfl ?_)))))
           intro w68 zN;clear jb
           refine aB (bE (bE (aW [6,7,9,10,21,22,23] rfl ?_)))
           rw[<-yP hlo]at zN
           refine aH (af 1 rfl (ag rfl (bj rfl) (af 1 rfl (aB (br ?_)))))
           intro au aq
           refine⟨_,?Fx,⟨a6+1,_,_,rfl,aq.su rfl,zN.pick [0,1,2,3,4,5,6,7] [_,_,_,_,_,_,_,_] (by decide) ⟨rfl,rfl,rfl,rfl,rfl,rfl,rfl,rfl,trivial⟩,?EP,?EO,?EN⟩⟩
           case EP=>omega
           case EO=>first|assumption|simpa using hnl
           case EN=>first|(intro x hx h9;by_cases e:x=a6+1;(subst e;rw[eX _ _ _ _ (by omega),if_pos rfl]);(rw[eX _ _ _ _ (by omega),if_neg (fun h=>e h.symm)];exact nr x (by omega) h9))|(intro x hx h9;by_cases e:x=a6+1;(subst e;rw[hrt]at h9;cases h9);exact nr x (by omega) h9)
           case Fx=>omega
          ·have hlx:=hlf ((a6+1:Nat):Int)
           have hrt:gQ cl oc (a6+1)=false:=by unfold gQ;rw[<-hlx];simp;intro _;exact FB
           have hlo:iD cl oc (a6+1)=true:=by unfold iD;rw[decide_eq_true (show ga cl (a6+1)=((a6+1:Nat):Int) by omega),<-hlx];simp;exact FB
           refine aH (ag rfl (az rfl aM rfl aY aX) (ag rfl (aw rfl aG (jb.bc 3 rfl rfl)) (ag rfl (bj rfl) (ag rfl (az rfl aM rfl aY aX) (aj rfl (bH 3 [_] [_,_] [_,_,_,_,_,_,_,_] rfl jb rfl rfl gp rfl rfl ?_))))))
           intro Kg wz;clear jb
           refine aB (bE (bE (aW [6,7,9,10,21,22,23] rfl (iZ 22 (.int .i64 (cn (gQ cl oc) (a6+1+1):Int)) rfl (int_eq (by rw[yP hrt])) ?_))))
           rw[acT,<-vp hlo]at wz
           refine aH (af 1 rfl (ag rfl (bj rfl) (af 1 rfl (aB (br ?_)))))
           intro au aq
           refine⟨_,?ND,⟨a6+1,_,_,rfl,aq.su rfl,wz.pick [0,1,2,3,4,5,6,7] [_,_,_,_,_,_,_,_] (by decide) ⟨rfl,rfl,rfl,rfl,rfl,rfl,rfl,rfl,trivial⟩,?EM,?EL,?MF⟩⟩
           case EM=>omega
           case EL=>first|assumption|simpa using hnl
           case MF=>first|(intro x hx h9;by_cases e:x=a6+1;(subst e;rw[eX _ _ _ _ (by omega),if_pos rfl]);(rw[eX _ _ _ _ (by omega),if_neg (fun h=>e h.symm)];exact nr x (by omega) h9))|(intro x hx h9;by_cases e:x=a6+1;(subst e;rw[hrt]at h9;cases h9);exact nr x (by omega) h9)
           case ND=>omega
        ·refine bX rfl (bC [6,7,10,21] rfl ?_)
         obtain rfl:a6=2*d.ae.length:=by omega
         obtain⟨M33,AH,tE,⟨A1,c1,e1,hr1⟩⟩:=jb.gP (i:=1) (H':=[_,_,_,_,_,_,_,_]) rfl rfl (by show _*8<=_;first|omega|(simp only[ls];omega))
         clear jb;subst e1
         replace bI:=bI.mono (Hp.aD AH tE.mx)
         replace hsc:=hsc.mono (Hp.aD AH tE.mx)
         replace hsi:=hsi.mono (Hp.aD AH tE.mx)
         replace bq:=bq.mono (Hp.aD AH tE.mx)
         replace kW:=kW.mono (Hp.aD AH tE.mx)
         obtain⟨M34,AG,tD,⟨A2,c2,e2,hr2⟩⟩:=tE.gP (i:=6) (H':=[_,_,_,_,_,_,_,_]) rfl rfl (by show _*8<=_;first|omega|(simp only[ls];omega))
         clear tE;subst e2
         replace bI:=bI.mono (Hp.aD AG tD.mx)
         replace hsc:=hsc.mono (Hp.aD AG tD.mx)
         replace hsi:=hsi.mono (Hp.aD AG tD.mx)
         replace bq:=bq.mono (Hp.aD AG tD.mx)
         replace kW:=kW.mono (Hp.aD AG tD.mx)
         replace hr1:=hr1.mono AG
         refine aH (ag rfl (GD (vs:=[_,_]) rfl rfl rfl rfl) (af 1 rfl (bM [6,10,24] rfl (ar (ag rfl (az rfl aM rfl dN dM) (ag rfl (aw rfl cE (tD.bc 3 rfl rfl)) (ag rfl (kZ (i:=2) rfl fX tD rfl) (af 1 rfl ?_))))))))
         refine ax [6,10,24,166,167,168] rfl (bg ?_)
         refine ck (fun aZ au aR=>∃(i7:Nat) (c7:List Cr) (Kk:Value),aZ=oc.length-i7/\Env 198 [(6,.pointer (some ⟨aP,0,none⟩)),(10,.pointer (some ⟨dE,0,none⟩)),(24,.func (.func 145) #[] [.pointer (some ⟨wm,0,none⟩),.pointer (some ⟨bJ,0,none⟩)].toArray),(166,Kk),(167,.int .i64 (oc.length:Int)),(168,.int .i64 (i7:Int))] au/\SH aR M34 X [Rs.box wm 83 [.slice A1 nu.length c1],Rs.row bu Kk c7,Rs.box dE 24 [Kk,.int .i64 (d.loops+(cn (iD cl oc) (2*d.ae.length+1):Int))],Rs.box bJ 83 [.slice A2 cl.length c2],Rs.box aP 24 [.slice none 0 0,.int .i64 0]]/\i7<=oc.length/\c7=(oc.take i7).map (BZ cl oc)++oc.drop i7) rfl ?_ ?_
         ·intro au aq
          refine⟨_,⟨0,_,_,rfl,aq.su rfl,tD.pick [0,2,3,5,7] [_,_,_,_,_] (by decide) ⟨rfl,rfl,rfl,rfl,rfl,trivial⟩,?EK,?EJ⟩⟩
          case EK=>omega
          case EJ=>simp
         ·rintro m9 a8 w70 ⟨i7,c7,Kk,rfl,D3,qR,hi7,KD⟩
          clear tD
          refine cy D3 ?_
          clear D3 a8
          have anC:c7.length=oc.length:=by rw[KD];simp;omega
          refine ar (af 1 rfl (aB (di ?_)))
          refine bp rfl (fun ag5=>?_) (fun ag5=>?_)
          ·have tW:ga oc i7∈tR d (cG gs):=by rw[<-sG];exact cY (by omega)
           have hx7:=ach KD (by omega)
           have afg:1<=(ga oc i7).a/\(ga oc i7).a<=2*(d.ae.length:Int):=tK hab (Nat.le_refl _) tW (s:=0) (by omega)
           obtain⟨aiO,aiK,_⟩:=hok (ga oc i7).a.toNat (by omega)
           have aff:1<=(ga oc i7).b/\(ga oc i7).b<=2*(d.ae.length:Int):=tK hab (Nat.le_refl _) tW (s:=1) (by omega)
           obtain⟨aiN,aiJ,_⟩:=hok (ga oc i7).b.toNat (by omega)
           have afe:1<=(ga oc i7).c/\(ga oc i7).c<=2*(d.ae.length:Int):=tK hab (Nat.le_refl _) tW (s:=2) (by omega)
           obtain⟨aiM,aiI,_⟩:=hok (ga oc i7).c.toNat (by omega)
           have afd:1<=(ga oc i7).d/\(ga oc i7).d<=2*(d.ae.length:Int):=tK hab (Nat.le_refl _) tW (s:=3) (by omega)
           obtain⟨aiL,aiH,_⟩:=hok (ga oc i7).d.toNat (by omega)
           have rO:∀s,s<4->ga nu (ga cl (dw (ga oc i7) s).toNat).toNat=vR cl oc (dw (ga oc i7) s):=fun s hs=>by
            have:=V8 hab (nu:=nu) (by rw[<-qw,<-sG];exact nr) tW hs
            rw[<-qw,<-sG]at this
            exact this
           refine aV (bC [6,10,24,166,167,168] rfl (bg (ar (af 1 rfl (ag rfl (bS (i:=1) i7 rfl fX qR rfl) (ag rfl (aU [_,_,_,_,_] rfl b6 fN (qR.qY (i:=1) (e:=i7) (j:=0) rfl (by first|omega|(simp only[ls];omega)) ⟨rfl,rfl,rfl,rfl,rfl,trivial⟩)) ?_))))))
           refine dz 172 (.agg [.int .i64 ((ga oc i7).a),.int .i64 ((ga oc i7).b),.int .i64 ((ga oc i7).c),.int .i64 ((ga oc i7).d),.bool ((ga oc i7).plus)].toArray) rfl (by rw[hx7]) ?_
           refine aj rfl (bW (l:=[_,_,_,_,_]) rfl rfl rfl vt rfl qR ?_)
           intro Hi PB wy;clear qR
           refine af 1 rfl (aj rfl (bH 0 [_,_,_,_,_] [_,_,_,_,_] [_,_,_,_,_,_] rfl wy rfl rfl fN rfl rfl ?_))
           intro w72 Cw;clear wy
           refine ax [6,10,24,166,167,168,26,25] rfl (dH Cw 24 ?_)
           clear Cw
           refine aS 0 rfl (az rfl aM rfl dN dM) (ay 1 rfl (fun ah Sz=>aw rfl cE (Sz.suf.bc 3 rfl rfl)) (aK 20 [2,3] rfl (aS 4 rfl (az rfl b6 rfl aY aX) (ay 5 rfl (fun ah Sz=>aw rfl aG (Sz.suf.bc 0 rfl rfl)) (dQ 6 rfl (fun ah Sz=>HI rfl rfl rfl rfl rfl Jv Sz (I7 ((ga oc i7).a) nu cl (SH.wW (i:=1) Sz rfl) ((hr1.mono ah).mono (Hp.cM _ _)) (SH.wW (i:=4) Sz rfl) ((hr2.mono ah).mono (Hp.cM _ _)) (by omega) (by omega) Sz.aT)) ?_)))))
           refine aK 16 [7] rfl (aS 8 rfl (az rfl b6 rfl aY aX) (ay 9 rfl (fun ah Sz=>aw rfl aG (Sz.suf.bc 0 rfl rfl)) (dQ 10 rfl (fun ah Sz=>HI rfl rfl rfl rfl rfl Jv Sz (I7 ((ga oc i7).b) nu cl (SH.wW (i:=1) Sz rfl) ((hr1.mono ah).mono (Hp.cM _ _)) (SH.wW (i:=4) Sz rfl) ((hr2.mono ah).mono (Hp.cM _ _)) (by omega) (by omega) Sz.aT)) ?_)))
           refine aK 12 [11] rfl (aS 12 rfl (az rfl b6 rfl aY aX) (ay 13 rfl (fun ah Sz=>aw rfl aG (Sz.suf.bc 0 rfl rfl)) (dQ 14 rfl (fun ah Sz=>HI rfl rfl rfl rfl rfl Jv Sz (I7 ((ga oc i7).c) nu cl (SH.wW (i:=1) Sz rfl) ((hr1.mono ah).mono (Hp.cM _ _)) (SH.wW (i:=4) Sz rfl) ((hr2.mono ah).mono (Hp.cM _ _)) (by omega) (by omega) Sz.aT)) ?_)))
           refine aK 8 [15] rfl (aS 16 rfl (az rfl b6 rfl aY aX) (ay 17 rfl (fun ah Sz=>aw rfl aG (Sz.suf.bc 0 rfl rfl)) (dQ 18 rfl (fun ah Sz=>HI rfl rfl rfl rfl rfl Jv Sz (I7 ((ga oc i7).d) nu cl (SH.wW (i:=1) Sz rfl) ((hr1.mono ah).mono (Hp.cM _ _)) (SH.wW (i:=4) Sz rfl) ((hr2.mono ah).mono (Hp.cM _ _)) (by omega) (by omega) Sz.aT)) ?_)))
           refine aS 19 rfl (az rfl b6 rfl lM lJ) (ay 20 rfl (fun ah Sz=>aw rfl gY (Sz.suf.bc 0 rfl rfl)) (ay 21 rfl (fun ah Sz=>run_build (l:=[_,_,_,_,_]) rfl rfl JH rfl rfl) (ay 22 rfl (fun ah Sz=>bS (i:=2) i7 rfl fX Sz.suf rfl) (cm 23 rfl (fun w97 ZQ=>((iE (C:=bu) (i:=2) (e:=i7) (j:=0) (us:=[_,_,_,_,_]) (H':=[_,_,_,_,_,_]) (⟨ga nu (ga cl ((ga oc i7).a).toNat).toNat,ga nu (ga cl ((ga oc i7).b).toNat).toNat,ga nu (ga cl ((ga oc i7).c).toNat).toNat,ga nu (ga cl ((ga oc i7).d).toNat).toNat,(ga oc i7).plus⟩:Cr) rfl rfl ZQ rfl (by first|omega|(simp only[ls];omega)) rfl rfl rfl fN rfl rfl rfl rfl ?_)))))))
           intro w98 zf;clear ZQ
           refine ij zf ?_;clear zf
           change WA _ _ _ _ _ _ _ _ _ _ _ _ [_,_,_,_,_,_]
           refine cD (fun w99 xB=>(bE (aW [6,10,24,166,167,168] rfl (aH (ag rfl (bj rfl) (af 1 rfl (aB (br ?_))))))))
           intro au aq
           refine⟨_,?Fw,⟨i7+1,_,_,rfl,aq.su rfl,xB.pick [1,2,3,4,5] [_,_,_,_,_] (by decide) ⟨rfl,rfl,rfl,rfl,rfl,trivial⟩,?EI,?EH⟩⟩
           case EI=>omega
           case EH=>(refine seven KD (by omega) ?_;show(⟨ga nu (ga cl (dw (ga oc i7) 0).toNat).toNat,ga nu (ga cl (dw (ga oc i7) 1).toNat).toNat,ga nu (ga cl (dw (ga oc i7) 2).toNat).toNat,ga nu (ga cl (dw (ga oc i7) 3).toNat).toNat,(ga oc i7).plus⟩:Cr)=_;rw[rO 0 (by omega),rO 1 (by omega),rO 2 (by omega),rO 3 (by omega)];rfl)
           case Fw=>omega
          ·refine bX rfl (cP [6,10] rfl (ag rfl (aU [_,_] rfl aM aN (qR.bs 2 rfl rfl)) (aj rfl (gJ (i:=4) (us:=[_,_]) (l':=[_,_]) (H':=[_,_,_,_,_]) rfl rfl qR rfl rfl rfl rfl aN rfl (iq (qR.one (i:=1) rfl) (iq rfl rfl)) rfl rfl ?_))))
           intro ah5 GA;clear qR
           refine ax [6] rfl ?_
           obtain⟨M59,yL,uA,⟨A3,c3,e3,hr3⟩⟩:=GA.gP (i:=1) (H':=[_,_,_,_,_]) rfl rfl (by show _*40<=_;first|omega|(simp only[ls];omega))
           clear GA;subst e3
           replace bI:=bI.mono (Hp.aD yL uA.mx)
           replace hsc:=hsc.mono (Hp.aD yL uA.mx)
           replace hsi:=hsi.mono (Hp.aD yL uA.mx)
           replace bq:=bq.mono (Hp.aD yL uA.mx)
           replace kW:=kW.mono (Hp.aD yL uA.mx)
           replace hr1:=hr1.mono yL
           replace hr2:=hr2.mono yL
           refine dI hC [_] rfl rfl ⟨⟨_,rfl,dK (us:=[_,_]) aM rfl aN (uA.bs 4 rfl rfl)⟩,trivial⟩ ?_
           refine⟨_,rfl,_,(AH.trans AG).trans yL,(uA.pick [] [] (by decide) trivial),?_⟩
           obtain rfl:i7=oc.length:=by omega
           have e9:(ik d (cG gs)).ae=c7:=by rw[KD,List.take_length,List.drop_length,List.append_nil,qw,sG];rfl
           have e8:(ik d (cG gs)).loops=d.loops+(cn (iD cl oc) (2*d.ae.length+1):Int):=by rw[qw,sG];rfl
           rw[e9,e8]
           exact⟨_,_,rfl,hr3⟩
end Go.Proofs.YtcohmplpgcddiaaGreatDoor
namespace Go.Proofs.YtcohmplpgcddiaaGreatDoor
open Go.ChangeShapes Go.WideShapes Go.ChangeAt Go.RowKit
namespace InF
def C0:Go.Proofs.YtcohmplpgcddiaaGreatDoor.Ctx:=⟨default,fun _ _=>False⟩
section
variable {P : Program} {n : Nat} {C : InF.Ctx} {c : Code} {s : List K} {L : List (Nat × Value)} {w : World} {M Mb : Hp} {X : Fr} {H Hb : List Rs} {l : Array Bool} {f : Nat}
def sk(P:Program)(C:InF.Ctx)(s:List K):List K:=[.lp fun a w=>InF.post P C s .normal a w]
theorem Tz{ch:List PanicEntry}{a:Act}{w:World}(h:Go.Proofs.YtcohmplpgcddiaaGreatDoor.post P C0 (sk P C s) (.panic ch) a w):False:=h.2
theorem Vh(h:LetsOut (Go.Proofs.YtcohmplpgcddiaaGreatDoor.post P C0 (sk P C s))):False:=by
 obtain⟨a,w,h⟩:=h
 exact h
theorem acx{o:Oper}{a:Act}{w:World}{next:Act->World->Prop}(hnd:∀c,o.op≠.defer c)(h:o.wp P a w next (Go.Proofs.YtcohmplpgcddiaaGreatDoor.post P C0 (sk P C s))):o.wpIn C.F 0 P a w next (InF.post P C s):=by
 refine⟨fun f _=>C.xM f,?_⟩
 rw[Oper.semAt_eq _ _ _ hnd]
 unfold Oper.wp at h
 generalize (execOp a.eval o).run P w=r at h
 cases r with
 |ok nx w'=>
  cases nx with
  |value v=>exact h
  |skip=>exact h
  |defer d=>exact h
  |enter f args=>
   refine⟨C.zg,I6 C (Calls.mono h ?_)⟩
   rintro e w2 hh
   cases e with
   |returned v=>exact hh
   |panicked chain=>exact(Tz hh).elim
   |outgrown=>exact(Vh hh).elim
  |row row args=>exact⟨C.zg,Np C h⟩
  |_=>exact h.elim
 |halt x w'=>
  cases x with
  |panic v=>exact(Tz h).elim
  |_=>exact h.elim
theorem abW{ops:Array Oper}{j:Nat}{K:Act->World->Prop}{a:Act}{w:World}(hnd:ops.toList.all yZ=true)(h:wpOp P ops (Go.Proofs.YtcohmplpgcddiaaGreatDoor.post P C0 (sk P C s)) j K a w):wpOpIn C.F 0 P ops (InF.post P C s) j K a w:=by
 unfold wpOp at h
 unfold wpOpIn
 cases ho:ops[j]? with
 |none=>simp only[ho]at h ⊢;exact h
 |some o=>
  simp only[ho]at h ⊢
  split
  ·rename_i hw
   simp only[hw,if_true]at h
   rcases h with h|⟨_,h⟩
   ·refine acx (Lg ?_) h
    obtain⟨hj,e⟩:=Array.getElem?_eq_some_iff.1 ho
    exact List.all_eq_true.1 hnd o (by rw[<-e];exact Array.getElem_mem_toList hj)
   ·exact(Vh h).elim
  ·rename_i hw
   simp only[hw]at h
   exact⟨fun f _=>C.xM f,h⟩
theorem W8{ops:Array Oper}{md:Region.Mode}(hnd:ops.toList.all yZ=true):∀(f:Nat) (l:Array Bool) (a:Act) (Mb:Hp) (Hb:List Rs) (M:Hp) (H:List Rs) (w:World),SH w M X H->Down md ops l->ke P md ops (Go.Proofs.YtcohmplpgcddiaaGreatDoor.post P C0 (sk P C s)) X f l a Mb Hb M H->wpAnyIn C.F 0 P md ops (InF.post P C s) f l a w:=by
 intro f
 induction f with
 |zero=>intro l a Mb Hb M H w S _ h;exact h w S
 |succ f ih=>
  intro l a Mb Hb M H w S hd h
  obtain⟨h0,h1⟩:=h w S hd
  refine⟨h0,fun j hj=>wpOpIn_mono (fun a2 w2 hc=>?_) (abW hnd (h1 j hj))⟩
  obtain⟨M2,H2,S2,⟨_,hc⟩|⟨_,hc⟩⟩:=hc
  ·exact ih _ _ _ _ _ _ _ S2 (zS hd hj) hc
  ·exact ih _ _ _ _ _ _ _ S2 (zS hd hj) hc
theorem LI(hk:kind c=8)(hm:P.follows .mixedOrders=true)(S:SH w M X H)(f:Nat)(hf:(rg c).size=f)(h:WA P n C0 c (sk P C s) X f (Array.replicate f false) L M H M H)(hnd:(rg c).toList.all yZ=true:=by rfl):InF.WS P n C c s L w:=by
 intro a ha
 rw[HM hk]
 refine wpIn_region_any hm ?_
 rw[hf]
 exact W8 hnd _ _ _ _ _ _ _ _ (S.kp ⟨rfl,rfl,rfl,Nat.le_refl _⟩ fun _ _=>rfl) (HF _) (h (Grown.refl _ _) a ha)
theorem zP(N Hb:List Rs)(hk:kind c=8)(hm:P.follows .mixedOrders=true)(S:SH w M X (N++Hb))(f:Nat)(hf:(rg c).size=f)(h:WA P n C0 c (sk P C s) X f (Array.replicate f false) L M Hb M (N++Hb))(hnd:(rg c).toList.all yZ=true:=by rfl):InF.WS P n C c s L w:=by
 intro a ha
 rw[HM hk]
 refine wpIn_region_any hm ?_
 rw[hf]
 exact W8 hnd _ _ _ _ _ _ _ _ (S.kp ⟨rfl,rfl,rfl,Nat.le_refl _⟩ fun _ _=>rfl) (HF _) (h ⟨Hp.le_refl _,N,rfl⟩ a ha)
theorem EE(hr:Region.ready .any (rg c) l=[])(h:∀w,SH w M X H->InF.NM P n C s L w):WA P n C0 c (sk P C s) X f l L Mb Hb M H:=
 Go.Proofs.YtcohmplpgcddiaaGreatDoor.EE hr fun w S a ha=>h w S a ha
end
end InF
theorem tN{P:Program}{n:Nat}{C:Ctx}{c:Code}{s:List K}{X:Fr}{f:Nat}{l:Array Bool}{L:List (Nat×Value)}{M Mb:Hp}{H Hb:List Rs}(t:Nat){v:Value}(v':Value)(hl:lk L t=some v)(e:v=v')(h:WA P n C c s X f l ((t,v')::L) Mb Hb M H):WA P n C c s X f l L Mb Hb M H:=by
 subst e
 exact fun hg a ha=>h hg a ⟨ha.sz,ha.df,fun u x hx=>by
  rw[wE]at hx
  split at hx
  ·rename_i e;subst e;injection hx with hx;subst hx;exact ha.at_ _ _ hl
  ·exact ha.at_ _ _ hx⟩
end Go.Proofs.YtcohmplpgcddiaaGreatDoor
