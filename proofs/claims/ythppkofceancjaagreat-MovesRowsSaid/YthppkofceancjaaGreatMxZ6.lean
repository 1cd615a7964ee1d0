/- Part 6 of the proof of the law MovesRows: the walks through its functions and the plain laws that they need. -/
import Derived.Test.YthppkofceancjaaGreatMxZ5
import Derived.Lib.AppendZeros
import Derived.OrdersIn
set_option linter.unusedSimpArgs false
set_option linter.unusedVariables false
noncomputable section
namespace Go.Proofs.YthppkofceancjaaGreat
open Go.ChangeShapes Go.WideShapes Go.ChangeAt Go.RowKit
section
variable (e1 e2 : Nat → Nat) (N : Nat)
def jL(cl:List Int)(k:Nat):Int:=max (ga cl (e1 k)) (ga cl (e2 k))
def kI(cl:List Int)(k:Nat):Int:=min (ga cl (e1 k)) (ga cl (e2 k))
def clsG:Nat->List Int
 |0=>iniW N N
 |k+1=>relN (clsG k) (jL e1 e2 (clsG k) k) (kI e1 e2 (clsG k) k) N
theorem wQ(k:Nat):(clsG e1 e2 N k).length=N:=by
 induction k with
 |zero=>exact rO _ _
 |succ k ih=>rw[clsG,z8,ih]
theorem rY(k x:Nat)(hx:x<N):ga (clsG e1 e2 N (k+1)) x=if ga (clsG e1 e2 N k) x=jL e1 e2 (clsG e1 e2 N k) k then kI e1 e2 (clsG e1 e2 N k) k else ga (clsG e1 e2 N k) x:=by
 rw[clsG,abC _ _ _ _ (by rw[wQ];exact Nat.le_refl _)]
 by_cases h9:ga (clsG e1 e2 N k) x=jL e1 e2 (clsG e1 e2 N k) k
 ·rw[if_pos ⟨hx,h9⟩,if_pos h9]
 ·rw[if_neg (fun h=>h9 h.2),if_neg h9]
theorem zW(y:Nat)(hy:y<N):ga (clsG e1 e2 N 0) y=(y:Int):=ED _ _ (Nat.le_refl _) y hy
theorem ajz(cl:List Int)(k:Nat):jL e1 e2 cl k=ga cl (e1 k)\/jL e1 e2 cl k=ga cl (e2 k):=by unfold jL;omega
theorem ab7(cl:List Int)(k:Nat):kI e1 e2 cl k=ga cl (e1 k)\/kI e1 e2 cl k=ga cl (e2 k):=by unfold kI;omega
variable {e1 e2 N}
theorem Au{K:Nat}(he:∀k,k<K->e1 k<N/\e2 k<N)(k:Nat)(hk:k<=K):uW N (clsG e1 e2 N k):=by
 induction k with
 |zero=>exact⟨rO _ _,fun x hx=>by
   rw[zW e1 e2 N x hx]
   refine⟨by omega,by omega,?_⟩
   rw[show((x:Int)).toNat=x by omega,zW e1 e2 N x hx]⟩
 |succ k ih=>
  have ih:=ih (by omega)
  obtain⟨b1,b2⟩:=he k (by omega)
  obtain⟨p1,_,p3⟩:=ih.2 _ b1
  obtain⟨q1,_,q3⟩:=ih.2 _ b2
  refine ain ih (wQ _ _ _ _) (fun x hx=>rY e1 e2 N k x hx) (by unfold jL kI;omega) (by unfold kI;omega) ?_
  rcases ab7 e1 e2 (clsG e1 e2 N k) k with e|e<;>rw[e]<;>assumption
theorem ag3{j x y:Nat}(hx:x<N)(hy:y<N)(e:ga (clsG e1 e2 N j) x=ga (clsG e1 e2 N j) y):ga (clsG e1 e2 N (j+1)) x=ga (clsG e1 e2 N (j+1)) y:=by
 rw[rY e1 e2 N j x hx,rY e1 e2 N j y hy,e]
theorem wJ{k:Nat}(b1:e1 k<N)(b2:e2 k<N)(j:Nat)(hj:k<j):ga (clsG e1 e2 N j) (e1 k)=ga (clsG e1 e2 N j) (e2 k):=by
 induction j with
 |zero=>omega
 |succ j ih=>
  by_cases e:k=j
  ·subst e
   rw[rY e1 e2 N k _ b1,rY e1 e2 N k _ b2]
   unfold jL kI
   split<;>split<;>omega
  ·exact ag3 b1 b2 (ih (by omega))
theorem Ag{K:Nat}(he:∀k,k<K->e1 k<N/\e2 k<N)(Z:Nat->Prop)(hZ:∀k,k<K->(Z (e1 k)<->Z (e2 k)))(j:Nat)(hj:j<=K):∀x y,x<N->y<N->ga (clsG e1 e2 N j) x=ga (clsG e1 e2 N j) y->(Z x<->Z y):=by
 induction j with
 |zero=>
  intro x y hx hy e
  rw[zW e1 e2 N x hx,zW e1 e2 N y hy]at e
  obtain rfl:x=y:=by omega
  exact Iff.rfl
 |succ j ih=>
  have ih:=ih (by omega)
  obtain⟨b1,b2⟩:=he j (by omega)
  have hz:=hZ j (by omega)
  have hf:∀x,x<N->ga (clsG e1 e2 N j) x=jL e1 e2 (clsG e1 e2 N j) j->(Z x<->Z (e1 j)):=fun x hx e=>by
   rcases ajz e1 e2 (clsG e1 e2 N j) j with h2|h2
   ·exact ih x _ hx b1 (e.trans h2)
   ·exact(ih x _ hx b2 (e.trans h2)).trans hz.symm
  have ht:∀x,x<N->ga (clsG e1 e2 N j) x=kI e1 e2 (clsG e1 e2 N j) j->(Z x<->Z (e1 j)):=fun x hx e=>by
   rcases ab7 e1 e2 (clsG e1 e2 N j) j with h2|h2
   ·exact ih x _ hx b1 (e.trans h2)
   ·exact(ih x _ hx b2 (e.trans h2)).trans hz.symm
  intro x y hx hy e
  rw[rY e1 e2 N j x hx,rY e1 e2 N j y hy]at e
  by_cases Dt:ga (clsG e1 e2 N j) x=jL e1 e2 (clsG e1 e2 N j) j
  ·rw[if_pos Dt]at e
   by_cases vT:ga (clsG e1 e2 N j) y=jL e1 e2 (clsG e1 e2 N j) j
   ·exact(hf x hx Dt).trans (hf y hy vT).symm
   ·rw[if_neg vT]at e
    exact(hf x hx Dt).trans (ht y hy e.symm).symm
  ·rw[if_neg Dt]at e
   by_cases vT:ga (clsG e1 e2 N j) y=jL e1 e2 (clsG e1 e2 N j) j
   ·rw[if_pos vT]at e
    exact(ht x hx e).trans (hf y hy vT).symm
   ·rw[if_neg vT]at e
    exact ih x y hx hy e
end
def sV(e1 e2:Nat->Nat)(N K:Nat):Nat->List Int
 |0=>iniW N N
 |j+1=>lG e1 e2 (sV e1 e2 N K j) K
theorem Aa(e1 e2:Nat->Nat)(N K j:Nat):(sV e1 e2 N K j).length=N:=by
 induction j with
 |zero=>exact rO _ _
 |succ j ih=>rw[sV,aar,ih]
theorem aic{e1 e2:Nat->Nat}{N K:Nat}(he:∀k,k<K->e1 k<N/\e2 k<N):sV e1 e2 N K N=clsG e1 e2 N K:=by
 have hok:=Au he K (Nat.le_refl _)
 have hl:=labels (N:=N) (K:=K) e1 e2 he (fun x=>(ga (clsG e1 e2 N K) x).toNat)
  (fun k hk=>congrArg Int.toNat (wJ (he k hk).1 (he k hk).2 _ hk))
  (fun Z hZ x y hx hy e hz=>(Ag he Z hZ _ (Nat.le_refl _) x y hx hy (by
   have hX:=hok.2 x hx
   have hY:=hok.2 y hy
   have e':(ga (clsG e1 e2 N K) x).toNat=(ga (clsG e1 e2 N K) y).toNat:=e
   omega)).1 hz)
  (sV e1 e2 N K) (Aa _ _ _ _ 0) (fun x hx=>ED _ _ (Nat.le_refl _) x hx) (fun j=>rfl)
 refine xu (by rw[Aa,wQ]) fun x hx=>?_
 rw[Aa]at hx
 obtain⟨z,z1,z2,z3,z4⟩:=hl x hx
 obtain⟨x1,x2,x3⟩:=hok.2 x hx
 obtain⟨w1,w2,w3⟩:=hok.2 z z1
 have a1:=z4 (ga (clsG e1 e2 N K) x).toNat (by omega) (by show(ga (clsG e1 e2 N K) (ga (clsG e1 e2 N K) x).toNat).toNat=_;rw[x3])
 replace z3:(ga (clsG e1 e2 N K) z).toNat=(ga (clsG e1 e2 N K) x).toNat:=z3
 rw[z2]
 omega
end Go.Proofs.YthppkofceancjaaGreat
namespace Go.Proofs.YthppkofceancjaaGreat
open Go.ChangeShapes Go.WideShapes Go.ChangeAt Go.RowKit
theorem agT(cl:List Int)(f:Int)(a:Nat)(ha:a<=cl.length):relN cl f f a=cl:=by
 refine xu (z8 _ _ _ _) fun x _=>?_
 rw[abC _ _ _ _ ha]
 split
 ·rename_i h;exact h.2.symm
 ·rfl
theorem aiH{N:Nat}{c1 c2:List Int}(h1:uW N c1)(h2:uW N c2)(h:∀x y,x<N->y<N->(ga c1 x=ga c1 y<->ga c2 x=ga c2 y)):c1=c2:=by
 refine xu (by rw[h1.1,h2.1]) fun x hx=>?_
 rw[h1.1]at hx
 obtain⟨p1,p2,p3⟩:=h1.2 x hx
 obtain⟨q1,q2,q3⟩:=h2.2 x hx
 have a1:=(h (ga c1 x).toNat x (by omega) hx).1 p3
 have a2:=(h (ga c2 x).toNat x (by omega) hx).2 q3
 obtain⟨_,b2,_⟩:=h2.2 (ga c1 x).toNat (by omega)
 obtain⟨_,d2,_⟩:=h1.2 (ga c2 x).toNat (by omega)
 omega
theorem ag2{e1 e2 f1 f2:Nat->Nat}{N K L:Nat}(he:∀k,k<K->e1 k<N/\e2 k<N)(hf:∀k,k<L->f1 k<N/\f2 k<N)
  (h12:∀k,k<K->e1 k=e2 k\/∃j,j<L/\((e1 k=f1 j/\e2 k=f2 j)\/(e1 k=f2 j/\e2 k=f1 j)))(h21:∀j,j<L->∃k,k<K/\((e1 k=f1 j/\e2 k=f2 j)\/(e1 k=f2 j/\e2 k=f1 j))):clsG e1 e2 N K=clsG f1 f2 N L:=by
 refine aiH (Au he K (Nat.le_refl _)) (Au hf L (Nat.le_refl _)) fun x y hx hy=>⟨fun h=>?_,fun h=>?_⟩
 ·exact(Ag he (fun z=>ga (clsG f1 f2 N L) x=ga (clsG f1 f2 N L) z) (fun k hk=>by
   rcases h12 k hk with e|⟨j,hj,⟨e1,e2⟩|⟨e1,e2⟩⟩
   ·rw[e]
   ·rw[e1,e2,wJ (hf j hj).1 (hf j hj).2 L hj]
   ·rw[e1,e2,wJ (hf j hj).1 (hf j hj).2 L hj]) K (Nat.le_refl _) x y hx hy h).1 rfl
 ·exact(Ag hf (fun z=>ga (clsG e1 e2 N K) x=ga (clsG e1 e2 N K) z) (fun j hj=>by
   obtain⟨k,hk,⟨a,b⟩|⟨a,b⟩⟩:=h21 j hj
   ·rw[<-a,<-b,wJ (he k hk).1 (he k hk).2 K hk]
   ·rw[<-a,<-b,wJ (he k hk).1 (he k hk).2 K hk]) L (Nat.le_refl _) x y hx hy h).1 rfl
def eP(d:Dg)(gn:Nat->Bool)(i:Nat):Nat:=if gn (i/2)=true then(if i%2=0 then(ga d.ae (i/2)).a.toNat else(iR (ga d.ae (i/2))).1.toNat)else 0
def eO(d:Dg)(gn:Nat->Bool)(i:Nat):Nat:=if gn (i/2)=true then(if i%2=0 then(ga d.ae (i/2)).c.toNat else(iR (ga d.ae (i/2))).2.toNat)else 0
def kJ(d:Dg)(gn:Nat->Bool)(i:Nat):List Int:=clsG (eP d gn) (eO d gn) (2*d.ae.length+1) i
def tC(d:Dg)(gn:Nat->Bool):List Int:=kJ d gn (2*d.ae.length)
theorem FA{d:Dg}(h:aX d=true){k:Nat}(hk:k<d.ae.length):(1<=(ga d.ae k).a/\(ga d.ae k).a<=2*(d.ae.length:Int))/\(1<=(ga d.ae k).b/\(ga d.ae k).b<=2*(d.ae.length:Int))/\(1<=(ga d.ae k).c/\(ga d.ae k).c<=2*(d.ae.length:Int))/\(1<=(ga d.ae k).d/\(ga d.ae k).d<=2*(d.ae.length:Int)):=
 ⟨kg h hk (k:=0) (by omega),kg h hk (k:=1) (by omega),kg h hk (k:=2) (by omega),kg h hk (k:=3) (by omega)⟩
theorem acX{d:Dg}(h:aX d=true){k:Nat}(hk:k<d.ae.length):1<=(iR (ga d.ae k)).1/\(iR (ga d.ae k)).1<=2*(d.ae.length:Int)/\1<=(iR (ga d.ae k)).2/\(iR (ga d.ae k)).2<=2*(d.ae.length:Int):=by
 obtain⟨_,hb,_,hd⟩:=FA h hk
 unfold iR
 split<;>dsimp only<;>omega
theorem qG{d:Dg}(h:aX d=true)(gn:Nat->Bool){i:Nat}(hi:i<2*d.ae.length):eP d gn i<2*d.ae.length+1/\eO d gn i<2*d.ae.length+1/\(gn (i/2)=true->1<=eP d gn i/\1<=eO d gn i)/\(gn (i/2)=false->eP d gn i=0/\eO d gn i=0):=by
 obtain⟨ha,hb,hc,hd⟩:=FA h (k:=i/2) (by omega)
 have hv:=acX h (k:=i/2) (by omega)
 unfold eP eO
 cases hg:gn (i/2)with
 |true=>
  rw[if_pos rfl,if_pos rfl]
  refine⟨by split<;>omega,by split<;>omega,fun _=>⟨by split<;>omega,by split<;>omega⟩,fun h=>by cases h⟩
 |false=>
  rw[if_neg Bool.false_ne_true,if_neg Bool.false_ne_true]
  exact⟨by omega,by omega,fun h=>(by cases h),fun _=>⟨rfl,rfl⟩⟩
theorem EB(d:Dg)(gn:Nat->Bool)(i:Nat):(kJ d gn i).length=2*d.ae.length+1:=wQ _ _ _ _
theorem wY{d:Dg}(h:aX d=true)(gn:Nat->Bool)(i:Nat)(hi:i<=2*d.ae.length):uW (2*d.ae.length+1) (kJ d gn i):=Au (K:=2*d.ae.length) (fun k hk=>⟨(qG h gn hk).1,(qG h gn hk).2.1⟩) i hi
theorem aa5{d:Dg}{gn:Nat->Bool}{c:Nat}(hg:gn c=false):kJ d gn (2*(c+1))=kJ d gn (2*c):=by
 have e:∀i,i/2=c->kJ d gn (i+1)=kJ d gn i:=fun i hi=>by
  have e1:eP d gn i=0:=by unfold eP;rw[hi,if_neg (by rw[hg];exact Bool.false_ne_true)]
  have e2:eO d gn i=0:=by unfold eO;rw[hi,if_neg (by rw[hg];exact Bool.false_ne_true)]
  unfold kJ
  rw[clsG]
  have e3:jL (eP d gn) (eO d gn) (clsG (eP d gn) (eO d gn) (2*d.ae.length+1) i) i=kI (eP d gn) (eO d gn) (clsG (eP d gn) (eO d gn) (2*d.ae.length+1) i) i:=by unfold jL kI;rw[e1,e2];omega
  rw[e3]
  exact agT _ _ _ (by rw[wQ];exact Nat.le_refl _)
 rw[show 2*(c+1)=2*c+1+1 by omega,e _ (by omega),e _ (by omega)]
def mh(d:Dg)(gs:List Nat)(i:Nat):Nat:=(bt d (ga gs (i/2)) (i%2)).toNat
def mf(d:Dg)(gs:List Nat)(i:Nat):Nat:=(bt d (ga gs (i/2)) (i%2+2)).toNat
def bD(gs:List Nat)(c:Nat):Bool:=gs.contains c
theorem Aq{gs:List Nat}{c:Nat}:bD gs c=true<->c∈gs:=by unfold bD;exact List.contains_iff_mem
theorem acv{d:Dg}(h:aX d=true){gs:List Nat}(hg:∀x∈gs,x<d.ae.length){i:Nat}(hi:i<2*gs.length):mh d gs i<2*d.ae.length+1/\mf d gs i<2*d.ae.length+1:=by
 have hm:=hg _ (gZ (xs:=gs) (i:=i/2) (by omega))
 have h1:=kg h hm (k:=i%2) (by omega)
 have h2:=kg h hm (k:=i%2+2) (by omega)
 unfold mh mf
 omega
theorem aa3{d:Dg}{gs:List Nat}{c i:Nat}(hi:i<2*gs.length)(hc:ga gs (i/2)=c)(hg:bD gs c=true):(eP d (bD gs) (2*c+i%2)=mh d gs i/\eO d (bD gs) (2*c+i%2)=mf d gs i)\/(eP d (bD gs) (2*c+i%2)=mf d gs i/\eO d (bD gs) (2*c+i%2)=mh d gs i):=by
 have e1:(2*c+i%2)/2=c:=by omega
 have e2:(2*c+i%2)%2=i%2:=by omega
 unfold eP eO mh mf
 rw[e1,e2,hg,hc,if_pos rfl,if_pos rfl]
 rcases Nat.mod_two_eq_zero_or_one i with h0|h0
 ·rw[h0,if_pos rfl,if_pos rfl];exact .inl ⟨rfl,rfl⟩
 ·rw[h0,if_neg (by decide),if_neg (by decide)]
  unfold iR
  split
  ·exact .inr ⟨rfl,rfl⟩
  ·exact .inl ⟨rfl,rfl⟩
theorem ai3{d:Dg}(h:aX d=true){gs:List Nat}(hg:∀x∈gs,x<d.ae.length):sV (mh d gs) (mf d gs) (2*d.ae.length+1) (2*gs.length) (2*d.ae.length+1)=tC d (bD gs):=by
 rw[aic fun k hk=>acv h hg hk]
 symm
 refine ag2 (fun k hk=>⟨(qG h _ hk).1,(qG h _ hk).2.1⟩) (fun k hk=>acv h hg hk) (fun k hk=>?_) (fun j hj=>?_)
 ·cases hq:bD gs (k/2)with
  |false=>left;unfold eP eO;rw[hq];rfl
  |true=>
   right
   obtain⟨j,hj,e⟩:=List.mem_iff_getElem.1 (Aq.1 hq)
   refine⟨2*j+k%2,by omega,?_⟩
   have:=aa3 (d:=d) (gs:=gs) (c:=k/2) (i:=2*j+k%2) (by omega) (by rw[show(2*j+k%2)/2=j by omega,fJ hj,e]) hq
   rwa [show 2*(k/2)+(2*j+k%2)%2=k by omega]at this
 ·have hm:=gZ (xs:=gs) (i:=j/2) (by omega)
  have hl:=hg _ hm
  exact⟨2*ga gs (j/2)+j%2,by omega,aa3 hj rfl (Aq.2 hm)⟩
def lf1(cl:List Int)(v:Cr):Nat->Int->Bool
 |0,_=>false
 |s+1,x=>lf1 cl v s x||decide (x=ga cl (cD v s).toNat)
def kM(cl:List Int)(l:List Cr)(x:Int):Bool:=l.any fun v=>lf1 cl v 4 x
def tRN(d:Dg)(gn:Nat->Bool):Nat->List Cr
 |0=>[]
 |c+1=>if gn c=true then tRN d gn c else tRN d gn c++[ga d.ae c]
def tR(d:Dg)(gn:Nat->Bool):List Cr:=tRN d gn d.ae.length
theorem abx(d:Dg)(gn:Nat->Bool)(c:Nat):(tRN d gn c).length<=c:=by
 induction c with
 |zero=>exact Nat.le_refl _
 |succ c ih=>
  rw[tRN]
  split
  ·omega
  ·rw[List.length_append,List.length_singleton];omega
theorem ah6{d:Dg}{gn:Nat->Bool}{c:Nat}{v:Cr}(h:v∈tRN d gn c):∃i,i<c/\v=ga d.ae i:=by
 induction c with
 |zero=>cases h
 |succ c ih=>
  rw[tRN]at h
  split at h
  ·obtain⟨i,h1,h2⟩:=ih h;exact⟨i,by omega,h2⟩
  ·rcases List.mem_append.1 h with h|h
   ·obtain⟨i,h1,h2⟩:=ih h;exact⟨i,by omega,h2⟩
   ·rw[List.mem_singleton]at h;exact⟨c,by omega,h⟩
theorem aj8{d:Dg}{gn:Nat->Bool}{c i:Nat}(h1:i<c)(h2:gn i=false):ga d.ae i∈tRN d gn c:=by
 induction c with
 |zero=>omega
 |succ c ih=>
  rw[tRN]
  by_cases e:i=c
  ·subst e;rw[if_neg (by rw[h2];exact Bool.false_ne_true)];exact List.mem_append_right _ (List.mem_singleton.2 rfl)
  ·split
   ·exact ih (by omega)
   ·exact List.mem_append_left _ (ih (by omega))
theorem nk{d:Dg}(h:aX d=true){gn:Nat->Bool}{c:Nat}(hc:c<=d.ae.length){v:Cr}(hv:v∈tRN d gn c){s:Nat}(hs:s<4):1<=cD v s/\cD v s<=2*(d.ae.length:Int):=by
 obtain⟨i,h1,rfl⟩:=ah6 hv
 exact kg h (by omega) hs
theorem abO{cl:List Int}{v:Cr}{s:Nat}{x:Int}:lf1 cl v s x=true<->∃t,t<s/\x=ga cl (cD v t).toNat:=by
 induction s with
 |zero=>exact⟨fun h=>(by cases h),fun⟨t,h,_⟩=>(by omega)⟩
 |succ s ih=>
  rw[lf1,Bool.or_eq_true,ih,decide_eq_true_iff]
  constructor
  ·rintro(⟨t,h1,h2⟩|h)
   ·exact⟨t,by omega,h2⟩
   ·exact⟨s,by omega,h⟩
  ·rintro⟨t,h1,h2⟩
   by_cases e:t=s
   ·subst e;exact .inr h2
   ·exact .inl ⟨t,by omega,h2⟩
theorem abN{cl:List Int}{l:List Cr}{x:Int}:kM cl l x=true<->∃v∈l,∃t,t<4/\x=ga cl (cD v t).toNat:=by
 unfold kM
 rw[List.any_eq_true]
 constructor
 ·rintro⟨v,h1,h2⟩;exact⟨v,h1,abO.1 h2⟩
 ·rintro⟨v,h1,h2⟩;exact⟨v,h1,abO.2 h2⟩
theorem Eo(cl:List Int)(l:List Cr)(v:Cr)(x:Int):kM cl (l++[v]) x=(kM cl l x||lf1 cl v 4 x):=by
 unfold kM;rw[List.any_append];simp
theorem ab8{d:Dg}(h:aX d=true)(gn:Nat->Bool){x:Nat}(h1:1<=x)(h2:x<2*d.ae.length+1):1<=ga (tC d gn) x:=by
 obtain⟨o1,o2,o3⟩:=(wY h gn (2*d.ae.length) (Nat.le_refl _)).2 x h2
 have hc:=Ag (K:=2*d.ae.length) (e1:=eP d gn) (e2:=eO d gn) (N:=2*d.ae.length+1) (fun k hk=>⟨(qG h gn hk).1,(qG h gn hk).2.1⟩) (fun y=>y=0) (fun k hk=>by
  obtain⟨_,_,g1,g2⟩:=qG h gn hk
  cases hq:gn (k/2)with
  |true=>have:=g1 hq;constructor<;>intro h9<;>omega
  |false=>have:=g2 hq;constructor<;>intro h9<;>omega) (2*d.ae.length) (Nat.le_refl _) x (ga (tC d gn) x).toNat h2 (by show(ga (kJ d gn _) x).toNat<_;omega) o3.symm
 have e:tC d gn=kJ d gn (2*d.ae.length):=rfl
 rw[e]at*
 rcases Nat.eq_zero_or_pos (ga (kJ d gn (2*d.ae.length)) x).toNat with h9|h9
 ·have:=hc.2 h9;omega
 ·omega
theorem ahj{d:Dg}(h:aX d=true){gn:Nat->Bool}{x:Nat}(hl:kM (tC d gn) (tR d gn) (x:Int)=true):1<=x/\x<2*d.ae.length+1/\ga (tC d gn) x=(x:Int):=by
 obtain⟨v,h1,t,h2,h3⟩:=abN.1 hl
 have ha:=nk h (Nat.le_refl _) h1 h2
 have hp:=ab8 h gn (x:=(cD v t).toNat) (by omega) (by omega)
 obtain⟨o1,o2,o3⟩:=(wY h gn (2*d.ae.length) (Nat.le_refl _)).2 (cD v t).toNat (by omega)
 have e:kJ d gn (2*d.ae.length)=tC d gn:=rfl
 rw[e]at o1 o2 o3
 rw[<-h3]at o3
 refine⟨by omega,by omega,?_⟩
 rwa [show((x:Int)).toNat=x by omega]at o3
theorem ah5{d:Dg}{gn:Nat->Bool}{v:Cr}(hv:v∈tR d gn){s:Nat}(hs:s<4):kM (tC d gn) (tR d gn) (ga (tC d gn) (cD v s).toNat)=true:=abN.2 ⟨v,hv,s,hs,rfl⟩
def dY(cl:List Int)(l:List Cr)(a:Nat):Bool:=decide (1<=a)&&(decide (ga cl a=(a:Int))&&kM cl l (a:Int))
def fD(cl:List Int)(l:List Cr)(a:Nat):Bool:=decide (1<=a)&&(decide (ga cl a=(a:Int))&&!kM cl l (a:Int))
def tV(cl:List Int)(l:List Cr)(y:Int):Int:=(cn (dY cl l) ((ga cl y.toNat).toNat+1):Int)
def OB(cl:List Int)(l:List Cr)(v:Cr):Cr:=⟨tV cl l v.a,tV cl l v.b,tV cl l v.c,tV cl l v.d,v.plus⟩
def jo(d:Dg)(gn:Nat->Bool):Dg:=⟨(tR d gn).map (OB (tC d gn) (tR d gn)),d.loops+cn (fD (tC d gn) (tR d gn)) (2*d.ae.length+1)⟩
theorem si{P:Nat->Bool}{a:Nat}(h:P a=true):cn P (a+1)=cn P a+1:=by rw[cn,if_pos h]
theorem qM{P:Nat->Bool}{a:Nat}(h:P a=false):cn P (a+1)=cn P a:=by rw[cn,if_neg (by rw[h];decide)];rfl
theorem acx{d:Dg}(h:aX d=true){gn:Nat->Bool}{nu:List Int}(jK:∀x,x<2*d.ae.length+1->dY (tC d gn) (tR d gn) x=true->ga nu x=(cn (dY (tC d gn) (tR d gn)) (x+1):Int)){v:Cr}(hv:v∈tR d gn){s:Nat}(hs:s<4):
  ga nu (ga (tC d gn) (cD v s).toNat).toNat=tV (tC d gn) (tR d gn) (cD v s):=by
 have ha:=nk h (Nat.le_refl _) hv hs
 have hp:=ab8 h gn (x:=(cD v s).toNat) (by omega) (by omega)
 have hl:=ah5 hv hs
 obtain⟨o1,o2,o3⟩:=(wY h gn (2*d.ae.length) (Nat.le_refl _)).2 (cD v s).toNat (by omega)
 have e:kJ d gn (2*d.ae.length)=tC d gn:=rfl
 rw[e]at o1 o2 o3
 have e2:(((ga (tC d gn) (cD v s).toNat).toNat:Nat):Int)=ga (tC d gn) (cD v s).toNat:=by omega
 rw[jK _ (by omega) (by unfold dY;rw[e2,o3,hl];simp;omega)]
 rfl
end Go.Proofs.YthppkofceancjaaGreat
namespace Go.Proofs.YthppkofceancjaaGreat
open Go.ChangeShapes Go.WideShapes Go.ChangeAt Go.RowKit
def acn(H:List Rs):Prop:=H.Pairwise fun r s=>∀b∈r.bl,b∉s.bl
theorem wh{H:List Rs}:acn H<->∀(i j:Nat) r s,i≠j->H[i]? =some r->H[j]? =some s->∀b∈r.bl,b∉s.bl:=by
 unfold acn
 rw[List.pairwise_iff_getElem]
 constructor
 ·intro h i j r s hij hi hj b hb hbs
  obtain⟨i1,e1⟩:=List.getElem?_eq_some_iff.1 hi
  obtain⟨j1,e2⟩:=List.getElem?_eq_some_iff.1 hj
  rcases Nat.lt_or_ge i j with h1|h1
  ·exact h i j i1 j1 h1 b (by rw[e1];exact hb) (by rw[e2];exact hbs)
  ·exact h j i j1 i1 (by omega) b (by rw[e2];exact hbs) (by rw[e1];exact hb)
 ·intro h i j hi hj hij
  exact h i j _ _ (by omega) (List.getElem?_eq_getElem hi) (List.getElem?_eq_getElem hj)
section
variable {w : World} {M : Hp} {X : Fr} {A B H H' : List Rs}
theorem SH.iD(S:SH w M X (A++B)):SH w M X (Rs.aW A::B):=by
 have hap:=wh.2 S.ap
 obtain⟨h1,h2,h3⟩:=List.pairwise_append.1 hap
 refine⟨S.m,S.x,S.mx,fun r hr=>?_,fun r hr b hb=>?_,wh.1 (List.pairwise_cons.2 ⟨fun s hs b hb=>?_,h2⟩),S.like⟩
 ·rcases List.mem_cons.1 hr with rfl|hr
  ·exact⟨fun r hr=>S.ok r (by simp[hr]),wh.1 h1⟩
  ·exact S.ok r (by simp[hr])
 ·rcases List.mem_cons.1 hr with rfl|hr
  ·obtain⟨q,hq,hb⟩:=List.mem_flatMap.1 hb
   exact S.bl q (by simp[hq]) b hb
  ·exact S.bl r (by simp[hr]) b hb
 ·obtain⟨q,hq,hb⟩:=List.mem_flatMap.1 hb
  exact h3 q hq s hs b hb
theorem SH.je(S:SH w M X (Rs.aW A::B)):SH w M X (A++B):=by
 obtain⟨hok,hap⟩:=S.ok (Rs.aW A) (by simp)
 obtain⟨h1,h2⟩:=List.pairwise_cons.1 (wh.2 S.ap)
 refine⟨S.m,S.x,S.mx,fun r hr=>?_,fun r hr b hb=>?_,wh.1 (List.pairwise_append.2 ⟨wh.2 hap,h2,fun r hr s hs b hb=>h1 s hs b (List.mem_flatMap.2 ⟨r,hr,hb⟩)⟩),S.like⟩
 ·rcases List.mem_append.1 hr with hr|hr
  ·exact hok r hr
  ·exact S.ok r (by simp[hr])
 ·rcases List.mem_append.1 hr with hr|hr
  ·exact S.bl (Rs.aW A) (by simp) b (List.mem_flatMap.2 ⟨r,hr,hb⟩)
  ·exact S.bl r (by simp[hr]) b hb
end
namespace InF
section
variable {P : Program} {n : Nat} {C : Ctx} {c : Code} {s : List K} {L : List (Nat × Value)} {w : World} {M : Hp} {X : Fr} {H : List Rs}
end
end InF
end Go.Proofs.YthppkofceancjaaGreat
namespace Go.Proofs.YthppkofceancjaaGreat
open Go.ChangeShapes Go.WideShapes Go.ChangeAt Go.RowKit
def okT(a:List Tm)(i:Nat):Prop:=(-1000<=(ga a i).e/\(ga a i).e<=1000)/\(-1000000<=(ga a i).c/\(ga a i).c<=1000000)/\(ga a i).c≠0/\(0<i->(ga a ((i:Int) -1).toNat).e<(ga a i).e)
instance (a:List Tm)(i:Nat):Decidable (okT a i):=by unfold okT;infer_instance
end Go.Proofs.YthppkofceancjaaGreat
namespace Go.Proofs.YthppkofceancjaaGreat
open Go.ChangeShapes Go.WideShapes Go.ChangeAt Go.RowKit
theorem yS.at_{es dn l1 l2:List (Int×Int)}{B:Nat}(h:yS es B){k v:Int}{lf:List (Int×Int)}(hp:(dn++lf).Perm es)(hl:lf=l1++(k,v)::l2):(-(B:Int)<=k/\k<=B)/\wr v=v:=h.2 (k,v) (hp.mem_iff.1 (by rw[hl];simp))
end Go.Proofs.YthppkofceancjaaGreat
namespace Go.Proofs.YthppkofceancjaaGreat
open Go.ChangeShapes Go.WideShapes Go.ChangeAt Go.RowKit
section
variable {α : Type} {C : Cd α} {N N' : Hp} {vs vs' : List eT} {xss yss : List (List α)}
def RdD(C:Cd α)(N:Hp)(yZ:List (List eT))(mm:List (List (List α))):Prop:=yZ.length=mm.length/\∀i,i<yZ.length->ez C N (ga yZ i) (ga mm i)
variable {yZ : List (List eT)} {mm : List (List (List α))}
theorem RdD.dW:RdD C N [] []:=⟨rfl,fun i hi=>by simp at hi⟩
end
section
variable {P : Program} {o : Oper} {L : List (Nat × Value)} {w : World} {x hx : Operand} {t tn T : TypeId} {n d : Nat} {Kt : List (Nat × Value) → World → Prop} {M : Hp} {X : Fr} {H : List Rs}
end
end Go.Proofs.YthppkofceancjaaGreat
namespace Go.Proofs.YthppkofceancjaaGreat
open Go.ChangeShapes Go.WideShapes Go.ChangeAt Go.RowKit
section
variable {P : Program} {o : Oper} {L : List (Nat × Value)} {w : World} {n d : Nat} {Kt : List (Nat × Value) → World → Prop} {M : Hp} {X : Fr} {H : List Rs} {i : Nat} {r : Rs}
theorem SH.less(S:SH w M X H)(hi:nth H i=some r):SH w M X (H.set i Rs.emp):=S.step hi rfl (gj.refl w) (fun _ _ _=>rfl) trivial (fun b hb=>by cases hb)
theorem ab5{f:FuncId}{vs cap:List Value}{ca:Call}{fo:Operand}{xs:List Operand}(hd:o.dst=some d)(hop:o.op=.call ca)(cm:ca.callee=.value fo)(hfo:oev L fo=some (.func (.func f) #[] cap.toArray))
  (hxs:ca.args=xs.toArray)(hvs:oevs L xs=some vs)(hn:Nat.blt d n=true)(hen:∀args w,(callFunc f args).run P w=.ok (.enter f args) w)(S:SH w M X H)(hi:nth H i=some r)
  {R:Value->Hp->Rs->Prop}(hcall:C1 P f (vs++cap) w M (XH w X (H.set i Rs.emp)) R)(h:∀v w' M' r',M.le M'->SH w' M' X (H.set i r')->R v M' r'->Kt ((d,v)::L) w'):WO P n o L w Kt:=by
 intro a ha next Q hk
 have hr:(execOp a.eval o).run P w=.ok (.enter f (vs++cap).toArray) w:=by
  unfold execOp
  simp only[hop,resolve,cm,ha.eval hfo,hxs,List.map_toArray,ha.kx hvs,Deferred.ofValue,Sem.run_bind,Sem.run_pure,Result.andThen_ok,invoke,Array.empty_append,List.append_toArray]
  exact hen _ _
 unfold Oper.wp
 rw[hr,Oper.upon_enter,hd]
 refine hcall.mono ?_
 rintro e w' ⟨v,rfl,M',r',h1,h2,h4⟩
 exact hk _ _ _ (ha.put (by simpa using hn) v) (h v w' M' r' h1 (S.Gc hi h2 rfl) h4)
end
end Go.Proofs.YthppkofceancjaaGreat
namespace Go.Proofs.YthppkofceancjaaGreat
open Go.ChangeShapes Go.WideShapes Go.ChangeAt Go.RowKit
section
variable {P : Program} {o : Oper} {L : List (Nat × Value)} {w w' : World} {x y : Operand} {T E : TypeId} {a : Int} {v : Value} {M : Hp} {X : Fr} {H N : List Rs} {i g : Nat} {l : List Value}
theorem rR{o:Oper}{bU:FuncId}{vs cap:List Value}{ca:Call}{fo:Operand}{xs:List Operand}{v:Value}(hop:o.op=.call ca)(cm:ca.callee=.value fo)(hfo:oev L fo=some (.func (.func bU) #[] cap.toArray))
  (hxs:ca.args=xs.toArray)(hvs:oevs L xs=some vs)(hen:∀args w,(callFunc bU args).run P w=.ok (.enter bU args) w)(S:SH w M X H)(hc:Cq P bU (vs++cap) w M (XH w X H) (fun u=>u=v)):
  Run P o L w v w\/∃bU vs,(∀n a,Env n L a->(execOp a.eval o).run P w=.ok (.enter bU vs) w)/\Calls P bU vs w fun e w3=>e=.returned v/\SH w3 M X H:=by
 refine .inr ⟨bU,(vs++cap).toArray,fun n a ha=>?_,hc.mono fun e w3 ⟨u,h1,h2,h3⟩=>⟨by rw[h1,h3],S.back h2⟩⟩
 unfold execOp
 simp only[hop,resolve,cm,ha.eval hfo,hxs,List.map_toArray,ha.kx hvs,Deferred.ofValue,Sem.run_bind,Sem.run_pure,Result.andThen_ok,invoke,Array.empty_append,List.append_toArray]
 exact hen _ _
theorem abI(N H:List Rs)(i:Nat):nth (N++H) (N.length+i)=nth H i:=by
 rw[dR,dR,List.getElem?_append_right (by omega)]
 congr 1
 omega
theorem SH.jE(S:SH w M X (N++H))(hi:nth H i=some (Rs.box g E l)):cM (M.un (XH w X (N++H)).h) g E l:=S.ad7 (i:=N.length+i) (by rw[abI];exact hi)
theorem agc{e:Nat}{p q r s:Value}{dd:TypeDesc}(hop:o.op=.index T x y)(hx:oev L x=some (.agg [p,q,r,s].toArray))(hy:oev L y=some (.int .i64 a))(hu:P.underlying T=some (.array 2 E))(hE:P.underlying E=some dd)(hf:pg dd=false)(hk:(P.info? E).map (·.size)=some 2)
  (ha:a=(e:Int))(he:e<2):Run P o L w (.agg [if e=0 then p else r,if e=0 then q else s].toArray) w:=by
 intro n c hc
 unfold execOp
 have h1:(0:Int)<=(e:Int)/\(e:Int)<((2:Nat):Int):=by omega
 simp only[hop,hc.eval hx,hc.eval hy,Instr.index,asIntOf,Sem.run_bind,Sem.run_pure,Result.andThen_ok,run_underlying hu,ha,h1,and_self,if_true,run_sizeOf hk,Int.toNat_natCast,part,wk hE,hf,Bool.not_false]
 have:e=0\/e=1:=by omega
 rcases this with rfl|rfl<;>rfl
theorem agr{κ ε:Type}[DecidableEq κ]{kc:κ->Value}{vc:ε->Value}{es:List (κ×ε)}{t K V:TypeId}{ca:Call}{xs:List Operand}{ts:List TypeId}(ho:o.op=.call ca)(cm:ca.callee=.builtin .len)(hxs:ca.args=xs.toArray)(hts:ca.argTypes=ts.toArray)(hx:oevs L xs=some [.map (some g)])(ht:nth ts 0=some t)(hu:P.underlying t=some (.map K V))(S:SH w M X H)(hi:nth H i=some (Rs.mp kc vc g es)):Run P o L w (.int .i64 (es.length:Int)) w:=by
 intro n c hc
 obtain⟨arr,clock,hg,ha,jV⟩:=(S.get hi:l8 kc vc g es (hp w))
 have hg':w.heap[g]? =some (.map arr clock):=hg
 have hgo:=MapKept.run_getObj_map (P:=P) hg'
 have hl:arr.size=es.length:=by have:=congrArg List.length ha;simpa using this
 rw[dR]at ht
 have ht':ts.toArray[0]? =some t:=by simpa using ht
 unfold execOp
 simp only[ho,resolve,cm,hxs,hts,List.map_toArray,hc.kx hx,invoke,builtin,Builtin.len_,Sem.run_bind,Sem.run_pure,Result.andThen_ok,ht',List.getElem?_toArray,List.getElem?_cons_zero,run_underlying hu,goInt,hgo,hl]
end
end Go.Proofs.YthppkofceancjaaGreat
namespace Go.Proofs.YthppkofceancjaaGreat
open Go.ChangeShapes Go.WideShapes Go.ChangeAt Go.RowKit
def px{α:Type}(p:α->Bool)(xs:List α):Int:=match xs.findIdx? p with
 |some i=>(i:Int)
 |none=>-1
section
variable {α : Type} [Inhabited α]
theorem Es{p:α->Bool}{xs:List α}{k:Nat}(hk:k<xs.length)(h:p (ga xs k)=true)(h0:∀j,j<k->p (ga xs j)=false):px p xs=k:=by
 have:xs.findIdx? p=some k:=by
  rw[List.findIdx?_eq_some_iff_getElem]
  refine⟨hk,by rw[<-fJ hk];exact h,fun j hj=>?_⟩
  rw[<-fJ (by omega),h0 j hj];simp
 simp[px,this]
theorem Eg{p:α->Bool}{xs:List α}(h0:∀j,j<xs.length->p (ga xs j)=false):px p xs=-1:=by
 have:xs.findIdx? p=none:=by
  rw[List.findIdx?_eq_none_iff]
  intro x hx
  obtain⟨j,hj,rfl⟩:=List.mem_iff_getElem.1 hx
  rw[<-fJ hj];exact h0 j hj
 simp[px,this]
end
theorem Et{α:Type}(p:α->Bool)(xs:List α):decide (0<=px p xs)=xs.any p:=by
 unfold px
 cases h:xs.findIdx? p with
 |some i=>
  rw[List.findIdx?_eq_some_iff_getElem]at h
  obtain⟨h1,h2,_⟩:=h
  rw[Bool.eq_iff_iff,decide_eq_true_iff,List.any_eq_true]
  exact⟨fun _=>⟨xs[i],List.getElem_mem h1,h2⟩,fun _=>by show(0:Int)<=(i:Int);omega⟩
 |none=>
  rw[List.findIdx?_eq_none_iff]at h
  rw[Bool.eq_iff_iff,decide_eq_true_iff,List.any_eq_true]
  constructor
  ·intro h1;exact absurd h1 (by decide)
  ·rintro⟨x,hx,hp⟩;rw[h x hx]at hp;cases hp
theorem aiv(gs:List Nat)(c:Nat):(gs.map fun x:Nat=>(x:Int)).any (fun y=>decide ((c:Int)=y))=bD gs c:=by
 rw[Bool.eq_iff_iff,List.any_eq_true,Aq]
 constructor
 ·rintro⟨y,hy,e⟩
  obtain⟨x,hx,rfl⟩:=List.mem_map.1 hy
  have:=of_decide_eq_true e
  obtain rfl:c=x:=by omega
  exact hx
 ·intro h
  exact⟨(c:Int),List.mem_map.2 ⟨c,h,rfl⟩,decide_eq_true rfl⟩
theorem ahk{d:Dg}(h:aX d=true){gn:Nat->Bool}{c:Nat}(hc:c<d.ae.length)(hg:gn c=true){j:Nat}(hj:j<2):Value.agg [if j=0 then Value.int .i64 (ga d.ae c).a else Value.int .i64 (iR (ga d.ae c)).1,if j=0 then Value.int .i64 (ga d.ae c).c else Value.int .i64 (iR (ga d.ae c)).2].toArray=Value.agg [.int .i64 ((eP d gn (2*c+j):Nat):Int),.int .i64 ((eO d gn (2*c+j):Nat):Int)].toArray:=by
 obtain⟨ha,_,hc',_⟩:=FA h hc
 have hv:=acX h hc
 have e1:(2*c+j)/2=c:=by omega
 have e2:(2*c+j)%2=j:=by omega
 unfold eP eO
 rw[e1,e2,hg,if_pos rfl,if_pos rfl]
 split
 ·rw[Int.toNat_of_nonneg (by omega),Int.toNat_of_nonneg (by omega)]
 ·rw[Int.toNat_of_nonneg (by omega),Int.toNat_of_nonneg (by omega)]
noncomputable def Vf:=Tryz.f149.body.getD .skip
def Zhb:=cL Vf
def Ve:=cR Vf
def Vd:=cL Ve
def Vc:=cR Ve
def Zhf:=cL Vd
def Zhg:=cR Vd
def Zhh:=cL Zhg
def Vb:=cL Zhh
def Zhj:=cL Vb
def Va:=cR Vb
def UZ:=cL Va
def UY:=cR Va
def Zhn:=cL UZ
def Zho:=cR UZ
def Zhp:=cL UY
def Zhq:=cR UY
def UX:=cL Zhp
def Zhs:=cL UX
def UW:=cR UX
def Zhu:=cL UW
def UU:=cR UW
def UT:=cL UU
def Zhx:=cR UU
def Zhy:=cL UT
def Zhz:=cR UT
def Zi0:=cL Vc
def Zi1:=cR Vc
set_option maxRecDepth 10000 in
theorem ah1{w:World}{M:Hp}{X:Fr}(s:List Int){sA:Option Addr}{sc:Nat}(v:Int)(hs:aF Uv (M.un X.h) sA sc s)(S:SH w M X []):Cq Tryz.prog 149 [.slice sA s.length sc,.int .i64 v] w M X (fun u=>u=.int .i64 (px (fun y=>decide (v=y)) s)):=by
 unfold Cq
 have sU:s.length*8<=140737488355328:=hs.room
 refine Up (b:=Vf) Tryz.func149 rfl Tryz.ntmps149 rfl (fun C hC=>(bq [(0,_),(1,_)] ⟨rfl,rfl,trivial⟩ (U2 Zhb Ve rfl rfl rfl (U0 rfl (ag 0 1 rfl rfl (U5 rfl (ah [0,1] rfl (U3 (U2 Vd Vc rfl rfl rfl ?_)))))))))
 refine U2 Zhf Zhg rfl rfl rfl (U0 rfl (ag 0 1 rfl rfl (af 1 rfl (cI rfl rfl rfl rfl rfl rfl dD) (ag 2 1 rfl rfl (U5 rfl (ah [0,1,7,8] rfl (U3 (Uc Zhh 0 rfl rfl rfl ?_))))))))
 refine Uz (fun aS au aM=>∃(i:Nat),aS=s.length-i/\Env 19 [(0,.slice sA s.length sc),(1,.int .i64 v),(7,.int .i64 (s.length:Int)),(8,.int .i64 (i:Int))] au/\SH aM M X []/\i<=s.length/\(∀j,j<i->decide (v=ga s j)=false)) rfl ?_ ?_
 ·intro au aq
  refine⟨_,⟨0,rfl,aq.sub ⟨rfl,rfl,rfl,rfl,trivial⟩,S.pick [] [] (by decide) trivial,?cd,?cT⟩⟩
  case cd=>omega
  case cT=>(intro j hj;omega)
 ·rintro m1 a1 w1 ⟨i,rfl,bh,S1,hi,hq⟩
  clear S
  refine b7 bh (c:=Vb) rfl ?_
  clear bh a1
  refine U2 Zhj Va rfl rfl rfl (U0 rfl (af 0 rfl (bV rfl rfl rfl) (U5 rfl (U3 (U2 UZ UY rfl rfl rfl ?_)))))
  refine Ue Zhn Zho rfl rfl rfl rfl (fun jb=>?_) (fun jb=>?_)
  ·refine Uf rfl (ah [0,1,7,8] rfl (U3 (U2 Zhp Zhq rfl rfl rfl (Uc UX 1 rfl rfl rfl (U2 Zhs UW rfl rfl rfl (U0 rfl (ag 0 2 rfl rfl (U5 rfl ?_))))))))
   refine ah [0,1,7,8,5] rfl (U3 (U2 Zhu UU rfl rfl rfl (U0 rfl (ag 0 3 rfl rfl (af 3 rfl (Uk (C:=Uv) i rfl rfl rfl bw (by first|rfl|omega) hs (by first|omega|(simp only[ls];omega))) ?_)))))
   refine af 4 rfl (U4 rfl rfl av rfl (hs.cell S1.um (i:=i) (by first|omega|(simp only[ls];omega)) 0 rfl rfl)) ?_
   refine af 5 rfl (bP rfl rfl rfl) (U5 rfl (ah [0,1,7,8,5,16] rfl (U3 ?_)))
   refine Ue UT Zhx rfl rfl rfl rfl (fun l6=>?_) (fun l6=>?_)
   ·refine U2 Zhy Zhz rfl rfl rfl (U0 rfl (ag 0 2 rfl rfl (U5 rfl (ah [4] rfl (U3 (Uj hC [_] rfl rfl ⟨rfl,trivial⟩ ?_))))))
    exact⟨_,rfl,(S1.pick [] [] (by decide) trivial),(by rw[Es (p:=fun y=>decide (v=y)) (k:=i) (by omega) (decide_eq_true l6) hq];rfl)⟩
   ·refine Uf rfl (bk (ah [0,1,7,8] rfl (U3 (U0 rfl (af 0 rfl (Ug rfl rfl rfl (by first|omega|(simp only[ls];omega))) ?_)))))
    refine ag 1 1 rfl rfl (U5 rfl (aP ?_))
    intro au aq
    refine⟨_,?dJ,⟨i+1,rfl,aq.sub ⟨rfl,rfl,rfl,rfl,trivial⟩,S1.pick [] [] (by decide) trivial,?cu,?cY⟩⟩
    case cu=>omega
    case cY=>(intro j hj;by_cases e:j=i;(subst e;exact decide_eq_false l6);exact hq j (by omega))
    case dJ=>omega
  ·refine bS rfl rfl (bL [] trivial (U3 (U2 Zi0 Zi1 rfl rfl rfl (U0 rfl (ag 0 1 rfl rfl (U5 rfl (U3 (Uj hC [_] rfl rfl ⟨rfl,trivial⟩ ?_))))))))
   exact⟨_,rfl,(S1.pick [] [] (by decide) trivial),(by rw[Eg (p:=fun y=>decide (v=y)) (fun j hj=>hq j (by omega))];rfl)⟩
noncomputable def UR:=Tryz.f136.body.getD .skip
def Zi3:=cL UR
def UQ:=cR UR
def Zi5:=cL UQ
def Zi6:=cR UQ
set_option maxRecDepth 10000 in
theorem agn{w:World}{M:Hp}{X:Fr}(s:List Int){sA:Option Addr}{sc:Nat}(v:Nat)(hs:aF Uv (M.un X.h) sA sc s){gs:List Nat}(ou:s=gs.map fun x:Nat=>(x:Int))(S:SH w M X []):Cq Tryz.prog 136 [.slice sA s.length sc,.int .i64 (v:Int)] w M X (fun u=>u=.bool (bD gs v)):=by
 unfold Cq
 have sU:s.length*8<=140737488355328:=hs.room
 refine Up (b:=UR) Tryz.func136 rfl Tryz.ntmps136 rfl (fun C hC=>(bq [(0,_),(1,_)] ⟨rfl,rfl,trivial⟩ (U2 Zi3 UQ rfl rfl rfl (U0 rfl (ag 0 1 rfl rfl (U5 rfl (ah [0,1] rfl (U3 (U2 Zi5 Zi6 rfl rfl rfl ?_)))))))))
 refine U0 rfl (ag 0 2 rfl rfl (ak 2 3 rfl rfl rfl (cC rfl rfl rfl rfl rfl rfl rfl alq S (ah1 s (v:Int) (hs.mono S.Uw) S.aD) ?_)))
 rintro _ w1 S1 rfl;clear S
 refine af 3 rfl (kf rfl rfl rfl) (ag 4 1 rfl rfl (U5 rfl (ah [4] rfl (U3 (Uj hC [_] rfl rfl ⟨rfl,trivial⟩ ?_)))))
 exact⟨_,rfl,(S1.pick [] [] (by decide) trivial),(by show Value.bool _=_;rw[Et,ou,aiv])⟩
noncomputable def UO:=Tryz.f165.body.getD .skip
def Zi8:=cL UO
def UN:=cR UO
def Zia:=cL UN
def Zib:=cR UN
set_option maxRecDepth 10000 in
theorem ag8{w:World}{M:Hp}{X:Fr}(x:Cr)(S:SH w M X []):Cq Tryz.prog 165 [.agg [.int .i64 x.a,.int .i64 x.b,.int .i64 x.c,.int .i64 x.d,.bool x.plus].toArray] w M X (fun u=>u=.agg [.int .i64 x.a,.int .i64 x.c,.int .i64 (iR x).1,.int .i64 (iR x).2].toArray):=by
 unfold Cq
 refine Up (b:=UO) Tryz.func165 rfl Tryz.ntmps165 rfl (fun C hC=>(bq [(0,_)] ⟨rfl,trivial⟩ (U2 Zi8 UN rfl rfl rfl (U0 rfl (ak 0 1 rfl rfl rfl (bA (l:=[_,_,_,_,_]) rfl rfl rfl rfl rfl S ?_))))))
 intro aI w1 S1;clear S
 refine ak 1 2 rfl rfl rfl (Uh (l:=[_,_,_,_]) rfl rfl rfl acp rfl S1 ?_)
 intro aQ w2 S2;clear S1
 refine U5 rfl (ah [1,2] rfl (U3 (U2 Zia Zib rfl rfl rfl (Ux rfl (by kernel_rfl) S2 6 rfl ?_))))
 clear S2
 refine aj 0 5 rfl (by kernel_rfl) (fun _ _ _ hz Sz=>.inl (U8 (us:=[_,_,_,_,_]) rfl rfl aT rfl bT (Sz.suf.ax (i:=1) rfl ⟨rfl,rfl,rfl,rfl,rfl,trivial⟩))) ?_
 refine aj 1 4 rfl (by kernel_rfl) (fun _ _ _ hz Sz=>Uq rfl rfl rfl rfl rfl alu Sz (aiX x Sz.aD)) ?_
 refine aj 2 3 rfl (by kernel_rfl) (fun _ _ _ hz Sz=>.inl (U8 (us:=[_,_,_,_,_]) rfl rfl aT rfl bT (Sz.suf.ax (i:=1) rfl ⟨rfl,rfl,rfl,rfl,rfl,trivial⟩))) ?_
 refine aj 3 2 rfl (by kernel_rfl) (fun _ _ _ hz Sz=>Uq rfl rfl rfl rfl rfl als Sz (aiY x Sz.aD)) ?_
 refine aj 4 1 rfl (by kernel_rfl) (fun _ _ _ hz Sz=>.inl (jf (l:=[_,_,_,_]) (pl:=[(0,2),(2,2)]) rfl rfl Fz acp fx rfl rfl rfl)) ?_
 refine Un (i:=5) 0 rfl (by kernel_rfl) rfl rfl (fun w9 S9=>?_)
 refine(U7 (i:=0) (us:=[_,_,_,_]) (l':=[_,_,_,_]) (H':=[_,_]) rfl rfl S9 rfl rfl rfl rfl acy rfl rfl rfl rfl ?_)
 intro jZ bF;clear S9
 refine aN.turn (by kernel_rfl) bF ?_;clear bF
 change WA _ _ _ _ _ _ _ _ _ _ _ _ [_,_]
 refine Uu (by kernel_rfl) (fun kH bQ=>?_)
 refine ah [2] rfl (U3 (Uj hC [_] rfl rfl ⟨⟨_,rfl,Um (us:=[_,_,_,_]) Fz rfl acy (bQ.ax (i:=0) rfl ⟨rfl,rfl,rfl,rfl,trivial⟩)⟩,trivial⟩ ?_))
 exact⟨_,rfl,(bQ.pick [] [] (by decide) trivial),rfl⟩
noncomputable def UM:=Tryz.f137.body.getD .skip
def Zid:=cL UM
def UL:=cR UM
def Zif:=cL UL
def Zig:=cR UL
set_option maxRecDepth 10000 in
theorem AJ{w:World}{M:Hp}{X:Fr}(y:Int)(nu:List Int){g0:Nat}{nA:Option Addr}{nc:Nat}(cl:List Int){g1:Nat}{lA:Option Addr}{lc:Nat}(Dx:cM (M.un X.h) g0 53 [.slice nA nu.length nc])(hn:aF Uv (M.un X.h) nA nc nu)(hbl:cM (M.un X.h) g1 53 [.slice lA cl.length lc])(hl:aF Uv (M.un X.h) lA lc cl)(hy:0<=y/\y.toNat<cl.length)(hz:0<=ga cl y.toNat/\(ga cl y.toNat).toNat<nu.length)(S:SH w M X []):Cq Tryz.prog 137 [.int .i64 y,.pointer (some ⟨g0,0,none⟩),.pointer (some ⟨g1,0,none⟩)] w M X (fun u=>u=.int .i64 (ga nu (ga cl y.toNat).toNat)):=by
 unfold Cq
 refine Up (b:=UM) Tryz.func137 rfl Tryz.ntmps137 rfl (fun C hC=>(bq [(0,_),(1,_),(2,_)] ⟨rfl,rfl,rfl,trivial⟩ (U2 Zid UL rfl rfl rfl (U0 rfl (ag 0 1 rfl rfl (U5 rfl (ah [0,1,2] rfl (U3 (U2 Zif Zig rfl rfl rfl ?_)))))))))
 refine Ux rfl (by kernel_rfl) S 8 rfl ?_
 clear S
 refine aj 0 7 rfl (by kernel_rfl) (fun _ _ _ hz Sz=>.inl (U4 rfl rfl dD rfl ((Dx.mono (Hp.Ua hz Sz.mx)).cell Sz.um rfl))) ?_
 refine aj 1 6 rfl (by kernel_rfl) (fun _ _ _ hz Sz=>.inl (U4 rfl rfl dD rfl ((hbl.mono (Hp.Ua hz Sz.mx)).cell Sz.um rfl))) ?_
 refine ai 2 5 rfl (by kernel_rfl) (fun _=>run_move rfl rfl) ?_
 refine aj 3 4 rfl (by kernel_rfl) (fun _ _ _ hz Sz=>.inl (Uk (C:=Uv) y.toNat rfl rfl rfl bw (by first|rfl|omega) (hl.mono (Hp.Ua hz Sz.mx)) (by first|omega|(simp only[ls];omega)))) ?_
 refine aj 4 3 rfl (by kernel_rfl) (fun _ _ _ hz Sz=>.inl (U4 rfl rfl av rfl ((hl.mono (Hp.Ua hz Sz.mx)).cell Sz.um (i:=y.toNat) (by first|omega|(simp only[ls];omega)) 0 rfl rfl))) ?_
 refine aj 5 2 rfl (by kernel_rfl) (fun _ _ _ hz Sz=>.inl (Uk (C:=Uv) ((ga cl y.toNat).toNat) rfl rfl rfl bw (by first|rfl|omega) (hn.mono (Hp.Ua hz Sz.mx)) (by first|omega|(simp only[ls];omega)))) ?_
 refine aj 6 1 rfl (by kernel_rfl) (fun _ _ _ hz Sz=>.inl (U4 rfl rfl av rfl ((hn.mono (Hp.Ua hz Sz.mx)).cell Sz.um (i:=(ga cl y.toNat).toNat) (by first|omega|(simp only[ls];omega)) 0 rfl rfl))) ?_
 refine ai 7 0 rfl (by kernel_rfl) (fun _=>run_assign rfl rfl) ?_
 refine Uu (by kernel_rfl) (fun w9 S9=>?_)
 refine ah [4] rfl (U3 (Uj hC [_] rfl rfl ⟨rfl,trivial⟩ ?_))
 exact⟨_,rfl,(S9.pick [] [] (by decide) trivial),rfl⟩
theorem seven{α:Type}[Inhabited α]{f:α->α}{xs c:List α}{i:Nat}{y:α}(h:c=(xs.take i).map f++xs.drop i)(hi:i<xs.length)(hy:y=f (ga xs i)):c.set i y=(xs.take (i+1)).map f++xs.drop (i+1):=by
 have hl:((xs.take i).map f).length=i:=by rw[List.length_map,List.length_take];omega
 rw[h,hy,List.set_append_right _ _ (by omega),hl,Nat.sub_self,Al xs i hi,List.map_append,List.append_assoc,List.drop_eq_getElem_cons hi,List.set_cons_zero]
 rfl
theorem ahq{α:Type}[Inhabited α]{f:α->α}{xs c:List α}{i:Nat}(h:c=(xs.take i).map f++xs.drop i)(hi:i<xs.length):ga c i=ga xs i:=by
 have hl:((xs.take i).map f).length=i:=by rw[List.length_map,List.length_take];omega
 rw[h,DT _ _ _ (by omega),hl,Nat.sub_self,List.drop_eq_getElem_cons hi,fJ (by simp;omega),fJ hi]
 rfl
theorem ahS(x:Int)(n:Nat):x+((n:Nat):Int)+1=x+((n+1:Nat):Int):=by omega
noncomputable def UK:=Tryz.f87.body.getD .skip
def Zii:=cL UK
def UJ:=cR UK
def Zik:=cL UJ
def UI:=cR UJ
def UH:=cL UI
def UG:=cR UI
def Zio:=cL UH
def Zip:=cR UH
def Ziq:=cL Zip
def UF:=cL Ziq
def Zis:=cL UF
def UE:=cR UF
def UD:=cL UE
def UC:=cR UE
def Ziw:=cL UD
def Zix:=cR UD
def Ziy:=cL UC
def Ziz:=cR UC
def UB:=cL Ziy
def Zj1:=cL UB
def Zj2:=cR UB
def Zj3:=cL UG
def UA:=cR UG
def Zj5:=cL UA
def T9:=cR UA
def T8:=cL T9
def T7:=cR T9
def Zj9:=cL T8
def Zja:=cR T8
def Zjb:=cL Zja
def T6:=cL Zjb
def Zjd:=cL T6
def T5:=cR T6
def T4:=cL T5
def T3:=cR T5
def Zjh:=cL T4
def Zji:=cR T4
def Zjj:=cL T3
def Zjk:=cR T3
def TY:=cL Zjj
def Zjm:=cL TY
def TX:=cR TY
def TW:=cL TX
def TV:=cR TX
def Zjq:=cL TW
def TU:=cR TW
def TT:=cL TU
def Zjt:=cR TU
def Zju:=cL TT
def Zjv:=cR TT
def Zjw:=cL TV
def Zjx:=cR TV
def Zjy:=cL Zjx
def TS:=cL Zjy
def Zk0:=cL TS
def TR:=cR TS
def TQ:=cL TR
def TP:=cR TR
def Zk4:=cL TQ
def Zk5:=cR TQ
def Zk6:=cL TP
def Zk7:=cR TP
def TN:=cL Zk6
def Zk9:=cL TN
def TM:=cR TN
def Zkb:=cL TM
def TL:=cR TM
def Zkd:=cL TL
def Zke:=cR TL
def Zkf:=cL Zke
def TK:=cL Zkf
def Zkh:=cL TK
def TJ:=cR TK
def TI:=cL TJ
def TH:=cR TJ
def Zkl:=cL TI
def Zkm:=cR TI
def Zkn:=cL TH
def Zko:=cR TH
def TG:=cL Zkn
def Zkq:=cL TG
def TF:=cR TG
def Zks:=cL TF
def TE:=cR TF
def Zku:=cL TE
def Zkv:=cR TE
def TD:=cL T7
def TC:=cR T7
def Zky:=cL TD
def Zkz:=cR TD
def Zl0:=cL Zkz
def TB:=cL Zl0
def Zl2:=cL TB
def TA:=cR TB
def Tz:=cL TA
def Ty:=cR TA
def Zl6:=cL Tz
def Zl7:=cR Tz
def Zl8:=cL Ty
def Zl9:=cR Ty
def Tx:=cL Zl8
def Zlb:=cL Tx
def Tw:=cR Tx
def Zld:=cL Tw
def Zle:=cR Tw
def Zlf:=cL Zle
def Tv:=cL Zlf
def Zlh:=cL Tv
def Tt:=cR Tv
def Tq:=cL Tt
def Tp:=cR Tt
def Zll:=cL Tq
def Zlm:=cR Tq
def Zln:=cL Tp
def Zlo:=cR Tp
def Tn:=cL Zln
def Zlq:=cL Tn
def Zlr:=cR Tn
def Zls:=cL TC
def Tk:=cR TC
def Zlu:=cL Tk
def Tj:=cR Tk
def Ti:=cL Tj
def Tg:=cR Tj
def Zly:=cL Ti
def Zlz:=cR Ti
def Zm0:=cL Zlz
def Tf:=cL Zm0
def Te:=cL Tf
def Td:=cR Tf
def Zm4:=cL Te
def Tc:=cR Te
def Zm6:=cL Tc
def Zm7:=cR Tc
def Zm8:=cL Td
def Zm9:=cR Td
def Zma:=cL Zm8
def Tb:=cL Zma
def Zmc:=cL Tb
def Ta:=cR Tb
def Zme:=cL Ta
def SZ:=cR Ta
def Zmg:=cL SZ
def SY:=cR SZ
def SX:=cL SY
def Zmj:=cR SY
def Zmk:=cL SX
def Zml:=cR SX
def Zmm:=cL Tg
def SV:=cR Tg
def SU:=cL SV
def SS:=cR SV
def Zmq:=cL SU
def Zmr:=cR SU
def Zms:=cL Zmr
def SR:=cL Zms
def Zmu:=cL SR
def SQ:=cR SR
def SP:=cL SQ
def SN:=cR SQ
def Zmy:=cL SP
def Zmz:=cR SP
def Zn0:=cL SN
def Zn1:=cR SN
def SM:=cL Zn0
def Zn3:=cL SM
def Zn4:=cR SM
def Zn5:=cL SS
def Zn6:=cR SS
set_option maxHeartbeats 4000000 in
set_option maxRecDepth 10000 in
theorem agE{w:World}{M:Hp}{X:Fr}(d:Dg){bH:Nat}{cA iA oA:Option Addr}{cc ic oc:Nat}(gone:List Int){iM:Option Addr}{iL:Nat}(br:cM (M.un X.h) bH 70 [.slice cA d.ae.length cc,.int .i64 d.loops,.slice iA (aw d false (4*d.ae.length)).length ic,.slice oA (aw d true (4*d.ae.length)).length oc])(hsc:aF aG (M.un X.h) cA cc d.ae)(hsi:aF bp (M.un X.h) iA ic (aw d false (4*d.ae.length)))(aK:aF bp (M.un X.h) oA oc (aw d true (4*d.ae.length)))(gS:aF Uv (M.un X.h) iM iL gone){gs:List Nat}(ou:gone=gs.map fun x:Nat=>(x:Int))(hn:d.ae.length<=16)(hab:aX d=true)(ads:0<=d.loops/\d.loops<=1000)(S:SH w M X []):Ct Tryz.prog 87 [.pointer (some ⟨bH,0,none⟩),.func (.func 165) #[] #[],.slice iM gone.length iL] w M X (fun u N=>∃A c,u=.agg [.slice A (jo d (bD gs)).ae.length c,.int .i64 (jo d (bD gs)).loops].toArray/\aF aG N A c (jo d (bD gs)).ae):=by
 unfold Ct
 have abB:gone.length*8<=140737488355328:=gS.room
 refine Up (b:=UK) Tryz.func87 rfl Tryz.ntmps87 rfl (fun C hC=>(bq [(0,_),(1,_),(2,_)] ⟨rfl,rfl,rfl,trivial⟩ (U2 Zii UJ rfl rfl rfl (U0 rfl (ak 0 1 rfl rfl rfl (Uh (l:=[_,_]) rfl rfl rfl fQ rfl S ?_))))))
 intro aI w1 S1;clear S
 refine U5 rfl (U3 (U2 Zik UI rfl rfl rfl (U0 rfl (ag 0 1 rfl rfl (ak 1 2 rfl rfl rfl (cC rfl rfl rfl rfl rfl rfl rfl qO S1 (qD d (br.mono S1.Uw) (hsc.mono S1.Uw) (hsi.mono S1.Uw) (aK.mono S1.Uw) (by omega) S1.aD) ?_))))))
 rintro _ w2 S2 rfl;clear S1
 refine af 2 rfl (Ug rfl rfl rfl (by first|omega|(simp only[ls];omega))) ?_
 refine ak 3 4 rfl rfl rfl (oU (C:=Uv) ((2*(d.ae.length:Int)).toNat+1) rfl rfl rfl rfl rfl bw (by first|rfl|omega) (by show _*8<=_;first|omega|(simp only[ls];omega)) S2 ?_)
 intro yY w3 S3;clear S2
 refine ak 4 5 rfl rfl rfl (Uh (l:=[_]) rfl rfl rfl ac1 rfl S3 ?_)
 intro aQ w4 S4;clear S3
 refine ak 5 6 rfl rfl rfl (U7 (i:=0) (us:=[_]) (l':=[_]) (H':=[_,_,_]) rfl rfl S4 rfl rfl rfl (S4.jx (i:=1) rfl) adg rfl (Uy (S4.one (i:=1) rfl) rfl) rfl rfl ?_)
 intro w5 S5;clear S4
 refine U5 rfl (ah [0,1,2,6,7] rfl (U3 (U2 UH UG rfl rfl rfl (U2 Zio Zip rfl rfl rfl (U0 rfl (af 0 rfl (U4 rfl rfl dD rfl (S5.ar (i:=0) rfl rfl)) (af 1 rfl (oJ (C:=Uv) (i:=1) rfl rfl rfl rfl rfl rfl bw S5 rfl) (b6 32 (.int .i64 ((2*d.ae.length+1:Nat):Int)) rfl (int_eq (by rw[List.length_replicate];omega)) ?_))))))))
 refine ag 2 1 rfl rfl (U5 rfl (ah [0,1,2,6,7,32,33] rfl (U3 (Uc Ziq 0 rfl rfl rfl ?_))))
 refine Uz (fun aS au aM=>∃(i:Nat) (ws:List Int) (nN:Value),aS=2*d.ae.length+1-i/\Env 198 [(0,.pointer (some ⟨bH,0,none⟩)),(1,.func (.func 165) #[] #[]),(2,.slice iM gone.length iL),(6,.pointer (some ⟨aI,0,none⟩)),(7,.pointer (some ⟨aQ,0,none⟩)),(32,.int .i64 ((2*d.ae.length+1:Nat):Int)),(33,.int .i64 (i:Int))] au/\SH aM M X [Rs.box aQ 53 [nN],Rs.row Uv nN ws,Rs.box aI 24 [.slice none 0 0,.int .i64 0]]/\i<=2*d.ae.length+1/\ws=iniW (2*d.ae.length+1) i) rfl ?_ ?_
 ·intro au aq
  refine⟨_,⟨0,_,_,rfl,aq.sub ⟨rfl,rfl,rfl,rfl,rfl,rfl,rfl,trivial⟩,S5.pick [0,1,2] [_,_,_] (by decide) ⟨rfl,rfl,rfl,trivial⟩,?cd,?cT⟩⟩
  case cd=>omega
  case cT=>rfl
 ·rintro m1 a1 w6 ⟨i,ws,nN,rfl,bh,S6,hi,hw⟩
  clear S5
  refine b7 bh (c:=UF) rfl ?_
  clear bh a1
  have Dm:ws.length=2*d.ae.length+1:=by rw[hw,rO]
  refine U2 Zis UE rfl rfl rfl (U0 rfl (af 0 rfl (bV rfl rfl rfl) (U5 rfl (U3 (U2 UD UC rfl rfl rfl ?_)))))
  refine Ue Ziw Zix rfl rfl rfl rfl (fun am8=>?_) (fun am8=>?_)
  ·refine Uf rfl (ah [0,1,2,6,7,32,33] rfl (U3 (U2 Ziy Ziz rfl rfl rfl (Uc UB 1 rfl rfl rfl (U2 Zj1 Zj2 rfl rfl rfl (U0 rfl (ag 0 2 rfl rfl (U5 rfl ?_))))))))
   refine ah [0,1,2,6,7,32,33,8] rfl (U3 (U0 rfl (af 0 rfl (U4 rfl rfl dD rfl (S6.ar (i:=0) rfl rfl)) (ag 1 2 rfl rfl (af 3 rfl (Ui (C:=Uv) (i:=1) i rfl rfl rfl bw S6 rfl (by first|rfl|omega) (by first|omega|(simp only[ls];omega))) ?_)))))
   refine ak 4 5 rfl rfl rfl (gy (C:=Uv) (i:=1) (e:=i) (j:=0) (us:=[_]) (H':=[_,_,_]) (i:Int) rfl rfl S6 rfl (by first|omega|(simp only[ls];omega)) rfl rfl rfl aY rfl rfl rfl rfl ?_)
   intro w7 S7;clear S6
   refine U5 rfl (bk (ah [0,1,2,6,7,32,33] rfl (U3 (U0 rfl (af 0 rfl (Ug rfl rfl rfl (by first|omega|(simp only[ls];omega))) ?_)))))
   refine ag 1 1 rfl rfl (U5 rfl (aP ?_))
   intro au aq
   refine⟨_,?dJ,⟨i+1,_,_,rfl,aq.sub ⟨rfl,rfl,rfl,rfl,rfl,rfl,rfl,trivial⟩,S7.pick [0,1,2] [_,_,_] (by decide) ⟨rfl,rfl,rfl,trivial⟩,?cu,?cY⟩⟩
   case cu=>omega
   case cY=>(rw[hw];rfl)
   case dJ=>omega
  ·refine bS rfl rfl (ah [0,1,2,6,7] rfl (U3 (U2 Zj3 UA rfl rfl rfl (U0 rfl (ak 0 1 rfl rfl rfl (wA Int Bool (Value.int .i64) Value.bool rfl rfl rfl S6 ?_))))))
   intro mS w8 S8;clear S6
   refine ag 1 1 rfl rfl (U5 rfl (ah [0,1,2,6,7,9] rfl (U3 (U2 Zj5 T9 rfl rfl rfl (U0 rfl (ag 0 1 rfl rfl (af 1 rfl (U9 rfl rfl) (af 2 rfl (U1 rfl rfl cU rfl (eF) (eB)) ?_))))))))
   refine af 3 rfl (U1 rfl rfl ay rfl (aB) (aA)) (af 4 rfl (U4 rfl rfl av rfl (br.cell S8.um rfl)) (af 5 rfl (run_build (l:=[_,_]) rfl rfl cJ rfl rfl) (ak 6 7 rfl rfl rfl (Uh (l:=[_,_]) rfl rfl rfl fQ rfl S8 ?_))))
   intro bE w9 S9;clear S8
   refine ak 7 8 rfl rfl rfl (U7 (i:=0) (us:=[_,_]) (l':=[_,_]) (H':=[_,_,_,_,_]) rfl rfl S9 rfl rfl rfl rfl az rfl rfl rfl rfl ?_)
   intro jZ bF;clear S9
   refine U5 rfl (ah [0,1,2,6,7,9,10] rfl (U3 (U2 T8 T7 rfl rfl rfl (U2 Zj9 Zja rfl rfl rfl (U0 rfl (ag 0 1 rfl rfl (af 1 rfl (U9 rfl rfl) (af 2 rfl (U1 rfl rfl cU rfl (eF) (eB)) ?_))))))))
   refine af 3 rfl (U1 rfl rfl ay rfl (bK) (bJ)) (af 4 rfl (U4 rfl rfl bG rfl (br.cell bF.um rfl)) (af 5 rfl (cI rfl rfl rfl rfl rfl rfl bG) (ag 6 1 rfl rfl (U5 rfl (ah [1,2,6,7,9,10,52,53,54] rfl (U3 (Uc Zjb 2 rfl rfl rfl ?_)))))))
   have bQ:=bF.np aG;clear bF
   refine Uz (fun aS au aM=>∃(c:Nat) (cl:List Int) (oc:List Cr) (pZ:Value) (eX:Value),aS=d.ae.length-c/\Env 198 [(1,.func (.func 165) #[] #[]),(2,.slice iM gone.length iL),(6,.pointer (some ⟨aI,0,none⟩)),(7,.pointer (some ⟨aQ,0,none⟩)),(9,.map (some mS)),(10,.pointer (some ⟨bE,0,none⟩)),(52,.slice cA d.ae.length cc),(53,.int .i64 (d.ae.length:Int)),(54,.int .i64 (c:Int))] au/\SH aM M X [Rs.row aG eX oc,Rs.box bE 24 [eX,.int .i64 d.loops],Rs.mp (Value.int .i64) Value.bool mS ([]),Rs.box aQ 53 [pZ],Rs.row Uv pZ cl,Rs.box aI 24 [.slice none 0 0,.int .i64 0]]/\c<=d.ae.length/\cl=kJ d (bD gs) (2*c)/\oc=tRN d (bD gs) c) rfl ?_ ?_
   ·intro au aq
    refine⟨_,⟨0,_,_,_,_,rfl,aq.sub ⟨rfl,rfl,rfl,rfl,rfl,rfl,rfl,rfl,rfl,trivial⟩,bQ.pick [0,1,2,3,4,5] [_,_,_,_,_,_] (by decide) ⟨rfl,rfl,rfl,rfl,rfl,rfl,trivial⟩,?dO,?gh,?ny⟩⟩
    case dO=>omega
    case gh=>(obtain rfl:i=2*d.ae.length+1:=(by omega);exact hw)
    case ny=>rfl
   ·rintro m3 a2 kH ⟨c,cl,oc,pZ,eX,rfl,cx,cw,hc,hcl,tY⟩
    clear bQ
    refine b7 cx (c:=T6) rfl ?_
    clear cx a2
    have hll:cl.length=2*d.ae.length+1:=by rw[hcl];exact EB _ _ _
    have hol:oc.length<=c:=by rw[tY];exact abx _ _ _
    refine U2 Zjd T5 rfl rfl rfl (U0 rfl (af 0 rfl (bV rfl rfl rfl) (U5 rfl (U3 (U2 T4 T3 rfl rfl rfl ?_)))))
    refine Ue Zjh Zji rfl rfl rfl rfl (fun am5=>?_) (fun am5=>?_)
    ·refine Uf rfl (ah [1,2,6,7,9,10,52,53,54] rfl (U3 (U2 Zjj Zjk rfl rfl rfl (Uc TY 3 rfl rfl rfl (U2 Zjm TX rfl rfl rfl (U0 rfl (ag 0 1 rfl rfl (af 1 rfl (Uk (C:=aG) c rfl rfl rfl b8 (by first|rfl|omega) hsc (by first|omega|(simp only[ls];omega))) ?_))))))))
     refine af 2 rfl (U8 (us:=[_,_,_,_,_]) rfl rfl aT rfl bT (hsc.fq cw.um (e:=c) (by first|omega|(simp only[ls];omega)) (j:=0) ⟨rfl,rfl,rfl,rfl,rfl,trivial⟩)) ?_
     refine ak 3 4 rfl rfl rfl (Uh (l:=[_,_,_,_,_]) rfl rfl rfl kz rfl cw ?_)
     intro gY mb bZ;clear cw
     refine ag 4 1 rfl rfl (ak 5 6 rfl rfl rfl (U7 (i:=0) (us:=[_,_,_,_,_]) (l':=[_,_,_,_,_]) (H':=[_,_,_,_,_,_,_]) rfl rfl bZ rfl rfl rfl rfl bT rfl rfl rfl rfl ?_))
     intro lB bN;clear bZ
     refine U5 rfl (ah [1,2,6,7,9,10,52,53,54,12,11] rfl (U3 (U2 TW TV rfl rfl rfl (U2 Zjq TU rfl rfl rfl (U0 rfl (ag 0 2 rfl rfl (ak 2 3 rfl rfl rfl (cC rfl rfl rfl rfl rfl rfl rfl alv bN (agn gone c (gS.mono bN.Uw) (ou) bN.aD) ?_))))))))
     rintro _ jY bX rfl;clear bN
     refine af 3 rfl (dE rfl rfl) (U5 rfl (ah [1,2,6,7,9,10,52,53,54,12,62] rfl (U3 ?_)))
     refine cS TT Zjt rfl rfl rfl rfl (fun jX=>?_) (fun jX=>?_)
     ·simp only[Bool.and_eq_true,Bool.or_eq_true,Bool.and_eq_false_iff,Bool.or_eq_false_iff,decide_eq_true_eq,decide_eq_false_iff_not,Bool.not_eq_true',Bool.not_eq_false']at jX
      refine U2 Zju Zjv rfl rfl rfl (U0 rfl (af 0 rfl (U1 rfl rfl ay rfl (bK) (bJ)) (af 1 rfl (U4 rfl rfl bG rfl (bX.ar (i:=2) rfl rfl)) (af 2 rfl (U8 (us:=[_,_,_,_,_]) rfl rfl aT rfl bT (bX.ax (i:=0) rfl ⟨rfl,rfl,rfl,rfl,rfl,trivial⟩)) (ak 3 4 rfl rfl rfl (iy (C:=aG) (l:=[_,_,_,_,_]) rfl rfl rfl rfl b8 rfl rfl rfl rfl bX ?_))))))
      intro iq ot bM;clear bX
      refine ak 4 5 rfl rfl rfl (jg (C:=aG) (i:=2) (q:=0) (⟨(ga d.ae c).a,(ga d.ae c).b,(ga d.ae c).c,(ga d.ae c).d,(ga d.ae c).plus⟩:Cr) rfl rfl rfl rfl rfl rfl rfl rfl b8 bM rfl rfl rfl (by show(_+1)*40<=_;first|omega|(simp only[ls];omega)) ?_)
      intro ac9 ma bI;clear bM
      have bY:=bI.pick [1,2,3,4,5,6,7] [_,_,_,_,_,_,_] (by decide) ⟨rfl,rfl,rfl,rfl,rfl,rfl,rfl,trivial⟩;clear bI
      refine af 5 rfl (U1 rfl rfl ay rfl (bK) (bJ)) (ak 6 7 rfl rfl rfl (U7 (i:=2) (us:=[_]) (l':=[_,_]) (H':=[_,_,_,_,_,_,_]) rfl rfl bY rfl rfl rfl (bY.jx (i:=1) rfl) kZ rfl (Uy (bY.one (i:=1) rfl) rfl) rfl rfl ?_))
      intro lv dC;clear bY
      refine U5 rfl (ah [1,2,6,7,9,10,52,53,54] rfl (U3 (bS rfl rfl (U3 (U0 rfl (af 0 rfl (Ug rfl rfl rfl (by first|omega|(simp only[ls];omega))) ?_))))))
      refine ag 1 1 rfl rfl (U5 rfl (aP ?_))
      intro au aq
      refine⟨_,?jG,⟨c+1,_,_,_,_,rfl,aq.sub ⟨rfl,rfl,rfl,rfl,rfl,rfl,rfl,rfl,rfl,trivial⟩,dC.pick [1,2,3,4,5,6] [_,_,_,_,_,_] (by decide) ⟨rfl,rfl,rfl,rfl,rfl,rfl,trivial⟩,?eU,?gQ,?o8⟩⟩
      case eU=>omega
      case gQ=>first|(rw[hcl,aa5 (by simpa using jX)])|(obtain rfl:j=2:=(by omega);exact Dv)
      case o8=>first|(rw[tRN,if_pos (by simpa using jX)];exact tY)|(rw[tRN,if_neg (by simpa using jX),tY])
      case jG=>omega
     ·simp only[Bool.and_eq_true,Bool.or_eq_true,Bool.and_eq_false_iff,Bool.or_eq_false_iff,decide_eq_true_eq,decide_eq_false_iff_not,Bool.not_eq_true',Bool.not_eq_false']at jX
      have hgc:bD gs c=true:=by simpa using jX
      refine Uf rfl (ah [1,2,6,7,9,10,52,53,54,12] rfl (U3 (U2 Zjw Zjx rfl rfl rfl (U0 rfl (ag 0 1 rfl rfl (af 1 rfl (U8 (us:=[_,_,_,_,_]) rfl rfl aT rfl bT (bX.ax (i:=0) rfl ⟨rfl,rfl,rfl,rfl,rfl,trivial⟩)) (ak 2 3 rfl rfl rfl (cC rfl rfl rfl rfl rfl rfl rfl aln bX (ag8 (ga d.ae c) bX.aD) ?_))))))))
      rintro _ rC dB rfl;clear bX
      refine ag 3 1 rfl rfl (U5 rfl (ah [1,2,6,7,9,10,52,53,54,71,72] rfl (U3 (Uc Zjy 4 rfl rfl rfl ?_))))
      refine Uz (fun aS au aM=>∃(j:Nat) (cj:List Int) (Ox:Value),aS=2-j/\Env 198 [(1,.func (.func 165) #[] #[]),(2,.slice iM gone.length iL),(6,.pointer (some ⟨aI,0,none⟩)),(7,.pointer (some ⟨aQ,0,none⟩)),(9,.map (some mS)),(10,.pointer (some ⟨bE,0,none⟩)),(52,.slice cA d.ae.length cc),(53,.int .i64 (d.ae.length:Int)),(54,.int .i64 (c:Int)),(71,.agg [.int .i64 ((ga d.ae c).a),.int .i64 ((ga d.ae c).c),.int .i64 ((iR (ga d.ae c)).1),.int .i64 ((iR (ga d.ae c)).2)].toArray),(72,.int .i64 (j:Int))] au/\SH aM M X [Rs.row aG eX oc,Rs.box bE 24 [eX,.int .i64 d.loops],Rs.mp (Value.int .i64) Value.bool mS ([]),Rs.box aQ 53 [Ox],Rs.row Uv Ox cj,Rs.box aI 24 [.slice none 0 0,.int .i64 0]]/\j<=2/\cj=kJ d (bD gs) (2*c+j)) rfl ?_ ?_
      ·intro au aq
       refine⟨_,⟨0,_,_,rfl,aq.sub ⟨rfl,rfl,rfl,rfl,rfl,rfl,rfl,rfl,rfl,rfl,rfl,trivial⟩,dB.pick [1,2,3,4,5,6] [_,_,_,_,_,_] (by decide) ⟨rfl,rfl,rfl,rfl,rfl,rfl,trivial⟩,?fB,?gP⟩⟩
       case fB=>omega
       case gP=>(rw[hcl];rfl)
      ·rintro m4 a3 oq ⟨j,cj,Ox,rfl,fU,dt,hj,Dv⟩
       clear dB
       refine b7 fU (c:=TS) rfl ?_
       clear fU a3
       have hlj:cj.length=2*d.ae.length+1:=by rw[Dv];exact EB _ _ _
       refine U2 Zk0 TR rfl rfl rfl (U0 rfl (af 0 rfl (bV rfl rfl rfl) (U5 rfl (U3 (U2 TQ TP rfl rfl rfl ?_)))))
       refine Ue Zk4 Zk5 rfl rfl rfl rfl (fun G1=>?_) (fun G1=>?_)
       ·refine Uf rfl (ah [1,2,6,7,9,10,52,53,54,71,72] rfl (U3 (U2 Zk6 Zk7 rfl rfl rfl (Uc TN 5 rfl rfl rfl (U2 Zk9 TM rfl rfl rfl (U0 rfl (af 0 rfl (agc (e:=j) rfl rfl rfl Fz eA rfl fx (by first|rfl|omega) (by first|omega|(simp only[ls];omega))) ?_)))))))
        refine b6 74 (.agg [.int .i64 ((eP d (bD gs) (2*c+j):Nat):Int),.int .i64 ((eO d (bD gs) (2*c+j):Nat):Int)].toArray) rfl (ahk hab (by omega) hgc (by omega)) ?_
        obtain⟨hb2,hb4,_⟩:=qG hab (bD gs) (i:=2*c+j) (by omega)
        refine ak 1 2 rfl rfl rfl (Uh (l:=[_,_]) rfl rfl rfl jS rfl dt ?_)
        intro rJ tS dz;clear dt
        refine ak 2 3 rfl rfl rfl (U7 (i:=0) (us:=[_,_]) (l':=[_,_]) (H':=[_,_,_,_,_,_,_]) rfl rfl dz rfl rfl rfl rfl fx rfl rfl rfl rfl ?_)
        intro tQ cW;clear dz
        refine U5 rfl (ah [1,2,6,7,9,10,52,53,54,71,72,14] rfl (U3 (U2 Zkb TL rfl rfl rfl (Ux rfl (by kernel_rfl) cW 24 rfl ?_))))
        clear cW
        refine aj 0 23 rfl (by kernel_rfl) (fun _ _ _ hz Sz=>.inl (U4 rfl rfl dD rfl (Sz.suf.ar (i:=4) rfl rfl))) ?_
        refine aj 1 22 rfl (by kernel_rfl) (fun _ _ _ hz Sz=>.inl (gJ (e:=0) (k:=1) rfl rfl rfl eA aY (by first|rfl|omega) (by first|omega|(simp only[ls];omega)))) ?_
        refine aj 2 21 rfl (by kernel_rfl) (fun _ _ _ hz Sz=>.inl (U4 rfl rfl av rfl (Sz.suf.ar (i:=0) rfl rfl))) ?_
        refine aj 3 20 rfl (by kernel_rfl) (fun _ _ _ hz Sz=>.inl (Ui (C:=Uv) (i:=5) (eP d (bD gs) (2*c+j)) rfl rfl rfl bw Sz.suf rfl (by first|rfl|omega) (by first|omega|(simp only[ls];omega)))) ?_
        refine aj 4 19 rfl (by kernel_rfl) (fun _ _ _ hz Sz=>.inl (U4 rfl rfl av rfl (Sz.suf.dv (i:=5) (e:=eP d (bD gs) (2*c+j)) (j:=0) rfl (by first|omega|(simp only[ls];omega)) rfl rfl))) ?_
        refine aj 5 18 rfl (by kernel_rfl) (fun _ _ _ hz Sz=>.inl (U4 rfl rfl dD rfl (Sz.suf.ar (i:=4) rfl rfl))) ?_
        refine aj 6 17 rfl (by kernel_rfl) (fun _ _ _ hz Sz=>.inl (gJ (e:=1) (k:=1) rfl rfl rfl eA aY (by first|rfl|omega) (by first|omega|(simp only[ls];omega)))) ?_
        refine aj 7 16 rfl (by kernel_rfl) (fun _ _ _ hz Sz=>.inl (U4 rfl rfl av rfl (Sz.suf.ar (i:=0) rfl rfl))) ?_
        refine aj 8 15 rfl (by kernel_rfl) (fun _ _ _ hz Sz=>.inl (Ui (C:=Uv) (i:=5) (eO d (bD gs) (2*c+j)) rfl rfl rfl bw Sz.suf rfl (by first|rfl|omega) (by first|omega|(simp only[ls];omega)))) ?_
        refine aj 9 14 rfl (by kernel_rfl) (fun _ _ _ hz Sz=>.inl (U4 rfl rfl av rfl (Sz.suf.dv (i:=5) (e:=eO d (bD gs) (2*c+j)) (j:=0) rfl (by first|omega|(simp only[ls];omega)) rfl rfl))) ?_
        refine aj 10 13 rfl (by kernel_rfl) (fun _ _ _ hz Sz=>.inl (aia rfl rfl rfl rfl rfl)) ?_
        refine aj 11 12 rfl (by kernel_rfl) (fun _ _ _ hz Sz=>.inl (U4 rfl rfl dD rfl (Sz.suf.ar (i:=4) rfl rfl))) ?_
        refine aj 12 11 rfl (by kernel_rfl) (fun _ _ _ hz Sz=>.inl (gJ (e:=0) (k:=1) rfl rfl rfl eA aY (by first|rfl|omega) (by first|omega|(simp only[ls];omega)))) ?_
        refine aj 13 10 rfl (by kernel_rfl) (fun _ _ _ hz Sz=>.inl (U4 rfl rfl av rfl (Sz.suf.ar (i:=0) rfl rfl))) ?_
        refine aj 14 9 rfl (by kernel_rfl) (fun _ _ _ hz Sz=>.inl (Ui (C:=Uv) (i:=5) (eP d (bD gs) (2*c+j)) rfl rfl rfl bw Sz.suf rfl (by first|rfl|omega) (by first|omega|(simp only[ls];omega)))) ?_
        refine aj 15 8 rfl (by kernel_rfl) (fun _ _ _ hz Sz=>.inl (U4 rfl rfl av rfl (Sz.suf.dv (i:=5) (e:=eP d (bD gs) (2*c+j)) (j:=0) rfl (by first|omega|(simp only[ls];omega)) rfl rfl))) ?_
        refine aj 16 7 rfl (by kernel_rfl) (fun _ _ _ hz Sz=>.inl (U4 rfl rfl dD rfl (Sz.suf.ar (i:=4) rfl rfl))) ?_
        refine aj 17 6 rfl (by kernel_rfl) (fun _ _ _ hz Sz=>.inl (gJ (e:=1) (k:=1) rfl rfl rfl eA aY (by first|rfl|omega) (by first|omega|(simp only[ls];omega)))) ?_
        refine aj 18 5 rfl (by kernel_rfl) (fun _ _ _ hz Sz=>.inl (U4 rfl rfl av rfl (Sz.suf.ar (i:=0) rfl rfl))) ?_
        refine aj 19 4 rfl (by kernel_rfl) (fun _ _ _ hz Sz=>.inl (Ui (C:=Uv) (i:=5) (eO d (bD gs) (2*c+j)) rfl rfl rfl bw Sz.suf rfl (by first|rfl|omega) (by first|omega|(simp only[ls];omega)))) ?_
        refine aj 20 3 rfl (by kernel_rfl) (fun _ _ _ hz Sz=>.inl (U4 rfl rfl av rfl (Sz.suf.dv (i:=5) (e:=eO d (bD gs) (2*c+j)) (j:=0) rfl (by first|omega|(simp only[ls];omega)) rfl rfl))) ?_
        refine aj 21 2 rfl (by kernel_rfl) (fun _ _ _ hz Sz=>.inl (ah9 rfl rfl rfl rfl rfl)) ?_
        refine ai 22 1 rfl (by kernel_rfl) (fun _=>run_assign rfl rfl) ?_
        refine ai 23 0 rfl (by kernel_rfl) (fun _=>run_assign rfl rfl) ?_
        refine Uu (by kernel_rfl) (fun Oj iJ=>?_)
        refine ah [1,2,6,7,9,10,52,53,54,71,72,15,16] rfl (U3 (U2 Zkd Zke rfl rfl rfl (jy 15 (.int .i64 (jL (eP d (bD gs)) (eO d (bD gs)) cj (2*c+j))) rfl (int_eq rfl) (jy 16 (.int .i64 (kI (eP d (bD gs)) (eO d (bD gs)) cj (2*c+j))) rfl (int_eq rfl) (U0 rfl (af 0 rfl (U4 rfl rfl dD rfl (iJ.ar (i:=4) rfl rfl)) (af 1 rfl (oJ (C:=Uv) (i:=5) rfl rfl rfl rfl rfl rfl bw iJ rfl) (b6 98 (.int .i64 ((2*d.ae.length+1:Nat):Int)) rfl (int_eq (by rw[hlj])) ?_))))))))
        refine ag 2 1 rfl rfl (U5 rfl (ah [1,2,6,7,9,10,52,53,54,71,72,15,16,98,99] rfl (U3 (Uc Zkf 6 rfl rfl rfl ?_))))
        refine Uz (fun aS au aM=>∃(a:Nat) (ui:List Int) (Gi:Value),aS=2*d.ae.length+1-a/\Env 198 [(1,.func (.func 165) #[] #[]),(2,.slice iM gone.length iL),(6,.pointer (some ⟨aI,0,none⟩)),(7,.pointer (some ⟨aQ,0,none⟩)),(9,.map (some mS)),(10,.pointer (some ⟨bE,0,none⟩)),(52,.slice cA d.ae.length cc),(53,.int .i64 (d.ae.length:Int)),(54,.int .i64 (c:Int)),(71,.agg [.int .i64 ((ga d.ae c).a),.int .i64 ((ga d.ae c).c),.int .i64 ((iR (ga d.ae c)).1),.int .i64 ((iR (ga d.ae c)).2)].toArray),(72,.int .i64 (j:Int)),(15,.int .i64 (jL (eP d (bD gs)) (eO d (bD gs)) cj (2*c+j))),(16,.int .i64 (kI (eP d (bD gs)) (eO d (bD gs)) cj (2*c+j))),(98,.int .i64 ((2*d.ae.length+1:Nat):Int)),(99,.int .i64 (a:Int))] au/\SH aM M X [Rs.row aG eX oc,Rs.box bE 24 [eX,.int .i64 d.loops],Rs.mp (Value.int .i64) Value.bool mS ([]),Rs.box aQ 53 [Gi],Rs.row Uv Gi ui,Rs.box aI 24 [.slice none 0 0,.int .i64 0]]/\a<=2*d.ae.length+1/\ui=relN cj (jL (eP d (bD gs)) (eO d (bD gs)) cj (2*c+j)) (kI (eP d (bD gs)) (eO d (bD gs)) cj (2*c+j)) a) rfl ?_ ?_
        ·intro au aq
         refine⟨_,⟨0,_,_,rfl,aq.sub ⟨rfl,rfl,rfl,rfl,rfl,rfl,rfl,rfl,rfl,rfl,rfl,rfl,rfl,rfl,rfl,trivial⟩,iJ.pick [1,2,3,4,5,6] [_,_,_,_,_,_] (by decide) ⟨rfl,rfl,rfl,rfl,rfl,rfl,trivial⟩,?iz,?jB⟩⟩
         case iz=>omega
         case jB=>rfl
        ·rintro m5 a4 Oi ⟨a,ui,Gi,rfl,lC,iI,ha,hc2⟩
         clear iJ
         refine b7 lC (c:=TK) rfl ?_
         clear lC a4
         have hl2:ui.length=2*d.ae.length+1:=by rw[hc2,z8,hlj]
         refine U2 Zkh TJ rfl rfl rfl (U0 rfl (af 0 rfl (bV rfl rfl rfl) (U5 rfl (U3 (U2 TI TH rfl rfl rfl ?_)))))
         refine Ue Zkl Zkm rfl rfl rfl rfl (fun akX=>?_) (fun akX=>?_)
         ·refine Uf rfl (ah [1,2,6,7,9,10,52,53,54,71,72,15,16,98,99] rfl (U3 (U2 Zkn Zko rfl rfl rfl (Uc TG 7 rfl rfl rfl (U2 Zkq TF rfl rfl rfl (U0 rfl (ag 0 2 rfl rfl (U5 rfl ?_))))))))
          refine ah [1,2,6,7,9,10,52,53,54,71,72,15,16,98,99,17] rfl (U3 (U2 Zks TE rfl rfl rfl (U0 rfl (af 0 rfl (U4 rfl rfl dD rfl (iI.ar (i:=3) rfl rfl)) (ag 1 1 rfl rfl (af 2 rfl (Ui (C:=Uv) (i:=4) a rfl rfl rfl bw iI rfl (by first|rfl|omega) (by first|omega|(simp only[ls];omega))) ?_))))))
          refine af 3 rfl (U4 rfl rfl av rfl (iI.dv (i:=4) (e:=a) (j:=0) rfl (by first|omega|(simp only[ls];omega)) rfl rfl)) ?_
          refine ag 4 1 rfl rfl (af 5 rfl (bP rfl rfl rfl) (U5 rfl (ah [1,2,6,7,9,10,52,53,54,71,72,15,16,98,99,17,107] rfl (U3 ?_))))
          refine Ue Zku Zkv rfl rfl rfl rfl (fun gT=>?_) (fun gT=>?_)
          ·refine U0 rfl (af 0 rfl (U4 rfl rfl dD rfl (iI.ar (i:=3) rfl rfl)) (ag 1 2 rfl rfl (af 3 rfl (Ui (C:=Uv) (i:=4) a rfl rfl rfl bw iI rfl (by first|rfl|omega) (by first|omega|(simp only[ls];omega))) ?_)))
           refine ak 4 5 rfl rfl rfl (gy (C:=Uv) (i:=4) (e:=a) (j:=0) (us:=[_]) (H':=[_,_,_,_,_,_]) (kI (eP d (bD gs)) (eO d (bD gs)) cj (2*c+j)) rfl rfl iI rfl (by first|omega|(simp only[ls];omega)) rfl rfl rfl aY rfl rfl rfl rfl ?_)
           intro Oh jP;clear iI
           refine U5 rfl (bk (ah [1,2,6,7,9,10,52,53,54,71,72,15,16,98,99] rfl (U3 (U0 rfl (af 0 rfl (Ug rfl rfl rfl (by first|omega|(simp only[ls];omega))) ?_)))))
           refine ag 1 1 rfl rfl (U5 rfl (aP ?_))
           intro au aq
           refine⟨_,?lY,⟨a+1,_,_,rfl,aq.sub ⟨rfl,rfl,rfl,rfl,rfl,rfl,rfl,rfl,rfl,rfl,rfl,rfl,rfl,rfl,rfl,trivial⟩,jP.pick [0,1,2,3,4,5] [_,_,_,_,_,_] (by decide) ⟨rfl,rfl,rfl,rfl,rfl,rfl,trivial⟩,?iX,?kr⟩⟩
           case iX=>omega
           case kr=>(rw[relN,<-hc2];first|rw[if_pos gT]|rw[if_neg gT])
           case lY=>omega
          ·refine Uf rfl (bk (ah [1,2,6,7,9,10,52,53,54,71,72,15,16,98,99] rfl (U3 (U0 rfl (af 0 rfl (Ug rfl rfl rfl (by first|omega|(simp only[ls];omega))) ?_)))))
           refine ag 1 1 rfl rfl (U5 rfl (aP ?_))
           intro au aq
           refine⟨_,?lX,⟨a+1,_,_,rfl,aq.sub ⟨rfl,rfl,rfl,rfl,rfl,rfl,rfl,rfl,rfl,rfl,rfl,rfl,rfl,rfl,rfl,trivial⟩,iI.pick [0,1,2,3,4,5] [_,_,_,_,_,_] (by decide) ⟨rfl,rfl,rfl,rfl,rfl,rfl,trivial⟩,?jA,?lR⟩⟩
           case jA=>omega
           case lR=>(rw[relN,<-hc2];first|rw[if_pos gT]|rw[if_neg gT])
           case lX=>omega
         ·refine bS rfl rfl (bk (ah [1,2,6,7,9,10,52,53,54,71,72] rfl (U3 (U0 rfl (af 0 rfl (Ug rfl rfl rfl (by first|omega|(simp only[ls];omega))) ?_)))))
          refine ag 1 1 rfl rfl (U5 rfl (aP ?_))
          intro au aq
          refine⟨_,?Gm,⟨j+1,_,_,rfl,aq.sub ⟨rfl,rfl,rfl,rfl,rfl,rfl,rfl,rfl,rfl,rfl,rfl,trivial⟩,iI.pick [0,1,2,3,4,5] [_,_,_,_,_,_] (by decide) ⟨rfl,rfl,rfl,rfl,rfl,rfl,trivial⟩,?sI,?xE⟩⟩
          case sI=>omega
          case xE=>(obtain rfl:a=2*d.ae.length+1:=(by omega);rw[hc2,Dv];rfl)
          case Gm=>omega
       ·refine bS rfl rfl (bk (ah [1,2,6,7,9,10,52,53,54] rfl (U3 (U0 rfl (af 0 rfl (Ug rfl rfl rfl (by first|omega|(simp only[ls];omega))) ?_)))))
        refine ag 1 1 rfl rfl (U5 rfl (aP ?_))
        intro au aq
        refine⟨_,?akH,⟨c+1,_,_,_,_,rfl,aq.sub ⟨rfl,rfl,rfl,rfl,rfl,rfl,rfl,rfl,rfl,trivial⟩,dt.pick [0,1,2,3,4,5] [_,_,_,_,_,_] (by decide) ⟨rfl,rfl,rfl,rfl,rfl,rfl,trivial⟩,?xm,?Fj,?Fi⟩⟩
        case xm=>omega
        case Fj=>first|(rw[hcl,aa5 (by simpa using jX)])|(obtain rfl:j=2:=(by omega);exact Dv)
        case Fi=>first|(rw[tRN,if_pos (by simpa using jX)];exact tY)|(rw[tRN,if_neg (by simpa using jX),tY])
        case akH=>omega
    ·refine bS rfl rfl (ah [6,7,9,10] rfl (U3 (U2 TD TC rfl rfl rfl (U2 Zky Zkz rfl rfl rfl ?_))))
     obtain rfl:c=d.ae.length:=by omega
     have lg:cl=tC d (bD gs):=hcl
     have mK:oc=tR d (bD gs):=tY
     refine U0 rfl (af 0 rfl (U1 rfl rfl ay rfl (bK) (bJ)) (af 1 rfl (U4 rfl rfl bG rfl (cw.ar (i:=1) rfl rfl)) (af 2 rfl (oJ (C:=aG) (i:=0) rfl rfl rfl rfl rfl rfl b8 cw rfl) (ag 3 1 rfl rfl (U5 rfl (ah [6,7,9,10,116,117,118] rfl (U3 (Uc Zl0 8 rfl rfl rfl ?_))))))))
     refine Uz (fun aS au aM=>∃(i4:Nat) (es:List (Int×Bool)),aS=oc.length-i4/\Env 198 [(6,.pointer (some ⟨aI,0,none⟩)),(7,.pointer (some ⟨aQ,0,none⟩)),(9,.map (some mS)),(10,.pointer (some ⟨bE,0,none⟩)),(116,eX),(117,.int .i64 (oc.length:Int)),(118,.int .i64 (i4:Int))] au/\SH aM M X [Rs.row aG eX oc,Rs.box bE 24 [eX,.int .i64 d.loops],Rs.mp (Value.int .i64) Value.bool mS es,Rs.box aQ 53 [pZ],Rs.row Uv pZ cl,Rs.box aI 24 [.slice none 0 0,.int .i64 0]]/\i4<=oc.length/\(∀x,(mg x es).getD false=kM cl (oc.take i4) x)) rfl ?_ ?_
     ·intro au aq
      refine⟨_,⟨0,[],rfl,aq.sub ⟨rfl,rfl,rfl,rfl,rfl,rfl,rfl,trivial⟩,cw.pick [0,1,2,3,4,5] [_,_,_,_,_,_] (by decide) ⟨rfl,rfl,rfl,rfl,rfl,rfl,trivial⟩,?xk,?Fh⟩⟩
      case xk=>omega
      case Fh=>(intro x;rfl)
     ·rintro m6 a5 Og ⟨i4,es,rfl,zu,jh,hi4,hes⟩
      clear cw
      refine b7 zu (c:=TB) rfl ?_
      clear zu a5
      have hrm:i4<oc.length->∀s,s<4->1<=cD (ga oc i4) s/\cD (ga oc i4) s<=2*(d.ae.length:Int):=fun h s hs=>nk hab (Nat.le_refl _) (v:=ga oc i4) (gn:=bD gs) (by rw[<-show oc=tRN d (bD gs) d.ae.length from tY];exact gZ h) hs
      refine U2 Zl2 TA rfl rfl rfl (U0 rfl (af 0 rfl (bV rfl rfl rfl) (U5 rfl (U3 (U2 Tz Ty rfl rfl rfl ?_)))))
      refine Ue Zl6 Zl7 rfl rfl rfl rfl (fun akV=>?_) (fun akV=>?_)
      ·refine Uf rfl (ah [6,7,9,10,116,117,118] rfl (U3 (U2 Zl8 Zl9 rfl rfl rfl (Uc Tx 9 rfl rfl rfl (U2 Zlb Tw rfl rfl rfl (U0 rfl (af 0 rfl (Ui (C:=aG) (i:=0) i4 rfl rfl rfl b8 jh rfl (by first|rfl|omega) (by first|omega|(simp only[ls];omega))) ?_)))))))
       refine af 1 rfl (U8 (us:=[_,_,_,_,_]) rfl rfl aT rfl bT (jh.AU (i:=0) (e:=i4) (j:=0) rfl (by first|omega|(simp only[ls];omega)) ⟨rfl,rfl,rfl,rfl,rfl,trivial⟩)) ?_
       refine ak 2 3 rfl rfl rfl (Uh (l:=[_,_,_,_,_]) rfl rfl rfl kz rfl jh ?_)
       intro rI Dd oQ;clear jh
       refine ak 3 4 rfl rfl rfl (U7 (i:=0) (us:=[_,_,_,_,_]) (l':=[_,_,_,_,_]) (H':=[_,_,_,_,_,_,_]) rfl rfl oQ rfl rfl rfl rfl bT rfl rfl rfl rfl ?_)
       intro w51 jO;clear oQ
       refine U5 rfl (ah [6,7,9,10,116,117,118,19] rfl (U3 (U2 Zld Zle rfl rfl rfl (U0 rfl (ag 0 1 rfl rfl (U5 rfl (U3 (Uc Zlf 10 rfl rfl rfl ?_))))))))
       refine Uz (fun aS au aM=>∃(s5:Nat) (Dy:List (Int×Bool)),aS=4-s5/\Env 198 [(6,.pointer (some ⟨aI,0,none⟩)),(7,.pointer (some ⟨aQ,0,none⟩)),(9,.map (some mS)),(10,.pointer (some ⟨bE,0,none⟩)),(116,eX),(117,.int .i64 (oc.length:Int)),(118,.int .i64 (i4:Int)),(19,.pointer (some ⟨rI,0,none⟩)),(122,.int .i64 (s5:Int))] au/\SH aM M X [Rs.box rI 77 [.int .i64 ((ga oc i4).a),.int .i64 ((ga oc i4).b),.int .i64 ((ga oc i4).c),.int .i64 ((ga oc i4).d),.bool ((ga oc i4).plus)],Rs.row aG eX oc,Rs.box bE 24 [eX,.int .i64 d.loops],Rs.mp (Value.int .i64) Value.bool mS Dy,Rs.box aQ 53 [pZ],Rs.row Uv pZ cl,Rs.box aI 24 [.slice none 0 0,.int .i64 0]]/\s5<=4/\(∀x,(mg x Dy).getD false=(kM cl (oc.take i4) x||lf1 cl (ga oc i4) s5 x))) rfl ?_ ?_
       ·intro au aq
        refine⟨_,⟨0,es,rfl,aq.sub ⟨rfl,rfl,rfl,rfl,rfl,rfl,rfl,rfl,rfl,trivial⟩,jO.pick [0,1,2,3,4,5,6] [_,_,_,_,_,_,_] (by decide) ⟨rfl,rfl,rfl,rfl,rfl,rfl,rfl,trivial⟩,?xj,?Fg⟩⟩
        case xj=>omega
        case Fg=>(intro x;rw[hes,lf1,Bool.or_false])
       ·rintro m7 a6 Oe ⟨s5,Dy,rfl,zt,qp,hs5,ady⟩
        clear jO
        refine b7 zt (c:=Tv) rfl ?_
        clear zt a6
        have p9:=fun h=>hrm (by omega) s5 h
        refine U2 Zlh Tt rfl rfl rfl (U0 rfl (af 0 rfl (bV rfl rfl rfl) (U5 rfl (U3 (U2 Tq Tp rfl rfl rfl ?_)))))
        refine Ue Zll Zlm rfl rfl rfl rfl (fun akU=>?_) (fun akU=>?_)
        ·refine Uf rfl (ah [6,7,9,10,116,117,118,19,122] rfl (U3 (U2 Zln Zlo rfl rfl rfl (Uc Tn 11 rfl rfl rfl (U2 Zlq Zlr rfl rfl rfl (U0 rfl (ag 0 2 rfl rfl (U5 rfl ?_))))))))
         refine ah [6,7,9,10,116,117,118,19,122,20] rfl (U3 ?_)
         have hrr:=p9 (by omega)
         refine Ux rfl (by kernel_rfl) qp 8 rfl ?_
         clear qp
         refine ai 0 7 rfl (by kernel_rfl) (fun _=>run_move rfl rfl) ?_
         refine aj 1 6 rfl (by kernel_rfl) (fun _ _ _ hz Sz=>.inl (U4 rfl rfl dD rfl (Sz.suf.ar (i:=4) rfl rfl))) ?_
         refine aj 2 5 rfl (by kernel_rfl) (fun _ _ _ hz Sz=>.inl (U8 (us:=[_,_,_,_,_]) rfl rfl aT rfl bT (Sz.suf.ax (i:=0) rfl ⟨rfl,rfl,rfl,rfl,rfl,trivial⟩))) ?_
         refine ai 3 4 rfl (by kernel_rfl) (fun _=>run_move rfl rfl) ?_
         refine aj 4 3 rfl (by kernel_rfl) (fun _ _ _ hz Sz=>Uq rfl rfl rfl rfl rfl Bf Sz (Bl (ga oc i4) s5 (by omega) Sz.aD)) ?_
         refine aj 5 2 rfl (by kernel_rfl) (fun _ _ _ hz Sz=>.inl (Ui (C:=Uv) (i:=5) ((cD (ga oc i4) s5).toNat) rfl rfl rfl bw Sz.suf rfl (by first|rfl|omega) (by first|omega|(simp only[ls];omega)))) ?_
         refine aj 6 1 rfl (by kernel_rfl) (fun _ _ _ hz Sz=>.inl (U4 rfl rfl av rfl (Sz.suf.dv (i:=5) (e:=(cD (ga oc i4) s5).toNat) (j:=0) rfl (by first|omega|(simp only[ls];omega)) rfl rfl))) ?_
         refine Un (i:=7) 0 rfl (by kernel_rfl) rfl rfl (fun Oa jN=>?_)
         refine(mY (kc:=Value.int .i64) (vc:=Value.bool) (es:=Dy) (k:=(ga cl ((cD (ga oc i4) s5).toNat))) (e:=true) (i:=3) (H':=[_,_,_,_,_,_,_]) (.inl rfl) rfl jN rfl rfl rfl rfl AP mQ rfl ?_)
         intro N9 S64;clear jN
         refine aN.turn (by kernel_rfl) S64 ?_;clear S64
         change WA _ _ _ _ _ _ _ _ _ _ _ _ [_,_,_,_,_,_,_]
         refine Uu (by kernel_rfl) (fun N8 S65=>?_)
         refine bk (ah [6,7,9,10,116,117,118,19,122] rfl (U3 (U0 rfl (af 0 rfl (Ug rfl rfl rfl (by first|omega|(simp only[ls];omega))) ?_))))
         refine ag 1 1 rfl rfl (U5 rfl (aP ?_))
         intro au aq
         refine⟨_,?FV,⟨s5+1,_,rfl,aq.sub ⟨rfl,rfl,rfl,rfl,rfl,rfl,rfl,rfl,rfl,trivial⟩,S65.pick [0,1,2,3,4,5,6] [_,_,_,_,_,_,_] (by decide) ⟨rfl,rfl,rfl,rfl,rfl,rfl,rfl,trivial⟩,?xh,?Ff⟩⟩
         case xh=>omega
         case Ff=>(intro x;rw[AW,lf1];by_cases h9:x=ga cl (cD (ga oc i4) s5).toNat;(rw[if_pos h9];simp[h9]);(rw[if_neg h9,ady];simp[h9]))
         case FV=>omega
        ·refine bS rfl rfl (bk (ah [6,7,9,10,116,117,118] rfl (U3 (U0 rfl (af 0 rfl (Ug rfl rfl rfl (by first|omega|(simp only[ls];omega))) ?_)))))
         refine ag 1 1 rfl rfl (U5 rfl (aP ?_))
         intro au aq
         refine⟨_,?akE,⟨i4+1,_,rfl,aq.sub ⟨rfl,rfl,rfl,rfl,rfl,rfl,rfl,trivial⟩,qp.pick [1,2,3,4,5,6] [_,_,_,_,_,_] (by decide) ⟨rfl,rfl,rfl,rfl,rfl,rfl,trivial⟩,?xg,?Fe⟩⟩
         case xg=>omega
         case Fe=>(intro x;rw[ady,Al oc i4 (by omega),Eo,show s5=4 by omega])
         case akE=>omega
      ·refine bS rfl rfl (ah [6,7,9,10] rfl (U3 (U2 Zls Tk rfl rfl rfl ?_)))
       obtain rfl:i4=oc.length:=by omega
       have hlf:∀x,(mg x es).getD false=kM cl oc x:=fun x=>by rw[hes x,List.take_length]
       have hok:∀x,x<2*d.ae.length+1->0<=ga cl x/\ga cl x<=x/\ga cl (ga cl x).toNat=ga cl x:=by rw[lg];exact(wY hab (bD gs) _ (Nat.le_refl _)).2
       refine U0 rfl (af 0 rfl (U4 rfl rfl dD rfl (jh.ar (i:=3) rfl rfl)) (af 1 rfl (oJ (C:=Uv) (i:=4) rfl rfl rfl rfl rfl rfl bw jh rfl) (ak 2 3 rfl rfl rfl (oU (C:=Uv) cl.length rfl rfl rfl rfl rfl bw (by first|rfl|omega) (by show _*8<=_;first|omega|(simp only[ls];omega)) jh ?_))))
       intro Oz w64 qo;clear jh
       refine ak 3 4 rfl rfl rfl (Uh (l:=[_]) rfl rfl rfl ac1 rfl qo ?_)
       intro vW w65 oO;clear qo
       refine ak 4 5 rfl rfl rfl (U7 (i:=0) (us:=[_]) (l':=[_]) (H':=[_,_,_,_,_,_,_,_]) rfl rfl oO rfl rfl rfl (oO.jx (i:=1) rfl) adg rfl (Uy (oO.one (i:=1) rfl) rfl) rfl rfl ?_)
       intro w66 ux;clear oO
       refine U5 rfl (ah [6,7,9,10,21] rfl (U3 (U2 Zlu Tj rfl rfl rfl (U0 rfl (ag 0 1 rfl rfl (U5 rfl (U3 (U2 Ti Tg rfl rfl rfl ?_))))))))
       refine U2 Zly Zlz rfl rfl rfl ?_
       have hz0:d.loops+(cn (fD cl oc) (0+1):Int)=d.loops:=by rw[show cn (fD cl oc) (0+1)=0 from rfl];omega
       rw[<-hz0]at ux
       refine U0 rfl (ag 0 1 rfl rfl (U5 rfl (U3 (Uc Zm0 12 rfl rfl rfl ?_))))
       refine Uz (fun aS au aM=>∃(a6:Nat) (nu:List Int) (pY:Value),aS=2*d.ae.length-a6/\Env 198 [(6,.pointer (some ⟨aI,0,none⟩)),(7,.pointer (some ⟨aQ,0,none⟩)),(9,.map (some mS)),(10,.pointer (some ⟨bE,0,none⟩)),(21,.pointer (some ⟨vW,0,none⟩)),(22,.int .i64 (cn (dY cl oc) (a6+1):Int)),(23,.int .i64 ((a6+1:Nat):Int))] au/\SH aM M X [Rs.box vW 53 [pY],Rs.row Uv pY nu,Rs.row aG eX oc,Rs.box bE 24 [eX,.int .i64 (d.loops+(cn (fD cl oc) (a6+1):Int))],Rs.mp (Value.int .i64) Value.bool mS es,Rs.box aQ 53 [pZ],Rs.row Uv pZ cl,Rs.box aI 24 [.slice none 0 0,.int .i64 0]]/\a6<=2*d.ae.length/\nu.length=2*d.ae.length+1/\(∀x,x<a6+1->dY cl oc x=true->ga nu x=(cn (dY cl oc) (x+1):Int))) rfl ?_ ?_
       ·intro au aq
        refine⟨_,⟨0,_,_,rfl,aq.sub ⟨rfl,rfl,rfl,rfl,rfl,rfl,rfl,trivial⟩,ux.pick [0,1,2,3,4,5,6,7] [_,_,_,_,_,_,_,_] (by decide) ⟨rfl,rfl,rfl,rfl,rfl,rfl,rfl,rfl,trivial⟩,?xe,?Fb,?Fa⟩⟩
        case xe=>omega
        case Fb=>(rw[List.length_replicate];omega)
        case Fa=>(intro x hx h9;obtain rfl:x=0:=(by omega);cases h9)
       ·rintro m8 a7 w67 ⟨a6,nu,pY,rfl,zr,eZ,ha6,hnl,jK⟩
        clear ux
        refine b7 zr (c:=Tf) rfl ?_
        clear zr a7
        have amY:=xN (dY cl oc) (a6+1)
        have amX:=xN (fD cl oc) (a6+1)
        have amE:=fun h=>hok (a6+1) h
        refine U2 Te Td rfl rfl rfl (U2 Zm4 Tc rfl rfl rfl (U0 rfl (ag 0 1 rfl rfl (af 1 rfl (U4 rfl rfl dD rfl (eZ.ar (i:=5) rfl rfl)) (af 2 rfl (oJ (C:=Uv) (i:=6) rfl rfl rfl rfl rfl rfl bw eZ rfl) (af 3 rfl (bV rfl rfl rfl) (U5 rfl (ah [6,7,9,10,21,22,23,140] rfl ?_))))))))
        refine U3 ?_
        refine Ue Zm6 Zm7 rfl rfl rfl rfl (fun akS=>?_) (fun akS=>?_)
        ·refine Uf rfl (ah [6,7,9,10,21,22,23] rfl (U3 (U2 Zm8 Zm9 rfl rfl rfl (Uc Zma 13 rfl rfl rfl (Uc Tb 14 rfl rfl rfl (U2 Zmc Ta rfl rfl rfl (U0 rfl (af 0 rfl (U4 rfl rfl dD rfl (eZ.ar (i:=5) rfl rfl)) ?_))))))))
         refine ag 1 1 rfl rfl (af 2 rfl (Ui (C:=Uv) (i:=6) (a6+1) rfl rfl rfl bw eZ rfl (by first|rfl|omega) (by first|omega|(simp only[ls];omega))) ?_)
         refine af 3 rfl (U4 rfl rfl av rfl (eZ.dv (i:=6) (e:=a6+1) (j:=0) rfl (by first|omega|(simp only[ls];omega)) rfl rfl)) ?_
         refine ag 4 1 rfl rfl (af 5 rfl (iT rfl rfl rfl) (ag 6 1 rfl rfl (U5 rfl (ah [6,7,9,10,21,22,23,147] rfl (U3 ?_)))))
         refine Ue Zme SZ rfl rfl rfl rfl (fun FX=>?_) (fun FX=>?_)
         ·have hrt:dY cl oc (a6+1)=false:=by unfold dY;rw[decide_eq_false (show¬ga cl (a6+1)=((a6+1:Nat):Int)from FX)];simp
          have hlo:fD cl oc (a6+1)=false:=by unfold fD;rw[decide_eq_false (show¬ga cl (a6+1)=((a6+1:Nat):Int)from FX)];simp
          refine Uf rfl (bk (bk (ah [6,7,9,10,21,22,23] rfl (U3 (jy 22 (.int .i64 (cn (dY cl oc) (a6+1+1):Int)) rfl (int_eq (by rw[qM hrt])) ?_)))))
          rw[<-qM hlo]at eZ
          refine U0 rfl (ag 0 1 rfl rfl (af 1 rfl (Ug rfl rfl rfl (by first|omega|(simp only[ls];omega))) ?_))
          refine ag 2 1 rfl rfl (U5 rfl (aP ?_))
          intro au aq
          refine⟨_,?FU,⟨a6+1,_,_,rfl,aq.sub ⟨rfl,rfl,rfl,rfl,rfl,rfl,rfl,trivial⟩,eZ.pick [0,1,2,3,4,5,6,7] [_,_,_,_,_,_,_,_] (by decide) ⟨rfl,rfl,rfl,rfl,rfl,rfl,rfl,rfl,trivial⟩,?wZ,?E9,?E8⟩⟩
          case wZ=>omega
          case E9=>first|assumption|simpa using hnl
          case E8=>first|(intro x hx h9;by_cases e:x=a6+1;(subst e;rw[dV _ _ _ _ (by omega),if_pos rfl]);(rw[dV _ _ _ _ (by omega),if_neg (fun h=>e h.symm)];exact jK x (by omega) h9))|(intro x hx h9;by_cases e:x=a6+1;(subst e;rw[hrt]at h9;cases h9);exact jK x (by omega) h9)
          case FU=>omega
         ·refine U2 Zmg SY rfl rfl rfl (U0 rfl (ag 0 2 rfl rfl (af 2 rfl (wz (kc:=Value.int .i64) (vc:=Value.bool) (es:=es) (k:=((a6+1:Nat):Int)) (zv:=false) (i:=4) rfl rfl rfl AP mQ NZ eZ rfl) (ag 3 1 rfl rfl (U5 rfl (ah [6,7,9,10,21,22,23,154] rfl (U3 ?_)))))))
          refine cS SX Zmj rfl rfl rfl rfl (fun xL=>?_) (fun xL=>?_)
          ·have hlx:=hlf ((a6+1:Nat):Int)
           have hrt:dY cl oc (a6+1)=true:=by unfold dY;rw[decide_eq_true (show ga cl (a6+1)=((a6+1:Nat):Int) by omega),<-hlx];simp;exact xL
           have hlo:fD cl oc (a6+1)=false:=by unfold fD;rw[<-hlx];simp;intro _;exact xL
           refine U2 Zmk Zml rfl rfl rfl (U0 rfl (ag 0 1 rfl rfl (af 1 rfl (Ug rfl rfl rfl (by first|omega|(simp only[ls];omega))) ?_)))
           refine ag 2 1 rfl rfl (U5 rfl (ah [6,7,9,10,21,22,23] rfl (U3 (jy 22 (.int .i64 (cn (dY cl oc) (a6+1+1):Int)) rfl (int_eq (by rw[si hrt];omega)) ?_))))
           refine U0 rfl (af 0 rfl (U4 rfl rfl dD rfl (eZ.ar (i:=0) rfl rfl)) (ag 1 2 rfl rfl (af 3 rfl (Ui (C:=Uv) (i:=1) (a6+1) rfl rfl rfl bw eZ rfl (by first|rfl|omega) (by first|omega|(simp only[ls];omega))) ?_)))
           refine ak 4 5 rfl rfl rfl (gy (C:=Uv) (i:=1) (e:=a6+1) (j:=0) (us:=[_]) (H':=[_,_,_,_,_,_,_,_]) (cn (dY cl oc) (a6+1+1):Int) rfl rfl eZ rfl (by first|omega|(simp only[ls];omega)) rfl rfl rfl aY rfl rfl rfl rfl ?_)
           intro w68 zK;clear eZ
           refine U5 rfl (bk (bk (ah [6,7,9,10,21,22,23] rfl (U3 ?_))))
           rw[<-qM hlo]at zK
           refine U0 rfl (ag 0 1 rfl rfl (af 1 rfl (Ug rfl rfl rfl (by first|omega|(simp only[ls];omega))) ?_))
           refine ag 2 1 rfl rfl (U5 rfl (aP ?_))
           intro au aq
           refine⟨_,?FT,⟨a6+1,_,_,rfl,aq.sub ⟨rfl,rfl,rfl,rfl,rfl,rfl,rfl,trivial⟩,zK.pick [0,1,2,3,4,5,6,7] [_,_,_,_,_,_,_,_] (by decide) ⟨rfl,rfl,rfl,rfl,rfl,rfl,rfl,rfl,trivial⟩,?E7,?E6,?E5⟩⟩
           case E7=>omega
           case E6=>first|assumption|simpa using hnl
           case E5=>first|(intro x hx h9;by_cases e:x=a6+1;(subst e;rw[dV _ _ _ _ (by omega),if_pos rfl]);(rw[dV _ _ _ _ (by omega),if_neg (fun h=>e h.symm)];exact jK x (by omega) h9))|(intro x hx h9;by_cases e:x=a6+1;(subst e;rw[hrt]at h9;cases h9);exact jK x (by omega) h9)
           case FT=>omega
          ·have hlx:=hlf ((a6+1:Nat):Int)
           have hrt:dY cl oc (a6+1)=false:=by unfold dY;rw[<-hlx];simp;intro _;exact xL
           have hlo:fD cl oc (a6+1)=true:=by unfold fD;rw[decide_eq_true (show ga cl (a6+1)=((a6+1:Nat):Int) by omega),<-hlx];simp;exact xL
           refine U0 rfl (af 0 rfl (U1 rfl rfl ay rfl (aB) (aA)) (af 1 rfl (U4 rfl rfl av rfl (eZ.ar (i:=3) rfl rfl)) (af 2 rfl (Ug rfl rfl rfl (by first|omega|(simp only[ls];omega))) ?_)))
           refine af 3 rfl (U1 rfl rfl ay rfl (aB) (aA)) (ak 4 5 rfl rfl rfl (U7 (i:=3) (us:=[_]) (l':=[_,_]) (H':=[_,_,_,_,_,_,_,_]) rfl rfl eZ rfl rfl rfl rfl aY rfl rfl rfl rfl ?_))
           intro N7 oN;clear eZ
           refine U5 rfl (bk (bk (ah [6,7,9,10,21,22,23] rfl (U3 (jy 22 (.int .i64 (cn (dY cl oc) (a6+1+1):Int)) rfl (int_eq (by rw[qM hrt])) ?_)))))
           rw[ahS,<-si hlo]at oN
           refine U0 rfl (ag 0 1 rfl rfl (af 1 rfl (Ug rfl rfl rfl (by first|omega|(simp only[ls];omega))) ?_))
           refine ag 2 1 rfl rfl (U5 rfl (aP ?_))
           intro au aq
           refine⟨_,?akC,⟨a6+1,_,_,rfl,aq.sub ⟨rfl,rfl,rfl,rfl,rfl,rfl,rfl,trivial⟩,oN.pick [0,1,2,3,4,5,6,7] [_,_,_,_,_,_,_,_] (by decide) ⟨rfl,rfl,rfl,rfl,rfl,rfl,rfl,rfl,trivial⟩,?E4,?E3,?ajo⟩⟩
           case E4=>omega
           case E3=>first|assumption|simpa using hnl
           case ajo=>first|(intro x hx h9;by_cases e:x=a6+1;(subst e;rw[dV _ _ _ _ (by omega),if_pos rfl]);(rw[dV _ _ _ _ (by omega),if_neg (fun h=>e h.symm)];exact jK x (by omega) h9))|(intro x hx h9;by_cases e:x=a6+1;(subst e;rw[hrt]at h9;cases h9);exact jK x (by omega) h9)
           case akC=>omega
        ·refine bS rfl rfl (ah [6,7,10,21] rfl (U3 (U2 Zmm SV rfl rfl rfl ?_)))
         obtain rfl:a6=2*d.ae.length:=by omega
         obtain⟨M33,uS,jw,⟨A1,c1,e1,hr1⟩⟩:=eZ.fZ (i:=1) (H':=[_,_,_,_,_,_,_,_]) rfl rfl (by show _*8<=_;first|omega|(simp only[ls];omega))
         clear eZ;subst e1
         replace br:=br.mono (Hp.Ua uS jw.mx)
         replace hsc:=hsc.mono (Hp.Ua uS jw.mx)
         replace hsi:=hsi.mono (Hp.Ua uS jw.mx)
         replace aK:=aK.mono (Hp.Ua uS jw.mx)
         replace gS:=gS.mono (Hp.Ua uS jw.mx)
         obtain⟨M34,sJ,kT,⟨A2,c2,e2,hr2⟩⟩:=jw.fZ (i:=6) (H':=[_,_,_,_,_,_,_,_]) rfl rfl (by show _*8<=_;first|omega|(simp only[ls];omega))
         clear jw;subst e2
         replace br:=br.mono (Hp.Ua sJ kT.mx)
         replace hsc:=hsc.mono (Hp.Ua sJ kT.mx)
         replace hsi:=hsi.mono (Hp.Ua sJ kT.mx)
         replace aK:=aK.mono (Hp.Ua sJ kT.mx)
         replace gS:=gS.mono (Hp.Ua sJ kT.mx)
         replace hr1:=hr1.mono sJ
         refine U0 rfl (af 0 rfl (uu (vs:=[_,_]) rfl rfl rfl rfl) (ag 1 1 rfl rfl (U5 rfl (ah [6,10,24] rfl (U3 (U2 SU SS rfl rfl rfl (U2 Zmq Zmr rfl rfl rfl (U0 rfl ?_))))))))
         refine af 0 rfl (U1 rfl rfl ay rfl (bK) (bJ)) (af 1 rfl (U4 rfl rfl bG rfl (kT.ar (i:=3) rfl rfl)) (af 2 rfl (oJ (C:=aG) (i:=2) rfl rfl rfl rfl rfl rfl b8 kT rfl) (ag 3 1 rfl rfl (U5 rfl (ah [6,10,24,166,167,168] rfl (U3 (Uc Zms 15 rfl rfl rfl ?_)))))))
         refine Uz (fun aS au aM=>∃(i7:Nat) (c7:List Cr) (Dh:Value),aS=oc.length-i7/\Env 198 [(6,.pointer (some ⟨aI,0,none⟩)),(10,.pointer (some ⟨bE,0,none⟩)),(24,.func (.func 137) #[] [.pointer (some ⟨vW,0,none⟩),.pointer (some ⟨aQ,0,none⟩)].toArray),(166,Dh),(167,.int .i64 (oc.length:Int)),(168,.int .i64 (i7:Int))] au/\SH aM M34 X [Rs.box vW 53 [.slice A1 nu.length c1],Rs.row aG Dh c7,Rs.box bE 24 [Dh,.int .i64 (d.loops+(cn (fD cl oc) (2*d.ae.length+1):Int))],Rs.box aQ 53 [.slice A2 cl.length c2],Rs.box aI 24 [.slice none 0 0,.int .i64 0]]/\i7<=oc.length/\c7=(oc.take i7).map (OB cl oc)++oc.drop i7) rfl ?_ ?_
         ·intro au aq
          refine⟨_,⟨0,_,_,rfl,aq.sub ⟨rfl,rfl,rfl,rfl,rfl,rfl,trivial⟩,kT.pick [0,2,3,5,7] [_,_,_,_,_] (by decide) ⟨rfl,rfl,rfl,rfl,rfl,trivial⟩,?E2,?EZ⟩⟩
          case E2=>omega
          case EZ=>simp
         ·rintro m9 a8 w70 ⟨i7,c7,Dh,rfl,zq,jv,hi7,Dw⟩
          clear kT
          refine b7 zq (c:=SR) rfl ?_
          clear zq a8
          have avW:c7.length=oc.length:=by rw[Dw];simp;omega
          refine U2 Zmu SQ rfl rfl rfl (U0 rfl (af 0 rfl (bV rfl rfl rfl) (U5 rfl (U3 (U2 SP SN rfl rfl rfl ?_)))))
          refine Ue Zmy Zmz rfl rfl rfl rfl (fun akR=>?_) (fun akR=>?_)
          ·have nz:ga oc i7∈tR d (bD gs):=by rw[<-mK];exact gZ (by omega)
           have hx7:=ahq Dw (by omega)
           have ajn:1<=(ga oc i7).a/\(ga oc i7).a<=2*(d.ae.length:Int):=nk hab (Nat.le_refl _) nz (s:=0) (by omega)
           obtain⟨amC,amy,_⟩:=hok (ga oc i7).a.toNat (by omega)
           have ajm:1<=(ga oc i7).b/\(ga oc i7).b<=2*(d.ae.length:Int):=nk hab (Nat.le_refl _) nz (s:=1) (by omega)
           obtain⟨amB,amx,_⟩:=hok (ga oc i7).b.toNat (by omega)
           have ajl:1<=(ga oc i7).c/\(ga oc i7).c<=2*(d.ae.length:Int):=nk hab (Nat.le_refl _) nz (s:=2) (by omega)
           obtain⟨amA,amw,_⟩:=hok (ga oc i7).c.toNat (by omega)
           have ajk:1<=(ga oc i7).d/\(ga oc i7).d<=2*(d.ae.length:Int):=nk hab (Nat.le_refl _) nz (s:=3) (by omega)
           obtain⟨amz,amv,_⟩:=hok (ga oc i7).d.toNat (by omega)
           have ml:∀s,s<4->ga nu (ga cl (cD (ga oc i7) s).toNat).toNat=tV cl oc (cD (ga oc i7) s):=fun s hs=>by
            have:=acx hab (nu:=nu) (by rw[<-lg,<-mK];exact jK) nz hs
            rw[<-lg,<-mK]at this
            exact this
           refine Uf rfl (ah [6,10,24,166,167,168] rfl (U3 (U2 Zn0 Zn1 rfl rfl rfl (Uc SM 16 rfl rfl rfl (U2 Zn3 Zn4 rfl rfl rfl (U0 rfl (ag 0 1 rfl rfl (af 1 rfl (Ui (C:=aG) (i:=1) i7 rfl rfl rfl b8 jv rfl (by first|rfl|omega) (by first|omega|(simp only[ls];omega))) ?_))))))))
           refine af 2 rfl (U8 (us:=[_,_,_,_,_]) rfl rfl aT rfl bT (jv.AU (i:=1) (e:=i7) (j:=0) rfl (by first|omega|(simp only[ls];omega)) ⟨rfl,rfl,rfl,rfl,rfl,trivial⟩)) ?_
           refine b6 172 (.agg [.int .i64 ((ga oc i7).a),.int .i64 ((ga oc i7).b),.int .i64 ((ga oc i7).c),.int .i64 ((ga oc i7).d),.bool ((ga oc i7).plus)].toArray) rfl (by rw[hx7]) ?_
           refine ak 3 4 rfl rfl rfl (Uh (l:=[_,_,_,_,_]) rfl rfl rfl kz rfl jv ?_)
           intro vV Db nV;clear jv
           refine ag 4 1 rfl rfl (ak 5 6 rfl rfl rfl (U7 (i:=0) (us:=[_,_,_,_,_]) (l':=[_,_,_,_,_]) (H':=[_,_,_,_,_,_]) rfl rfl nV rfl rfl rfl rfl bT rfl rfl rfl rfl ?_))
           intro C9 rV;clear nV
           refine U5 rfl (ah [6,10,24,166,167,168,26,25] rfl (U3 (Ux rfl (by kernel_rfl) rV 24 rfl ?_)))
           clear rV
           refine ai 0 23 rfl (by kernel_rfl) (fun _=>U1 rfl rfl ay rfl (bK) (bJ)) ?_
           refine aj 1 22 rfl (by kernel_rfl) (fun _ _ _ hz Sz=>.inl (U4 rfl rfl bG rfl (Sz.suf.ar (i:=3) rfl rfl))) ?_
           refine ai 2 21 rfl (by kernel_rfl) (fun _=>run_move rfl rfl) ?_
           refine ai 3 20 rfl (by kernel_rfl) (fun _=>run_move rfl rfl) ?_
           refine ai 4 19 rfl (by kernel_rfl) (fun _=>U1 rfl rfl aT rfl (aB) (aA)) ?_
           refine aj 5 18 rfl (by kernel_rfl) (fun _ _ _ hz Sz=>.inl (U4 rfl rfl av rfl (Sz.suf.ar (i:=0) rfl rfl))) ?_
           refine aj 6 17 rfl (by kernel_rfl) (fun _ _ _ hz Sz=>rR rfl rfl rfl rfl rfl Bb Sz (AJ ((ga oc i7).a) nu cl (SH.jE (i:=1) Sz rfl) ((hr1.mono hz).mono (Hp.bR _ _)) (SH.jE (i:=4) Sz rfl) ((hr2.mono hz).mono (Hp.bR _ _)) (by omega) (by omega) Sz.aD)) ?_
           refine ai 7 16 rfl (by kernel_rfl) (fun _=>run_move rfl rfl) ?_
           refine ai 8 15 rfl (by kernel_rfl) (fun _=>U1 rfl rfl aT rfl (aB) (aA)) ?_
           refine aj 9 14 rfl (by kernel_rfl) (fun _ _ _ hz Sz=>.inl (U4 rfl rfl av rfl (Sz.suf.ar (i:=0) rfl rfl))) ?_
           refine aj 10 13 rfl (by kernel_rfl) (fun _ _ _ hz Sz=>rR rfl rfl rfl rfl rfl Bb Sz (AJ ((ga oc i7).b) nu cl (SH.jE (i:=1) Sz rfl) ((hr1.mono hz).mono (Hp.bR _ _)) (SH.jE (i:=4) Sz rfl) ((hr2.mono hz).mono (Hp.bR _ _)) (by omega) (by omega) Sz.aD)) ?_
           refine ai 11 12 rfl (by kernel_rfl) (fun _=>run_move rfl rfl) ?_
           refine ai 12 11 rfl (by kernel_rfl) (fun _=>U1 rfl rfl aT rfl (aB) (aA)) ?_
           refine aj 13 10 rfl (by kernel_rfl) (fun _ _ _ hz Sz=>.inl (U4 rfl rfl av rfl (Sz.suf.ar (i:=0) rfl rfl))) ?_
           refine aj 14 9 rfl (by kernel_rfl) (fun _ _ _ hz Sz=>rR rfl rfl rfl rfl rfl Bb Sz (AJ ((ga oc i7).c) nu cl (SH.jE (i:=1) Sz rfl) ((hr1.mono hz).mono (Hp.bR _ _)) (SH.jE (i:=4) Sz rfl) ((hr2.mono hz).mono (Hp.bR _ _)) (by omega) (by omega) Sz.aD)) ?_
           refine ai 15 8 rfl (by kernel_rfl) (fun _=>run_move rfl rfl) ?_
           refine ai 16 7 rfl (by kernel_rfl) (fun _=>U1 rfl rfl aT rfl (aB) (aA)) ?_
           refine aj 17 6 rfl (by kernel_rfl) (fun _ _ _ hz Sz=>.inl (U4 rfl rfl av rfl (Sz.suf.ar (i:=0) rfl rfl))) ?_
           refine aj 18 5 rfl (by kernel_rfl) (fun _ _ _ hz Sz=>rR rfl rfl rfl rfl rfl Bb Sz (AJ ((ga oc i7).d) nu cl (SH.jE (i:=1) Sz rfl) ((hr1.mono hz).mono (Hp.bR _ _)) (SH.jE (i:=4) Sz rfl) ((hr2.mono hz).mono (Hp.bR _ _)) (by omega) (by omega) Sz.aD)) ?_
           refine ai 19 4 rfl (by kernel_rfl) (fun _=>U1 rfl rfl aT rfl (fI) (fH)) ?_
           refine aj 20 3 rfl (by kernel_rfl) (fun _ _ _ hz Sz=>.inl (U4 rfl rfl dh rfl (Sz.suf.ar (i:=0) rfl rfl))) ?_
           refine aj 21 2 rfl (by kernel_rfl) (fun _ _ _ hz Sz=>.inl (run_build (l:=[_,_,_,_,_]) rfl rfl lW rfl rfl)) ?_
           refine aj 22 1 rfl (by kernel_rfl) (fun _ _ _ hz Sz=>.inl (Ui (C:=aG) (i:=2) i7 rfl rfl rfl b8 Sz.suf rfl (by first|rfl|omega) (by first|omega|(simp only[ls];omega)))) ?_
           refine Un (i:=23) 0 rfl (by kernel_rfl) rfl rfl (fun w97 yR=>?_)
           refine(gy (C:=aG) (i:=2) (e:=i7) (j:=0) (us:=[_,_,_,_,_]) (H':=[_,_,_,_,_,_]) (⟨ga nu (ga cl ((ga oc i7).a).toNat).toNat,ga nu (ga cl ((ga oc i7).b).toNat).toNat,ga nu (ga cl ((ga oc i7).c).toNat).toNat,ga nu (ga cl ((ga oc i7).d).toNat).toNat,(ga oc i7).plus⟩:Cr) rfl rfl yR rfl (by first|omega|(simp only[ls];omega)) rfl rfl rfl bT rfl rfl rfl rfl ?_)
           intro w98 pS;clear yR
           refine aN.turn (by kernel_rfl) pS ?_;clear pS
           change WA _ _ _ _ _ _ _ _ _ _ _ _ [_,_,_,_,_,_]
           refine Uu (by kernel_rfl) (fun w99 tJ=>?_)
           refine bk (ah [6,10,24,166,167,168] rfl (U3 (U0 rfl (af 0 rfl (Ug rfl rfl rfl (by first|omega|(simp only[ls];omega))) ?_))))
           refine ag 1 1 rfl rfl (U5 rfl (aP ?_))
           intro au aq
           refine⟨_,?FQ,⟨i7+1,_,_,rfl,aq.sub ⟨rfl,rfl,rfl,rfl,rfl,rfl,trivial⟩,tJ.pick [1,2,3,4,5] [_,_,_,_,_] (by decide) ⟨rfl,rfl,rfl,rfl,rfl,trivial⟩,?EY,?EX⟩⟩
           case EY=>omega
           case EX=>(refine seven Dw (by omega) ?_;show(⟨ga nu (ga cl (cD (ga oc i7) 0).toNat).toNat,ga nu (ga cl (cD (ga oc i7) 1).toNat).toNat,ga nu (ga cl (cD (ga oc i7) 2).toNat).toNat,ga nu (ga cl (cD (ga oc i7) 3).toNat).toNat,(ga oc i7).plus⟩:Cr)=_;rw[ml 0 (by omega),ml 1 (by omega),ml 2 (by omega),ml 3 (by omega)];rfl)
           case FQ=>omega
          ·refine bS rfl rfl (ah [6,10] rfl (U3 (U2 Zn5 Zn6 rfl rfl rfl (U0 rfl (af 0 rfl (U8 (us:=[_,_]) rfl rfl ay rfl az (jv.ax (i:=2) rfl ⟨rfl,rfl,trivial⟩)) (ak 1 2 rfl rfl rfl (U7 (i:=4) (us:=[_,_]) (l':=[_,_]) (H':=[_,_,_,_,_]) rfl rfl jv rfl rfl rfl rfl az rfl (Uy (jv.one (i:=1) rfl) (Uy rfl rfl)) rfl rfl ?_)))))))
           intro ac8 yQ;clear jv
           refine U5 rfl (ah [6] rfl (U3 ?_))
           obtain⟨M59,qJ,mP,⟨A3,c3,e3,hr3⟩⟩:=yQ.fZ (i:=1) (H':=[_,_,_,_,_]) rfl rfl (by show _*40<=_;first|omega|(simp only[ls];omega))
           clear yQ;subst e3
           replace br:=br.mono (Hp.Ua qJ mP.mx)
           replace hsc:=hsc.mono (Hp.Ua qJ mP.mx)
           replace hsi:=hsi.mono (Hp.Ua qJ mP.mx)
           replace aK:=aK.mono (Hp.Ua qJ mP.mx)
           replace gS:=gS.mono (Hp.Ua qJ mP.mx)
           replace hr1:=hr1.mono qJ
           replace hr2:=hr2.mono qJ
           refine Uj hC [_] rfl rfl ⟨⟨_,rfl,Um (us:=[_,_]) ay rfl az (mP.ax (i:=4) rfl ⟨rfl,rfl,trivial⟩)⟩,trivial⟩ ?_
           refine⟨_,rfl,_,(uS.trans sJ).trans qJ,(mP.pick [] [] (by decide) trivial),?_⟩
           obtain rfl:i7=oc.length:=by omega
           have e9:(jo d (bD gs)).ae=c7:=by rw[Dw,List.take_length,List.drop_length,List.append_nil,lg,mK];rfl
           have e8:(jo d (bD gs)).loops=d.loops+(cn (fD cl oc) (2*d.ae.length+1):Int):=by rw[lg,mK];rfl
           rw[e9,e8]
           exact⟨_,_,rfl,hr3⟩
end Go.Proofs.YthppkofceancjaaGreat
namespace Go.Proofs.YthppkofceancjaaGreat
open Go.ChangeShapes Go.WideShapes Go.ChangeAt Go.RowKit
namespace InF
def C0:Go.Proofs.YthppkofceancjaaGreat.Ctx:=⟨default,fun _ _=>False⟩
section
variable {P : Program} {n : Nat} {C : InF.Ctx} {c : Code} {s : List K} {L : List (Nat × Value)} {w : World} {M Mb : Hp} {X : Fr} {H Hb : List Rs} {l : Array Bool} {f : Nat}
def sk(P:Program)(C:InF.Ctx)(s:List K):List K:=[.lp fun a w=>InF.post P C s .normal a w]
theorem aa6{ch:List PanicEntry}{a:Act}{w:World}(h:Go.Proofs.YthppkofceancjaaGreat.post P C0 (sk P C s) (.panic ch) a w):False:=h.2
theorem ab9(h:LetsOut (Go.Proofs.YthppkofceancjaaGreat.post P C0 (sk P C s))):False:=by
 obtain⟨a,w,h⟩:=h
 exact h
theorem ahA{o:Oper}{a:Act}{w:World}{next:Act->World->Prop}(hnd:∀c,o.op≠.defer c)(h:o.wp P a w next (Go.Proofs.YthppkofceancjaaGreat.post P C0 (sk P C s))):o.wpIn C.F 0 P a w next (InF.post P C s):=by
 refine⟨fun f _=>C.pV f,?_⟩
 rw[Oper.semAt_eq _ _ _ hnd]
 unfold Oper.wp at h
 generalize (execOp a.eval o).run P w=r at h
 cases r with
 |ok nx w'=>
  cases nx with
  |value v=>exact h
  |skip=>exact h
  |defer d=>exact h
  |enter f args=>
   refine⟨C.rK,AH C (Calls.mono h ?_)⟩
   rintro e w2 hh
   cases e with
   |returned v=>exact hh
   |panicked chain=>exact(aa6 hh).elim
   |outgrown=>exact(ab9 hh).elim
  |row row args=>exact⟨C.rK,FF C h⟩
  |_=>exact h.elim
 |halt x w'=>
  cases x with
  |panic v=>exact(aa6 h).elim
  |_=>exact h.elim
theorem ahe{ops:Array Oper}{j:Nat}{K:Act->World->Prop}{a:Act}{w:World}(hnd:ops.toList.all qT=true)(h:wpOp P ops (Go.Proofs.YthppkofceancjaaGreat.post P C0 (sk P C s)) j K a w):wpOpIn C.F 0 P ops (InF.post P C s) j K a w:=by
 unfold wpOp at h
 unfold wpOpIn
 cases ho:ops[j]? with
 |none=>simp only[ho]at h ⊢;exact h
 |some o=>
  simp only[ho]at h ⊢
  split
  ·rename_i hw
   simp only[hw,if_true]at h
   rcases h with h|⟨_,h⟩
   ·refine ahA (Ec ?_) h
    obtain⟨hj,e⟩:=Array.getElem?_eq_some_iff.1 ho
    exact List.all_eq_true.1 hnd o (by rw[<-e];exact Array.getElem_mem_toList hj)
   ·exact(ab9 h).elim
  ·rename_i hw
   simp only[hw]at h
   exact⟨fun f _=>C.pV f,h⟩
theorem acY{ops:Array Oper}{md:Region.Mode}(hnd:ops.toList.all qT=true):∀(f:Nat) (l:Array Bool) (a:Act) (Mb:Hp) (Hb:List Rs) (M:Hp) (H:List Rs) (w:World),SH w M X H->Down md ops l->fS P md ops (Go.Proofs.YthppkofceancjaaGreat.post P C0 (sk P C s)) X f l a Mb Hb M H->wpAnyIn C.F 0 P md ops (InF.post P C s) f l a w:=by
 intro f
 induction f with
 |zero=>intro l a Mb Hb M H w S _ h;exact h w S
 |succ f ih=>
  intro l a Mb Hb M H w S hd h
  obtain⟨h0,h1⟩:=h w S hd
  refine⟨h0,fun j hj=>wpOpIn_mono (fun a2 w2 hc=>?_) (ahe hnd (h1 j hj))⟩
  obtain⟨M2,H2,S2,⟨_,hc⟩|⟨_,hc⟩⟩:=hc
  ·exact ih _ _ _ _ _ _ _ S2 (wP hd hj) hc
  ·exact ih _ _ _ _ _ _ _ S2 (wP hd hj) hc
theorem Ux(hk:kind c=8)(hm:P.follows .mixedOrders=true)(S:SH w M X H)(f:Nat)(hf:(rg c).size=f)(h:WA P n C0 c (sk P C s) X f (Array.replicate f false) L M H M H)(hnd:(rg c).toList.all qT=true:=by rfl):InF.WS P n C c s L w:=by
 intro a ha
 rw[zS hk]
 refine wpIn_region_any hm ?_
 rw[hf]
 exact acY hnd _ _ _ _ _ _ _ _ (S.kp ⟨rfl,rfl,rfl,Nat.le_refl _⟩ fun _ _=>rfl) (zP _) (h (Grown.refl _ _) a ha)
theorem ki(N Hb:List Rs)(hk:kind c=8)(hm:P.follows .mixedOrders=true)(S:SH w M X (N++Hb))(f:Nat)(hf:(rg c).size=f)(h:WA P n C0 c (sk P C s) X f (Array.replicate f false) L M Hb M (N++Hb))(hnd:(rg c).toList.all qT=true:=by rfl):InF.WS P n C c s L w:=by
 intro a ha
 rw[zS hk]
 refine wpIn_region_any hm ?_
 rw[hf]
 exact acY hnd _ _ _ _ _ _ _ _ (S.kp ⟨rfl,rfl,rfl,Nat.le_refl _⟩ fun _ _=>rfl) (zP _) (h ⟨Hp.le_refl _,N,rfl⟩ a ha)
theorem Uu(hr:Region.ready .any (rg c) l=[])(h:∀w,SH w M X H->InF.NM P n C s L w):WA P n C0 c (sk P C s) X f l L Mb Hb M H:=
 Go.Proofs.YthppkofceancjaaGreat.Uu hr fun w S a ha=>h w S a ha
end
end InF
theorem jz{P:Program}{n:Nat}{C:Ctx}{c:Code}{s:List K}{X:Fr}{f:Nat}{l:Array Bool}{L:List (Nat×Value)}{M Mb:Hp}{H Hb:List Rs}(t:Nat){v:Value}(v':Value)(hl:lk L t=some v)(e:v=v')(h:WA P n C c s X f l ((t,v')::L) Mb Hb M H):WA P n C c s X f l L Mb Hb M H:=by
 subst e
 exact fun hg a ha=>h hg a ⟨ha.sz,ha.df,fun u x hx=>by
  rw[oX]at hx
  split at hx
  ·rename_i e;subst e;injection hx with hx;subst hx;exact ha.at_ _ _ hl
  ·exact ha.at_ _ _ hx⟩
end Go.Proofs.YthppkofceancjaaGreat
