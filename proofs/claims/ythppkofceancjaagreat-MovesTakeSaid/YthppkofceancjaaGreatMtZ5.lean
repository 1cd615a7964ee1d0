/- Part 5 of the proof of the law MovesTake: the walks through its functions and the plain laws that they need. -/
import Derived.Test.YthppkofceancjaaGreatMtZ4
import Derived.Lib.AppendZeros
set_option linter.unusedSimpArgs false
set_option linter.unusedVariables false
noncomputable section
namespace Go.Proofs.YthppkofceancjaaGreat
open Go.ChangeShapes Go.WideShapes Go.ChangeAt Go.RowKit
theorem CA{xs:List Bool}{i:Nat}{y:Bool}(h:i<xs.length):ga (xs.set i y) i=y:=by rw[eU _ _ _ _ h,if_pos rfl]
theorem Iy{xs:List Bool}{i j:Nat}{y:Bool}(h:i≠j):ga (xs.set i y) j=ga xs j:=by unfold ga;simp[List.getElem?_set,h]
inductive Rc(d:Dg):Nat->Nat->Prop
 |refl (x:Nat):Rc d x x
 |step {x y k:Nat}:Rc d x y->k<4->Rc d x (fS d y k)
structure BI(d:Dg)(n:Nat)(s0:List Bool)(c:Nat)(s:List Bool×List Int):Prop where
 len:s.1.length=n
 see:∀x,x<n->(ga s.1 x=true<->(ga s0 x=true\/(x:Int)∈s.2))
 nod:s.2.Nodup
 el:∀y∈s.2,∃z:Nat,y=(z:Int)/\z<n/\ga s0 z=false/\Rc d c z
 room:s.2.length+free s.1<=n
theorem akw{d:Dg}{n:Nat}{s0:List Bool}{c:Nat}{s:List Bool×List Int}(h:BI d n s0 c s){y:Nat}(hy:y<n)(hr:Rc d c y):
  BI d n s0 c (nU s y)/\(∃t,(nU s y).2=s.2++t)/\ga (nU s y).1 y=true/\∀x,ga s.1 x=true->ga (nU s y).1 x=true:=by
 unfold nU
 by_cases hg:ga s.1 y=true
 ·rw[if_pos hg]
  exact⟨h,⟨[],by simp⟩,hg,fun x hx=>hx⟩
 ·rw[if_neg hg]
  have hlen:=h.len
  have hf:ga s.1 y=false:=by simpa using hg
  have nR:¬(ga s0 y=true\/(y:Int)∈s.2):=fun hh=>hg ((h.see y hy).2 hh)
  have Be:=nC (seen:=s.1) (x:=y) (by omega) hf
  have hro:=h.room
  refine⟨⟨by simp[hlen],fun x hx=>?_,?_,fun z hz=>?_,?_⟩,⟨[(y:Int)],rfl⟩,?_,fun x hx=>?_⟩
  ·by_cases e:x=y
   ·subst e
    exact⟨fun _=>.inr (by simp),fun _=>CA (by omega)⟩
   ·show ga (s.1.set y true) x=true<->_
    rw[Iy (show y≠x from fun e'=>e e'.symm)]
    rw[h.see x hx,List.mem_append,List.mem_singleton]
    constructor
    ·rintro(h1|h1)
     ·exact .inl h1
     ·exact .inr (.inl h1)
    ·rintro(h1|h1|h1)
     ·exact .inl h1
     ·exact .inr h1
     ·exact absurd (Int.ofNat.inj h1) e
  ·rw[List.nodup_append]
   refine⟨h.nod,by simp,fun a ha b hb e=>?_⟩
   rw[List.mem_singleton]at hb
   subst hb;subst e
   exact nR (.inr ha)
  ·rcases List.mem_append.1 hz with hz|hz
   ·exact h.el z hz
   ·rw[List.mem_singleton]at hz
    exact⟨y,hz,hy,by have:=fun e=>nR (.inl e);simpa using this,hr⟩
  ·show(s.2++[(y:Int)]).length+free (s.1.set y true)<=n
   rw[List.length_append]
   show s.2.length+1+_<=n
   omega
  ·exact CA (by omega)
  ·by_cases e:x=y
   ·subst e;exact CA (by omega)
   ·show ga (s.1.set y true) x=true
    rw[Iy (show y≠x from fun e'=>e e'.symm)];exact hx
theorem aks{d:Dg}{s0:List Bool}{c x:Nat}{s:List Bool×List Int}(hab:aN d=true)(h:BI d d.ae.length s0 c s)(hx:x<d.ae.length)(hr:Rc d c x)(k:Nat)(hk:k<=4):
  BI d d.ae.length s0 c (bfsS d x s k)/\(∃t,(bfsS d x s k).2=s.2++t)/\(∀j,j<k->ga (bfsS d x s k).1 (fS d x j)=true)/\∀z,ga s.1 z=true->ga (bfsS d x s k).1 z=true:=by
 induction k with
 |zero=>exact⟨h,⟨[],by simp[bfsS]⟩,fun j hj=>by omega,fun z hz=>hz⟩
 |succ k ih=>
  obtain⟨h1,⟨t1,h2⟩,h3,h4⟩:=ih (by omega)
  obtain⟨g1,⟨t2,g2⟩,g3,g4⟩:=akw h1 (CN hab hx (show k<4 by omega)) (hr.step (show k<4 by omega))
  refine⟨g1,⟨t1++t2,?_⟩,fun j hj=>?_,fun z hz=>g4 z (h4 z hz)⟩
  ·show(nU _ _).2=_
   rw[g2,h2,List.append_assoc]
  ·by_cases e:j=k
   ·subst e;exact g3
   ·exact g4 _ (h3 j (by omega))
theorem aku{d:Dg}{s0:List Bool}{c:Nat}(hab:aN d=true):∀(f i:Nat) (s:List Bool×List Int),BI d d.ae.length s0 c s->d.ae.length<=i+f->i<=s.2.length->(∀j,j<i->∀k,k<4->ga s.1 (fS d (ga s.2 j).toNat k)=true)->
  BI d d.ae.length s0 c (bfsN d f i s)/\(∃t,(bfsN d f i s).2=s.2++t)/\∀j,j<(bfsN d f i s).2.length->∀k,k<4->ga (bfsN d f i s).1 (fS d (ga (bfsN d f i s).2 j).toNat k)=true:=by
 intro f
 induction f with
 |zero=>
  intro i s h hf hi hp
  have:=h.room
  exact⟨h,⟨[],by simp[bfsN]⟩,fun j hj=>hp j (by have hj':j<s.2.length:=hj;omega)⟩
 |succ f ih=>
  intro i s h hf hi hp
  by_cases hlt:i<s.2.length
  ·rw[bfsN,if_pos hlt]
   obtain⟨z,hz,vF,_,hrz⟩:=h.el _ (iB hlt)
   rw[hz,Int.toNat_natCast]
   obtain⟨h1,⟨t,h2⟩,h3,h4⟩:=aks hab h vF hrz 4 (Nat.le_refl _)
   obtain⟨g1,⟨t',g2⟩,g3⟩:=ih (i+1) (bfsS d z s 4) h1 (by omega) (by rw[h2,List.length_append];omega) (fun j hj k hk=>by
    rw[h2,yt _ _ _ (by omega)]
    by_cases e:j=i
    ·subst e;rw[hz,Int.toNat_natCast];exact h3 k hk
    ·exact h4 _ (hp j (by omega) k hk))
   exact⟨g1,⟨t++t',by rw[g2,h2,List.append_assoc]⟩,g3⟩
  ·rw[Gi (by omega)]
   exact⟨h,⟨[],by simp⟩,fun j hj=>hp j (by omega)⟩
structure PcI(d:Dg)(c:Nat)(s:List Bool×List (List Int)):Prop where
 see:∀x,x<d.ae.length->(ga s.1 x=true<->∃i,i<s.2.length/\(x:Int)∈ga s.2 i)
 R7:∀x,x<c->ga s.1 x=true
 el:∀i,i<s.2.length->(ga s.2 i).Nodup/\∃c0:Nat,c0<d.ae.length/\(c0:Int)∈ga s.2 i/\∀y∈ga s.2 i,∃z:Nat,y=(z:Int)/\z<d.ae.length/\Rc d c0 z
 Fy:∀i,i<s.2.length->∀z:Nat,(z:Int)∈ga s.2 i->∀k,k<4->((fS d z k:Nat):Int)∈ga s.2 i
 R6:∀i j,i<s.2.length->j<s.2.length->∀y,y∈ga s.2 i->y∈ga s.2 j->i=j
theorem ajU{d:Dg}(hab:aN d=true)(aol:∀x k,x<d.ae.length->k<4->∃k',k'<4/\fS d (fS d x k) k'=x)(c:Nat)(hc:c<=d.ae.length):PcI d c (iJ d c):=by
 induction c with
 |zero=>
  refine⟨fun x hx=>?_,fun x hx=>by omega,fun i hi=>?_,fun i hi=>?_,fun i j hi=>?_⟩
  ·simp only[iJ]
   rw[wO _ _ _ hx]
   constructor
   ·intro h;cases h
   ·rintro⟨i,hi,_⟩;exact absurd hi (Nat.not_lt_zero _)
  all_goals exact absurd hi (Nat.not_lt_zero _)
 |succ c ih=>
  have I:=ih (by omega)
  have hlen:=abp d c
  generalize hs:iJ d c=s at I hlen
  obtain⟨seen,bQ⟩:=s
  by_cases hg:ga seen c=true
  ·rw[Ga hs hg]
   exact⟨I.see,fun x hx=>by by_cases e:x=c;(subst e;exact hg);exact I.R7 x (by omega),I.el,I.Fy,I.R6⟩
  ·have RJ:ga seen c=false:=by simpa using hg
   rw[Gm hs RJ rfl]
   have hlen':seen.length=d.ae.length:=hlen
   have B0:BI d d.ae.length seen c (seen.set c true,[(c:Int)]):=by
    have Be:=nC (seen:=seen) (x:=c) (by omega) RJ
    have hfl:free seen<=seen.length:=List.countP_le_length
    refine⟨by simp[hlen'],fun x hx=>?_,by simp,fun y hy=>?_,by show 1+free (seen.set c true)<=_;omega⟩
    ·by_cases e:x=c
     ·subst e;exact⟨fun _=>.inr (by simp),fun _=>CA (by omega)⟩
     ·show ga (seen.set c true) x=true<->_
      rw[Iy (show c≠x from fun e'=>e e'.symm)]
      constructor
      ·exact .inl
      ·rintro(h1|h1)
       ·exact h1
       ·rw[List.mem_singleton]at h1;exact absurd (Int.ofNat.inj h1) e
    ·rw[List.mem_singleton]at hy;exact⟨c,hy,by omega,RJ,.refl c⟩
   obtain⟨B1,⟨t,B2⟩,B3⟩:=aku hab d.ae.length 0 _ B0 (by omega) (Nat.zero_le _) (fun j hj=>by omega)
   generalize hr:bfsN d d.ae.length 0 (seen.set c true,[(c:Int)])=r at B1 B2 B3 ⊢
   have hcm:(c:Int)∈r.2:=by rw[B2];simp
   have hnew:ga (bQ++[gF r.2]) bQ.length=gF r.2:=by rw[FO _ _ _ (Nat.le_refl _),Nat.sub_self];rfl
   have hold:∀i,i<bQ.length->ga (bQ++[gF r.2]) i=ga bQ i:=fun i hi=>yt _ _ _ hi
   have hL:(bQ++[gF r.2]).length=bQ.length+1:=by simp
   have hcl:∀z:Nat,(z:Int)∈r.2->∀k,k<4->((fS d z k:Nat):Int)∈r.2:=fun z hz k hk=>by
    obtain⟨j,hj,ej⟩:=List.mem_iff_getElem.1 hz
    have h1:=B3 j hj k hk
    rw[eo hj,ej,Int.toNat_natCast]at h1
    obtain⟨z',e',vF,hz0,_⟩:=B1.el _ hz
    obtain rfl:z=z':=by omega
    have hnl:=CN hab vF hk
    rcases(B1.see _ hnl).1 h1 with h2|h2
    ·exfalso
     obtain⟨i,hi,hm⟩:=(I.see _ hnl).1 h2
     obtain⟨k',hk',e2⟩:=aol z k vF hk
     have h3:=I.Fy i hi _ hm k' hk'
     rw[e2]at h3
     have h4:=(I.see z vF).2 ⟨i,hi,h3⟩
     have h5:ga seen z=true:=h4
     rw[hz0]at h5;cases h5
    ·exact h2
   refine⟨fun x hx=>?_,fun x hx=>?_,fun i hi=>?_,fun i hi=>?_,fun i j hi hj y hy hy'=>?_⟩
   ·show ga r.1 x=true<->∃i,i<(bQ++[gF r.2]).length/\(x:Int)∈ga (bQ++[gF r.2]) i
    rw[B1.see x hx]
    have hI:ga seen x=true<->∃i,i<bQ.length/\(x:Int)∈ga bQ i:=I.see x hx
    rw[hI]
    constructor
    ·rintro(⟨i,hi,hm⟩|hm)
     ·exact⟨i,by omega,by rw[hold i hi];exact hm⟩
     ·exact⟨bQ.length,by omega,by rw[hnew];exact rP.2 hm⟩
    ·rintro⟨i,hi,hm⟩
     by_cases e:i<bQ.length
     ·rw[hold i e]at hm;exact .inl ⟨i,e,hm⟩
     ·obtain rfl:i=bQ.length:=by omega
      rw[hnew]at hm;exact .inr (rP.1 hm)
   ·show ga r.1 x=true
    rw[B1.see x (by omega)]
    by_cases e:x=c
    ·subst e;exact .inr hcm
    ·exact .inl (I.R7 x (by omega))
   ·show(ga (bQ++[gF r.2]) i).Nodup/\∃c0:Nat,c0<d.ae.length/\(c0:Int)∈ga (bQ++[gF r.2]) i/\∀y∈ga (bQ++[gF r.2]) i,_
    have hi':i<(bQ++[gF r.2]).length:=hi
    by_cases e:i<bQ.length
    ·rw[hold i e];exact I.el i e
    ·obtain rfl:i=bQ.length:=by omega
     rw[hnew]
     refine⟨(Gk r.2).nodup_iff.2 B1.nod,c,by omega,rP.2 hcm,fun y hy=>?_⟩
     obtain⟨z,h1,h2,_,h3⟩:=B1.el y (rP.1 hy)
     exact⟨z,h1,h2,h3⟩
   ·show∀z:Nat,(z:Int)∈ga (bQ++[gF r.2]) i->∀k,k<4->((fS d z k:Nat):Int)∈ga (bQ++[gF r.2]) i
    have hi':i<(bQ++[gF r.2]).length:=hi
    by_cases e:i<bQ.length
    ·rw[hold i e];exact I.Fy i e
    ·obtain rfl:i=bQ.length:=by omega
     rw[hnew]
     intro z hz k hk
     exact rP.2 (hcl z (rP.1 hz) k hk)
   ·have hi':i<(bQ++[gF r.2]).length:=hi
    have hj':j<(bQ++[gF r.2]).length:=hj
    have hy1:y∈ga (bQ++[gF r.2]) i:=hy
    have hy2:y∈ga (bQ++[gF r.2]) j:=hy'
    have key:∀i,i<bQ.length->y∈ga bQ i->y∈r.2->False:=fun i hi h1 h2=>by
     obtain⟨z,rfl,vF,hz0,_⟩:=B1.el y h2
     have h5:ga seen z=true:=(I.see z vF).2 ⟨i,hi,h1⟩
     rw[hz0]at h5;cases h5
    by_cases e:i<bQ.length
    ·rw[hold i e]at hy1
     by_cases e':j<bQ.length
     ·rw[hold j e']at hy2;exact I.R6 i j e e' y hy1 hy2
     ·obtain rfl:j=bQ.length:=by omega
      rw[hnew]at hy2
      exact(key i e hy1 (rP.1 hy2)).elim
    ·obtain rfl:i=bQ.length:=by omega
     rw[hnew]at hy1
     by_cases e':j<bQ.length
     ·rw[hold j e']at hy2
      exact(key j e' hy2 (rP.1 hy1)).elim
     ·omega
end Go.Proofs.YthppkofceancjaaGreat
namespace Go.Proofs.YthppkofceancjaaGreat
open Go.ChangeShapes Go.WideShapes Go.ChangeAt Go.RowKit
theorem pz{d:Dg}(h:aN d=true){c k:Nat}{b:Bool}(hc:c<d.ae.length)(hk:k<4)(hin:Uz d c k=!b):Ud d (Uq d c k) b=(c,k):=by
 have hr:=eO h hc hk
 have hcn:cP d ((Uq d c k).toNat:Nat) b (4*d.ae.length)=1:=by
  have:=BS h (Uq d c k).toNat (by omega) (by omega)
  cases b
  ·exact this.1
  ·exact this.2
 rw[show(((Uq d c k).toNat:Nat):Int)=Uq d c k by omega]at hcn
 obtain⟨j,j1,j2,j3,j4⟩:=Ck hcn
 have hme:fI d (Uq d c k) b (4*c+k)=true:=by rw[rU hk];cases b<;>simp[hin]
 obtain rfl:=j3 (4*c+k) (by omega) hme
 have e:=aaR hcn
 rw[j4]at e
 rw[<-e]
 exact Prod.ext (by dsimp only;omega) (by dsimp only;omega)
theorem pE{d:Dg}(h:aN d=true){a:Int}(ha:1<=a/\a<=2*(d.ae.length:Int))(b:Bool):Uq d (Ud d a b).1 (Ud d a b).2=a/\Uz d (Ud d a b).1 (Ud d a b).2=!b:=by
 obtain⟨_,_,_,h4,h5⟩:=abx h (a:=a.toNat) (by omega) (by omega) b
 rw[show((a.toNat:Nat):Int)=a by omega]at h4 h5
 exact⟨h4,h5⟩
theorem ak2{d:Dg}(h:aN d=true)(x k:Nat)(hx:x<d.ae.length)(hk:k<4):∃k',k'<4/\fS d (fS d x k) k'=x:=by
 have ha:=eO h hx hk
 obtain⟨h1,h2,_⟩:=eF h ha (Uz d x k)
 obtain⟨h3,h4⟩:=pE h ha (Uz d x k)
 refine⟨(Ud d (Uq d x k) (Uz d x k)).2,h2,?_⟩
 show(Ud d (Uq d (Ud d (Uq d x k) (Uz d x k)).1 (Ud d (Uq d x k) (Uz d x k)).2) (Uz d (Ud d (Uq d x k) (Uz d x k)).1 (Ud d (Uq d x k) (Uz d x k)).2)).1=x
 rw[h3,h4,pz h hx hk (by cases Uz d x k<;>rfl)]
theorem rq{d:Dg}(h:aN d=true):PcI d d.ae.length (iJ d d.ae.length):=ajU h (ak2 h) _ (Nat.le_refl _)
def putP(i:Nat)(p:List Int)(es:List (Int×Int)):Nat->List (Int×Int)
 |0=>es
 |k+1=>mp (ga p k) (i:Int) (putP i p es k)
def uv(bQ:List (List Int)):Nat->List (Int×Int)
 |0=>[]
 |i+1=>putP i (ga bQ i) (uv bQ i) (ga bQ i).length
theorem ajP(i:Nat)(p:List Int)(es:List (Int×Int))(k:Nat)(hk:k<=p.length)(y:Int):(y∈p.take k->mg y (putP i p es k)=some (i:Int))/\(y∉p.take k->mg y (putP i p es k)=mg y es):=by
 induction k with
 |zero=>exact⟨fun h=>by simp at h,fun _=>rfl⟩
 |succ k ih=>
  have ih:=ih (by omega)
  rw[Cu _ _ (by omega),putP,C4]
  constructor
  ·intro h
   by_cases e:y=ga p k
   ·rw[if_pos e]
   ·rw[if_neg e]
    rcases List.mem_append.1 h with h|h
    ·exact ih.1 h
    ·exact absurd (List.mem_singleton.1 h) e
  ·intro h
   rw[List.mem_append,List.mem_singleton]at h
   rw[if_neg (fun e=>h (.inr e))]
   exact ih.2 (fun e=>h (.inl e))
theorem aiW{bQ:List (List Int)}(hd:∀i j,i<bQ.length->j<bQ.length->∀y,y∈ga bQ i->y∈ga bQ j->i=j)(m:Nat)(hm:m<=bQ.length){i:Nat}(hi:i<m){y:Int}(hy:y∈ga bQ i):mg y (uv bQ m)=some (i:Int):=by
 induction m with
 |zero=>omega
 |succ m ih=>
  have h:=ajP m (ga bQ m) (uv bQ m) (ga bQ m).length (Nat.le_refl _) y
  rw[List.take_length]at h
  rw[uv]
  by_cases e:y∈ga bQ m
  ·rw[h.1 e,hd i m (by omega) (by omega) y hy e]
  ·rw[h.2 e]
   exact ih (by omega) (by
    rcases Nat.lt_or_ge i m with h1|h1
    ·exact h1
    ·obtain rfl:i=m:=by omega
     exact absurd hy e)
def pmap(d:Dg):List (Int×Int):=uv (cz d) (cz d).length
def cG(d:Dg)(x:Nat):Nat:=((mg (x:Int) (pmap d)).getD 0).toNat
theorem yY{d:Dg}(h:aN d=true){i x:Nat}(hi:i<(cz d).length)(hx:(x:Int)∈ga (cz d) i):mg (x:Int) (pmap d)=some (i:Int)/\cG d x=i:=by
 have e:=aiW (rq h).R6 _ (Nat.le_refl _) hi hx
 refine⟨e,?_⟩
 unfold cG
 unfold pmap
 rw[show mg (x:Int) (uv (cz d) (cz d).length)=some (i:Int)from e]
 rfl
theorem ud{d:Dg}(h:aN d=true){x:Nat}(hx:x<d.ae.length):cG d x<(cz d).length/\(x:Int)∈ga (cz d) (cG d x)/\(mg (x:Int) (pmap d)).getD 0=(cG d x:Int):=by
 obtain⟨i,hi,hm⟩:=((rq h).see x hx).1 ((rq h).R7 x hx)
 have hi':i<(cz d).length:=hi
 have hm':(x:Int)∈ga (cz d) i:=hm
 obtain⟨h1,h2⟩:=yY h hi' hm'
 rw[h2]
 exact⟨hi',hm',by rw[h1];rfl⟩
def jw(d:Dg):Nat->List Int
 |0=>List.replicate (cz d).length 0
 |k+1=>(jw d k).set (cG d (ia d k)) (ga (jw d k) (cG d (ia d k))+1)
theorem GM(d:Dg)(k:Nat):(jw d k).length=(cz d).length:=by
 induction k with
 |zero=>exact List.length_replicate
 |succ k ih=>rw[jw,List.length_set,ih]
theorem alq(d:Dg)(k j:Nat):0<=ga (jw d k) j/\ga (jw d k) j<=k:=by
 induction k generalizing j with
 |zero=>
  by_cases h:j<(cz d).length
  ·rw[jw,wO _ _ _ h];simp
  ·rw[jw,show ga (List.replicate (cz d).length (0:Int)) j=0 from by unfold ga;simp[h]];exact⟨Int.le_refl _,Int.le_refl _⟩
 |succ k ih=>
  rw[jw]
  have h1:=ih j
  have h2:=ih (cG d (ia d k))
  by_cases e:cG d (ia d k)=j
  ·by_cases hl:j<(jw d k).length
   ·subst e;rw[eU _ _ _ _ hl,if_pos rfl];omega
   ·rw[List.set_eq_of_length_le (by omega)];omega
  ·rw[aaX _ _ _ _ e];omega
theorem wy{α:Type}[DecidableEq α]{xs ys:List α}(h:xs.Nodup)(hs:∀y∈xs,y∈ys):xs.length<=ys.length:=by
 induction xs generalizing ys with
 |nil=>exact Nat.zero_le _
 |cons x xs ih=>
  rw[List.nodup_cons]at h
  have hx:=hs x (by simp)
  have h1:=ih h.2 (ys:=ys.erase x) (fun y hy=>(List.mem_erase_of_ne (fun(e:y=x)=>h.1 (by rw[<-e];exact hy))).2 (hs y (by simp[hy])))
  rw[List.length_erase_of_mem hx]at h1
  have:=List.length_pos_of_mem hx
  rw[List.length_cons]
  omega
def oF(d:Dg):Bool:=(List.range (cz d).length).all fun i=>decide (ga (jw d (U7 d).length) i=((ga (cz d) i).length:Int)+2)
theorem abU{d:Dg}(h:∀i,i<(cz d).length->ga (jw d (U7 d).length) i=((ga (cz d) i).length:Int)+2):oF d=true:=by
 unfold oF
 rw[List.all_eq_true]
 intro p hp
 exact decide_eq_true (h p (List.mem_range.1 hp))
theorem ajT{d:Dg}{i:Nat}(hi:i<(cz d).length)(h:¬ga (jw d (U7 d).length) i=((ga (cz d) i).length:Int)+2):oF d=false:=by
 unfold oF
 rw[List.all_eq_false]
 exact⟨i,List.mem_range.2 hi,by simpa using h⟩
theorem abW{d:Dg}(h:aN d=true){i:Nat}(hi:i<(cz d).length):(ga (cz d) i).length<=d.ae.length/\∀y∈ga (cz d) i,0<=y/\y<(d.ae.length:Int):=by
 obtain⟨h1,c0,_,_,h2⟩:=(rq h).el i hi
 have hb:∀y∈ga (cz d) i,0<=y/\y<(d.ae.length:Int):=fun y hy=>by obtain⟨z,rfl,hz,_⟩:=h2 y hy;omega
 refine⟨?_,hb⟩
 have h3:=wy (ys:=(List.range d.ae.length).map fun x:Nat=>(x:Int)) h1 (fun y hy=>by
  obtain⟨z,rfl,hz,_⟩:=h2 y hy
  exact List.mem_map.2 ⟨z,List.mem_range.2 hz,rfl⟩)
 rw[List.length_map,List.length_range]at h3
 exact h3
noncomputable def YY:=Tryz.f65.body.getD .skip
def Ze6:=cL YY
def YX:=cR YY
def Ze8:=cL YX
def YW:=cR YX
def Zea:=cL YW
def YV:=cR YW
def YU:=cL YV
def YT:=cR YV
def Zee:=cL YU
def Zef:=cR YU
def Zeg:=cL Zef
def YS:=cL Zeg
def Zei:=cL YS
def YR:=cR YS
def YQ:=cL YR
def YP:=cR YR
def Zem:=cL YQ
def Zen:=cR YQ
def Zeo:=cL YP
def Zep:=cR YP
def YO:=cL Zeo
def Zer:=cL YO
def YN:=cR YO
def Zet:=cL YN
def Zeu:=cR YN
def Zev:=cL Zeu
def YM:=cL Zev
def Zex:=cL YM
def YL:=cR YM
def YK:=cL YL
def YJ:=cR YL
def Zf1:=cL YK
def Zf2:=cR YK
def Zf3:=cL YJ
def Zf4:=cR YJ
def YI:=cL Zf3
def Zf6:=cL YI
def Zf7:=cR YI
def Zf8:=cL YT
def YH:=cR YT
def YG:=cL YH
def YF:=cR YH
def Zfc:=cL YG
def Zfd:=cR YG
def Zfe:=cL Zfd
def YE:=cL Zfe
def Zfg:=cL YE
def YD:=cR YE
def YC:=cL YD
def YB:=cR YD
def Zfk:=cL YC
def Zfl:=cR YC
def Zfm:=cL YB
def Zfn:=cR YB
def YA:=cL Zfm
def Zfp:=cL YA
def Zfq:=cR YA
def Yz:=cL YF
def Yy:=cR YF
def Zft:=cL Yz
def Zfu:=cR Yz
def Zfv:=cL Zfu
def Yx:=cL Zfv
def Zfx:=cL Yx
def Yw:=cR Yx
def Yv:=cL Yw
def Yu:=cR Yw
def Zg1:=cL Yv
def Zg2:=cR Yv
def Zg3:=cL Yu
def Zg4:=cR Yu
def Yt:=cL Zg3
def Zg6:=cL Yt
def Yr:=cR Yt
def Zg8:=cL Yr
def Yq:=cR Yr
def Yp:=cL Yq
def Zgb:=cR Yq
def Zgc:=cL Yp
def Zgd:=cR Yp
def Zge:=cL Yy
def Zgf:=cR Yy
set_option maxHeartbeats 1000000 in
set_option maxRecDepth 10000 in
theorem ajr{w:World}{M:Hp}{X:Fr}(d:Dg){bL:Nat}{cA iA oA:Option Addr}{cc ic oc:Nat}(bu:dG (M.un X.h) bL 70 [.slice cA d.ae.length cc,.int .i64 d.loops,.slice iA (ax d false (4*d.ae.length)).length ic,.slice oA (ax d true (4*d.ae.length)).length oc])(hsc:aG aF (M.un X.h) cA cc d.ae)(hsi:aG br (M.un X.h) iA ic (ax d false (4*d.ae.length)))(aK:aG br (M.un X.h) oA oc (ax d true (4*d.ae.length)))(hn:d.ae.length<=16)(hab:aN d=true)(S:SH w M X []):Ct Tryz.prog 65 [.pointer (some ⟨bL,0,none⟩)] w M X (fun u _=>u=.bool (oF d)):=by
 unfold Ct
 refine Up (b:=YY) Tryz.func65 rfl Tryz.ntmps65 rfl (fun C hC=>(bq [(0,_)] ⟨rfl,trivial⟩ (U2 Ze6 YX rfl rfl rfl (U0 rfl (ag 0 1 rfl rfl (U5 rfl (ah [0] rfl (U3 (U2 Ze8 YW rfl rfl rfl ?_)))))))))
 refine U0 rfl (ak 0 1 rfl rfl rfl (yq Int Int (Value.int .i64) (Value.int .i64) rfl rfl rfl S ?_))
 intro jg w1 S1;clear S
 refine ag 1 1 rfl rfl (U5 rfl (ah [0,3] rfl (U3 (U2 Zea YV rfl rfl rfl (U0 rfl (ag 0 1 rfl rfl (ak 1 2 rfl rfl rfl (eZ rfl rfl rfl rfl rfl rfl rfl anA S1 (ajs d (bu.mono S1.Uy) (hsc.mono S1.Uy) (hsi.mono S1.Uy) (aK.mono S1.Uy) hn hab S1.aD) ?_))))))))
 intro E9 w2 M1 aL S2 qN;clear S1
 replace bu:=bu.mono (Hp.Ua aL S2.mx)
 replace hsc:=hsc.mono (Hp.Ua aL S2.mx)
 replace hsi:=hsi.mono (Hp.Ua aL S2.mx)
 replace aK:=aK.mono (Hp.Ua aL S2.mx)
 obtain⟨A1,c1,vs1,rfl,hr1,hd1⟩:=qN
 have aja:=hd1.1
 refine ag 2 1 rfl rfl (U5 rfl (ah [0,3,4] rfl (U3 (U2 YU YT rfl rfl rfl (U2 Zee Zef rfl rfl rfl (U0 rfl (ag 0 1 rfl rfl (af 1 rfl (cU rfl rfl rfl rfl rfl rfl CX) ?_))))))))
 refine ag 2 1 rfl rfl (U5 rfl (U3 (Uc Zeg 0 rfl rfl rfl ?_)))
 refine Ux (fun aS au aM=>∃(i:Nat) (es:List (Int×Int)),aS=(cz d).length-i/\Env 75 [(0,.pointer (some ⟨bL,0,none⟩)),(3,.map (some jg)),(4,.slice A1 vs1.length c1),(17,.slice A1 vs1.length c1),(18,.int .i64 (vs1.length:Int)),(19,.int .i64 (i:Int))] au/\SH aM M1 X [Rs.mp (Value.int .i64) (Value.int .i64) jg es]/\i<=(cz d).length/\es=uv (cz d) i) rfl ?_ ?_
 ·intro au aq
  refine⟨_,⟨0,[],rfl,aq.sub ⟨rfl,rfl,rfl,rfl,rfl,rfl,trivial⟩,S2.pick [0] [_] (by decide) ⟨rfl,trivial⟩,?cd,?dm⟩⟩
  case cd=>omega
  case dm=>rfl
 ·rintro m2 a1 w3 ⟨i,es,rfl,aY,S3,hi,hes⟩
  clear S2
  refine bX aY (c:=YS) rfl ?_
  clear aY a1
  have hpl:=BM d d.ae.length
  replace hpl:(cz d).length<=d.ae.length:=hpl
  refine U2 Zei YR rfl rfl rfl (U0 rfl (af 0 rfl (bS rfl rfl rfl) (U5 rfl (U3 (U2 YQ YP rfl rfl rfl ?_)))))
  refine Uf Zem Zen rfl rfl rfl rfl (fun qJ=>?_) (fun qJ=>?_)
  ·refine Ue rfl (ah [0,3,4,17,18,19] rfl (U3 (U2 Zeo Zep rfl rfl rfl (Uc YO 1 rfl rfl rfl (U2 Zer YN rfl rfl rfl (U0 rfl (ag 0 1 rfl rfl (af 1 rfl (Ul (C:=(di 53)) i rfl rfl rfl CY (by first|rfl|omega) hr1 (by first|omega|(simp only[ls];omega))) ?_))))))))
   obtain⟨lY,hr2⟩:=hd1.2 i (by first|omega|(simp only[ls];omega))
   have H9:(ga (cz d) i).length*8<=140737488355328:=hr2.room
   refine af 2 rfl (U4 rfl rfl dY rfl (hr1.cell S3.m (i:=i) (by first|omega|(simp only[ls];omega)) 0 rfl (congrArg (fun n=>some (Value.slice _ n _)) lY))) ?_
   refine ag 3 2 rfl rfl (U5 rfl (ah [0,3,4,17,18,19,5,6] rfl (U3 (U2 Zet Zeu rfl rfl rfl (U0 rfl (ag 0 1 rfl rfl (af 1 rfl (cU rfl rfl rfl rfl rfl rfl dY) (ag 2 1 rfl rfl ?_))))))))
   refine U5 rfl (ah [0,3,4,17,18,19,5,24,25,26] rfl (U3 (Uc Zev 2 rfl rfl rfl ?_)))
   refine Ux (fun aS au aM=>∃(k:Nat) (p7:List (Int×Int)),aS=(ga (cz d) i).length-k/\Env 75 [(0,.pointer (some ⟨bL,0,none⟩)),(3,.map (some jg)),(4,.slice A1 vs1.length c1),(17,.slice A1 vs1.length c1),(18,.int .i64 (vs1.length:Int)),(19,.int .i64 (i:Int)),(5,.int .i64 (i:Int)),(24,.slice ((ga vs1 i).A) (ga (cz d) i).length ((ga vs1 i).c)),(25,.int .i64 ((ga (cz d) i).length:Int)),(26,.int .i64 (k:Int))] au/\SH aM M1 X [Rs.mp (Value.int .i64) (Value.int .i64) jg p7]/\k<=(ga (cz d) i).length/\p7=putP i (ga (cz d) i) es k) rfl ?_ ?_
   ·intro au aq
    refine⟨_,⟨0,es,rfl,aq.sub ⟨rfl,rfl,rfl,rfl,rfl,rfl,rfl,rfl,rfl,rfl,trivial⟩,S3.pick [0] [_] (by decide) ⟨rfl,trivial⟩,?cx,?dC⟩⟩
    case cx=>omega
    case dC=>rfl
   ·rintro m3 a2 w4 ⟨k,p7,rfl,cB,S4,hk,aep⟩
    clear S3
    refine bX cB (c:=YM) rfl ?_
    clear cB a2
    have hpb:=abW hab (i:=i) (by omega)
    refine U2 Zex YL rfl rfl rfl (U0 rfl (af 0 rfl (bS rfl rfl rfl) (U5 rfl (U3 (U2 YK YJ rfl rfl rfl ?_)))))
    refine Uf Zf1 Zf2 rfl rfl rfl rfl (fun zT=>?_) (fun zT=>?_)
    ·refine Ue rfl (ah [0,3,4,17,18,19,5,24,25,26] rfl (U3 (U2 Zf3 Zf4 rfl rfl rfl (Uc YI 3 rfl rfl rfl (U2 Zf6 Zf7 rfl rfl rfl (U0 rfl (af 0 rfl (Ul (C:=Uv) k rfl rfl rfl bA (by first|rfl|omega) hr2 (by first|omega|(simp only[ls];omega))) ?_)))))))
     refine af 1 rfl (U4 rfl rfl av rfl (hr2.cell S4.m (i:=k) (by first|omega|(simp only[ls];omega)) 0 rfl rfl)) ?_
     refine ag 2 1 rfl rfl (U5 rfl (ah [0,3,4,17,18,19,5,24,25,26,8] rfl (U3 (U0 rfl (ag 0 3 rfl rfl (ak 3 4 rfl rfl rfl (om (kc:=Value.int .i64) (vc:=Value.int .i64) (es:=p7) (k:=(ga (ga (cz d) i) k)) (e:=(i:Int)) (i:=0) (H':=[_]) (.inl rfl) rfl S4 rfl rfl rfl rfl ad0 nX rfl ?_)))))))
     intro w5 S5;clear S4
     refine U5 rfl (bj (ah [0,3,4,17,18,19,5,24,25,26] rfl (U3 (U0 rfl (af 0 rfl (Ug rfl rfl rfl (by first|omega|(simp only[ls];omega))) ?_)))))
     refine ag 1 1 rfl rfl (U5 rfl (aO ?_))
     intro au aq
     refine⟨_,?lM,⟨k+1,_,rfl,aq.sub ⟨rfl,rfl,rfl,rfl,rfl,rfl,rfl,rfl,rfl,rfl,trivial⟩,S5.pick [0] [_] (by decide) ⟨rfl,trivial⟩,?eB,?gu⟩⟩
     case eB=>omega
     case gu=>(rw[aep];rfl)
     case lM=>omega
    ·refine bP rfl rfl (bj (ah [0,3,4,17,18,19] rfl (U3 (U0 rfl (af 0 rfl (Ug rfl rfl rfl (by first|omega|(simp only[ls];omega))) ?_)))))
     refine ag 1 1 rfl rfl (U5 rfl (aO ?_))
     intro au aq
     refine⟨_,?kx,⟨i+1,_,rfl,aq.sub ⟨rfl,rfl,rfl,rfl,rfl,rfl,trivial⟩,S4.pick [0] [_] (by decide) ⟨rfl,trivial⟩,?eW,?gq⟩⟩
     case eW=>omega
     case gq=>(obtain rfl:k=(ga (cz d) i).length:=(by omega);rw[aep,hes];rfl)
     case kx=>omega
  ·have aoR:es=pmap d:=by rw[hes,show i=(cz d).length by omega];rfl
   have aeb:=BM d d.ae.length
   replace aeb:(cz d).length<=d.ae.length:=aeb
   refine bP rfl rfl (ah [0,3,4] rfl (U3 (U2 Zf8 YH rfl rfl rfl (U0 rfl (ag 0 1 rfl rfl (af 1 rfl (cU rfl rfl rfl rfl rfl rfl CX) (ak 2 3 rfl rfl rfl (qj (C:=Uv) vs1.length rfl rfl rfl rfl rfl bA (by first|rfl|omega) (by show _*8<=_;first|omega|(simp only[ls];omega)) S3 ?_))))))))
   intro AL w6 S6;clear S3
   refine ag 3 1 rfl rfl (U5 rfl (ah [0,3,4,9] rfl (U3 (U2 YG YF rfl rfl rfl (U2 Zfc Zfd rfl rfl rfl (U0 rfl (ag 0 1 rfl rfl (ak 1 2 rfl rfl rfl (eZ rfl rfl rfl rfl rfl rfl rfl aeN S6 (InF.acs d (bu.mono S6.Uy) (hsc.mono S6.Uy) (hsi.mono S6.Uy) (aK.mono S6.Uy) hn hab S6.aD) ?_)))))))))
   intro vw7 w7 M2 cE S7 zX;clear S6
   replace bu:=bu.mono (Hp.Ua cE S7.mx)
   replace hsc:=hsc.mono (Hp.Ua cE S7.mx)
   replace hsi:=hsi.mono (Hp.Ua cE S7.mx)
   replace aK:=aK.mono (Hp.Ua cE S7.mx)
   replace hr1:=hr1.mono cE
   replace hd1:=hd1.mono cE
   obtain⟨A2,c2,vs2,rfl,hr3,hd2⟩:=zX
   have ahF:=hd2.1
   refine af 2 rfl (cU rfl rfl rfl rfl rfl rfl mr) (ag 3 1 rfl rfl (U5 rfl (ah [0,3,4,9,39,40,41] rfl (U3 (Uc Zfe 4 rfl rfl rfl ?_)))))
   refine Ux (fun aS au aM=>∃(k:Nat) (fs:List Int) (AK:Value),aS=(U7 d).length-k/\Env 75 [(0,.pointer (some ⟨bL,0,none⟩)),(3,.map (some jg)),(4,.slice A1 vs1.length c1),(9,AK),(39,.slice A2 vs2.length c2),(40,.int .i64 (vs2.length:Int)),(41,.int .i64 (k:Int))] au/\SH aM M2 X [Rs.row Uv AK fs,Rs.mp (Value.int .i64) (Value.int .i64) jg es]/\k<=(U7 d).length/\fs=jw d k) rfl ?_ ?_
   ·intro au aq
    refine⟨_,⟨0,_,_,rfl,aq.sub ⟨rfl,rfl,rfl,rfl,rfl,rfl,rfl,trivial⟩,S7.pick [0,1] [_,_] (by decide) ⟨rfl,rfl,trivial⟩,?fC,?gp⟩⟩
    case fC=>omega
    case gp=>(rw[aja];rfl)
   ·rintro m4 a3 w8 ⟨k,fs,AK,rfl,fu,S8,hk,nt⟩
    clear S7
    refine bX fu (c:=YE) rfl ?_
    clear fu a3
    have hfm:=BG d
    have aoQ:fs.length=(cz d).length:=by rw[nt,GM]
    refine U2 Zfg YD rfl rfl rfl (U0 rfl (af 0 rfl (bS rfl rfl rfl) (U5 rfl (U3 (U2 YC YB rfl rfl rfl ?_)))))
    refine Uf Zfk Zfl rfl rfl rfl rfl (fun qI=>?_) (fun qI=>?_)
    ·obtain⟨hh0,hok⟩:=Hx (d:=d) (k:=k) (by omega)
     have hfc:=HF hab (k:=k) (by omega)
     have hpi:=ud hab hfc
     obtain⟨ayz,hpi2,aec⟩:=hpi
     rw[<-aoR]at aec
     have hfb:=alq d k (cG d (ia d k))
     rw[<-nt]at hfb
     refine Ue rfl (ah [0,3,4,9,39,40,41] rfl (U3 (U2 Zfm Zfn rfl rfl rfl (Uc YA 5 rfl rfl rfl (U2 Zfp Zfq rfl rfl rfl (U0 rfl (af 0 rfl (Ul (C:=(di 141)) k rfl rfl rfl kr (by first|rfl|omega) hr3 (by first|omega|(simp only[ls];omega))) ?_)))))))
     obtain⟨nY,hr4⟩:=hd2.2 k (by first|omega|(simp only[ls];omega))
     have H8:(ga (U7 d) k).length*16<=140737488355328:=hr4.room
     refine af 1 rfl (U4 rfl rfl iO rfl (hr3.cell S8.m (i:=k) (by first|omega|(simp only[ls];omega)) 0 rfl (congrArg (fun n=>some (Value.slice _ n _)) nY))) ?_
     refine ag 2 1 rfl rfl (U5 rfl (ah [0,3,4,9,39,40,41,11] rfl (U3 (U0 rfl (ag 0 4 rfl rfl (af 4 rfl (Ul (C:=cu) 0 rfl rfl rfl iF (by first|rfl|omega) hr4 (by first|omega|(simp only[ls];omega))) ?_))))))
     refine af 5 rfl (U8 (us:=[_,_]) rfl rfl aZ rfl cC (hr4.fU S8.m (e:=0) (by first|omega|(simp only[ls];omega)) (j:=0) ⟨rfl,rfl,trivial⟩)) ?_
     refine ak 6 7 rfl rfl rfl (cS rfl rfl rfl rfl rfl rfl rfl II S8 (HP d (ga (ga (U7 d) k) 0) (bu.mono S8.Uy) (hsc.mono S8.Uy) (hsi.mono S8.Uy) (aK.mono S8.Uy) (by first|assumption|omega) hab (by first|assumption|omega) S8.aD) ?_)
     rintro _ w9 S9 rfl;clear S8
     refine af 7 rfl (ma rfl rfl cO rfl av rfl rfl) (af 8 rfl (yo (kc:=Value.int .i64) (vc:=Value.int .i64) (es:=es) (k:=((Ud d (ga (ga (U7 d) k) 0).a (ga (ga (U7 d) k) 0).b).1:Int)) (zv:=0) (i:=1) rfl rfl rfl ad0 nX zr3 S9 rfl) (cy 53 (.int .i64 (cG d (ia d k):Int)) rfl (int_eq aec) (af 9 rfl (Uj (C:=Uv) (i:=0) (cG d (ia d k)) rfl rfl rfl bA S9 rfl (by first|rfl|omega) (by first|omega|(simp only[ls];omega))) ?_)))
     refine af 10 rfl (U4 rfl rfl av rfl (S9.dW (i:=0) (e:=cG d (ia d k)) (j:=0) rfl (by first|omega|(simp only[ls];omega)) rfl rfl)) ?_
     refine af 11 rfl (Ug rfl rfl rfl (by first|omega|(simp only[ls];omega))) ?_
     refine af 12 rfl (Uj (C:=Uv) (i:=0) (cG d (ia d k)) rfl rfl rfl bA S9 rfl (by first|rfl|omega) (by first|omega|(simp only[ls];omega))) ?_
     refine ak 13 14 rfl rfl rfl (ig (C:=Uv) (i:=0) (e:=cG d (ia d k)) (j:=0) (us:=[_]) (H':=[_,_]) ((ga fs (cG d (ia d k)))+1) rfl rfl S9 rfl (by first|omega|(simp only[ls];omega)) rfl rfl rfl bg rfl rfl rfl rfl ?_)
     intro jT bw;clear S9
     refine U5 rfl (bj (ah [0,3,4,9,39,40,41] rfl (U3 (U0 rfl (af 0 rfl (Ug rfl rfl rfl (by first|omega|(simp only[ls];omega))) ?_)))))
     refine ag 1 1 rfl rfl (U5 rfl (aO ?_))
     intro au aq
     refine⟨_,?ku,⟨k+1,_,_,rfl,aq.sub ⟨rfl,rfl,rfl,rfl,rfl,rfl,rfl,trivial⟩,bw.pick [0,1] [_,_] (by decide) ⟨rfl,rfl,trivial⟩,?gW,?iY⟩⟩
     case gW=>omega
     case iY=>(rw[nt];rfl)
     case ku=>omega
    ·have Jl:fs=jw d (U7 d).length:=by rw[nt,show k=(U7 d).length by omega]
     refine bP rfl rfl (ah [4,9] rfl (U3 (U2 Yz Yy rfl rfl rfl (U2 Zft Zfu rfl rfl rfl (U0 rfl (ag 0 1 rfl rfl (af 1 rfl (cU rfl rfl rfl rfl rfl rfl CX) (ag 2 1 rfl rfl ?_))))))))
     refine U5 rfl (ah [9,59,60,61] rfl (U3 (Uc Zfv 6 rfl rfl rfl ?_)))
     refine Ux (fun aS au aM=>∃(j:Nat),aS=(cz d).length-j/\Env 75 [(9,AK),(59,.slice A1 vs1.length c1),(60,.int .i64 (vs1.length:Int)),(61,.int .i64 (j:Int))] au/\SH aM M2 X [Rs.row Uv AK fs]/\j<=(cz d).length/\(∀q,q<j->ga fs q=((ga (cz d) q).length:Int)+2)) rfl ?_ ?_
     ·intro au aq
      refine⟨_,⟨0,rfl,aq.sub ⟨rfl,rfl,rfl,rfl,trivial⟩,S8.pick [0] [_] (by decide) ⟨rfl,trivial⟩,?iX,?ki⟩⟩
      case iX=>omega
      case ki=>(intro q hq;omega)
     ·rintro m5 a4 kV ⟨j,rfl,mK,bW,hj,hall⟩
      clear S8
      refine bX mK (c:=Yx) rfl ?_
      clear mK a4
      have hpl:=BM d d.ae.length
      replace hpl:(cz d).length<=d.ae.length:=hpl
      have aoQ:fs.length=(cz d).length:=by rw[Jl,GM]
      refine U2 Zfx Yw rfl rfl rfl (U0 rfl (af 0 rfl (bS rfl rfl rfl) (U5 rfl (U3 (U2 Yv Yu rfl rfl rfl ?_)))))
      refine Uf Zg1 Zg2 rfl rfl rfl rfl (fun kT=>?_) (fun kT=>?_)
      ·have hpb:=abW hab (i:=j) (by omega)
       refine Ue rfl (ah [9,59,60,61] rfl (U3 (U2 Zg3 Zg4 rfl rfl rfl (Uc Yt 7 rfl rfl rfl (U2 Zg6 Yr rfl rfl rfl (U0 rfl (ag 0 1 rfl rfl (af 1 rfl (Ul (C:=(di 53)) j rfl rfl rfl CY (by first|rfl|omega) hr1 (by first|omega|(simp only[ls];omega))) ?_))))))))
       obtain⟨AZ,mJ⟩:=hd1.2 j (by first|omega|(simp only[ls];omega))
       have al8:(ga (cz d) j).length*8<=140737488355328:=mJ.room
       refine af 2 rfl (U4 rfl rfl dY rfl (hr1.cell bW.m (i:=j) (by first|omega|(simp only[ls];omega)) 0 rfl (congrArg (fun n=>some (Value.slice _ n _)) AZ))) ?_
       refine ag 3 2 rfl rfl (U5 rfl (ah [9,59,60,61,12,13] rfl (U3 (U2 Zg8 Yq rfl rfl rfl (U0 rfl (ag 0 2 rfl rfl (af 2 rfl (Uj (C:=Uv) (i:=0) j rfl rfl rfl bA bW rfl (by first|rfl|omega) (by first|omega|(simp only[ls];omega))) ?_)))))))
       refine af 3 rfl (U4 rfl rfl av rfl (bW.dW (i:=0) (e:=j) (j:=0) rfl (by first|omega|(simp only[ls];omega)) rfl rfl)) ?_
       refine ag 4 1 rfl rfl (af 5 rfl (cU rfl rfl rfl rfl rfl rfl dY) (af 6 rfl (Ug rfl rfl rfl (by first|omega|(simp only[ls];omega))) ?_))
       refine af 7 rfl (jL rfl rfl rfl) (U5 rfl (ah [9,59,60,61,73] rfl (U3 ?_)))
       refine Uf Yp Zgb rfl rfl rfl rfl (fun Jq=>?_) (fun Jq=>?_)
       ·refine U2 Zgc Zgd rfl rfl rfl (U0 rfl (ag 0 1 rfl rfl (U5 rfl (ah [2] rfl (U3 (Uk hC [_] rfl rfl ⟨rfl,trivial⟩ ?_))))))
        refine⟨_,rfl,_,aL.trans cE,(bW.pick [] [] (by decide) trivial),?_⟩
        refine congrArg Value.bool (ajT (i:=j) (by omega) ?_).symm
        rw[<-Jl];omega
       ·refine Ue rfl (bj (ah [9,59,60,61] rfl (U3 (U0 rfl (af 0 rfl (Ug rfl rfl rfl (by first|omega|(simp only[ls];omega))) ?_)))))
        refine ag 1 1 rfl rfl (U5 rfl (aO ?_))
        intro au aq
        refine⟨_,?lK,⟨j+1,rfl,aq.sub ⟨rfl,rfl,rfl,rfl,trivial⟩,bW.pick [0] [_] (by decide) ⟨rfl,trivial⟩,?jC,?lB⟩⟩
        case jC=>omega
        case lB=>(intro q hq;by_cases h:q=j;(subst h;omega);exact hall q (by omega))
        case lK=>omega
      ·refine bP rfl rfl (bN [] trivial (U3 (U2 Zge Zgf rfl rfl rfl (U0 rfl (ag 0 1 rfl rfl (U5 rfl (U3 (Uk hC [_] rfl rfl ⟨rfl,trivial⟩ ?_))))))))
       refine⟨_,rfl,_,aL.trans cE,(bW.pick [] [] (by decide) trivial),?_⟩
       exact congrArg Value.bool (abU (d:=d) (fun q hq=>by rw[<-Jl];exact hall q (by omega))).symm
end Go.Proofs.YthppkofceancjaaGreat
namespace Go.Proofs.YthppkofceancjaaGreat
open Go.ChangeShapes Go.WideShapes Go.ChangeAt Go.RowKit
def mO(e1 e2:Nat->Nat)(ws:List Int):Nat->List Int
 |0=>ws
 |k+1=>jQ (mO e1 e2 ws k) (e1 k) (e2 k)
def cn(P:Nat->Bool):Nat->Nat
 |0=>0
 |k+1=>cn P k+(if P k=true then 1 else 0)
theorem wY(P:Nat->Bool)(k:Nat):cn P k<=k:=by
 induction k with
 |zero=>exact Nat.le_refl _
 |succ k ih=>rw[cn];split<;>omega
theorem akl{P Q:Nat->Bool}(k:Nat)(h:∀x,x<k->P x=true->Q x=true):cn P k<=cn Q k:=by
 induction k with
 |zero=>exact Nat.le_refl _
 |succ k ih=>
  have:=ih (fun x hx=>h x (by omega))
  rw[cn,cn]
  by_cases hp:P k=true
  ·rw[if_pos hp,if_pos (h k (by omega) hp)];omega
  ·rw[if_neg hp];omega
theorem anf{P Q:Nat->Bool}(k:Nat)(h:∀x,x<k->P x=true->Q x=true){x:Nat}(hx:x<k)(hq:Q x=true)(hp:P x=false):cn P k<cn Q k:=by
 induction k with
 |zero=>omega
 |succ k ih=>
  rw[cn,cn]
  by_cases e:x=k
  ·subst e
   have:=akl x (P:=P) (Q:=Q) (fun y hy=>h y (by omega))
   rw[if_pos hq,if_neg (by rw[hp];exact Bool.false_ne_true)];omega
  ·have:=ih (fun y hy=>h y (by omega)) (by omega)
   by_cases hp':P k=true
   ·rw[if_pos hp',if_pos (h k (by omega) hp')];omega
   ·rw[if_neg hp'];omega
theorem alA{P:Nat->Bool}(k:Nat)(h:k<=cn P k):∀x,x<k->P x=true:=by
 induction k with
 |zero=>intro x hx;omega
 |succ k ih=>
  rw[cn]at h
  have hl:=wY P k
  by_cases hp:P k=true
  ·intro x hx
   by_cases e:x=k
   ·subst e;exact hp
   ·rw[if_pos hp]at h;exact ih (by omega) x (by omega)
  ·rw[if_neg hp]at h;omega
theorem least{P:Nat->Prop}(y:Nat)(h:P y):∃z,P z/\∀u,P u->z<=u:=by
 induction y using Nat.strongRecOn with
 |_ y ih=>
  by_cases hs:∃u,u<y/\P u
  ·obtain⟨u,hu,hp⟩:=hs
   exact ih u hu hp
  ·exact⟨y,h,fun u hu=>by
    rcases Nat.lt_or_ge u y with h1|h1
    ·exact absurd ⟨u,h1,hu⟩ hs
    ·exact h1⟩
def wZ(N:Nat)(cl:Nat->Nat)(ws:List Int):Prop:=ws.length=N/\∀x,x<N->∃z:Nat,z<N/\ga ws x=(z:Int)/\cl z=cl x
theorem aiK{N:Nat}{cl:Nat->Nat}{ws:List Int}(h:wZ N cl ws){x y:Nat}(hx:x<N)(hy:y<N)(hc:cl x=cl y):wZ N cl (jQ ws x y):=by
 refine⟨by rw[F7];exact h.1,fun z hz=>?_⟩
 have hl:=h.1
 unfold jQ
 split
 ·rw[eU _ _ _ _ (by omega)]
  split
  ·rename_i e;subst e
   obtain⟨u,h1,h2,h3⟩:=h.2 x hx
   exact⟨u,h1,h2,h3.trans hc⟩
  ·exact h.2 z hz
 ·rw[eU _ _ _ _ (by omega)]
  split
  ·rename_i e;subst e
   obtain⟨u,h1,h2,h3⟩:=h.2 y hy
   exact⟨u,h1,h2,h3.trans hc.symm⟩
  ·exact h.2 z hz
theorem ahu{N:Nat}{cl:Nat->Nat}{m:Nat->Nat}(hm:∀x,x<N->∀y,y<N->cl y=cl x->m x<=y)(Ba:∀x y,x<N->y<N->cl x=cl y->m x=m y){ws:List Int}(h:wZ N cl ws){x y:Nat}(hx:x<N)(hy:y<N)(hc:cl x=cl y):
  (∀z,z<N->ga ws z=(m z:Int)->ga (jQ ws x y) z=(m z:Int))/\(ga ws x=(m x:Int)\/ga ws y=(m y:Int)->ga (jQ ws x y) x=(m x:Int)/\ga (jQ ws x y) y=(m y:Int)):=by
 have hl:=h.1
 have hmm:=Ba x y hx hy hc
 obtain⟨u,u1,u2,u3⟩:=h.2 x hx
 obtain⟨v,v1,v2,v3⟩:=h.2 y hy
 have b1:=hm x hx u u1 u3
 have b2:=hm y hy v v1 v3
 unfold jQ
 by_cases hlt:ga ws x<ga ws y
 ·rw[if_pos hlt]
  simp only[eU _ _ _ _ (show y<ws.length by omega)]
  refine⟨fun z hz hg=>?_,fun hg=>?_⟩
  ·split
   ·rename_i e;subst e;omega
   ·exact hg
  ·simp only[if_true,ite_self]
   have e0:ga ws x=(m x:Int):=by rcases hg with hg|hg<;>omega
   omega
 ·rw[if_neg hlt]
  simp only[eU _ _ _ _ (show x<ws.length by omega)]
  refine⟨fun z hz hg=>?_,fun hg=>?_⟩
  ·split
   ·rename_i e;subst e;omega
   ·exact hg
  ·simp only[if_true,ite_self]
   have e0:ga ws y=(m y:Int):=by rcases hg with hg|hg<;>omega
   omega
theorem labels{N K:Nat}(e1 e2:Nat->Nat)(he:∀k,k<K->e1 k<N/\e2 k<N)(cl:Nat->Nat)(hin:∀k,k<K->cl (e1 k)=cl (e2 k))
  (hcon:∀Z:Nat->Prop,(∀k,k<K->(Z (e1 k)<->Z (e2 k)))->∀x y,x<N->y<N->cl x=cl y->Z x->Z y)
  (ws:Nat->List Int)(hlen:(ws 0).length=N)(h0:∀x:Nat,x<N->ga (ws 0) x=(x:Int))(hs:∀j,ws (j+1)=mO e1 e2 (ws j) K):
  ∀x,x<N->∃z:Nat,z<N/\ga (ws N) x=(z:Int)/\cl z=cl x/\∀y,y<N->cl y=cl x->z<=y:=by
 have hex:∀x:Nat,∃z:Nat,x<N->(z<N/\cl z=cl x)/\∀u,u<N/\cl u=cl x->z<=u:=fun x=>by
  by_cases hx:x<N
  ·obtain⟨z,h1,h2⟩:=least (P:=fun z=>z<N/\cl z=cl x) x ⟨hx,rfl⟩
   exact⟨z,fun _=>⟨h1,h2⟩⟩
  ·exact⟨0,fun h=>absurd h hx⟩
 obtain⟨m,hm0⟩:=Classical.axiomOfChoice hex
 have hm:∀x,x<N->∀y,y<N->cl y=cl x->m x<=y:=fun x hx y hy e=>(hm0 x hx).2 y ⟨hy,e⟩
 have Ba:∀x y,x<N->y<N->cl x=cl y->m x=m y:=fun x y hx hy e=>by
  have h1:=hm0 x hx
  have h2:=hm0 y hy
  have:=h1.2 (m y) ⟨h2.1.1,h2.1.2.trans e.symm⟩
  have:=h2.2 (m x) ⟨h1.1.1,h1.1.2.trans e⟩
  omega
 have G7:∀w,wZ N cl w->∀k,k<=K->wZ N cl (mO e1 e2 w k)/\(∀z,z<N->ga w z=(m z:Int)->ga (mO e1 e2 w k) z=(m z:Int))/\
   ∀j,j<k->(ga w (e1 j)=(m (e1 j):Int)\/ga w (e2 j)=(m (e2 j):Int))->ga (mO e1 e2 w k) (e1 j)=(m (e1 j):Int)/\ga (mO e1 e2 w k) (e2 j)=(m (e2 j):Int):=fun w hw k=>by
  induction k with
  |zero=>exact fun _=>⟨hw,fun z _ h=>h,fun j hj=>by omega⟩
  |succ k ih=>
   intro hk
   obtain⟨a1,a2,a3⟩:=ih (by omega)
   obtain⟨p1,p2⟩:=he k (by omega)
   have hc:=hin k (by omega)
   obtain⟨g1,g2⟩:=ahu hm Ba a1 p1 p2 hc
   refine⟨aiK a1 p1 p2 hc,fun z hz h=>g1 z hz (a2 z hz h),fun j hj hg=>?_⟩
   obtain⟨q1,q2⟩:=he j (by omega)
   by_cases e:j=k
   ·subst e
    exact g2 (hg.elim (fun h=>.inl (a2 _ q1 h)) (fun h=>.inr (a2 _ q2 h)))
   ·obtain⟨r1,r2⟩:=a3 j (by omega) hg
    exact⟨g1 _ q1 r1,g1 _ q2 r2⟩
 have hok:∀j,wZ N cl (ws j):=fun j=>by
  induction j with
  |zero=>exact⟨hlen,fun x hx=>⟨x,hx,h0 x hx,rfl⟩⟩
  |succ j ih=>rw[hs];exact(G7 _ ih K (Nat.le_refl _)).1
 have C5:∀j z,z<N->ga (ws j) z=(m z:Int)->ga (ws (j+1)) z=(m z:Int):=fun j z hz h=>by rw[hs];exact(G7 _ (hok j) K (Nat.le_refl _)).2.1 z hz h
 have hroot:∀j x,x<N->ga (ws j) (m x)=(m (m x):Int):=fun j x hx=>by
  have h1:=(hm0 x hx).1
  have e:m (m x)=m x:=Ba _ _ h1.1 hx h1.2
  induction j with
  |zero=>rw[h0 _ h1.1,e]
  |succ j ih=>exact C5 j _ h1.1 ih
 have hgrow:∀j,(∀x,x<N->ga (ws j) x=(m x:Int))\/j<=cn (fun x=>decide (ga (ws j) x=(m x:Int))) N:=fun j=>by
  induction j with
  |zero=>exact .inr (Nat.zero_le _)
  |succ j ih=>
   rcases ih with ih|ih
   ·exact .inl fun x hx=>C5 j x hx (ih x hx)
   ·by_cases hnew:∃x,x<N/\ga (ws (j+1)) x=(m x:Int)/\ga (ws j) x≠(m x:Int)
    ·obtain⟨x,hx,h1,h2⟩:=hnew
     right
     have:=anf (P:=fun x=>decide (ga (ws j) x=(m x:Int))) (Q:=fun x=>decide (ga (ws (j+1)) x=(m x:Int))) N (fun z hz h=>decide_eq_true (C5 j z hz (of_decide_eq_true h))) hx (decide_eq_true h1) (decide_eq_false h2)
     omega
    ·left
     have hsame:∀x,x<N->ga (ws (j+1)) x=(m x:Int)->ga (ws j) x=(m x:Int):=fun x hx h=>Classical.byContradiction fun h'=>hnew ⟨x,hx,h,h'⟩
     have hcl:=hcon (fun x=>ga (ws j) x=(m x:Int)) (fun k hk=>by
      obtain⟨q1,q2⟩:=he k hk
      have h3:=(G7 _ (hok j) K (Nat.le_refl _)).2.2 k hk
      rw[<-hs]at h3
      exact⟨fun h=>hsame _ q2 (h3 (.inl h)).2,fun h=>hsame _ q1 (h3 (.inr h)).1⟩)
     intro x hx
     have h1:=(hm0 x hx).1
     exact C5 j x hx (hcl (m x) x h1.1 hx h1.2 (hroot j x hx))
 intro x hx
 have hall:ga (ws N) x=(m x:Int):=by
  rcases hgrow N with h|h
  ·exact h x hx
  ·exact of_decide_eq_true (alA N h x hx)
 have h1:=hm0 x hx
 exact⟨m x,h1.1.1,hall,h1.1.2,fun y hy e=>h1.2 y ⟨hy,e⟩⟩
end Go.Proofs.YthppkofceancjaaGreat
namespace Go.Proofs.YthppkofceancjaaGreat
open Go.ChangeShapes Go.WideShapes Go.ChangeAt Go.RowKit
theorem ack{d:Dg}(h:aN d=true){x s:Nat}(hx:x<d.ae.length)(hs:s<4):∃k,k<2*d.ae.length/\((eP d k false=x/\eP d k true=fS d x s)\/(eP d k true=x/\eP d k false=fS d x s)):=by
 have ha:=eO h hx hs
 have e:(((Uq d x s).toNat-1+1:Nat):Int)=Uq d x s:=by omega
 refine⟨(Uq d x s).toNat-1,by omega,?_⟩
 unfold eP fS
 rw[e]
 cases hb:Uz d x s
 ·right
  exact⟨by rw[pz h hx hs (b:=true) hb],rfl⟩
 ·left
  exact⟨by rw[pz h hx hs (b:=false) hb],rfl⟩
theorem ab2{d:Dg}(h:aN d=true){k:Nat}(hk:k<2*d.ae.length):∃s,s<4/\fS d (eP d k false) s=eP d k true:=by
 have ha:1<=((k+1:Nat):Int)/\((k+1:Nat):Int)<=2*(d.ae.length:Int):=by omega
 obtain⟨_,h2,_⟩:=eF h ha false
 obtain⟨h3,h4⟩:=pE h ha false
 refine⟨(Ud d ((k+1:Nat):Int) false).2,h2,?_⟩
 unfold fS eP
 rw[h3,h4]
 rfl
theorem acK{d:Dg}(h:aN d=true){x s:Nat}(hx:x<d.ae.length)(hs:s<4):cG d (fS d x s)=cG d x:=by
 obtain⟨h1,h2,_⟩:=ud h hx
 exact(yY h h1 ((rq h).Fy _ h1 _ h2 s hs)).2
theorem GI(n k:Nat)(hk:k<=n)(x:Nat)(hx:x<k):ga (iniW n k) x=(x:Int):=by
 induction k with
 |zero=>omega
 |succ k ih=>
  rw[iniW,eU _ _ _ _ (by rw[tK];omega)]
  split
  ·rename_i e;subst e;rfl
  ·exact ih (by omega) (by omega)
theorem aiU(d:Dg)(ws:List Int)(k:Nat):tZ d ws k=mO (fun j=>eP d j false) (fun j=>eP d j true) ws k:=by
 induction k with
 |zero=>rfl
 |succ k ih=>rw[tZ,mO,ih]
theorem ama{d:Dg}(h:aN d=true){x y:Nat}(hr:Rc d x y)(hx:x<d.ae.length):y<d.ae.length:=by
 induction hr with
 |refl=>exact hx
 |step _ hk ih=>exact CN h ih hk
theorem aal{d:Dg}(h:aN d=true)(Z:Nat->Prop)(hZ:∀x s,x<d.ae.length->s<4->(Z x<->Z (fS d x s))){x y:Nat}(hx:x<d.ae.length)(hy:y<d.ae.length)(e:cG d x=cG d y):Z x->Z y:=by
 have hrc:∀c z,c<d.ae.length->Rc d c z->(Z c<->Z z):=fun c z hc hr=>by
  induction hr with
  |refl=>exact Iff.rfl
  |step hr' hk ih=>exact ih.trans (hZ _ _ (ama h hr' hc) hk)
 obtain⟨h1,h2,_⟩:=ud h hx
 obtain⟨_,h2',_⟩:=ud h hy
 rw[<-e]at h2'
 obtain⟨_,c0,hc0,_,hel⟩:=(rq h).el _ h1
 obtain⟨u,eu,_,ru⟩:=hel _ h2
 obtain⟨v,ev,_,rv⟩:=hel _ h2'
 obtain rfl:x=u:=by omega
 obtain rfl:y=v:=by omega
 exact fun hz=>(hrc _ _ hc0 rv).1 ((hrc _ _ hc0 ru).2 hz)
theorem yG{d:Dg}(h:aN d=true):∀x,x<d.ae.length->∃z:Nat,z<d.ae.length/\ga (fK d) x=(z:Int)/\cG d z=cG d x/\∀y,y<d.ae.length->cG d y=cG d x->z<=y:=
 labels (N:=d.ae.length) (K:=2*d.ae.length) (fun j=>eP d j false) (fun j=>eP d j true) (fun k hk=>⟨wF h hk false,wF h hk true⟩) (cG d)
  (fun k hk=>by
   obtain⟨s,hs,e⟩:=ab2 h hk
   rw[<-e,acK h (wF h hk false) hs])
  (fun Z hZ x y hx hy e=>aal h Z (fun u s hu hs=>by
   obtain⟨k,hk,hh⟩:=ack h hu hs
   have:=hZ k hk
   rcases hh with⟨h1,h2⟩|⟨h1,h2⟩
   ·rw[h1,h2]at this;exact this
   ·rw[h1,h2]at this;exact this.symm) hx hy e)
  (uu d) (BK d 0) (fun x hx=>GI _ _ (Nat.le_refl _) x hx) (fun j=>by rw[uu,aiU])
theorem abb{d:Dg}(h:aN d=true){x z:Nat}(hx:x<d.ae.length)(hz:ga (fK d) x=(z:Int)):z<d.ae.length/\cG d z=cG d x/\ga (fK d) z=(z:Int):=by
 obtain⟨u,h1,h2,h3,h4⟩:=yG h x hx
 obtain rfl:z=u:=by omega
 obtain⟨v,g1,g2,g3,g4⟩:=yG h z h1
 have a1:=g4 z h1 rfl
 have a2:=h4 v g1 (g3.trans h3)
 obtain rfl:v=z:=by omega
 exact⟨h1,h3,g2⟩
theorem abH{d:Dg}(h:aN d=true){p:Nat}(hp:p<d.ae.length)(hr:ga (fK d) p=(p:Int)){x:Nat}(hx:x<d.ae.length):ga (fK d) x=(p:Int)<->cG d x=cG d p:=by
 constructor
 ·intro e
  exact(abb h hx e).2.1.symm
 ·intro e
  obtain⟨u,h1,h2,h3,h4⟩:=yG h x hx
  obtain⟨v,g1,g2,g3,g4⟩:=yG h p hp
  obtain rfl:v=p:=by omega
  have a1:=h4 v hp e.symm
  have a2:=g4 u h1 (h3.trans e)
  rw[h2]
  omega
theorem p9{P Q:Nat->Bool}(k:Nat)(h:∀x,x<k->P x=Q x):cn P k=cn Q k:=by
 induction k with
 |zero=>rfl
 |succ k ih=>rw[cn,cn,ih (fun x hx=>h x (by omega)),h k (by omega)]
theorem tM(P:Nat->Bool)(k:Nat):cn P k=((List.range k).filter P).length:=by
 induction k with
 |zero=>rfl
 |succ k ih=>
  rw[cn,ih,List.range_succ,List.filter_append,List.length_append]
  by_cases hp:P k=true<;>simp[hp]
theorem aj4(ws:List Int)(p:Int)(k:Nat):negW ws p k=-(cn (fun x=>decide (ga ws x=p)) k:Int):=by
 induction k with
 |zero=>rfl
 |succ k ih=>
  rw[negW,cn,ih]
  by_cases e:ga ws k=p
  ·rw[if_pos e,if_pos (decide_eq_true e)];omega
  ·rw[if_neg e,if_neg (by simpa using e)];omega
theorem akb(d:Dg)(ws:List Int)(p m:Int)(k:Nat):lR d ws p m k=m+(cn (fun x=>decide (ga ws (ia d x)=p)) k:Int):=by
 induction k with
 |zero=>rw[lR,cn];omega
 |succ k ih=>
  rw[lR,cn,ih]
  by_cases e:ga ws (ia d k)=p
  ·rw[if_pos e,if_pos (decide_eq_true e)];omega
  ·rw[if_neg e,if_neg (by simpa using e)];omega
theorem acU(d:Dg)(i:Nat)(hi:i<(cz d).length)(k:Nat):ga (jw d k) i=(cn (fun x=>decide (cG d (ia d x)=i)) k:Int):=by
 induction k with
 |zero=>rw[jw,wO _ _ _ hi];rfl
 |succ k ih=>
  rw[jw,cn]
  by_cases e:cG d (ia d k)=i
  ·rw[if_pos (decide_eq_true e),e,eU _ _ _ _ (by rw[GM];exact hi),if_pos rfl,ih];omega
  ·rw[if_neg (by simpa using e),aaX _ _ _ _ e,ih];omega
theorem abo{d:Dg}(h:aN d=true){i:Nat}(hi:i<(cz d).length):(ga (cz d) i).length=cn (fun x=>decide (cG d x=i)) d.ae.length:=by
 rw[tM]
 obtain⟨h1,c0,_,_,h2⟩:=(rq h).el i hi
 have hn:((List.range d.ae.length).filter (fun x=>decide (cG d x=i))).Nodup:=List.Nodup.sublist (List.filter_sublist) List.nodup_range
 apply Nat.le_antisymm
 ·have h3:=wy (ys:=((List.range d.ae.length).filter (fun x=>decide (cG d x=i))).map fun x:Nat=>(x:Int)) h1 (fun y hy=>by
   obtain⟨z,rfl,hz,_⟩:=h2 y hy
   exact List.mem_map.2 ⟨z,List.mem_filter.2 ⟨List.mem_range.2 hz,decide_eq_true (yY h hi hy).2⟩,rfl⟩)
  rw[List.length_map]at h3
  exact h3
 ·have hn':(((List.range d.ae.length).filter (fun x=>decide (cG d x=i))).map fun x:Nat=>(x:Int)).Nodup:=by
   rw[List.nodup_iff_pairwise_ne,List.pairwise_map]
   exact List.Pairwise.imp (fun hab e=>hab (by omega)) hn
  have h3:=wy (ys:=ga (cz d) i) hn' (fun y hy=>by
   obtain⟨z,hz,rfl⟩:=List.mem_map.1 hy
   obtain⟨hz1,hz2⟩:=List.mem_filter.1 hz
   obtain⟨_,g2,_⟩:=ud h (List.mem_range.1 hz1)
   rw[of_decide_eq_true hz2]at g2
   exact g2)
  rw[List.length_map]at h3
  exact h3
theorem aat{d:Dg}(h:aN d=true){p:Nat}(hp:p<d.ae.length)(hr:ga (fK d) p=(p:Int)):cG d p<(cz d).length/\
  (lR d (fK d) p (negW (fK d) p d.ae.length) (U7 d).length=2<->ga (jw d (U7 d).length) (cG d p)=((ga (cz d) (cG d p)).length:Int)+2):=by
 obtain⟨h1,_,_⟩:=ud h hp
 refine⟨h1,?_⟩
 rw[akb,aj4,acU d _ h1,abo h h1]
 have e1:cn (fun x=>decide (ga (fK d) x=(p:Int))) d.ae.length=cn (fun x=>decide (cG d x=cG d p)) d.ae.length:=p9 _ fun x hx=>decide_eq_decide.2 (abH h hp hr hx)
 have e2:cn (fun x=>decide (ga (fK d) (ia d x)=(p:Int))) (U7 d).length=cn (fun x=>decide (cG d (ia d x)=cG d p)) (U7 d).length:=p9 _ fun x hx=>decide_eq_decide.2 (abH h hp hr (HF h hx))
 rw[e1,e2]
 omega
theorem aav{d:Dg}(h:aN d=true):rV d=oF d:=by
 rw[Bool.eq_iff_iff]
 constructor
 ·intro hp
  apply abU
  intro i hi
  obtain⟨_,c0,hc0,hm,_⟩:=(rq h).el i hi
  have e0:=(yY h hi hm).2
  obtain⟨z,_,hz,_⟩:=yG h c0 hc0
  obtain⟨r1,r2,r3⟩:=abb h hc0 hz
  have hq:=List.all_eq_true.1 hp z (List.mem_range.2 r1)
  unfold qp at hq
  rw[Bool.or_eq_true]at hq
  rcases hq with hq|hq
  ·exact absurd r3 (of_decide_eq_true hq)
  ·have:=(aat h r1 r3).2.1 (of_decide_eq_true hq)
   rw[r2,e0]at this
   exact this
 ·intro hp
  apply abn
  intro p rz
  unfold qp
  rw[Bool.or_eq_true]
  by_cases hr:ga (fK d) p=(p:Int)
  ·right
   obtain⟨h1,h2⟩:=aat h rz hr
   have hq:=List.all_eq_true.1 hp _ (List.mem_range.2 h1)
   exact decide_eq_true (h2.2 (of_decide_eq_true hq))
  ·left
   exact decide_eq_true hr
end Go.Proofs.YthppkofceancjaaGreat
namespace Go.Proofs.YthppkofceancjaaGreat
open Go.ChangeShapes Go.WideShapes Go.ChangeAt Go.RowKit
theorem uM{d:Dg}(h:gB d=true):d.ae.length<=16/\aN d=true/\0<=d.loops/\d.loops<=16:=by
 rw[aaO,Bool.and_eq_true,decide_eq_true_iff]at h
 exact⟨h.1.1,h.2,h.1.2.1,h.1.2.2.1⟩
def DgR(d:Dg)(u:Value)(M:Hp):Prop:=∃A c,u=.agg [.slice A d.ae.length c,.int .i64 d.loops].toArray/\aG aF M A c d.ae
noncomputable def Yo:=Tryz.f9.body.getD .skip
def Zgh:=cL Yo
def Yn:=cR Yo
def Zgj:=cL Yn
def Ym:=cR Yn
def Zgl:=cL Ym
def Zgm:=cR Ym
set_option maxRecDepth 10000 in
theorem ahr{w:World}{M:Hp}{X:Fr}(d:Dg){aV:Option Addr}{aU:Nat}(az:aG aF (M.un X.h) aV aU d.ae)(S:SH w M X []):Ct Tryz.prog 9 [.agg [.slice aV d.ae.length aU,.int .i64 d.loops].toArray] w M X (DgR d):=by
 unfold Ct
 have gV:d.ae.length*40<=140737488355328:=az.room
 have hroom:d.ae.length*40<=140737488355328:=az.room
 refine Up (b:=Yo) Tryz.func9 rfl Tryz.ntmps9 rfl (fun C hC=>(bq [(0,_)] ⟨rfl,trivial⟩ (U2 Zgh Yn rfl rfl rfl (U0 rfl (ak 0 1 rfl rfl rfl (bE (l:=[_,_]) rfl rfl rfl rfl rfl S ?_))))))
 intro aI w1 S1;clear S
 refine ak 1 2 rfl rfl rfl (Uh (l:=[_,_]) rfl rfl rfl fR rfl S1 ?_)
 intro aQ w2 S2;clear S1
 refine U5 rfl (ah [1,2] rfl (U3 (U2 Zgj Ym rfl rfl rfl (U0 rfl (af 0 rfl (U1 rfl rfl ay rfl (bK) (bJ)) (af 1 rfl (U4 rfl rfl bt rfl (S2.ar (i:=1) rfl rfl)) ?_))))))
 have S3:=S2.nH aF;clear S2
 refine ak 2 3 rfl rfl rfl (aao (C:=aF) (i:=0) rfl rfl rfl rfl rfl rfl rfl rfl cD S3 rfl az S3.um (by have h:_*40<=_:=az.room;show(0+_)*40<=_;first|omega|(simp only[ls];omega)) ?_)
 intro Fe w3 S4;clear S3
 change SH _ _ _ [Rs.row aF Fe d.ae,_,_]at S4
 refine af 3 rfl (U1 rfl rfl ay rfl (bK) (bJ)) (ak 4 5 rfl rfl rfl (U6 (i:=2) (us:=[_]) (l':=[_,_]) (H':=[_,_,_]) rfl rfl S4 rfl rfl rfl (S4.ke (i:=0) rfl) mv rfl (dD (S4.one (i:=0) rfl) rfl) rfl rfl ?_))
 intro w4 S5;clear S4
 refine U5 rfl (ah [1,2] rfl (U3 (U2 Zgl Zgm rfl rfl rfl (U0 rfl (af 0 rfl (U8 (us:=[_,_]) rfl rfl ay rfl aA (S5.aw (i:=2) rfl ⟨rfl,rfl,trivial⟩)) (ak 1 2 rfl rfl rfl (U6 (i:=1) (us:=[_,_]) (l':=[_,_]) (H':=[_,_,_]) rfl rfl S5 rfl rfl rfl rfl aA rfl (dD (S5.one (i:=0) rfl) (dD rfl rfl)) rfl rfl ?_)))))))
 intro w5 S6;clear S5
 refine U5 rfl (ah [2] rfl (U3 ?_))
 obtain⟨M1,aL,S7,⟨A1,c1,e1,hr1⟩⟩:=S6.fZ (i:=0) (H':=[_,_,_]) rfl rfl (by show _*40<=_;first|omega|(simp only[ls];omega))
 clear S6;subst e1
 replace az:=az.mono (Hp.Ua aL S7.mx)
 refine Uk hC [_] rfl rfl ⟨⟨_,rfl,Um (us:=[_,_]) ay rfl aA (S7.aw (i:=1) rfl ⟨rfl,rfl,trivial⟩)⟩,trivial⟩ ?_
 refine⟨_,rfl,_,aL,(S7.pick [] [] (by decide) trivial),?_⟩
 exact⟨_,_,rfl,hr1⟩
end Go.Proofs.YthppkofceancjaaGreat
namespace Go.Proofs.YthppkofceancjaaGreat
open Go.ChangeShapes Go.WideShapes Go.ChangeAt Go.RowKit
section
variable {P : Program} {o : Oper} {L : List (Nat × Value)} {w : World} {a b : Int}
theorem ajK{ca:Call}{ops:List Operand}{ts:List TypeId}(hop:o.op=.call ca)(cJ:ca.callee=.builtin .min)(hxs:ca.args=ops.toArray)(hts:ca.argTypes=ts.toArray)(hx:oevs L ops=some [.int .i64 a,.int .i64 b]):Run P o L w (.int .i64 (min a b)) w:=by
 intro n c he
 have e:(if b<a then b else a)=min a b:=by
  by_cases h:b<a
  ·rw[if_pos h];omega
  ·rw[if_neg h];omega
 unfold execOp
 simp only[hop,resolve,cJ,hxs,hts,List.map_toArray,he.lF hx,Sem.run_bind,Sem.run_pure,Result.andThen_ok,invoke,builtin,Builtin.min_,List.foldlM_cons,List.foldlM_nil,Builtin.min2,e]
end
def relN(cl:List Int)(f t:Int):Nat->List Int
 |0=>cl
 |a+1=>if ga (relN cl f t a) a=f then(relN cl f t a).set a t else relN cl f t a
theorem Ca(cl:List Int)(f t:Int)(a:Nat):(relN cl f t a).length=cl.length:=by
 induction a with
 |zero=>rfl
 |succ a ih=>rw[relN];split<;>(try rw[List.length_set])<;>exact ih
theorem abS(cl:List Int)(f t:Int)(a:Nat)(ha:a<=cl.length):∀x,ga (relN cl f t a) x=if x<a/\ga cl x=f then t else ga cl x:=by
 induction a with
 |zero=>intro x;rw[if_neg (by omega)];rfl
 |succ a ih=>
  have ih:=ih (by omega)
  have ha0:ga (relN cl f t a) a=ga cl a:=by rw[ih,if_neg (by omega)]
  intro x
  rw[relN,ha0]
  split
  ·rename_i e
   rw[eU _ _ _ _ (by rw[Ca];omega)]
   split
   ·rename_i e2;subst e2
    rw[if_pos ⟨by omega,e⟩]
   ·rw[ih]
    by_cases h9:x<a/\ga cl x=f
    ·rw[if_pos h9,if_pos ⟨by omega,h9.2⟩]
    ·rw[if_neg h9,if_neg (fun h=>h9 ⟨by omega,h.2⟩)]
  ·rename_i e
   rw[ih]
   by_cases h9:x<a/\ga cl x=f
   ·rw[if_pos h9,if_pos ⟨by omega,h9.2⟩]
   ·rw[if_neg h9,if_neg (fun(h:x<a+1/\ga cl x=f)=>by
     by_cases h8:x=a
     ·subst h8;exact e h.2
     ·exact h9 ⟨by omega,h.2⟩)]
def xe(N:Nat)(cl:List Int):Prop:=cl.length=N/\∀x,x<N->0<=ga cl x/\ga cl x<=x/\ga cl (ga cl x).toNat=ga cl x
theorem ajZ{N:Nat}{cl R9:List Int}{f t:Int}(hok:xe N cl)(hl:R9.length=N)(hg:∀x,x<N->ga R9 x=if ga cl x=f then t else ga cl x)(hft:t<=f)(h0:0<=t)(hti:ga cl t.toNat=t):xe N R9:=by
 refine⟨hl,fun x hx=>?_⟩
 obtain⟨x1,x2,x3⟩:=hok.2 x hx
 have e:=hg x hx
 by_cases hf:ga cl x=f
 ·rw[if_pos hf]at e
  rw[e]
  refine⟨h0,by omega,?_⟩
  rw[hg _ (by omega)]
  split
  ·rfl
  ·exact hti
 ·rw[if_neg hf]at e
  rw[e]
  refine⟨x1,x2,?_⟩
  rw[hg _ (by omega),x3,if_neg hf]
theorem aas(e1 e2:Nat->Nat)(ws:List Int)(k:Nat):(mO e1 e2 ws k).length=ws.length:=by
 induction k with
 |zero=>rfl
 |succ k ih=>rw[mO,F7,ih]
noncomputable def Yl:=Tryz.f76.body.getD .skip
def Zgo:=cL Yl
def Yk:=cR Yl
def Zgq:=cL Yk
def Zgr:=cR Yk
set_option maxRecDepth 10000 in
theorem aj6{w:World}{M:Hp}{X:Fr}(Rl:Value)(ws:List Int)(i:Int)(j:Int)(hi:0<=i/\i<(ws.length:Int))(hj:0<=j/\j<(ws.length:Int))(S:SH w M X [Rs.row Uv Rl ws]):C1 Tryz.prog 76 [Rl,.int .i64 i,.int .i64 j] w M X (fun u M' r'=>u=tup []/\M'=M/\r'=Rs.row Uv Rl (jQ ws i.toNat j.toNat)):=by
 unfold C1
 refine Up (b:=Yl) Tryz.func76 rfl Tryz.ntmps76 rfl (fun C hC=>(bq [(0,_),(1,_),(2,_)] ⟨rfl,rfl,rfl,trivial⟩ (U2 Zgo Yk rfl rfl rfl (bM rfl (by kernel_rfl) S 9 rfl ?_))))
 clear S
 refine ai 0 8 rfl (by kernel_rfl) (fun _=>run_move rfl rfl) ?_
 refine ai 1 7 rfl (by kernel_rfl) (fun _=>run_move rfl rfl) ?_
 refine aj 2 6 rfl (by kernel_rfl) (fun _ _ _ hz Sz=>.inl (Uj (C:=Uv) (i:=0) i.toNat rfl rfl rfl bA Sz.suf rfl (by first|rfl|omega) (by first|omega|(simp only[ls];omega)))) ?_
 refine aj 3 5 rfl (by kernel_rfl) (fun _ _ _ hz Sz=>.inl (U4 rfl rfl av rfl (Sz.suf.dW (i:=0) (e:=i.toNat) (j:=0) rfl (by first|omega|(simp only[ls];omega)) rfl rfl))) ?_
 refine ai 4 4 rfl (by kernel_rfl) (fun _=>run_move rfl rfl) ?_
 refine ai 5 3 rfl (by kernel_rfl) (fun _=>run_move rfl rfl) ?_
 refine aj 6 2 rfl (by kernel_rfl) (fun _ _ _ hz Sz=>.inl (Uj (C:=Uv) (i:=0) j.toNat rfl rfl rfl bA Sz.suf rfl (by first|rfl|omega) (by first|omega|(simp only[ls];omega)))) ?_
 refine aj 7 1 rfl (by kernel_rfl) (fun _ _ _ hz Sz=>.inl (U4 rfl rfl av rfl (Sz.suf.dW (i:=0) (e:=j.toNat) (j:=0) rfl (by first|omega|(simp only[ls];omega)) rfl rfl))) ?_
 refine ai 8 0 rfl (by kernel_rfl) (fun _=>bS rfl rfl rfl) ?_
 refine Uu (by kernel_rfl) (fun jT bw=>?_)
 refine ah [0,1,2,14] rfl (U3 ?_)
 refine Uf Zgq Zgr rfl rfl rfl rfl (fun iq=>?_) (fun iq=>?_)
 ·refine U0 rfl (ag 0 4 rfl rfl (af 4 rfl (Uj (C:=Uv) (i:=0) i.toNat rfl rfl rfl bA bw rfl (by first|rfl|omega) (by first|omega|(simp only[ls];omega))) ?_))
  refine af 5 rfl (U4 rfl rfl av rfl (bw.dW (i:=0) (e:=i.toNat) (j:=0) rfl (by first|omega|(simp only[ls];omega)) rfl rfl)) ?_
  refine af 6 rfl (Uj (C:=Uv) (i:=0) j.toNat rfl rfl rfl bA bw rfl (by first|rfl|omega) (by first|omega|(simp only[ls];omega))) ?_
  refine ak 7 8 rfl rfl rfl (ig (C:=Uv) (i:=0) (e:=j.toNat) (j:=0) (us:=[_]) (H':=[_]) (ga ws i.toNat) rfl rfl bw rfl (by first|omega|(simp only[ls];omega)) rfl rfl rfl bg rfl rfl rfl rfl ?_)
  intro kV bW;clear bw
  refine U5 rfl (iC hC [] rfl trivial ?_)
  exact⟨_,rfl,_,_,Hp.le_refl _,bW.pick [0] [_] (by decide) ⟨rfl,trivial⟩,⟨rfl,rfl,by unfold jQ;first|rw[if_pos (by assumption)]|rw[if_neg (by assumption)]⟩⟩
 ·refine U0 rfl (ag 0 4 rfl rfl (af 4 rfl (Uj (C:=Uv) (i:=0) j.toNat rfl rfl rfl bA bw rfl (by first|rfl|omega) (by first|omega|(simp only[ls];omega))) ?_))
  refine af 5 rfl (U4 rfl rfl av rfl (bw.dW (i:=0) (e:=j.toNat) (j:=0) rfl (by first|omega|(simp only[ls];omega)) rfl rfl)) ?_
  refine af 6 rfl (Uj (C:=Uv) (i:=0) i.toNat rfl rfl rfl bA bw rfl (by first|rfl|omega) (by first|omega|(simp only[ls];omega))) ?_
  refine ak 7 8 rfl rfl rfl (ig (C:=Uv) (i:=0) (e:=i.toNat) (j:=0) (us:=[_]) (H':=[_]) (ga ws j.toNat) rfl rfl bw rfl (by first|omega|(simp only[ls];omega)) rfl rfl rfl bg rfl rfl rfl rfl ?_)
  intro lU bV;clear bw
  refine U5 rfl (iC hC [] rfl trivial ?_)
  exact⟨_,rfl,_,_,Hp.le_refl _,bV.pick [0] [_] (by decide) ⟨rfl,trivial⟩,⟨rfl,rfl,by unfold jQ;first|rw[if_pos (by assumption)]|rw[if_neg (by assumption)]⟩⟩
end Go.Proofs.YthppkofceancjaaGreat
namespace Go.Proofs.YthppkofceancjaaGreat
open Go.ChangeShapes Go.WideShapes Go.ChangeAt Go.RowKit
def iM(x:Cr):Int×Int:=if x.plus=true then(x.d,x.b)else(x.b,x.d)
noncomputable def Yj:=Tryz.f139.body.getD .skip
def Zgt:=cL Yj
def Yi:=cR Yj
def Yh:=cL Yi
def Yg:=cR Yi
def Zgx:=cL Yh
def Ye:=cR Yh
def Yd:=cL Ye
def Zh0:=cR Ye
def Zh1:=cL Yd
def Zh2:=cR Yd
def Zh3:=cL Yg
def Zh4:=cR Yg
set_option maxRecDepth 10000 in
theorem akF{w:World}{M:Hp}{X:Fr}(x:Cr)(S:SH w M X []):Cq Tryz.prog 139 [.agg [.int .i64 x.a,.int .i64 x.b,.int .i64 x.c,.int .i64 x.d,.bool x.plus].toArray] w M X (fun u=>u=.agg [.int .i64 (iM x).1,.int .i64 (iM x).2].toArray):=by
 unfold Cq
 refine Up (b:=Yj) Tryz.func139 rfl Tryz.ntmps139 rfl (fun C hC=>(bq [(0,_)] ⟨rfl,trivial⟩ (U2 Zgt Yi rfl rfl rfl (U0 rfl (ak 0 1 rfl rfl rfl (bE (l:=[_,_,_,_,_]) rfl rfl rfl rfl rfl S ?_))))))
 intro aI w1 S1;clear S
 refine ak 1 2 rfl rfl rfl (Uh (l:=[_,_]) rfl rfl rfl kL rfl S1 ?_)
 intro aQ w2 S2;clear S1
 refine U5 rfl (ah [1,2] rfl (U3 (U2 Yh Yg rfl rfl rfl (U2 Zgx Ye rfl rfl rfl (U0 rfl (af 0 rfl (U1 rfl rfl aW rfl (gI) (gH)) (af 1 rfl (U4 rfl rfl dL rfl (S2.ar (i:=1) rfl rfl)) (U5 rfl ?_))))))))
 refine ah [1,2,4] rfl (U3 ?_)
 refine dN Yd Zh0 rfl rfl rfl rfl (fun hb4=>?_) (fun hb4=>?_)
 ·refine U2 Zh1 Zh2 rfl rfl rfl (U0 rfl (af 0 rfl (U1 rfl rfl aW rfl (aC) (aB)) (af 1 rfl (U4 rfl rfl av rfl (S2.ar (i:=1) rfl rfl)) (af 2 rfl (U1 rfl rfl aW rfl (aC) (aB)) (af 3 rfl (U4 rfl rfl av rfl (S2.ar (i:=1) rfl rfl)) (af 4 rfl (jN (l:=[_,_]) (pl:=[(0,1),(1,1)]) rfl rfl fB kL bg rfl rfl rfl) (ak 5 6 rfl rfl rfl (U6 (i:=0) (us:=[_,_]) (l':=[_,_]) (H':=[_,_]) rfl rfl S2 rfl rfl rfl rfl gh rfl rfl rfl rfl ?_))))))))
  intro w3 S3;clear S2
  refine U5 rfl (ah [2] rfl (U3 (Uk hC [_] rfl rfl ⟨⟨_,rfl,Um (us:=[_,_]) fB rfl gh (S3.aw (i:=0) rfl ⟨rfl,rfl,trivial⟩)⟩,trivial⟩ ?_)))
  exact⟨_,rfl,(S3.pick [] [] (by decide) trivial),(by show Value.agg _=_;unfold iM;first|rw[if_pos (by assumption)]|rw[if_neg (by simp[*])])⟩
 ·refine Ue rfl (ah [1,2] rfl (U3 (U2 Zh3 Zh4 rfl rfl rfl (U0 rfl (af 0 rfl (U1 rfl rfl aW rfl (aC) (aB)) (af 1 rfl (U4 rfl rfl av rfl (S2.ar (i:=1) rfl rfl)) (af 2 rfl (U1 rfl rfl aW rfl (aC) (aB)) (af 3 rfl (U4 rfl rfl av rfl (S2.ar (i:=1) rfl rfl)) ?_))))))))
  refine af 4 rfl (jN (l:=[_,_]) (pl:=[(0,1),(1,1)]) rfl rfl fB kL bg rfl rfl rfl) (ak 5 6 rfl rfl rfl (U6 (i:=0) (us:=[_,_]) (l':=[_,_]) (H':=[_,_]) rfl rfl S2 rfl rfl rfl rfl gh rfl rfl rfl rfl ?_))
  intro w4 S4;clear S2
  refine U5 rfl (ah [2] rfl (U3 (Uk hC [_] rfl rfl ⟨⟨_,rfl,Um (us:=[_,_]) fB rfl gh (S4.aw (i:=0) rfl ⟨rfl,rfl,trivial⟩)⟩,trivial⟩ ?_)))
  exact⟨_,rfl,(S4.pick [] [] (by decide) trivial),(by show Value.agg _=_;unfold iM;first|rw[if_pos (by assumption)]|rw[if_neg (by simp[*])])⟩
noncomputable def Yc:=Tryz.f138.body.getD .skip
def Zh6:=cL Yc
def Yb:=cR Yc
def Zh8:=cL Yb
def Zh9:=cR Yb
set_option maxRecDepth 10000 in
theorem akE{w:World}{M:Hp}{X:Fr}(x:Cr)(S:SH w M X []):Cq Tryz.prog 138 [.agg [.int .i64 x.a,.int .i64 x.b,.int .i64 x.c,.int .i64 x.d,.bool x.plus].toArray] w M X (fun u=>u=.agg [.int .i64 x.a,.int .i64 x.c].toArray):=by
 unfold Cq
 refine Up (b:=Yc) Tryz.func138 rfl Tryz.ntmps138 rfl (fun C hC=>(bq [(0,_)] ⟨rfl,trivial⟩ (U2 Zh6 Yb rfl rfl rfl (U0 rfl (ak 0 1 rfl rfl rfl (bE (l:=[_,_,_,_,_]) rfl rfl rfl rfl rfl S ?_))))))
 intro aI w1 S1;clear S
 refine ak 1 2 rfl rfl rfl (Uh (l:=[_,_]) rfl rfl rfl kL rfl S1 ?_)
 intro aQ w2 S2;clear S1
 refine U5 rfl (ah [1,2] rfl (U3 (U2 Zh8 Zh9 rfl rfl rfl (U0 rfl (af 0 rfl (U1 rfl rfl aW rfl (aC) (aB)) (af 1 rfl (U4 rfl rfl av rfl (S2.ar (i:=1) rfl rfl)) (af 2 rfl (U1 rfl rfl aW rfl (aC) (aB)) (af 3 rfl (U4 rfl rfl av rfl (S2.ar (i:=1) rfl rfl)) ?_))))))))
 refine af 4 rfl (jN (l:=[_,_]) (pl:=[(0,1),(1,1)]) rfl rfl fB kL bg rfl rfl rfl) (ak 5 6 rfl rfl rfl (U6 (i:=0) (us:=[_,_]) (l':=[_,_]) (H':=[_,_]) rfl rfl S2 rfl rfl rfl rfl gh rfl rfl rfl rfl ?_))
 intro w3 S3;clear S2
 refine U5 rfl (ah [2] rfl (U3 (Uk hC [_] rfl rfl ⟨⟨_,rfl,Um (us:=[_,_]) fB rfl gh (S3.aw (i:=0) rfl ⟨rfl,rfl,trivial⟩)⟩,trivial⟩ ?_)))
 exact⟨_,rfl,(S3.pick [] [] (by decide) trivial),rfl⟩
end Go.Proofs.YthppkofceancjaaGreat
namespace Go.Proofs.YthppkofceancjaaGreat
open Go.ChangeShapes Go.WideShapes Go.ChangeAt Go.RowKit
section
variable (e1 e2 : Nat → Nat) (N : Nat)
def kD(cl:List Int)(k:Nat):Int:=max (ga cl (e1 k)) (ga cl (e2 k))
def lW(cl:List Int)(k:Nat):Int:=min (ga cl (e1 k)) (ga cl (e2 k))
def clsG:Nat->List Int
 |0=>iniW N N
 |k+1=>relN (clsG k) (kD e1 e2 (clsG k) k) (lW e1 e2 (clsG k) k) N
theorem yO(k:Nat):(clsG e1 e2 N k).length=N:=by
 induction k with
 |zero=>exact tK _ _
 |succ k ih=>rw[clsG,Ca,ih]
theorem tW(k x:Nat)(hx:x<N):ga (clsG e1 e2 N (k+1)) x=if ga (clsG e1 e2 N k) x=kD e1 e2 (clsG e1 e2 N k) k then lW e1 e2 (clsG e1 e2 N k) k else ga (clsG e1 e2 N k) x:=by
 rw[clsG,abS _ _ _ _ (by rw[yO];exact Nat.le_refl _)]
 by_cases h9:ga (clsG e1 e2 N k) x=kD e1 e2 (clsG e1 e2 N k) k
 ·rw[if_pos ⟨hx,h9⟩,if_pos h9]
 ·rw[if_neg (fun h=>h9 h.2),if_neg h9]
theorem BR(y:Nat)(hy:y<N):ga (clsG e1 e2 N 0) y=(y:Int):=GI _ _ (Nat.le_refl _) y hy
theorem alp(cl:List Int)(k:Nat):kD e1 e2 cl k=ga cl (e1 k)\/kD e1 e2 cl k=ga cl (e2 k):=by unfold kD;omega
theorem acC(cl:List Int)(k:Nat):lW e1 e2 cl k=ga cl (e1 k)\/lW e1 e2 cl k=ga cl (e2 k):=by unfold lW;omega
variable {e1 e2 N}
theorem CD{K:Nat}(he:∀k,k<K->e1 k<N/\e2 k<N)(k:Nat)(hk:k<=K):xe N (clsG e1 e2 N k):=by
 induction k with
 |zero=>exact⟨tK _ _,fun x hx=>by
   rw[BR e1 e2 N x hx]
   refine⟨by omega,by omega,?_⟩
   rw[show((x:Int)).toNat=x by omega,BR e1 e2 N x hx]⟩
 |succ k ih=>
  have ih:=ih (by omega)
  obtain⟨b1,b2⟩:=he k (by omega)
  obtain⟨p1,_,p3⟩:=ih.2 _ b1
  obtain⟨q1,_,q3⟩:=ih.2 _ b2
  refine ajZ ih (yO _ _ _ _) (fun x hx=>tW e1 e2 N k x hx) (by unfold kD lW;omega) (by unfold lW;omega) ?_
  rcases acC e1 e2 (clsG e1 e2 N k) k with e|e<;>rw[e]<;>assumption
theorem aim{j x y:Nat}(hx:x<N)(hy:y<N)(e:ga (clsG e1 e2 N j) x=ga (clsG e1 e2 N j) y):ga (clsG e1 e2 N (j+1)) x=ga (clsG e1 e2 N (j+1)) y:=by
 rw[tW e1 e2 N j x hx,tW e1 e2 N j y hy,e]
theorem yj{k:Nat}(b1:e1 k<N)(b2:e2 k<N)(j:Nat)(hj:k<j):ga (clsG e1 e2 N j) (e1 k)=ga (clsG e1 e2 N j) (e2 k):=by
 induction j with
 |zero=>omega
 |succ j ih=>
  by_cases e:k=j
  ·subst e
   rw[tW e1 e2 N k _ b1,tW e1 e2 N k _ b2]
   unfold kD lW
   split<;>split<;>omega
  ·exact aim b1 b2 (ih (by omega))
theorem yP{K:Nat}(he:∀k,k<K->e1 k<N/\e2 k<N)(Z:Nat->Prop)(hZ:∀k,k<K->(Z (e1 k)<->Z (e2 k)))(j:Nat)(hj:j<=K):∀x y,x<N->y<N->ga (clsG e1 e2 N j) x=ga (clsG e1 e2 N j) y->(Z x<->Z y):=by
 induction j with
 |zero=>
  intro x y hx hy e
  rw[BR e1 e2 N x hx,BR e1 e2 N y hy]at e
  obtain rfl:x=y:=by omega
  exact Iff.rfl
 |succ j ih=>
  have ih:=ih (by omega)
  obtain⟨b1,b2⟩:=he j (by omega)
  have hz:=hZ j (by omega)
  have hf:∀x,x<N->ga (clsG e1 e2 N j) x=kD e1 e2 (clsG e1 e2 N j) j->(Z x<->Z (e1 j)):=fun x hx e=>by
   rcases alp e1 e2 (clsG e1 e2 N j) j with h2|h2
   ·exact ih x _ hx b1 (e.trans h2)
   ·exact(ih x _ hx b2 (e.trans h2)).trans hz.symm
  have ht:∀x,x<N->ga (clsG e1 e2 N j) x=lW e1 e2 (clsG e1 e2 N j) j->(Z x<->Z (e1 j)):=fun x hx e=>by
   rcases acC e1 e2 (clsG e1 e2 N j) j with h2|h2
   ·exact ih x _ hx b1 (e.trans h2)
   ·exact(ih x _ hx b2 (e.trans h2)).trans hz.symm
  intro x y hx hy e
  rw[tW e1 e2 N j x hx,tW e1 e2 N j y hy]at e
  by_cases Fp:ga (clsG e1 e2 N j) x=kD e1 e2 (clsG e1 e2 N j) j
  ·rw[if_pos Fp]at e
   by_cases x7:ga (clsG e1 e2 N j) y=kD e1 e2 (clsG e1 e2 N j) j
   ·exact(hf x hx Fp).trans (hf y hy x7).symm
   ·rw[if_neg x7]at e
    exact(hf x hx Fp).trans (ht y hy e.symm).symm
  ·rw[if_neg Fp]at e
   by_cases x7:ga (clsG e1 e2 N j) y=kD e1 e2 (clsG e1 e2 N j) j
   ·rw[if_pos x7]at e
    exact(ht x hx e).trans (hf y hy x7).symm
   ·rw[if_neg x7]at e
    exact ih x y hx hy e
end
def uL(e1 e2:Nat->Nat)(N K:Nat):Nat->List Int
 |0=>iniW N N
 |j+1=>mO e1 e2 (uL e1 e2 N K j) K
theorem Cb(e1 e2:Nat->Nat)(N K j:Nat):(uL e1 e2 N K j).length=N:=by
 induction j with
 |zero=>exact tK _ _
 |succ j ih=>rw[uL,aas,ih]
theorem ajO{e1 e2:Nat->Nat}{N K:Nat}(he:∀k,k<K->e1 k<N/\e2 k<N):uL e1 e2 N K N=clsG e1 e2 N K:=by
 have hok:=CD he K (Nat.le_refl _)
 have hl:=labels (N:=N) (K:=K) e1 e2 he (fun x=>(ga (clsG e1 e2 N K) x).toNat)
  (fun k hk=>congrArg Int.toNat (yj (he k hk).1 (he k hk).2 _ hk))
  (fun Z hZ x y hx hy e hz=>(yP he Z hZ _ (Nat.le_refl _) x y hx hy (by
   have hX:=hok.2 x hx
   have hY:=hok.2 y hy
   have e':(ga (clsG e1 e2 N K) x).toNat=(ga (clsG e1 e2 N K) y).toNat:=e
   omega)).1 hz)
  (uL e1 e2 N K) (Cb _ _ _ _ 0) (fun x hx=>GI _ _ (Nat.le_refl _) x hx) (fun j=>rfl)
 refine zi (by rw[Cb,yO]) fun x hx=>?_
 rw[Cb]at hx
 obtain⟨z,z1,z2,z3,z4⟩:=hl x hx
 obtain⟨x1,x2,x3⟩:=hok.2 x hx
 obtain⟨w1,w2,w3⟩:=hok.2 z z1
 have a1:=z4 (ga (clsG e1 e2 N K) x).toNat (by omega) (by show(ga (clsG e1 e2 N K) (ga (clsG e1 e2 N K) x).toNat).toNat=_;rw[x3])
 replace z3:(ga (clsG e1 e2 N K) z).toNat=(ga (clsG e1 e2 N K) x).toNat:=z3
 rw[z2]
 omega
end Go.Proofs.YthppkofceancjaaGreat
namespace Go.Proofs.YthppkofceancjaaGreat
open Go.ChangeShapes Go.WideShapes Go.ChangeAt Go.RowKit
theorem ah7(cl:List Int)(f:Int)(a:Nat)(ha:a<=cl.length):relN cl f f a=cl:=by
 refine zi (Ca _ _ _ _) fun x _=>?_
 rw[abS _ _ _ _ ha]
 split
 ·rename_i h;exact h.2.symm
 ·rfl
theorem ako{N:Nat}{c1 c2:List Int}(h1:xe N c1)(h2:xe N c2)(h:∀x y,x<N->y<N->(ga c1 x=ga c1 y<->ga c2 x=ga c2 y)):c1=c2:=by
 refine zi (by rw[h1.1,h2.1]) fun x hx=>?_
 rw[h1.1]at hx
 obtain⟨p1,p2,p3⟩:=h1.2 x hx
 obtain⟨q1,q2,q3⟩:=h2.2 x hx
 have a1:=(h (ga c1 x).toNat x (by omega) hx).1 p3
 have a2:=(h (ga c2 x).toNat x (by omega) hx).2 q3
 obtain⟨_,b2,_⟩:=h2.2 (ga c1 x).toNat (by omega)
 obtain⟨_,d2,_⟩:=h1.2 (ga c2 x).toNat (by omega)
 omega
theorem ail{e1 e2 f1 f2:Nat->Nat}{N K L:Nat}(he:∀k,k<K->e1 k<N/\e2 k<N)(hf:∀k,k<L->f1 k<N/\f2 k<N)
  (h12:∀k,k<K->e1 k=e2 k\/∃j,j<L/\((e1 k=f1 j/\e2 k=f2 j)\/(e1 k=f2 j/\e2 k=f1 j)))(h21:∀j,j<L->∃k,k<K/\((e1 k=f1 j/\e2 k=f2 j)\/(e1 k=f2 j/\e2 k=f1 j))):clsG e1 e2 N K=clsG f1 f2 N L:=by
 refine ako (CD he K (Nat.le_refl _)) (CD hf L (Nat.le_refl _)) fun x y hx hy=>⟨fun h=>?_,fun h=>?_⟩
 ·exact(yP he (fun z=>ga (clsG f1 f2 N L) x=ga (clsG f1 f2 N L) z) (fun k hk=>by
   rcases h12 k hk with e|⟨j,hj,⟨e1,e2⟩|⟨e1,e2⟩⟩
   ·rw[e]
   ·rw[e1,e2,yj (hf j hj).1 (hf j hj).2 L hj]
   ·rw[e1,e2,yj (hf j hj).1 (hf j hj).2 L hj]) K (Nat.le_refl _) x y hx hy h).1 rfl
 ·exact(yP hf (fun z=>ga (clsG e1 e2 N K) x=ga (clsG e1 e2 N K) z) (fun j hj=>by
   obtain⟨k,hk,⟨a,b⟩|⟨a,b⟩⟩:=h21 j hj
   ·rw[<-a,<-b,yj (he k hk).1 (he k hk).2 K hk]
   ·rw[<-a,<-b,yj (he k hk).1 (he k hk).2 K hk]) L (Nat.le_refl _) x y hx hy h).1 rfl
def ek(d:Dg)(gn:Nat->Bool)(i:Nat):Nat:=if gn (i/2)=true then(if i%2=0 then(ga d.ae (i/2)).a.toNat else(iM (ga d.ae (i/2))).1.toNat)else 0
def ei(d:Dg)(gn:Nat->Bool)(i:Nat):Nat:=if gn (i/2)=true then(if i%2=0 then(ga d.ae (i/2)).c.toNat else(iM (ga d.ae (i/2))).2.toNat)else 0
def lX(d:Dg)(gn:Nat->Bool)(i:Nat):List Int:=clsG (ek d gn) (ei d gn) (2*d.ae.length+1) i
def tC(d:Dg)(gn:Nat->Bool):List Int:=lX d gn (2*d.ae.length)
theorem HV{d:Dg}(h:aN d=true){k:Nat}(hk:k<d.ae.length):(1<=(ga d.ae k).a/\(ga d.ae k).a<=2*(d.ae.length:Int))/\(1<=(ga d.ae k).b/\(ga d.ae k).b<=2*(d.ae.length:Int))/\(1<=(ga d.ae k).c/\(ga d.ae k).c<=2*(d.ae.length:Int))/\(1<=(ga d.ae k).d/\(ga d.ae k).d<=2*(d.ae.length:Int)):=
 ⟨eO h hk (k:=0) (by omega),eO h hk (k:=1) (by omega),eO h hk (k:=2) (by omega),eO h hk (k:=3) (by omega)⟩
theorem adJ{d:Dg}(h:aN d=true){k:Nat}(hk:k<d.ae.length):1<=(iM (ga d.ae k)).1/\(iM (ga d.ae k)).1<=2*(d.ae.length:Int)/\1<=(iM (ga d.ae k)).2/\(iM (ga d.ae k)).2<=2*(d.ae.length:Int):=by
 obtain⟨_,hb,_,hd⟩:=HV h hk
 unfold iM
 split<;>dsimp only<;>omega
theorem nK{d:Dg}(h:aN d=true)(gn:Nat->Bool){i:Nat}(hi:i<2*d.ae.length):ek d gn i<2*d.ae.length+1/\ei d gn i<2*d.ae.length+1/\(gn (i/2)=true->1<=ek d gn i/\1<=ei d gn i)/\(gn (i/2)=false->ek d gn i=0/\ei d gn i=0):=by
 obtain⟨ha,hb,hc,hd⟩:=HV h (k:=i/2) (by omega)
 have hv:=adJ h (k:=i/2) (by omega)
 unfold ek ei
 cases hg:gn (i/2)with
 |true=>
  rw[if_pos rfl,if_pos rfl]
  refine⟨by split<;>omega,by split<;>omega,fun _=>⟨by split<;>omega,by split<;>omega⟩,fun h=>by cases h⟩
 |false=>
  rw[if_neg Bool.false_ne_true,if_neg Bool.false_ne_true]
  exact⟨by omega,by omega,fun h=>(by cases h),fun _=>⟨rfl,rfl⟩⟩
theorem GD(d:Dg)(gn:Nat->Bool)(i:Nat):(lX d gn i).length=2*d.ae.length+1:=yO _ _ _ _
theorem wL{d:Dg}(h:aN d=true)(gn:Nat->Bool)(i:Nat)(hi:i<=2*d.ae.length):xe (2*d.ae.length+1) (lX d gn i):=CD (K:=2*d.ae.length) (fun k hk=>⟨(nK h gn hk).1,(nK h gn hk).2.1⟩) i hi
theorem abj{d:Dg}{gn:Nat->Bool}{c:Nat}(hg:gn c=false):lX d gn (2*(c+1))=lX d gn (2*c):=by
 have e:∀i,i/2=c->lX d gn (i+1)=lX d gn i:=fun i hi=>by
  have e1:ek d gn i=0:=by unfold ek;rw[hi,if_neg (by rw[hg];exact Bool.false_ne_true)]
  have e2:ei d gn i=0:=by unfold ei;rw[hi,if_neg (by rw[hg];exact Bool.false_ne_true)]
  unfold lX
  rw[clsG]
  have e3:kD (ek d gn) (ei d gn) (clsG (ek d gn) (ei d gn) (2*d.ae.length+1) i) i=lW (ek d gn) (ei d gn) (clsG (ek d gn) (ei d gn) (2*d.ae.length+1) i) i:=by unfold kD lW;rw[e1,e2];omega
  rw[e3]
  exact ah7 _ _ _ (by rw[yO];exact Nat.le_refl _)
 rw[show 2*(c+1)=2*c+1+1 by omega,e _ (by omega),e _ (by omega)]
def nk(d:Dg)(gs:List Nat)(i:Nat):Nat:=(Uq d (ga gs (i/2)) (i%2)).toNat
def nj(d:Dg)(gs:List Nat)(i:Nat):Nat:=(Uq d (ga gs (i/2)) (i%2+2)).toNat
def bh(gs:List Nat)(c:Nat):Bool:=gs.contains c
theorem wE{gs:List Nat}{c:Nat}:bh gs c=true<->c∈gs:=by unfold bh;exact List.contains_iff_mem
theorem ac6{d:Dg}(h:aN d=true){gs:List Nat}(hg:∀x∈gs,x<d.ae.length){i:Nat}(hi:i<2*gs.length):nk d gs i<2*d.ae.length+1/\nj d gs i<2*d.ae.length+1:=by
 have hm:=hg _ (iB (xs:=gs) (i:=i/2) (by omega))
 have h1:=eO h hm (k:=i%2) (by omega)
 have h2:=eO h hm (k:=i%2+2) (by omega)
 unfold nk nj
 omega
theorem abd{d:Dg}{gs:List Nat}{c i:Nat}(hi:i<2*gs.length)(hc:ga gs (i/2)=c)(hg:bh gs c=true):(ek d (bh gs) (2*c+i%2)=nk d gs i/\ei d (bh gs) (2*c+i%2)=nj d gs i)\/(ek d (bh gs) (2*c+i%2)=nj d gs i/\ei d (bh gs) (2*c+i%2)=nk d gs i):=by
 have e1:(2*c+i%2)/2=c:=by omega
 have e2:(2*c+i%2)%2=i%2:=by omega
 unfold ek ei nk nj
 rw[e1,e2,hg,hc,if_pos rfl,if_pos rfl]
 rcases Nat.mod_two_eq_zero_or_one i with h0|h0
 ·rw[h0,if_pos rfl,if_pos rfl];exact .inl ⟨rfl,rfl⟩
 ·rw[h0,if_neg (by decide),if_neg (by decide)]
  unfold iM
  split
  ·exact .inr ⟨rfl,rfl⟩
  ·exact .inl ⟨rfl,rfl⟩
theorem akL{d:Dg}(h:aN d=true){gs:List Nat}(hg:∀x∈gs,x<d.ae.length):uL (nk d gs) (nj d gs) (2*d.ae.length+1) (2*gs.length) (2*d.ae.length+1)=tC d (bh gs):=by
 rw[ajO fun k hk=>ac6 h hg hk]
 symm
 refine ail (fun k hk=>⟨(nK h _ hk).1,(nK h _ hk).2.1⟩) (fun k hk=>ac6 h hg hk) (fun k hk=>?_) (fun j hj=>?_)
 ·cases hq:bh gs (k/2)with
  |false=>left;unfold ek ei;rw[hq];rfl
  |true=>
   right
   obtain⟨j,hj,e⟩:=List.mem_iff_getElem.1 (wE.1 hq)
   refine⟨2*j+k%2,by omega,?_⟩
   have:=abd (d:=d) (gs:=gs) (c:=k/2) (i:=2*j+k%2) (by omega) (by rw[show(2*j+k%2)/2=j by omega,eo hj,e]) hq
   rwa [show 2*(k/2)+(2*j+k%2)%2=k by omega]at this
 ·have hm:=iB (xs:=gs) (i:=j/2) (by omega)
  have hl:=hg _ hm
  exact⟨2*ga gs (j/2)+j%2,by omega,abd hj rfl (wE.2 hm)⟩
def lf1(cl:List Int)(v:Cr):Nat->Int->Bool
 |0,_=>false
 |s+1,x=>lf1 cl v s x||decide (x=ga cl (cK v s).toNat)
def jV(cl:List Int)(l:List Cr)(x:Int):Bool:=l.any fun v=>lf1 cl v 4 x
def tRN(d:Dg)(gn:Nat->Bool):Nat->List Cr
 |0=>[]
 |c+1=>if gn c=true then tRN d gn c else tRN d gn c++[ga d.ae c]
def tR(d:Dg)(gn:Nat->Bool):List Cr:=tRN d gn d.ae.length
theorem GA(d:Dg)(gn:Nat->Bool)(c:Nat):(tRN d gn c).length<=c:=by
 induction c with
 |zero=>exact Nat.le_refl _
 |succ c ih=>
  rw[tRN]
  split
  ·omega
  ·rw[List.length_append,List.length_singleton];omega
theorem ajG{d:Dg}{gn:Nat->Bool}{c:Nat}{v:Cr}(h:v∈tRN d gn c):∃i,i<c/\v=ga d.ae i:=by
 induction c with
 |zero=>cases h
 |succ c ih=>
  rw[tRN]at h
  split at h
  ·obtain⟨i,h1,h2⟩:=ih h;exact⟨i,by omega,h2⟩
  ·rcases List.mem_append.1 h with h|h
   ·obtain⟨i,h1,h2⟩:=ih h;exact⟨i,by omega,h2⟩
   ·rw[List.mem_singleton]at h;exact⟨c,by omega,h⟩
theorem H0{d:Dg}{gn:Nat->Bool}{c i:Nat}(h1:i<c)(h2:gn i=false):ga d.ae i∈tRN d gn c:=by
 induction c with
 |zero=>omega
 |succ c ih=>
  rw[tRN]
  by_cases e:i=c
  ·subst e;rw[if_neg (by rw[h2];exact Bool.false_ne_true)];exact List.mem_append_right _ (List.mem_singleton.2 rfl)
  ·split
   ·exact ih (by omega)
   ·exact List.mem_append_left _ (ih (by omega))
theorem ow{d:Dg}(h:aN d=true){gn:Nat->Bool}{c:Nat}(hc:c<=d.ae.length){v:Cr}(hv:v∈tRN d gn c){s:Nat}(hs:s<4):1<=cK v s/\cK v s<=2*(d.ae.length:Int):=by
 obtain⟨i,h1,rfl⟩:=ajG hv
 exact eO h (by omega) hs
theorem ab5{cl:List Int}{v:Cr}{s:Nat}{x:Int}:lf1 cl v s x=true<->∃t,t<s/\x=ga cl (cK v t).toNat:=by
 induction s with
 |zero=>exact⟨fun h=>(by cases h),fun⟨t,h,_⟩=>(by omega)⟩
 |succ s ih=>
  rw[lf1,Bool.or_eq_true,ih,decide_eq_true_iff]
  constructor
  ·rintro(⟨t,h1,h2⟩|h)
   ·exact⟨t,by omega,h2⟩
   ·exact⟨s,by omega,h⟩
  ·rintro⟨t,h1,h2⟩
   by_cases e:t=s
   ·subst e;exact .inr h2
   ·exact .inl ⟨t,by omega,h2⟩
theorem GH{cl:List Int}{l:List Cr}{x:Int}:jV cl l x=true<->∃v∈l,∃t,t<4/\x=ga cl (cK v t).toNat:=by
 unfold jV
 rw[List.any_eq_true]
 constructor
 ·rintro⟨v,h1,h2⟩;exact⟨v,h1,ab5.1 h2⟩
 ·rintro⟨v,h1,h2⟩;exact⟨v,h1,ab5.2 h2⟩
theorem Gn(cl:List Int)(l:List Cr)(v:Cr)(x:Int):jV cl (l++[v]) x=(jV cl l x||lf1 cl v 4 x):=by
 unfold jV;rw[List.any_append];simp
theorem CJ{d:Dg}(h:aN d=true)(gn:Nat->Bool){x:Nat}(h1:1<=x)(h2:x<2*d.ae.length+1):1<=ga (tC d gn) x:=by
 obtain⟨o1,o2,o3⟩:=(wL h gn (2*d.ae.length) (Nat.le_refl _)).2 x h2
 have hc:=yP (K:=2*d.ae.length) (e1:=ek d gn) (e2:=ei d gn) (N:=2*d.ae.length+1) (fun k hk=>⟨(nK h gn hk).1,(nK h gn hk).2.1⟩) (fun y=>y=0) (fun k hk=>by
  obtain⟨_,_,g1,g2⟩:=nK h gn hk
  cases hq:gn (k/2)with
  |true=>have:=g1 hq;constructor<;>intro h9<;>omega
  |false=>have:=g2 hq;constructor<;>intro h9<;>omega) (2*d.ae.length) (Nat.le_refl _) x (ga (tC d gn) x).toNat h2 (by show(ga (lX d gn _) x).toNat<_;omega) o3.symm
 have e:tC d gn=lX d gn (2*d.ae.length):=rfl
 rw[e]at*
 rcases Nat.eq_zero_or_pos (ga (lX d gn (2*d.ae.length)) x).toNat with h9|h9
 ·have:=hc.2 h9;omega
 ·omega
theorem aiF{d:Dg}(h:aN d=true){gn:Nat->Bool}{x:Nat}(hl:jV (tC d gn) (tR d gn) (x:Int)=true):1<=x/\x<2*d.ae.length+1/\ga (tC d gn) x=(x:Int):=by
 obtain⟨v,h1,t,h2,h3⟩:=GH.1 hl
 have ha:=ow h (Nat.le_refl _) h1 h2
 have hp:=CJ h gn (x:=(cK v t).toNat) (by omega) (by omega)
 obtain⟨o1,o2,o3⟩:=(wL h gn (2*d.ae.length) (Nat.le_refl _)).2 (cK v t).toNat (by omega)
 have e:lX d gn (2*d.ae.length)=tC d gn:=rfl
 rw[e]at o1 o2 o3
 rw[<-h3]at o3
 refine⟨by omega,by omega,?_⟩
 rwa [show((x:Int)).toNat=x by omega]at o3
theorem Gz{d:Dg}{gn:Nat->Bool}{v:Cr}(hv:v∈tR d gn){s:Nat}(hs:s<4):jV (tC d gn) (tR d gn) (ga (tC d gn) (cK v s).toNat)=true:=GH.2 ⟨v,hv,s,hs,rfl⟩
def dZ(cl:List Int)(l:List Cr)(a:Nat):Bool:=decide (1<=a)&&(decide (ga cl a=(a:Int))&&jV cl l (a:Int))
def fh(cl:List Int)(l:List Cr)(a:Nat):Bool:=decide (1<=a)&&(decide (ga cl a=(a:Int))&&!jV cl l (a:Int))
def pT(cl:List Int)(l:List Cr)(y:Int):Int:=(cn (dZ cl l) ((ga cl y.toNat).toNat+1):Int)
def xX(cl:List Int)(l:List Cr)(v:Cr):Cr:=⟨pT cl l v.a,pT cl l v.b,pT cl l v.c,pT cl l v.d,v.plus⟩
def bB(d:Dg)(gn:Nat->Bool):Dg:=⟨(tR d gn).map (xX (tC d gn) (tR d gn)),d.loops+cn (fh (tC d gn) (tR d gn)) (2*d.ae.length+1)⟩
theorem oz{P:Nat->Bool}{a:Nat}(h:P a=true):cn P (a+1)=cn P a+1:=by rw[cn,if_pos h]
theorem sD{P:Nat->Bool}{a:Nat}(h:P a=false):cn P (a+1)=cn P a:=by rw[cn,if_neg (by rw[h];decide)];rfl
theorem adb{d:Dg}(h:aN d=true){gn:Nat->Bool}{nu:List Int}(kC:∀x,x<2*d.ae.length+1->dZ (tC d gn) (tR d gn) x=true->ga nu x=(cn (dZ (tC d gn) (tR d gn)) (x+1):Int)){v:Cr}(hv:v∈tR d gn){s:Nat}(hs:s<4):
  ga nu (ga (tC d gn) (cK v s).toNat).toNat=pT (tC d gn) (tR d gn) (cK v s):=by
 have ha:=ow h (Nat.le_refl _) hv hs
 have hp:=CJ h gn (x:=(cK v s).toNat) (by omega) (by omega)
 have hl:=Gz hv hs
 obtain⟨o1,o2,o3⟩:=(wL h gn (2*d.ae.length) (Nat.le_refl _)).2 (cK v s).toNat (by omega)
 have e:lX d gn (2*d.ae.length)=tC d gn:=rfl
 rw[e]at o1 o2 o3
 have e2:(((ga (tC d gn) (cK v s).toNat).toNat:Nat):Int)=ga (tC d gn) (cK v s).toNat:=by omega
 rw[kC _ (by omega) (by unfold dZ;rw[e2,o3,hl];simp;omega)]
 rfl
theorem ajE(d:Dg)(gn:Nat->Bool):(bB d gn).ae.length<=d.ae.length/\d.loops<=(bB d gn).loops/\(bB d gn).loops<=d.loops+(2*d.ae.length+1:Nat):=by
 refine⟨by show(List.map _ _).length<=_;rw[List.length_map];exact GA _ _ _,?_,?_⟩
 ·show d.loops<=d.loops+(cn _ _:Int);omega
 ·have:=wY (fh (tC d gn) (tR d gn)) (2*d.ae.length+1)
  show d.loops+(cn _ _:Int)<=_;omega
end Go.Proofs.YthppkofceancjaaGreat
namespace Go.Proofs.YthppkofceancjaaGreat
open Go.ChangeShapes Go.WideShapes Go.ChangeAt Go.RowKit
def acZ(H:List Rs):Prop:=H.Pairwise fun r s=>∀b∈r.bl,b∉s.bl
theorem yg{H:List Rs}:acZ H<->∀(i j:Nat) r s,i≠j->H[i]? =some r->H[j]? =some s->∀b∈r.bl,b∉s.bl:=by
 unfold acZ
 rw[List.pairwise_iff_getElem]
 constructor
 ·intro h i j r s hij hi hj b hb hbs
  obtain⟨i1,e1⟩:=List.getElem?_eq_some_iff.1 hi
  obtain⟨j1,e2⟩:=List.getElem?_eq_some_iff.1 hj
  rcases Nat.lt_or_ge i j with h1|h1
  ·exact h i j i1 j1 h1 b (by rw[e1];exact hb) (by rw[e2];exact hbs)
  ·exact h j i j1 i1 (by omega) b (by rw[e2];exact hbs) (by rw[e1];exact hb)
 ·intro h i j hi hj hij
  exact h i j _ _ (by omega) (List.getElem?_eq_getElem hi) (List.getElem?_eq_getElem hj)
section
variable {w : World} {M : Hp} {X : Fr} {A B H H' : List Rs}
theorem SH.jd(S:SH w M X (A++B)):SH w M X (Rs.aX A::B):=by
 have hap:=yg.2 S.ap
 obtain⟨h1,h2,h3⟩:=List.pairwise_append.1 hap
 refine⟨S.m,S.x,S.mx,fun r hr=>?_,fun r hr b hb=>?_,yg.1 (List.pairwise_cons.2 ⟨fun s hs b hb=>?_,h2⟩),S.like⟩
 ·rcases List.mem_cons.1 hr with rfl|hr
  ·exact⟨fun r hr=>S.ok r (by simp[hr]),yg.1 h1⟩
  ·exact S.ok r (by simp[hr])
 ·rcases List.mem_cons.1 hr with rfl|hr
  ·obtain⟨q,hq,hb⟩:=List.mem_flatMap.1 hb
   exact S.bl q (by simp[hq]) b hb
  ·exact S.bl r (by simp[hr]) b hb
 ·obtain⟨q,hq,hb⟩:=List.mem_flatMap.1 hb
  exact h3 q hq s hs b hb
theorem SH.jK(S:SH w M X (Rs.aX A::B)):SH w M X (A++B):=by
 obtain⟨hok,hap⟩:=S.ok (Rs.aX A) (by simp)
 obtain⟨h1,h2⟩:=List.pairwise_cons.1 (yg.2 S.ap)
 refine⟨S.m,S.x,S.mx,fun r hr=>?_,fun r hr b hb=>?_,yg.1 (List.pairwise_append.2 ⟨yg.2 hap,h2,fun r hr s hs b hb=>h1 s hs b (List.mem_flatMap.2 ⟨r,hr,hb⟩)⟩),S.like⟩
 ·rcases List.mem_append.1 hr with hr|hr
  ·exact hok r hr
  ·exact S.ok r (by simp[hr])
 ·rcases List.mem_append.1 hr with hr|hr
  ·exact S.bl (Rs.aX A) (by simp) b (List.mem_flatMap.2 ⟨r,hr,hb⟩)
  ·exact S.bl r (by simp[hr]) b hb
end
namespace InF
section
variable {P : Program} {n : Nat} {C : Ctx} {c : Code} {s : List K} {L : List (Nat × Value)} {w : World} {M : Hp} {X : Fr} {H : List Rs}
end
end InF
end Go.Proofs.YthppkofceancjaaGreat
namespace Go.Proofs.YthppkofceancjaaGreat
open Go.ChangeShapes Go.WideShapes Go.ChangeAt Go.RowKit
def okT(a:List Tm)(i:Nat):Prop:=(-1000<=(ga a i).e/\(ga a i).e<=1000)/\(-1000000<=(ga a i).c/\(ga a i).c<=1000000)/\(ga a i).c≠0/\(0<i->(ga a ((i:Int) -1).toNat).e<(ga a i).e)
instance (a:List Tm)(i:Nat):Decidable (okT a i):=by unfold okT;infer_instance
end Go.Proofs.YthppkofceancjaaGreat
namespace Go.Proofs.YthppkofceancjaaGreat
open Go.ChangeShapes Go.WideShapes Go.ChangeAt Go.RowKit
theorem AB.at_{es dn l1 l2:List (Int×Int)}{B:Nat}(h:AB es B){k v:Int}{lf:List (Int×Int)}(hp:(dn++lf).Perm es)(hl:lf=l1++(k,v)::l2):(-(B:Int)<=k/\k<=B)/\wr v=v:=h.2 (k,v) (hp.mem_iff.1 (by rw[hl];simp))
end Go.Proofs.YthppkofceancjaaGreat
namespace Go.Proofs.YthppkofceancjaaGreat
open Go.ChangeShapes Go.WideShapes Go.ChangeAt Go.RowKit
section
variable {α : Type} {C : Cd α} {N N' : Hp} {vs vs' : List fO} {xss yss : List (List α)}
def RdD(C:Cd α)(N:Hp)(AO:List (List fO))(mm:List (List (List α))):Prop:=AO.length=mm.length/\∀i,i<AO.length->fy C N (ga AO i) (ga mm i)
variable {AO : List (List fO)} {mm : List (List (List α))}
theorem RdD.eX:RdD C N [] []:=⟨rfl,fun i hi=>by simp at hi⟩
end
section
variable {P : Program} {o : Oper} {L : List (Nat × Value)} {w : World} {x hx : Operand} {t tn T : TypeId} {n d : Nat} {Kt : List (Nat × Value) → World → Prop} {M : Hp} {X : Fr} {H : List Rs}
end
end Go.Proofs.YthppkofceancjaaGreat
namespace Go.Proofs.YthppkofceancjaaGreat
open Go.ChangeShapes Go.WideShapes Go.ChangeAt Go.RowKit
section
variable {P : Program} {o : Oper} {L : List (Nat × Value)} {w : World} {n d : Nat} {Kt : List (Nat × Value) → World → Prop} {M : Hp} {X : Fr} {H : List Rs} {i : Nat} {r : Rs}
theorem SH.less(S:SH w M X H)(hi:nth H i=some r):SH w M X (H.set i Rs.emp):=S.step hi rfl (gX.refl w) (fun _ _ _=>rfl) trivial (fun b hb=>by cases hb)
theorem acw{f:FuncId}{vs cap:List Value}{ca:Call}{fo:Operand}{xs:List Operand}(hd:o.dst=some d)(hop:o.op=.call ca)(cJ:ca.callee=.value fo)(hfo:oev L fo=some (.func (.func f) #[] cap.toArray))
  (hxs:ca.args=xs.toArray)(hvs:oevs L xs=some vs)(hn:Nat.blt d n=true)(hen:∀args w,(callFunc f args).run P w=.ok (.enter f args) w)(S:SH w M X H)(hi:nth H i=some r)
  {R:Value->Hp->Rs->Prop}(hcall:C1 P f (vs++cap) w M (XH w X (H.set i Rs.emp)) R)(h:∀v w' M' r',M.le M'->SH w' M' X (H.set i r')->R v M' r'->Kt ((d,v)::L) w'):WO P n o L w Kt:=by
 intro a ha next Q hk
 have hr:(execOp a.eval o).run P w=.ok (.enter f (vs++cap).toArray) w:=by
  unfold execOp
  simp only[hop,resolve,cJ,ha.eval hfo,hxs,List.map_toArray,ha.lF hvs,Deferred.ofValue,Sem.run_bind,Sem.run_pure,Result.andThen_ok,invoke,Array.empty_append,List.append_toArray]
  exact hen _ _
 unfold Oper.wp
 rw[hr,Oper.upon_enter,hd]
 refine hcall.mono ?_
 rintro e w' ⟨v,rfl,M',r',h1,h2,h4⟩
 exact hk _ _ _ (ha.put (by simpa using hn) v) (h v w' M' r' h1 (S.IJ hi h2 rfl) h4)
end
end Go.Proofs.YthppkofceancjaaGreat
namespace Go.Proofs.YthppkofceancjaaGreat
open Go.ChangeShapes Go.WideShapes Go.ChangeAt Go.RowKit
section
variable {P : Program} {o : Oper} {L : List (Nat × Value)} {w w' : World} {x y : Operand} {T E : TypeId} {a : Int} {v : Value} {M : Hp} {X : Fr} {H N : List Rs} {i g : Nat} {l : List Value}
theorem tO{o:Oper}{ck:FuncId}{vs cap:List Value}{ca:Call}{fo:Operand}{xs:List Operand}{v:Value}(hop:o.op=.call ca)(cJ:ca.callee=.value fo)(hfo:oev L fo=some (.func (.func ck) #[] cap.toArray))
  (hxs:ca.args=xs.toArray)(hvs:oevs L xs=some vs)(hen:∀args w,(callFunc ck args).run P w=.ok (.enter ck args) w)(S:SH w M X H)(hc:Cq P ck (vs++cap) w M (XH w X H) (fun u=>u=v)):
  Run P o L w v w\/∃ck vs,(∀n a,Env n L a->(execOp a.eval o).run P w=.ok (.enter ck vs) w)/\Calls P ck vs w fun e w3=>e=.returned v/\SH w3 M X H:=by
 refine .inr ⟨ck,(vs++cap).toArray,fun n a ha=>?_,hc.mono fun e w3 ⟨u,h1,h2,h3⟩=>⟨by rw[h1,h3],S.back h2⟩⟩
 unfold execOp
 simp only[hop,resolve,cJ,ha.eval hfo,hxs,List.map_toArray,ha.lF hvs,Deferred.ofValue,Sem.run_bind,Sem.run_pure,Result.andThen_ok,invoke,Array.empty_append,List.append_toArray]
 exact hen _ _
theorem abZ(N H:List Rs)(i:Nat):nth (N++H) (N.length+i)=nth H i:=by
 rw[eN,eN,List.getElem?_append_right (by omega)]
 congr 1
 omega
theorem SH.kq(S:SH w M X (N++H))(hi:nth H i=some (Rs.box g E l)):dG (M.un (XH w X (N++H)).h) g E l:=S.aeV (i:=N.length+i) (by rw[abZ];exact hi)
theorem ahl{e:Nat}{p q r s:Value}{dd:TypeDesc}(hop:o.op=.index T x y)(hx:oev L x=some (.agg [p,q,r,s].toArray))(hy:oev L y=some (.int .i64 a))(hu:P.underlying T=some (.array 2 E))(hE:P.underlying E=some dd)(hf:pO dd=false)(hk:(P.info? E).map (·.size)=some 2)
  (ha:a=(e:Int))(he:e<2):Run P o L w (.agg [if e=0 then p else r,if e=0 then q else s].toArray) w:=by
 intro n c hc
 unfold execOp
 have h1:(0:Int)<=(e:Int)/\(e:Int)<((2:Nat):Int):=by omega
 simp only[hop,hc.eval hx,hc.eval hy,Instr.index,asIntOf,Sem.run_bind,Sem.run_pure,Result.andThen_ok,run_underlying hu,ha,h1,and_self,if_true,run_sizeOf hk,Int.toNat_natCast,part,vT hE,hf,Bool.not_false]
 have:e=0\/e=1:=by omega
 rcases this with rfl|rfl<;>rfl
theorem ahy{κ ε:Type}[DecidableEq κ]{kc:κ->Value}{vc:ε->Value}{es:List (κ×ε)}{t K V:TypeId}{ca:Call}{xs:List Operand}{ts:List TypeId}(ho:o.op=.call ca)(cJ:ca.callee=.builtin .len)(hxs:ca.args=xs.toArray)(hts:ca.argTypes=ts.toArray)(hx:oevs L xs=some [.map (some g)])(ht:nth ts 0=some t)(hu:P.underlying t=some (.map K V))(S:SH w M X H)(hi:nth H i=some (Rs.mp kc vc g es)):Run P o L w (.int .i64 (es.length:Int)) w:=by
 intro n c hc
 obtain⟨arr,clock,hg,ha,kQ⟩:=(S.get hi:na kc vc g es (hp w))
 have hg':w.heap[g]? =some (.map arr clock):=hg
 have hgo:=MapKept.run_getObj_map (P:=P) hg'
 have hl:arr.size=es.length:=by have:=congrArg List.length ha;simpa using this
 rw[eN]at ht
 have ht':ts.toArray[0]? =some t:=by simpa using ht
 unfold execOp
 simp only[ho,resolve,cJ,hxs,hts,List.map_toArray,hc.lF hx,invoke,builtin,Builtin.len_,Sem.run_bind,Sem.run_pure,Result.andThen_ok,ht',List.getElem?_toArray,List.getElem?_cons_zero,run_underlying hu,goInt,hgo,hl]
end
end Go.Proofs.YthppkofceancjaaGreat
