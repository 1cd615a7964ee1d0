/- Part 6 of the proof of the law KhovanovTells: the walks through its functions and the plain laws that they need. -/
import Derived.Test.YthppkofceancjaaGreatKhX5
set_option linter.unusedSimpArgs false
set_option linter.unusedVariables false
noncomputable section
namespace Go.Proofs.YthppkofceancjaaGreat
open Go.ChangeShapes Go.WideShapes Go.ChangeAt Go.RowKit
theorem E8{xs:List Bool}{i:Nat}{y:Bool}(h:i<xs.length):ga (xs.set i y) i=y:=by rw[bB _ _ _ _ h,if_pos rfl]
theorem Lt{xs:List Bool}{i j:Nat}{y:Bool}(h:i≠j):ga (xs.set i y) j=ga xs j:=by unfold ga;simp[List.getElem?_set,h]
inductive Rc(d:Dg):Nat->Nat->Prop
 |refl (x:Nat):Rc d x x
 |step {x y k:Nat}:Rc d x y->k<4->Rc d x (fT d y k)
structure BI(d:Dg)(n:Nat)(s0:List Bool)(c:Nat)(s:List Bool×List Int):Prop where
 len:s.1.length=n
 see:∀x,x<n->(ga s.1 x=true<->(ga s0 x=true\/(x:Int)∈s.2))
 nod:s.2.Nodup
 el:∀y∈s.2,∃z:Nat,y=(z:Int)/\z<n/\ga s0 z=false/\Rc d c z
 room:s.2.length+free s.1<=n
theorem amz{d:Dg}{n:Nat}{s0:List Bool}{c:Nat}{s:List Bool×List Int}(h:BI d n s0 c s){y:Nat}(hy:y<n)(hr:Rc d c y):
  BI d n s0 c (oP s y)/\(∃t,(oP s y).2=s.2++t)/\ga (oP s y).1 y=true/\∀x,ga s.1 x=true->ga (oP s y).1 x=true:=by
 unfold oP
 by_cases hg:ga s.1 y=true
 ·rw[if_pos hg]
  exact⟨h,⟨[],by simp⟩,hg,fun x hx=>hx⟩
 ·rw[if_neg hg]
  have hlen:=h.len
  have hf:ga s.1 y=false:=by simpa using hg
  have mL:¬(ga s0 y=true\/(y:Int)∈s.2):=fun hh=>hg ((h.see y hy).2 hh)
  have Dy:=px (seen:=s.1) (x:=y) (by omega) hf
  have hro:=h.room
  refine⟨⟨by simp[hlen],fun x hx=>?_,?_,fun z hz=>?_,?_⟩,⟨[(y:Int)],rfl⟩,?_,fun x hx=>?_⟩
  ·by_cases e:x=y
   ·subst e
    exact⟨fun _=>.inr (by simp),fun _=>E8 (by omega)⟩
   ·show ga (s.1.set y true) x=true<->_
    rw[Lt (show y≠x from fun e'=>e e'.symm)]
    rw[h.see x hx,List.mem_append,List.mem_singleton]
    constructor
    ·rintro(h1|h1)
     ·exact .inl h1
     ·exact .inr (.inl h1)
    ·rintro(h1|h1|h1)
     ·exact .inl h1
     ·exact .inr h1
     ·exact absurd (Int.ofNat.inj h1) e
  ·rw[List.nodup_append]
   refine⟨h.nod,by simp,fun a ha b hb e=>?_⟩
   rw[List.mem_singleton]at hb
   subst hb;subst e
   exact mL (.inr ha)
  ·rcases List.mem_append.1 hz with hz|hz
   ·exact h.el z hz
   ·rw[List.mem_singleton]at hz
    exact⟨y,hz,hy,by have:=fun e=>mL (.inl e);simpa using this,hr⟩
  ·show(s.2++[(y:Int)]).length+free (s.1.set y true)<=n
   rw[List.length_append]
   show s.2.length+1+_<=n
   omega
  ·exact E8 (by omega)
  ·by_cases e:x=y
   ·subst e;exact E8 (by omega)
   ·show ga (s.1.set y true) x=true
    rw[Lt (show y≠x from fun e'=>e e'.symm)];exact hx
theorem amw{d:Dg}{s0:List Bool}{c x:Nat}{s:List Bool×List Int}(hab:Uu d=true)(h:BI d d.ae.length s0 c s)(hx:x<d.ae.length)(hr:Rc d c x)(k:Nat)(hk:k<=4):
  BI d d.ae.length s0 c (bfsS d x s k)/\(∃t,(bfsS d x s k).2=s.2++t)/\(∀j,j<k->ga (bfsS d x s k).1 (fT d x j)=true)/\∀z,ga s.1 z=true->ga (bfsS d x s k).1 z=true:=by
 induction k with
 |zero=>exact⟨h,⟨[],by simp[bfsS]⟩,fun j hj=>by omega,fun z hz=>hz⟩
 |succ k ih=>
  obtain⟨h1,⟨t1,h2⟩,h3,h4⟩:=ih (by omega)
  obtain⟨g1,⟨t2,g2⟩,g3,g4⟩:=amz h1 (Fs hab hx (show k<4 by omega)) (hr.step (show k<4 by omega))
  refine⟨g1,⟨t1++t2,?_⟩,fun j hj=>?_,fun z hz=>g4 z (h4 z hz)⟩
  ·show(oP _ _).2=_
   rw[g2,h2,List.append_assoc]
  ·by_cases e:j=k
   ·subst e;exact g3
   ·exact g4 _ (h3 j (by omega))
theorem amy{d:Dg}{s0:List Bool}{c:Nat}(hab:Uu d=true):∀(f i:Nat) (s:List Bool×List Int),BI d d.ae.length s0 c s->d.ae.length<=i+f->i<=s.2.length->(∀j,j<i->∀k,k<4->ga s.1 (fT d (ga s.2 j).toNat k)=true)->
  BI d d.ae.length s0 c (bfsN d f i s)/\(∃t,(bfsN d f i s).2=s.2++t)/\∀j,j<(bfsN d f i s).2.length->∀k,k<4->ga (bfsN d f i s).1 (fT d (ga (bfsN d f i s).2 j).toNat k)=true:=by
 intro f
 induction f with
 |zero=>
  intro i s h hf hi hp
  have:=h.room
  exact⟨h,⟨[],by simp[bfsN]⟩,fun j hj=>hp j (by have hj':j<s.2.length:=hj;omega)⟩
 |succ f ih=>
  intro i s h hf hi hp
  by_cases hlt:i<s.2.length
  ·rw[bfsN,if_pos hlt]
   obtain⟨z,hz,xK,_,hrz⟩:=h.el _ (nX hlt)
   rw[hz,Int.toNat_natCast]
   obtain⟨h1,⟨t,h2⟩,h3,h4⟩:=amw hab h xK hrz 4 (Nat.le_refl _)
   obtain⟨g1,⟨t',g2⟩,g3⟩:=ih (i+1) (bfsS d z s 4) h1 (by omega) (by rw[h2,List.length_append];omega) (fun j hj k hk=>by
    rw[h2,pE _ _ _ (by omega)]
    by_cases e:j=i
    ·subst e;rw[hz,Int.toNat_natCast];exact h3 k hk
    ·exact h4 _ (hp j (by omega) k hk))
   exact⟨g1,⟨t++t',by rw[g2,h2,List.append_assoc]⟩,g3⟩
  ·rw[IW (by omega)]
   exact⟨h,⟨[],by simp⟩,fun j hj=>hp j (by omega)⟩
structure PcI(d:Dg)(c:Nat)(s:List Bool×List (List Int)):Prop where
 see:∀x,x<d.ae.length->(ga s.1 x=true<->∃i,i<s.2.length/\(x:Int)∈ga s.2 i)
 VK:∀x,x<c->ga s.1 x=true
 el:∀i,i<s.2.length->(ga s.2 i).Nodup/\∃c0:Nat,c0<d.ae.length/\(c0:Int)∈ga s.2 i/\∀y∈ga s.2 i,∃z:Nat,y=(z:Int)/\z<d.ae.length/\Rc d c0 z
 HJ:∀i,i<s.2.length->∀z:Nat,(z:Int)∈ga s.2 i->∀k,k<4->((fT d z k:Nat):Int)∈ga s.2 i
 VJ:∀i j,i<s.2.length->j<s.2.length->∀y,y∈ga s.2 i->y∈ga s.2 j->i=j
theorem aln{d:Dg}(hab:Uu d=true)(ars:∀x k,x<d.ae.length->k<4->∃k',k'<4/\fT d (fT d x k) k'=x)(c:Nat)(hc:c<=d.ae.length):PcI d c (iB d c):=by
 induction c with
 |zero=>
  refine⟨fun x hx=>?_,fun x hx=>by omega,fun i hi=>?_,fun i hi=>?_,fun i j hi=>?_⟩
  ·simp only[iB]
   rw[uk _ _ _ hx]
   constructor
   ·intro h;cases h
   ·rintro⟨i,hi,_⟩;exact absurd hi (Nat.not_lt_zero _)
  all_goals exact absurd hi (Nat.not_lt_zero _)
 |succ c ih=>
  have I:=ih (by omega)
  have hlen:=abK d c
  generalize hs:iB d c=s at I hlen
  obtain⟨seen,bA⟩:=s
  by_cases hg:ga seen c=true
  ·rw[IP hs hg]
   exact⟨I.see,fun x hx=>by by_cases e:x=c;(subst e;exact hg);exact I.VK x (by omega),I.el,I.HJ,I.VJ⟩
  ·have Vl:ga seen c=false:=by simpa using hg
   rw[I9 hs Vl rfl]
   have hlen':seen.length=d.ae.length:=hlen
   have B0:BI d d.ae.length seen c (seen.set c true,[(c:Int)]):=by
    have Dy:=px (seen:=seen) (x:=c) (by omega) Vl
    have hfl:free seen<=seen.length:=List.countP_le_length
    refine⟨by simp[hlen'],fun x hx=>?_,by simp,fun y hy=>?_,by show 1+free (seen.set c true)<=_;omega⟩
    ·by_cases e:x=c
     ·subst e;exact⟨fun _=>.inr (by simp),fun _=>E8 (by omega)⟩
     ·show ga (seen.set c true) x=true<->_
      rw[Lt (show c≠x from fun e'=>e e'.symm)]
      constructor
      ·exact .inl
      ·rintro(h1|h1)
       ·exact h1
       ·rw[List.mem_singleton]at h1;exact absurd (Int.ofNat.inj h1) e
    ·rw[List.mem_singleton]at hy;exact⟨c,hy,by omega,Vl,.refl c⟩
   obtain⟨B1,⟨t,B2⟩,B3⟩:=amy hab d.ae.length 0 _ B0 (by omega) (Nat.zero_le _) (fun j hj=>by omega)
   generalize hr:bfsN d d.ae.length 0 (seen.set c true,[(c:Int)])=r at B1 B2 B3 ⊢
   have hcm:(c:Int)∈r.2:=by rw[B2];simp
   have hnew:ga (bA++[cC r.2]) bA.length=cC r.2:=by rw[tU _ _ _ (Nat.le_refl _),Nat.sub_self];rfl
   have hold:∀i,i<bA.length->ga (bA++[cC r.2]) i=ga bA i:=fun i hi=>pE _ _ _ hi
   have hL:(bA++[cC r.2]).length=bA.length+1:=by simp
   have hcl:∀z:Nat,(z:Int)∈r.2->∀k,k<4->((fT d z k:Nat):Int)∈r.2:=fun z hz k hk=>by
    obtain⟨j,hj,ej⟩:=List.mem_iff_getElem.1 hz
    have h1:=B3 j hj k hk
    rw[bV hj,ej,Int.toNat_natCast]at h1
    obtain⟨z',e',xK,hz0,_⟩:=B1.el _ hz
    obtain rfl:z=z':=by omega
    have hnl:=Fs hab xK hk
    rcases(B1.see _ hnl).1 h1 with h2|h2
    ·exfalso
     obtain⟨i,hi,hm⟩:=(I.see _ hnl).1 h2
     obtain⟨k',hk',e2⟩:=ars z k xK hk
     have h3:=I.HJ i hi _ hm k' hk'
     rw[e2]at h3
     have h4:=(I.see z xK).2 ⟨i,hi,h3⟩
     have h5:ga seen z=true:=h4
     rw[hz0]at h5;cases h5
    ·exact h2
   refine⟨fun x hx=>?_,fun x hx=>?_,fun i hi=>?_,fun i hi=>?_,fun i j hi hj y hy hy'=>?_⟩
   ·show ga r.1 x=true<->∃i,i<(bA++[cC r.2]).length/\(x:Int)∈ga (bA++[cC r.2]) i
    rw[B1.see x hx]
    have hI:ga seen x=true<->∃i,i<bA.length/\(x:Int)∈ga bA i:=I.see x hx
    rw[hI]
    constructor
    ·rintro(⟨i,hi,hm⟩|hm)
     ·exact⟨i,by omega,by rw[hold i hi];exact hm⟩
     ·exact⟨bA.length,by omega,by rw[hnew];exact n9.2 hm⟩
    ·rintro⟨i,hi,hm⟩
     by_cases e:i<bA.length
     ·rw[hold i e]at hm;exact .inl ⟨i,e,hm⟩
     ·obtain rfl:i=bA.length:=by omega
      rw[hnew]at hm;exact .inr (n9.1 hm)
   ·show ga r.1 x=true
    rw[B1.see x (by omega)]
    by_cases e:x=c
    ·subst e;exact .inr hcm
    ·exact .inl (I.VK x (by omega))
   ·show(ga (bA++[cC r.2]) i).Nodup/\∃c0:Nat,c0<d.ae.length/\(c0:Int)∈ga (bA++[cC r.2]) i/\∀y∈ga (bA++[cC r.2]) i,_
    have hi':i<(bA++[cC r.2]).length:=hi
    by_cases e:i<bA.length
    ·rw[hold i e];exact I.el i e
    ·obtain rfl:i=bA.length:=by omega
     rw[hnew]
     refine⟨(Au r.2).nodup_iff.2 B1.nod,c,by omega,n9.2 hcm,fun y hy=>?_⟩
     obtain⟨z,h1,h2,_,h3⟩:=B1.el y (n9.1 hy)
     exact⟨z,h1,h2,h3⟩
   ·show∀z:Nat,(z:Int)∈ga (bA++[cC r.2]) i->∀k,k<4->((fT d z k:Nat):Int)∈ga (bA++[cC r.2]) i
    have hi':i<(bA++[cC r.2]).length:=hi
    by_cases e:i<bA.length
    ·rw[hold i e];exact I.HJ i e
    ·obtain rfl:i=bA.length:=by omega
     rw[hnew]
     intro z hz k hk
     exact n9.2 (hcl z (n9.1 hz) k hk)
   ·have hi':i<(bA++[cC r.2]).length:=hi
    have hj':j<(bA++[cC r.2]).length:=hj
    have hy1:y∈ga (bA++[cC r.2]) i:=hy
    have hy2:y∈ga (bA++[cC r.2]) j:=hy'
    have key:∀i,i<bA.length->y∈ga bA i->y∈r.2->False:=fun i hi h1 h2=>by
     obtain⟨z,rfl,xK,hz0,_⟩:=B1.el y h2
     have h5:ga seen z=true:=(I.see z xK).2 ⟨i,hi,h1⟩
     rw[hz0]at h5;cases h5
    by_cases e:i<bA.length
    ·rw[hold i e]at hy1
     by_cases e':j<bA.length
     ·rw[hold j e']at hy2;exact I.VJ i j e e' y hy1 hy2
     ·obtain rfl:j=bA.length:=by omega
      rw[hnew]at hy2
      exact(key i e hy1 (n9.1 hy2)).elim
    ·obtain rfl:i=bA.length:=by omega
     rw[hnew]at hy1
     by_cases e':j<bA.length
     ·rw[hold j e']at hy2
      exact(key j e' hy2 (n9.1 hy1)).elim
     ·omega
end Go.Proofs.YthppkofceancjaaGreat
namespace Go.Proofs.YthppkofceancjaaGreat
open Go.ChangeShapes Go.WideShapes Go.ChangeAt Go.RowKit
theorem D4{d:Dg}(h:Uu d=true){c k:Nat}{b:Bool}(hc:c<d.ae.length)(hk:k<4)(hin:cm d c k=!b):aX d (cz d c k) b=(c,k):=by
 have hr:=iN h hc hk
 have hcn:cV d ((cz d c k).toNat:Nat) b (4*d.ae.length)=1:=by
  have:=IX h (cz d c k).toNat (by omega) (by omega)
  cases b
  ·exact this.1
  ·exact this.2
 rw[show(((cz d c k).toNat:Nat):Int)=cz d c k by omega]at hcn
 obtain⟨j,j1,j2,j3,j4⟩:=Jg hcn
 have hme:gA d (cz d c k) b (4*c+k)=true:=by rw[yq hk];cases b<;>simp[hin]
 obtain rfl:=j3 (4*c+k) (by omega) hme
 have e:=aa0 hcn
 rw[j4]at e
 rw[<-e]
 exact Prod.ext (by dsimp only;omega) (by dsimp only;omega)
theorem D8{d:Dg}(h:Uu d=true){a:Int}(ha:1<=a/\a<=2*(d.ae.length:Int))(b:Bool):cz d (aX d a b).1 (aX d a b).2=a/\cm d (aX d a b).1 (aX d a b).2=!b:=by
 obtain⟨_,_,_,h4,h5⟩:=ab0 h (a:=a.toNat) (by omega) (by omega) b
 rw[show((a.toNat:Nat):Int)=a by omega]at h4 h5
 exact⟨h4,h5⟩
theorem anf{d:Dg}(h:Uu d=true)(x k:Nat)(hx:x<d.ae.length)(hk:k<4):∃k',k'<4/\fT d (fT d x k) k'=x:=by
 have ha:=iN h hx hk
 obtain⟨h1,h2,_⟩:=nH h ha (cm d x k)
 obtain⟨h3,h4⟩:=D8 h ha (cm d x k)
 refine⟨(aX d (cz d x k) (cm d x k)).2,h2,?_⟩
 show(aX d (cz d (aX d (cz d x k) (cm d x k)).1 (aX d (cz d x k) (cm d x k)).2) (cm d (aX d (cz d x k) (cm d x k)).1 (aX d (cz d x k) (cm d x k)).2)).1=x
 rw[h3,h4,D4 h hx hk (by cases cm d x k<;>rfl)]
theorem s9{d:Dg}(h:Uu d=true):PcI d d.ae.length (iB d d.ae.length):=aln h (anf h) _ (Nat.le_refl _)
def putP(i:Nat)(p:List Int)(es:List (Int×Int)):Nat->List (Int×Int)
 |0=>es
 |k+1=>mp (ga p k) (i:Int) (putP i p es k)
def wI(bA:List (List Int)):Nat->List (Int×Int)
 |0=>[]
 |i+1=>putP i (ga bA i) (wI bA i) (ga bA i).length
theorem alj(i:Nat)(p:List Int)(es:List (Int×Int))(k:Nat)(hk:k<=p.length)(y:Int):(y∈p.take k->mg y (putP i p es k)=some (i:Int))/\(y∉p.take k->mg y (putP i p es k)=mg y es):=by
 induction k with
 |zero=>exact⟨fun h=>by simp at h,fun _=>rfl⟩
 |succ k ih=>
  have ih:=ih (by omega)
  rw[kJ _ _ (by omega),putP,BP]
  constructor
  ·intro h
   by_cases e:y=ga p k
   ·rw[if_pos e]
   ·rw[if_neg e]
    rcases List.mem_append.1 h with h|h
    ·exact ih.1 h
    ·exact absurd (List.mem_singleton.1 h) e
  ·intro h
   rw[List.mem_append,List.mem_singleton]at h
   rw[if_neg (fun e=>h (.inr e))]
   exact ih.2 (fun e=>h (.inl e))
theorem aj6{bA:List (List Int)}(hd:∀i j,i<bA.length->j<bA.length->∀y,y∈ga bA i->y∈ga bA j->i=j)(m:Nat)(hm:m<=bA.length){i:Nat}(hi:i<m){y:Int}(hy:y∈ga bA i):mg y (wI bA m)=some (i:Int):=by
 induction m with
 |zero=>omega
 |succ m ih=>
  have h:=alj m (ga bA m) (wI bA m) (ga bA m).length (Nat.le_refl _) y
  rw[List.take_length]at h
  rw[wI]
  by_cases e:y∈ga bA m
  ·rw[h.1 e,hd i m (by omega) (by omega) y hy e]
  ·rw[h.2 e]
   exact ih (by omega) (by
    rcases Nat.lt_or_ge i m with h1|h1
    ·exact h1
    ·obtain rfl:i=m:=by omega
     exact absurd hy e)
def pmap(d:Dg):List (Int×Int):=wI (bK d) (bK d).length
def bO(d:Dg)(x:Nat):Nat:=((mg (x:Int) (pmap d)).getD 0).toNat
theorem Bj{d:Dg}(h:Uu d=true){i x:Nat}(hi:i<(bK d).length)(hx:(x:Int)∈ga (bK d) i):mg (x:Int) (pmap d)=some (i:Int)/\bO d x=i:=by
 have e:=aj6 (s9 h).VJ _ (Nat.le_refl _) hi hx
 refine⟨e,?_⟩
 unfold bO
 unfold pmap
 rw[show mg (x:Int) (wI (bK d) (bK d).length)=some (i:Int)from e]
 rfl
theorem wk{d:Dg}(h:Uu d=true){x:Nat}(hx:x<d.ae.length):bO d x<(bK d).length/\(x:Int)∈ga (bK d) (bO d x)/\(mg (x:Int) (pmap d)).getD 0=(bO d x:Int):=by
 obtain⟨i,hi,hm⟩:=((s9 h).see x hx).1 ((s9 h).VK x hx)
 have hi':i<(bK d).length:=hi
 have hm':(x:Int)∈ga (bK d) i:=hm
 obtain⟨h1,h2⟩:=Bj h hi' hm'
 rw[h2]
 exact⟨hi',hm',by rw[h1];rfl⟩
def jB(d:Dg):Nat->List Int
 |0=>List.replicate (bK d).length 0
 |k+1=>(jB d k).set (bO d (gU d k)) (ga (jB d k) (bO d (gU d k))+1)
theorem JG(d:Dg)(k:Nat):(jB d k).length=(bK d).length:=by
 induction k with
 |zero=>exact List.length_replicate
 |succ k ih=>rw[jB,List.length_set,ih]
theorem aod(d:Dg)(k j:Nat):0<=ga (jB d k) j/\ga (jB d k) j<=k:=by
 induction k generalizing j with
 |zero=>
  by_cases h:j<(bK d).length
  ·rw[jB,uk _ _ _ h];simp
  ·rw[jB,show ga (List.replicate (bK d).length (0:Int)) j=0 from by unfold ga;simp[h]];exact⟨Int.le_refl _,Int.le_refl _⟩
 |succ k ih=>
  rw[jB]
  have h1:=ih j
  have h2:=ih (bO d (gU d k))
  by_cases e:bO d (gU d k)=j
  ·by_cases hl:j<(jB d k).length
   ·subst e;rw[bB _ _ _ _ hl,if_pos rfl];omega
   ·rw[List.set_eq_of_length_le (by omega)];omega
  ·rw[aa5 _ _ _ _ e];omega
theorem AF{α:Type}[DecidableEq α]{xs ys:List α}(h:xs.Nodup)(hs:∀y∈xs,y∈ys):xs.length<=ys.length:=by
 induction xs generalizing ys with
 |nil=>exact Nat.zero_le _
 |cons x xs ih=>
  rw[List.nodup_cons]at h
  have hx:=hs x (by simp)
  have h1:=ih h.2 (ys:=ys.erase x) (fun y hy=>(List.mem_erase_of_ne (fun(e:y=x)=>h.1 (by rw[<-e];exact hy))).2 (hs y (by simp[hy])))
  rw[List.length_erase_of_mem hx]at h1
  have:=List.length_pos_of_mem hx
  rw[List.length_cons]
  omega
def iM(d:Dg):Bool:=(List.range (bK d).length).all fun i=>decide (ga (jB d (cD d).length) i=((ga (bK d) i).length:Int)+2)
theorem acv{d:Dg}(h:∀i,i<(bK d).length->ga (jB d (cD d).length) i=((ga (bK d) i).length:Int)+2):iM d=true:=by
 unfold iM
 rw[List.all_eq_true]
 intro p hp
 exact decide_eq_true (h p (List.mem_range.1 hp))
theorem alk{d:Dg}{i:Nat}(hi:i<(bK d).length)(h:¬ga (jB d (cD d).length) i=((ga (bK d) i).length:Int)+2):iM d=false:=by
 unfold iM
 rw[List.all_eq_false]
 exact⟨i,List.mem_range.2 hi,by simpa using h⟩
theorem acx{d:Dg}(h:Uu d=true){i:Nat}(hi:i<(bK d).length):(ga (bK d) i).length<=d.ae.length/\∀y∈ga (bK d) i,0<=y/\y<(d.ae.length:Int):=by
 obtain⟨h1,c0,_,_,h2⟩:=(s9 h).el i hi
 have hb:∀y∈ga (bK d) i,0<=y/\y<(d.ae.length:Int):=fun y hy=>by obtain⟨z,rfl,hz,_⟩:=h2 y hy;omega
 refine⟨?_,hb⟩
 have h3:=AF (ys:=(List.range d.ae.length).map fun x:Nat=>(x:Int)) h1 (fun y hy=>by
  obtain⟨z,rfl,hz,_⟩:=h2 y hy
  exact List.mem_map.2 ⟨z,List.mem_range.2 hz,rfl⟩)
 rw[List.length_map,List.length_range]at h3
 exact h3
noncomputable def Ze5:=Tryz.f65.body.getD .skip
def Ze6:=cL Ze5
def Ze7:=cR Ze5
def Ze8:=cL Ze7
def Ze9:=cR Ze7
def Zea:=cL Ze9
def Zeb:=cR Ze9
def Zec:=cL Zeb
def Zed:=cR Zeb
def Zee:=cL Zec
def Zef:=cR Zec
def Zeg:=cL Zef
def Zeh:=cL Zeg
def Zei:=cL Zeh
def Zej:=cR Zeh
def Zek:=cL Zej
def Zel:=cR Zej
def Zem:=cL Zek
def Zen:=cR Zek
def Zeo:=cL Zel
def Zep:=cR Zel
def Zeq:=cL Zeo
def Zer:=cL Zeq
def Zes:=cR Zeq
def Zet:=cL Zes
def Zeu:=cR Zes
def Zev:=cL Zeu
def Zew:=cL Zev
def Zex:=cL Zew
def Zey:=cR Zew
def Zez:=cL Zey
def Zf0:=cR Zey
def Zf1:=cL Zez
def Zf2:=cR Zez
def Zf3:=cL Zf0
def Zf4:=cR Zf0
def Zf5:=cL Zf3
def Zf6:=cL Zf5
def Zf7:=cR Zf5
def Zf8:=cL Zed
def Zf9:=cR Zed
def Zfa:=cL Zf9
def Zfb:=cR Zf9
def Zfc:=cL Zfa
def Zfd:=cR Zfa
def Zfe:=cL Zfd
def Zff:=cL Zfe
def Zfg:=cL Zff
def Zfh:=cR Zff
def Zfi:=cL Zfh
def Zfj:=cR Zfh
def Zfk:=cL Zfi
def Zfl:=cR Zfi
def Zfm:=cL Zfj
def Zfn:=cR Zfj
def Zfo:=cL Zfm
def Zfp:=cL Zfo
def Zfq:=cR Zfo
def Zfr:=cL Zfb
def Zfs:=cR Zfb
def Zft:=cL Zfr
def Zfu:=cR Zfr
def Zfv:=cL Zfu
def Zfw:=cL Zfv
def Zfx:=cL Zfw
def Zfy:=cR Zfw
def Zfz:=cL Zfy
def Zg0:=cR Zfy
def Zg1:=cL Zfz
def Zg2:=cR Zfz
def Zg3:=cL Zg0
def Zg4:=cR Zg0
def Zg5:=cL Zg3
def Zg6:=cL Zg5
def Zg7:=cR Zg5
def Zg8:=cL Zg7
def Zg9:=cR Zg7
def Zga:=cL Zg9
def Zgb:=cR Zg9
def Zgc:=cL Zga
def Zgd:=cR Zga
def Zge:=cL Zfs
def Zgf:=cR Zfs
set_option maxHeartbeats 1000000 in
set_option maxRecDepth 10000 in
theorem akL{w:World}{M:Hp}{X:Fr}(d:Dg){bp:Nat}{cA iA oA:Option Addr}{cc ic oc:Nat}(aH:bQ (M.un X.h) bp 70 [.slice cA d.ae.length cc,.int .i64 d.loops,.slice iA (aN d false (4*d.ae.length)).length ic,.slice oA (aN d true (4*d.ae.length)).length oc])(hsc:aB bw (M.un X.h) cA cc d.ae)(hsi:aB cw (M.un X.h) iA ic (aN d false (4*d.ae.length)))(aM:aB cw (M.un X.h) oA oc (aN d true (4*d.ae.length)))(hn:d.ae.length<=16)(hab:Uu d=true)(S:SH w M X []):Ct Tryz.prog 65 [.pointer (some ⟨bp,0,none⟩)] w M X (fun u _=>u=.bool (iM d)):=by
 unfold Ct
 refine Up (b:=Ze5) Tryz.func65 rfl Tryz.ntmps65 rfl (fun C hC=>(bu [(0,_)] ⟨rfl,trivial⟩ (U1 Ze6 Ze7 rfl rfl rfl (U0 rfl (af 0 1 rfl rfl (U3 rfl (ah [0] rfl (U2 (U1 Ze8 Ze9 rfl rfl rfl ?_)))))))))
 refine U0 rfl (ar 0 1 rfl rfl rfl (vP Int Int (Value.int .i64) (Value.int .i64) rfl rfl rfl S ?_))
 intro eV w1 S1;clear S
 refine af 1 1 rfl rfl (U3 rfl (ah [0,3] rfl (U2 (U1 Zea Zeb rfl rfl rfl (U0 rfl (af 0 1 rfl rfl (ar 1 2 rfl rfl rfl (dt rfl rfl rfl rfl rfl rfl rfl aqr S1 (akM d (aH.mono S1.Uq) (hsc.mono S1.Uq) (hsi.mono S1.Uq) (aM.mono S1.Uq) hn hab S1.aR) ?_))))))))
 intro mP w2 M1 hle1 S2 jg;clear S1
 replace aH:=aH.mono (Hp.U6 hle1 S2.mx)
 replace hsc:=hsc.mono (Hp.U6 hle1 S2.mx)
 replace hsi:=hsi.mono (Hp.U6 hle1 S2.mx)
 replace aM:=aM.mono (Hp.U6 hle1 S2.mx)
 obtain⟨A1,c1,vs1,rfl,hr1,hd1⟩:=jg
 have aks:=hd1.1
 refine af 2 1 rfl rfl (U3 rfl (ah [0,3,4] rfl (U2 (U1 Zec Zed rfl rfl rfl (U1 Zee Zef rfl rfl rfl (U0 rfl (af 0 1 rfl rfl (ag 1 rfl (Uv rfl rfl rfl rfl rfl rfl FP) ?_))))))))
 refine af 2 1 rfl rfl (U3 rfl (U2 (U7 Zeg 0 rfl rfl rfl ?_)))
 refine Ui (fun aF ak aA=>∃(i:Nat) (es:List (Int×Int)),aF=(bK d).length-i/\Env 75 [(0,.pointer (some ⟨bp,0,none⟩)),(3,.map (some eV)),(4,.slice A1 vs1.length c1),(17,.slice A1 vs1.length c1),(18,.int .i64 (vs1.length:Int)),(19,.int .i64 (i:Int))] ak/\SH aA M1 X [Rs.mp (Value.int .i64) (Value.int .i64) eV es]/\i<=(bK d).length/\es=wI (bK d) i) rfl ?_ ?_
 ·intro ak ai
  refine⟨_,⟨0,[],rfl,ai.sub ⟨rfl,rfl,rfl,rfl,rfl,rfl,trivial⟩,S2.pick [0] [_] (by decide) ⟨rfl,trivial⟩,?bn,?bE⟩⟩
  case bn=>omega
  case bE=>rfl
 ·rintro m2 a1 w3 ⟨i,es,rfl,aQ,S3,hi,hes⟩
  clear S2
  refine aW aQ (c:=Zeh) rfl ?_
  clear aQ a1
  have hpl:=EA d d.ae.length
  replace hpl:(bK d).length<=d.ae.length:=hpl
  refine U1 Zei Zej rfl rfl rfl (U0 rfl (ag 0 rfl (Un rfl rfl rfl) (U3 rfl (U2 (U1 Zek Zel rfl rfl rfl ?_)))))
  refine Ua Zem Zen rfl rfl rfl rfl (fun nE=>?_) (fun nE=>?_)
  ·refine Ub rfl (ah [0,3,4,17,18,19] rfl (U2 (U1 Zeo Zep rfl rfl rfl (U7 Zeq 1 rfl rfl rfl (U1 Zer Zes rfl rfl rfl (U0 rfl (af 0 1 rfl rfl (ag 1 rfl (U9 (C:=(ck 53)) i rfl rfl rfl FU (by first|rfl|omega) hr1 (by first|omega|(simp only[ls];omega))) ?_))))))))
   obtain⟨Dw,hr2⟩:=hd1.2 i (by first|omega|(simp only[ls];omega))
   have azL:(ga (bK d) i).length*8<=140737488355328:=hr2.room
   refine ag 2 rfl (U5 rfl rfl cI rfl (hr1.cell S3.m (i:=i) (by first|omega|(simp only[ls];omega)) 0 rfl (congrArg (fun n=>some (Value.slice _ n _)) Dw))) ?_
   refine af 3 2 rfl rfl (U3 rfl (ah [0,3,4,17,18,19,5,6] rfl (U2 (U1 Zet Zeu rfl rfl rfl (U0 rfl (af 0 1 rfl rfl (ag 1 rfl (Uv rfl rfl rfl rfl rfl rfl cI) (af 2 1 rfl rfl ?_))))))))
   refine U3 rfl (ah [0,3,4,17,18,19,5,24,25,26] rfl (U2 (U7 Zev 2 rfl rfl rfl ?_)))
   refine Ui (fun aF ak aA=>∃(k:Nat) (rE:List (Int×Int)),aF=(ga (bK d) i).length-k/\Env 75 [(0,.pointer (some ⟨bp,0,none⟩)),(3,.map (some eV)),(4,.slice A1 vs1.length c1),(17,.slice A1 vs1.length c1),(18,.int .i64 (vs1.length:Int)),(19,.int .i64 (i:Int)),(5,.int .i64 (i:Int)),(24,.slice ((ga vs1 i).A) (ga (bK d) i).length ((ga vs1 i).c)),(25,.int .i64 ((ga (bK d) i).length:Int)),(26,.int .i64 (k:Int))] ak/\SH aA M1 X [Rs.mp (Value.int .i64) (Value.int .i64) eV rE]/\k<=(ga (bK d) i).length/\rE=putP i (ga (bK d) i) es k) rfl ?_ ?_
   ·intro ak ai
    refine⟨_,⟨0,es,rfl,ai.sub ⟨rfl,rfl,rfl,rfl,rfl,rfl,rfl,rfl,rfl,rfl,trivial⟩,S3.pick [0] [_] (by decide) ⟨rfl,trivial⟩,?bk,?bD⟩⟩
    case bk=>omega
    case bD=>rfl
   ·rintro m3 a2 w4 ⟨k,rE,rfl,bS,S4,hk,afF⟩
    clear S3
    refine aW bS (c:=Zew) rfl ?_
    clear bS a2
    have hpb:=acx hab (i:=i) (by omega)
    refine U1 Zex Zey rfl rfl rfl (U0 rfl (ag 0 rfl (Un rfl rfl rfl) (U3 rfl (U2 (U1 Zez Zf0 rfl rfl rfl ?_)))))
    refine Ua Zf1 Zf2 rfl rfl rfl rfl (fun aso=>?_) (fun aso=>?_)
    ·refine Ub rfl (ah [0,3,4,17,18,19,5,24,25,26] rfl (U2 (U1 Zf3 Zf4 rfl rfl rfl (U7 Zf5 3 rfl rfl rfl (U1 Zf6 Zf7 rfl rfl rfl (U0 rfl (ag 0 rfl (U9 (C:=Uh) k rfl rfl rfl aS (by first|rfl|omega) hr2 (by first|omega|(simp only[ls];omega))) ?_)))))))
     refine ag 1 rfl (U5 rfl rfl aw rfl (hr2.cell S4.m (i:=k) (by first|omega|(simp only[ls];omega)) 0 rfl rfl)) ?_
     refine af 2 1 rfl rfl (U3 rfl (ah [0,3,4,17,18,19,5,24,25,26,8] rfl (U2 (U0 rfl (af 0 3 rfl rfl (ar 3 4 rfl rfl rfl (tT (kc:=Value.int .i64) (vc:=Value.int .i64) (es:=rE) (k:=(ga (ga (bK d) i) k)) (e:=(i:Int)) (i:=0) (H':=[_]) (.inl rfl) rfl S4 rfl rfl rfl rfl ae9 mS rfl ?_)))))))
     intro w5 S5;clear S4
     refine U3 rfl (Ul (ah [0,3,4,17,18,19,5,24,25,26] rfl (U2 (U0 rfl (ag 0 rfl (Ud rfl rfl rfl (by first|omega|(simp only[ls];omega))) ?_)))))
     refine af 1 1 rfl rfl (U3 rfl (Ut ?_))
     intro ak ai
     refine⟨_,?fM,⟨k+1,_,rfl,ai.sub ⟨rfl,rfl,rfl,rfl,rfl,rfl,rfl,rfl,rfl,rfl,trivial⟩,S5.pick [0] [_] (by decide) ⟨rfl,trivial⟩,?cu,?cN⟩⟩
     case cu=>omega
     case cN=>(rw[afF];rfl)
     case fM=>omega
    ·refine Uk rfl rfl (Ul (ah [0,3,4,17,18,19] rfl (U2 (U0 rfl (ag 0 rfl (Ud rfl rfl rfl (by first|omega|(simp only[ls];omega))) ?_)))))
     refine af 1 1 rfl rfl (U3 rfl (Ut ?_))
     intro ak ai
     refine⟨_,?jf,⟨i+1,_,rfl,ai.sub ⟨rfl,rfl,rfl,rfl,rfl,rfl,trivial⟩,S4.pick [0] [_] (by decide) ⟨rfl,trivial⟩,?dL,?ek⟩⟩
     case dL=>omega
     case ek=>(obtain rfl:k=(ga (bK d) i).length:=(by omega);rw[afF,hes];rfl)
     case jf=>omega
  ·have arZ:es=pmap d:=by rw[hes,show i=(bK d).length by omega];rfl
   have afq:=EA d d.ae.length
   replace afq:(bK d).length<=d.ae.length:=afq
   refine Uk rfl rfl (ah [0,3,4] rfl (U2 (U1 Zf8 Zf9 rfl rfl rfl (U0 rfl (af 0 1 rfl rfl (ag 1 rfl (Uv rfl rfl rfl rfl rfl rfl FP) (ar 2 3 rfl rfl rfl (rJ (C:=Uh) vs1.length rfl rfl rfl rfl rfl aS (by first|rfl|omega) (by show _*8<=_;first|omega|(simp only[ls];omega)) S3 ?_))))))))
   intro zz w6 S6;clear S3
   refine af 3 1 rfl rfl (U3 rfl (ah [0,3,4,9] rfl (U2 (U1 Zfa Zfb rfl rfl rfl (U1 Zfc Zfd rfl rfl rfl (U0 rfl (af 0 1 rfl rfl (ar 1 2 rfl rfl rfl (dt rfl rfl rfl rfl rfl rfl rfl asE S6 (InF.amF d (aH.mono S6.Uq) (hsc.mono S6.Uq) (hsi.mono S6.Uq) (aM.mono S6.Uq) hn hab S6.aR) ?_)))))))))
   intro vw7 w7 M2 bt S7 Mu;clear S6
   replace aH:=aH.mono (Hp.U6 bt S7.mx)
   replace hsc:=hsc.mono (Hp.U6 bt S7.mx)
   replace hsi:=hsi.mono (Hp.U6 bt S7.mx)
   replace aM:=aM.mono (Hp.U6 bt S7.mx)
   replace hr1:=hr1.mono bt
   replace hd1:=hd1.mono bt
   obtain⟨A2,c2,vs2,rfl,hr3,hd2⟩:=Mu
   have azu:=hd2.1
   refine ag 2 rfl (Uv rfl rfl rfl rfl rfl rfl Cf) (af 3 1 rfl rfl (U3 rfl (ah [0,3,4,9,39,40,41] rfl (U2 (U7 Zfe 4 rfl rfl rfl ?_)))))
   refine Ui (fun aF ak aA=>∃(k:Nat) (fs:List Int) (Dh:Value),aF=(cD d).length-k/\Env 75 [(0,.pointer (some ⟨bp,0,none⟩)),(3,.map (some eV)),(4,.slice A1 vs1.length c1),(9,Dh),(39,.slice A2 vs2.length c2),(40,.int .i64 (vs2.length:Int)),(41,.int .i64 (k:Int))] ak/\SH aA M2 X [Rs.row Uh Dh fs,Rs.mp (Value.int .i64) (Value.int .i64) eV es]/\k<=(cD d).length/\fs=jB d k) rfl ?_ ?_
   ·intro ak ai
    refine⟨_,⟨0,_,_,rfl,ai.sub ⟨rfl,rfl,rfl,rfl,rfl,rfl,rfl,trivial⟩,S7.pick [0,1] [_,_] (by decide) ⟨rfl,rfl,trivial⟩,?ei,?fK⟩⟩
    case ei=>omega
    case fK=>(rw[aks];rfl)
   ·rintro m4 a3 w8 ⟨k,fs,Dh,rfl,cW,S8,hk,rz⟩
    clear S7
    refine aW cW (c:=Zff) rfl ?_
    clear cW a3
    have hfm:=aak d
    have arY:fs.length=(bK d).length:=by rw[rz,JG]
    refine U1 Zfg Zfh rfl rfl rfl (U0 rfl (ag 0 rfl (Un rfl rfl rfl) (U3 rfl (U2 (U1 Zfi Zfj rfl rfl rfl ?_)))))
    refine Ua Zfk Zfl rfl rfl rfl rfl (fun CA=>?_) (fun CA=>?_)
    ·obtain⟨hh0,hok⟩:=KA (d:=d) (k:=k) (by omega)
     have hfc:=KE hab (k:=k) (by omega)
     have hpi:=wk hab hfc
     obtain⟨aBr,hpi2,afr⟩:=hpi
     rw[<-arZ]at afr
     have hfb:=aod d k (bO d (gU d k))
     rw[<-rz]at hfb
     refine Ub rfl (ah [0,3,4,9,39,40,41] rfl (U2 (U1 Zfm Zfn rfl rfl rfl (U7 Zfo 5 rfl rfl rfl (U1 Zfp Zfq rfl rfl rfl (U0 rfl (ag 0 rfl (U9 (C:=(ck 141)) k rfl rfl rfl xh (by first|rfl|omega) hr3 (by first|omega|(simp only[ls];omega))) ?_)))))))
     obtain⟨zK,hr4⟩:=hd2.2 k (by first|omega|(simp only[ls];omega))
     have ao2:(ga (cD d) k).length*16<=140737488355328:=hr4.room
     refine ag 1 rfl (U5 rfl rfl FO rfl (hr3.cell S8.m (i:=k) (by first|omega|(simp only[ls];omega)) 0 rfl (congrArg (fun n=>some (Value.slice _ n _)) zK))) ?_
     refine af 2 1 rfl rfl (U3 rfl (ah [0,3,4,9,39,40,41,11] rfl (U2 (U0 rfl (af 0 4 rfl rfl (ag 4 rfl (U9 (C:=gN) 0 rfl rfl rfl wF (by first|rfl|omega) hr4 (by first|omega|(simp only[ls];omega))) ?_))))))
     refine ag 5 rfl (Uc (us:=[_,_]) rfl rfl gw rfl iz (hr4.fV S8.m (e:=0) (by first|omega|(simp only[ls];omega)) (j:=0) ⟨rfl,rfl,trivial⟩)) ?_
     refine ar 6 7 rfl rfl rfl (gJ rfl rfl rfl rfl rfl rfl rfl aeY S8 (ad7 d (ga (ga (cD d) k) 0) (aH.mono S8.Uq) (hsc.mono S8.Uq) (hsi.mono S8.Uq) (aM.mono S8.Uq) (by first|assumption|omega) hab (by first|assumption|omega) S8.aR) ?_)
     rintro _ w9 S9 rfl;clear S8
     refine ag 7 rfl (D6 rfl rfl iZ rfl aw rfl rfl) (ag 8 rfl (qD (kc:=Value.int .i64) (vc:=Value.int .i64) (es:=es) (k:=((aX d (ga (ga (cD d) k) 0).a (ga (ga (cD d) k) 0).b).1:Int)) (zv:=0) (i:=1) rfl rfl rfl ae9 mS nN S9 rfl) (cZ 53 (.int .i64 (bO d (gU d k):Int)) rfl (int_eq afr) (ag 9 rfl (Ue (C:=Uh) (i:=0) (bO d (gU d k)) rfl rfl rfl aS S9 rfl (by first|rfl|omega) (by first|omega|(simp only[ls];omega))) ?_)))
     refine ag 10 rfl (U5 rfl rfl aw rfl (S9.cK (i:=0) (e:=bO d (gU d k)) (j:=0) rfl (by first|omega|(simp only[ls];omega)) rfl rfl)) ?_
     refine ag 11 rfl (Ud rfl rfl rfl (by first|omega|(simp only[ls];omega))) ?_
     refine ag 12 rfl (Ue (C:=Uh) (i:=0) (bO d (gU d k)) rfl rfl rfl aS S9 rfl (by first|rfl|omega) (by first|omega|(simp only[ls];omega))) ?_
     refine ar 13 14 rfl rfl rfl (ij (C:=Uh) (i:=0) (e:=bO d (gU d k)) (j:=0) (us:=[_]) (H':=[_,_]) ((ga fs (bO d (gU d k)))+1) rfl rfl S9 rfl (by first|omega|(simp only[ls];omega)) rfl rfl rfl dw rfl rfl rfl rfl ?_)
     intro oZ bM;clear S9
     refine U3 rfl (Ul (ah [0,3,4,9,39,40,41] rfl (U2 (U0 rfl (ag 0 rfl (Ud rfl rfl rfl (by first|omega|(simp only[ls];omega))) ?_)))))
     refine af 1 1 rfl rfl (U3 rfl (Ut ?_))
     intro ak ai
     refine⟨_,?lS,⟨k+1,_,_,rfl,ai.sub ⟨rfl,rfl,rfl,rfl,rfl,rfl,rfl,trivial⟩,bM.pick [0,1] [_,_] (by decide) ⟨rfl,rfl,trivial⟩,?fJ,?gu⟩⟩
     case fJ=>omega
     case gu=>(rw[rz];rfl)
     case lS=>omega
    ·have Mf:fs=jB d (cD d).length:=by rw[rz,show k=(cD d).length by omega]
     refine Uk rfl rfl (ah [4,9] rfl (U2 (U1 Zfr Zfs rfl rfl rfl (U1 Zft Zfu rfl rfl rfl (U0 rfl (af 0 1 rfl rfl (ag 1 rfl (Uv rfl rfl rfl rfl rfl rfl FP) (af 2 1 rfl rfl ?_))))))))
     refine U3 rfl (ah [9,59,60,61] rfl (U2 (U7 Zfv 6 rfl rfl rfl ?_)))
     refine Ui (fun aF ak aA=>∃(j:Nat),aF=(bK d).length-j/\Env 75 [(9,Dh),(59,.slice A1 vs1.length c1),(60,.int .i64 (vs1.length:Int)),(61,.int .i64 (j:Int))] ak/\SH aA M2 X [Rs.row Uh Dh fs]/\j<=(bK d).length/\(∀q,q<j->ga fs q=((ga (bK d) q).length:Int)+2)) rfl ?_ ?_
     ·intro ak ai
      refine⟨_,⟨0,rfl,ai.sub ⟨rfl,rfl,rfl,rfl,trivial⟩,S8.pick [0] [_] (by decide) ⟨rfl,trivial⟩,?gq,?gj⟩⟩
      case gq=>omega
      case gj=>(intro q hq;omega)
     ·rintro m5 a4 mO ⟨j,rfl,kE,bJ,hj,hall⟩
      clear S8
      refine aW kE (c:=Zfw) rfl ?_
      clear kE a4
      have hpl:=EA d d.ae.length
      replace hpl:(bK d).length<=d.ae.length:=hpl
      have arY:fs.length=(bK d).length:=by rw[Mf,JG]
      refine U1 Zfx Zfy rfl rfl rfl (U0 rfl (ag 0 rfl (Un rfl rfl rfl) (U3 rfl (U2 (U1 Zfz Zg0 rfl rfl rfl ?_)))))
      refine Ua Zg1 Zg2 rfl rfl rfl rfl (fun asf=>?_) (fun asf=>?_)
      ·have hpb:=acx hab (i:=j) (by omega)
       refine Ub rfl (ah [9,59,60,61] rfl (U2 (U1 Zg3 Zg4 rfl rfl rfl (U7 Zg5 7 rfl rfl rfl (U1 Zg6 Zg7 rfl rfl rfl (U0 rfl (af 0 1 rfl rfl (ag 1 rfl (U9 (C:=(ck 53)) j rfl rfl rfl FU (by first|rfl|omega) hr1 (by first|omega|(simp only[ls];omega))) ?_))))))))
       obtain⟨hn3,jQ⟩:=hd1.2 j (by first|omega|(simp only[ls];omega))
       have azJ:(ga (bK d) j).length*8<=140737488355328:=jQ.room
       refine ag 2 rfl (U5 rfl rfl cI rfl (hr1.cell bJ.m (i:=j) (by first|omega|(simp only[ls];omega)) 0 rfl (congrArg (fun n=>some (Value.slice _ n _)) hn3))) ?_
       refine af 3 2 rfl rfl (U3 rfl (ah [9,59,60,61,12,13] rfl (U2 (U1 Zg8 Zg9 rfl rfl rfl (U0 rfl (af 0 2 rfl rfl (ag 2 rfl (Ue (C:=Uh) (i:=0) j rfl rfl rfl aS bJ rfl (by first|rfl|omega) (by first|omega|(simp only[ls];omega))) ?_)))))))
       refine ag 3 rfl (U5 rfl rfl aw rfl (bJ.cK (i:=0) (e:=j) (j:=0) rfl (by first|omega|(simp only[ls];omega)) rfl rfl)) ?_
       refine af 4 1 rfl rfl (ag 5 rfl (Uv rfl rfl rfl rfl rfl rfl cI) (ag 6 rfl (Ud rfl rfl rfl (by first|omega|(simp only[ls];omega))) ?_))
       refine ag 7 rfl (gG rfl rfl rfl) (U3 rfl (ah [9,59,60,61,73] rfl (U2 ?_)))
       refine Ua Zga Zgb rfl rfl rfl rfl (fun Cx=>?_) (fun Cx=>?_)
       ·refine U1 Zgc Zgd rfl rfl rfl (U0 rfl (af 0 1 rfl rfl (U3 rfl (ah [2] rfl (U2 (Us hC [_] rfl rfl ⟨rfl,trivial⟩ ?_))))))
        refine⟨_,rfl,_,hle1.trans bt,(bJ.pick [] [] (by decide) trivial),?_⟩
        refine congrArg Value.bool (alk (i:=j) (by omega) ?_).symm
        rw[<-Mf];omega
       ·refine Ub rfl (Ul (ah [9,59,60,61] rfl (U2 (U0 rfl (ag 0 rfl (Ud rfl rfl rfl (by first|omega|(simp only[ls];omega))) ?_)))))
        refine af 1 1 rfl rfl (U3 rfl (Ut ?_))
        intro ak ai
        refine⟨_,?nA,⟨j+1,rfl,ai.sub ⟨rfl,rfl,rfl,rfl,trivial⟩,bJ.pick [0] [_] (by decide) ⟨rfl,trivial⟩,?iy,?iw⟩⟩
        case iy=>omega
        case iw=>(intro q hq;by_cases h:q=j;(subst h;omega);exact hall q (by omega))
        case nA=>omega
      ·refine Uk rfl rfl (Uw [] trivial (U2 (U1 Zge Zgf rfl rfl rfl (U0 rfl (af 0 1 rfl rfl (U3 rfl (U2 (Us hC [_] rfl rfl ⟨rfl,trivial⟩ ?_))))))))
       refine⟨_,rfl,_,hle1.trans bt,(bJ.pick [] [] (by decide) trivial),?_⟩
       exact congrArg Value.bool (acv (d:=d) (fun q hq=>by rw[<-Mf];exact hall q (by omega))).symm
end Go.Proofs.YthppkofceancjaaGreat
namespace Go.Proofs.YthppkofceancjaaGreat
open Go.ChangeShapes Go.WideShapes Go.ChangeAt Go.RowKit
def roundG(e1 e2:Nat->Nat)(ws:List Int):Nat->List Int
 |0=>ws
 |k+1=>mD (roundG e1 e2 ws k) (e1 k) (e2 k)
def cn(P:Nat->Bool):Nat->Nat
 |0=>0
 |k+1=>cn P k+(if P k=true then 1 else 0)
theorem aqd(P:Nat->Bool)(k:Nat):cn P k<=k:=by
 induction k with
 |zero=>exact Nat.le_refl _
 |succ k ih=>rw[cn];split<;>omega
theorem aml{P Q:Nat->Bool}(k:Nat)(h:∀x,x<k->P x=true->Q x=true):cn P k<=cn Q k:=by
 induction k with
 |zero=>exact Nat.le_refl _
 |succ k ih=>
  have:=ih (fun x hx=>h x (by omega))
  rw[cn,cn]
  by_cases hp:P k=true
  ·rw[if_pos hp,if_pos (h k (by omega) hp)];omega
  ·rw[if_neg hp];omega
theorem aqc{P Q:Nat->Bool}(k:Nat)(h:∀x,x<k->P x=true->Q x=true){x:Nat}(hx:x<k)(hq:Q x=true)(hp:P x=false):cn P k<cn Q k:=by
 induction k with
 |zero=>omega
 |succ k ih=>
  rw[cn,cn]
  by_cases e:x=k
  ·subst e
   have:=aml x (P:=P) (Q:=Q) (fun y hy=>h y (by omega))
   rw[if_pos hq,if_neg (by rw[hp];exact Bool.false_ne_true)];omega
  ·have:=ih (fun y hy=>h y (by omega)) (by omega)
   by_cases hp':P k=true
   ·rw[if_pos hp',if_pos (h k (by omega) hp')];omega
   ·rw[if_neg hp'];omega
theorem aoq{P:Nat->Bool}(k:Nat)(h:k<=cn P k):∀x,x<k->P x=true:=by
 induction k with
 |zero=>intro x hx;omega
 |succ k ih=>
  rw[cn]at h
  have hl:=aqd P k
  by_cases hp:P k=true
  ·intro x hx
   by_cases e:x=k
   ·subst e;exact hp
   ·rw[if_pos hp]at h;exact ih (by omega) x (by omega)
  ·rw[if_neg hp]at h;omega
theorem least{P:Nat->Prop}(y:Nat)(h:P y):∃z,P z/\∀u,P u->z<=u:=by
 induction y using Nat.strongRecOn with
 |_ y ih=>
  by_cases hs:∃u,u<y/\P u
  ·obtain⟨u,hu,hp⟩:=hs
   exact ih u hu hp
  ·exact⟨y,h,fun u hu=>by
    rcases Nat.lt_or_ge u y with h1|h1
    ·exact absurd ⟨u,h1,hu⟩ hs
    ·exact h1⟩
def yZ(N:Nat)(cl:Nat->Nat)(ws:List Int):Prop:=ws.length=N/\∀x,x<N->∃z:Nat,z<N/\ga ws x=(z:Int)/\cl z=cl x
theorem ajE{N:Nat}{cl:Nat->Nat}{ws:List Int}(h:yZ N cl ws){x y:Nat}(hx:x<N)(hy:y<N)(hc:cl x=cl y):yZ N cl (mD ws x y):=by
 refine⟨by rw[aaL];exact h.1,fun z hz=>?_⟩
 have hl:=h.1
 unfold mD
 split
 ·rw[bB _ _ _ _ (by omega)]
  split
  ·rename_i e;subst e
   obtain⟨u,h1,h2,h3⟩:=h.2 x hx
   exact⟨u,h1,h2,h3.trans hc⟩
  ·exact h.2 z hz
 ·rw[bB _ _ _ _ (by omega)]
  split
  ·rename_i e;subst e
   obtain⟨u,h1,h2,h3⟩:=h.2 y hy
   exact⟨u,h1,h2,h3.trans hc.symm⟩
  ·exact h.2 z hz
theorem aiC{N:Nat}{cl:Nat->Nat}{m:Nat->Nat}(hm:∀x,x<N->∀y,y<N->cl y=cl x->m x<=y)(tC:∀x y,x<N->y<N->cl x=cl y->m x=m y){ws:List Int}(h:yZ N cl ws){x y:Nat}(hx:x<N)(hy:y<N)(hc:cl x=cl y):
  (∀z,z<N->ga ws z=(m z:Int)->ga (mD ws x y) z=(m z:Int))/\(ga ws x=(m x:Int)\/ga ws y=(m y:Int)->ga (mD ws x y) x=(m x:Int)/\ga (mD ws x y) y=(m y:Int)):=by
 have hl:=h.1
 have hmm:=tC x y hx hy hc
 obtain⟨u,u1,u2,u3⟩:=h.2 x hx
 obtain⟨v,v1,v2,v3⟩:=h.2 y hy
 have b1:=hm x hx u u1 u3
 have b2:=hm y hy v v1 v3
 unfold mD
 by_cases hlt:ga ws x<ga ws y
 ·rw[if_pos hlt]
  simp only[bB _ _ _ _ (show y<ws.length by omega)]
  refine⟨fun z hz hg=>?_,fun hg=>?_⟩
  ·split
   ·rename_i e;subst e;omega
   ·exact hg
  ·simp only[if_true,ite_self]
   have e0:ga ws x=(m x:Int):=by rcases hg with hg|hg<;>omega
   omega
 ·rw[if_neg hlt]
  simp only[bB _ _ _ _ (show x<ws.length by omega)]
  refine⟨fun z hz hg=>?_,fun hg=>?_⟩
  ·split
   ·rename_i e;subst e;omega
   ·exact hg
  ·simp only[if_true,ite_self]
   have e0:ga ws y=(m y:Int):=by rcases hg with hg|hg<;>omega
   omega
theorem labels{N K:Nat}(e1 e2:Nat->Nat)(he:∀k,k<K->e1 k<N/\e2 k<N)(cl:Nat->Nat)(hin:∀k,k<K->cl (e1 k)=cl (e2 k))
  (hcon:∀Z:Nat->Prop,(∀k,k<K->(Z (e1 k)<->Z (e2 k)))->∀x y,x<N->y<N->cl x=cl y->Z x->Z y)
  (ws:Nat->List Int)(hlen:(ws 0).length=N)(h0:∀x:Nat,x<N->ga (ws 0) x=(x:Int))(hs:∀j,ws (j+1)=roundG e1 e2 (ws j) K):
  ∀x,x<N->∃z:Nat,z<N/\ga (ws N) x=(z:Int)/\cl z=cl x/\∀y,y<N->cl y=cl x->z<=y:=by
 have hex:∀x:Nat,∃z:Nat,x<N->(z<N/\cl z=cl x)/\∀u,u<N/\cl u=cl x->z<=u:=fun x=>by
  by_cases hx:x<N
  ·obtain⟨z,h1,h2⟩:=least (P:=fun z=>z<N/\cl z=cl x) x ⟨hx,rfl⟩
   exact⟨z,fun _=>⟨h1,h2⟩⟩
  ·exact⟨0,fun h=>absurd h hx⟩
 obtain⟨m,hm0⟩:=Classical.axiomOfChoice hex
 have hm:∀x,x<N->∀y,y<N->cl y=cl x->m x<=y:=fun x hx y hy e=>(hm0 x hx).2 y ⟨hy,e⟩
 have tC:∀x y,x<N->y<N->cl x=cl y->m x=m y:=fun x y hx hy e=>by
  have h1:=hm0 x hx
  have h2:=hm0 y hy
  have:=h1.2 (m y) ⟨h2.1.1,h2.1.2.trans e.symm⟩
  have:=h2.2 (m x) ⟨h1.1.1,h1.1.2.trans e⟩
  omega
 have Ka:∀w,yZ N cl w->∀k,k<=K->yZ N cl (roundG e1 e2 w k)/\(∀z,z<N->ga w z=(m z:Int)->ga (roundG e1 e2 w k) z=(m z:Int))/\
   ∀j,j<k->(ga w (e1 j)=(m (e1 j):Int)\/ga w (e2 j)=(m (e2 j):Int))->ga (roundG e1 e2 w k) (e1 j)=(m (e1 j):Int)/\ga (roundG e1 e2 w k) (e2 j)=(m (e2 j):Int):=fun w hw k=>by
  induction k with
  |zero=>exact fun _=>⟨hw,fun z _ h=>h,fun j hj=>by omega⟩
  |succ k ih=>
   intro hk
   obtain⟨a1,a2,a3⟩:=ih (by omega)
   obtain⟨p1,p2⟩:=he k (by omega)
   have hc:=hin k (by omega)
   obtain⟨g1,g2⟩:=aiC hm tC a1 p1 p2 hc
   refine⟨ajE a1 p1 p2 hc,fun z hz h=>g1 z hz (a2 z hz h),fun j hj hg=>?_⟩
   obtain⟨q1,q2⟩:=he j (by omega)
   by_cases e:j=k
   ·subst e
    exact g2 (hg.elim (fun h=>.inl (a2 _ q1 h)) (fun h=>.inr (a2 _ q2 h)))
   ·obtain⟨r1,r2⟩:=a3 j (by omega) hg
    exact⟨g1 _ q1 r1,g1 _ q2 r2⟩
 have hok:∀j,yZ N cl (ws j):=fun j=>by
  induction j with
  |zero=>exact⟨hlen,fun x hx=>⟨x,hx,h0 x hx,rfl⟩⟩
  |succ j ih=>rw[hs];exact(Ka _ ih K (Nat.le_refl _)).1
 have FW:∀j z,z<N->ga (ws j) z=(m z:Int)->ga (ws (j+1)) z=(m z:Int):=fun j z hz h=>by rw[hs];exact(Ka _ (hok j) K (Nat.le_refl _)).2.1 z hz h
 have hroot:∀j x,x<N->ga (ws j) (m x)=(m (m x):Int):=fun j x hx=>by
  have h1:=(hm0 x hx).1
  have e:m (m x)=m x:=tC _ _ h1.1 hx h1.2
  induction j with
  |zero=>rw[h0 _ h1.1,e]
  |succ j ih=>exact FW j _ h1.1 ih
 have hgrow:∀j,(∀x,x<N->ga (ws j) x=(m x:Int))\/j<=cn (fun x=>decide (ga (ws j) x=(m x:Int))) N:=fun j=>by
  induction j with
  |zero=>exact .inr (Nat.zero_le _)
  |succ j ih=>
   rcases ih with ih|ih
   ·exact .inl fun x hx=>FW j x hx (ih x hx)
   ·by_cases hnew:∃x,x<N/\ga (ws (j+1)) x=(m x:Int)/\ga (ws j) x≠(m x:Int)
    ·obtain⟨x,hx,h1,h2⟩:=hnew
     right
     have:=aqc (P:=fun x=>decide (ga (ws j) x=(m x:Int))) (Q:=fun x=>decide (ga (ws (j+1)) x=(m x:Int))) N (fun z hz h=>decide_eq_true (FW j z hz (of_decide_eq_true h))) hx (decide_eq_true h1) (decide_eq_false h2)
     omega
    ·left
     have hsame:∀x,x<N->ga (ws (j+1)) x=(m x:Int)->ga (ws j) x=(m x:Int):=fun x hx h=>Classical.byContradiction fun h'=>hnew ⟨x,hx,h,h'⟩
     have hcl:=hcon (fun x=>ga (ws j) x=(m x:Int)) (fun k hk=>by
      obtain⟨q1,q2⟩:=he k hk
      have h3:=(Ka _ (hok j) K (Nat.le_refl _)).2.2 k hk
      rw[<-hs]at h3
      exact⟨fun h=>hsame _ q2 (h3 (.inl h)).2,fun h=>hsame _ q1 (h3 (.inr h)).1⟩)
     intro x hx
     have h1:=(hm0 x hx).1
     exact FW j x hx (hcl (m x) x h1.1 hx h1.2 (hroot j x hx))
 intro x hx
 have hall:ga (ws N) x=(m x:Int):=by
  rcases hgrow N with h|h
  ·exact h x hx
  ·exact of_decide_eq_true (aoq N h x hx)
 have h1:=hm0 x hx
 exact⟨m x,h1.1.1,hall,h1.1.2,fun y hy e=>h1.2 y ⟨hy,e⟩⟩
end Go.Proofs.YthppkofceancjaaGreat
namespace Go.Proofs.YthppkofceancjaaGreat
open Go.ChangeShapes Go.WideShapes Go.ChangeAt Go.RowKit
theorem acW{d:Dg}(h:Uu d=true){x s:Nat}(hx:x<d.ae.length)(hs:s<4):∃k,k<2*d.ae.length/\((dU d k false=x/\dU d k true=fT d x s)\/(dU d k true=x/\dU d k false=fT d x s)):=by
 have ha:=iN h hx hs
 have e:(((cz d x s).toNat-1+1:Nat):Int)=cz d x s:=by omega
 refine⟨(cz d x s).toNat-1,by omega,?_⟩
 unfold dU fT
 rw[e]
 cases hb:cm d x s
 ·right
  exact⟨by rw[D4 h hx hs (b:=true) hb],rfl⟩
 ·left
  exact⟨by rw[D4 h hx hs (b:=false) hb],rfl⟩
theorem acD{d:Dg}(h:Uu d=true){k:Nat}(hk:k<2*d.ae.length):∃s,s<4/\fT d (dU d k false) s=dU d k true:=by
 have ha:1<=((k+1:Nat):Int)/\((k+1:Nat):Int)<=2*(d.ae.length:Int):=by omega
 obtain⟨_,h2,_⟩:=nH h ha false
 obtain⟨h3,h4⟩:=D8 h ha false
 refine⟨(aX d ((k+1:Nat):Int) false).2,h2,?_⟩
 unfold fT dU
 rw[h3,h4]
 rfl
theorem adx{d:Dg}(h:Uu d=true){x s:Nat}(hx:x<d.ae.length)(hs:s<4):bO d (fT d x s)=bO d x:=by
 obtain⟨h1,h2,_⟩:=wk h hx
 exact(Bj h h1 ((s9 h).HJ _ h1 _ h2 s hs)).2
theorem E7(n k:Nat)(hk:k<=n)(x:Nat)(hx:x<k):ga (iniW n k) x=(x:Int):=by
 induction k with
 |zero=>omega
 |succ k ih=>
  rw[iniW,bB _ _ _ _ (by rw[vE];omega)]
  split
  ·rename_i e;subst e;rfl
  ·exact ih (by omega) (by omega)
theorem ajX(d:Dg)(ws:List Int)(k:Nat):wj d ws k=roundG (fun j=>dU d j false) (fun j=>dU d j true) ws k:=by
 induction k with
 |zero=>rfl
 |succ k ih=>rw[wj,roundG,ih]
theorem ao4{d:Dg}(h:Uu d=true){x y:Nat}(hr:Rc d x y)(hx:x<d.ae.length):y<d.ae.length:=by
 induction hr with
 |refl=>exact hx
 |step _ hk ih=>exact Fs h ih hk
theorem aai{d:Dg}(h:Uu d=true)(Z:Nat->Prop)(hZ:∀x s,x<d.ae.length->s<4->(Z x<->Z (fT d x s))){x y:Nat}(hx:x<d.ae.length)(hy:y<d.ae.length)(e:bO d x=bO d y):Z x->Z y:=by
 have hrc:∀c z,c<d.ae.length->Rc d c z->(Z c<->Z z):=fun c z hc hr=>by
  induction hr with
  |refl=>exact Iff.rfl
  |step hr' hk ih=>exact ih.trans (hZ _ _ (ao4 h hr' hc) hk)
 obtain⟨h1,h2,_⟩:=wk h hx
 obtain⟨_,h2',_⟩:=wk h hy
 rw[<-e]at h2'
 obtain⟨_,c0,hc0,_,hel⟩:=(s9 h).el _ h1
 obtain⟨u,eu,_,ru⟩:=hel _ h2
 obtain⟨v,ev,_,rv⟩:=hel _ h2'
 obtain rfl:x=u:=by omega
 obtain rfl:y=v:=by omega
 exact fun hz=>(hrc _ _ hc0 rv).1 ((hrc _ _ hc0 ru).2 hz)
theorem Aq{d:Dg}(h:Uu d=true):∀x,x<d.ae.length->∃z:Nat,z<d.ae.length/\ga (dR d) x=(z:Int)/\bO d z=bO d x/\∀y,y<d.ae.length->bO d y=bO d x->z<=y:=
 labels (N:=d.ae.length) (K:=2*d.ae.length) (fun j=>dU d j false) (fun j=>dU d j true) (fun k hk=>⟨yt h hk false,yt h hk true⟩) (bO d)
  (fun k hk=>by
   obtain⟨s,hs,e⟩:=acD h hk
   rw[<-e,adx h (yt h hk false) hs])
  (fun Z hZ x y hx hy e=>aai h Z (fun u s hu hs=>by
   obtain⟨k,hk,hh⟩:=acW h hu hs
   have:=hZ k hk
   rcases hh with⟨h1,h2⟩|⟨h1,h2⟩
   ·rw[h1,h2]at this;exact this
   ·rw[h1,h2]at this;exact this.symm) hx hy e)
  (wH d) (Ez d 0) (fun x hx=>E7 _ _ (Nat.le_refl _) x hx) (fun j=>by rw[wH,ajX])
theorem abv{d:Dg}(h:Uu d=true){x z:Nat}(hx:x<d.ae.length)(hz:ga (dR d) x=(z:Int)):z<d.ae.length/\bO d z=bO d x/\ga (dR d) z=(z:Int):=by
 obtain⟨u,h1,h2,h3,h4⟩:=Aq h x hx
 obtain rfl:z=u:=by omega
 obtain⟨v,g1,g2,g3,g4⟩:=Aq h z h1
 have a1:=g4 z h1 rfl
 have a2:=h4 v g1 (g3.trans h3)
 obtain rfl:v=z:=by omega
 exact⟨h1,h3,g2⟩
theorem acf{d:Dg}(h:Uu d=true){p:Nat}(hp:p<d.ae.length)(hr:ga (dR d) p=(p:Int)){x:Nat}(hx:x<d.ae.length):ga (dR d) x=(p:Int)<->bO d x=bO d p:=by
 constructor
 ·intro e
  exact(abv h hx e).2.1.symm
 ·intro e
  obtain⟨u,h1,h2,h3,h4⟩:=Aq h x hx
  obtain⟨v,g1,g2,g3,g4⟩:=Aq h p hp
  obtain rfl:v=p:=by omega
  have a1:=h4 v hp e.symm
  have a2:=g4 u h1 (h3.trans e)
  rw[h2]
  omega
theorem rK{P Q:Nat->Bool}(k:Nat)(h:∀x,x<k->P x=Q x):cn P k=cn Q k:=by
 induction k with
 |zero=>rfl
 |succ k ih=>rw[cn,cn,ih (fun x hx=>h x (by omega)),h k (by omega)]
theorem qB(P:Nat->Bool)(k:Nat):cn P k=((List.range k).filter P).length:=by
 induction k with
 |zero=>rfl
 |succ k ih=>
  rw[cn,ih,List.range_succ,List.filter_append,List.length_append]
  by_cases hp:P k=true<;>simp[hp]
theorem alC(ws:List Int)(p:Int)(k:Nat):negW ws p k=-(cn (fun x=>decide (ga ws x=p)) k:Int):=by
 induction k with
 |zero=>rfl
 |succ k ih=>
  rw[negW,cn,ih]
  by_cases e:ga ws k=p
  ·rw[if_pos e,if_pos (decide_eq_true e)];omega
  ·rw[if_neg e,if_neg (by simpa using e)];omega
theorem al5(d:Dg)(ws:List Int)(p m:Int)(k:Nat):lX d ws p m k=m+(cn (fun x=>decide (ga ws (gU d x)=p)) k:Int):=by
 induction k with
 |zero=>rw[lX,cn];omega
 |succ k ih=>
  rw[lX,cn,ih]
  by_cases e:ga ws (gU d k)=p
  ·rw[if_pos e,if_pos (decide_eq_true e)];omega
  ·rw[if_neg e,if_neg (by simpa using e)];omega
theorem adS(d:Dg)(i:Nat)(hi:i<(bK d).length)(k:Nat):ga (jB d k) i=(cn (fun x=>decide (bO d (gU d x)=i)) k:Int):=by
 induction k with
 |zero=>rw[jB,uk _ _ _ hi];rfl
 |succ k ih=>
  rw[jB,cn]
  by_cases e:bO d (gU d k)=i
  ·rw[if_pos (decide_eq_true e),e,bB _ _ _ _ (by rw[JG];exact hi),if_pos rfl,ih];omega
  ·rw[if_neg (by simpa using e),aa5 _ _ _ _ e,ih];omega
theorem abJ{d:Dg}(h:Uu d=true){i:Nat}(hi:i<(bK d).length):(ga (bK d) i).length=cn (fun x=>decide (bO d x=i)) d.ae.length:=by
 rw[qB]
 obtain⟨h1,c0,_,_,h2⟩:=(s9 h).el i hi
 have hn:((List.range d.ae.length).filter (fun x=>decide (bO d x=i))).Nodup:=List.Nodup.sublist (List.filter_sublist) List.nodup_range
 apply Nat.le_antisymm
 ·have h3:=AF (ys:=((List.range d.ae.length).filter (fun x=>decide (bO d x=i))).map fun x:Nat=>(x:Int)) h1 (fun y hy=>by
   obtain⟨z,rfl,hz,_⟩:=h2 y hy
   exact List.mem_map.2 ⟨z,List.mem_filter.2 ⟨List.mem_range.2 hz,decide_eq_true (Bj h hi hy).2⟩,rfl⟩)
  rw[List.length_map]at h3
  exact h3
 ·have hn':(((List.range d.ae.length).filter (fun x=>decide (bO d x=i))).map fun x:Nat=>(x:Int)).Nodup:=by
   rw[List.nodup_iff_pairwise_ne,List.pairwise_map]
   exact List.Pairwise.imp (fun hab e=>hab (by omega)) hn
  have h3:=AF (ys:=ga (bK d) i) hn' (fun y hy=>by
   obtain⟨z,hz,rfl⟩:=List.mem_map.1 hy
   obtain⟨hz1,hz2⟩:=List.mem_filter.1 hz
   obtain⟨_,g2,_⟩:=wk h (List.mem_range.1 hz1)
   rw[of_decide_eq_true hz2]at g2
   exact g2)
  rw[List.length_map]at h3
  exact h3
theorem aas{d:Dg}(h:Uu d=true){p:Nat}(hp:p<d.ae.length)(hr:ga (dR d) p=(p:Int)):bO d p<(bK d).length/\
  (lX d (dR d) p (negW (dR d) p d.ae.length) (cD d).length=2<->ga (jB d (cD d).length) (bO d p)=((ga (bK d) (bO d p)).length:Int)+2):=by
 obtain⟨h1,_,_⟩:=wk h hp
 refine⟨h1,?_⟩
 rw[al5,alC,adS d _ h1,abJ h h1]
 have e1:cn (fun x=>decide (ga (dR d) x=(p:Int))) d.ae.length=cn (fun x=>decide (bO d x=bO d p)) d.ae.length:=rK _ fun x hx=>decide_eq_decide.2 (acf h hp hr hx)
 have e2:cn (fun x=>decide (ga (dR d) (gU d x)=(p:Int))) (cD d).length=cn (fun x=>decide (bO d (gU d x)=bO d p)) (cD d).length:=rK _ fun x hx=>decide_eq_decide.2 (acf h hp hr (KE h hx))
 rw[e1,e2]
 omega
theorem aat{d:Dg}(h:Uu d=true):yE d=iM d:=by
 rw[Bool.eq_iff_iff]
 constructor
 ·intro hp
  apply acv
  intro i hi
  obtain⟨_,c0,hc0,hm,_⟩:=(s9 h).el i hi
  have e0:=(Bj h hi hm).2
  obtain⟨z,_,hz,_⟩:=Aq h c0 hc0
  obtain⟨r1,r2,r3⟩:=abv h hc0 hz
  have hq:=List.all_eq_true.1 hp z (List.mem_range.2 r1)
  unfold rW at hq
  rw[Bool.or_eq_true]at hq
  rcases hq with hq|hq
  ·exact absurd r3 (of_decide_eq_true hq)
  ·have:=(aas h r1 r3).2.1 (of_decide_eq_true hq)
   rw[r2,e0]at this
   exact this
 ·intro hp
  apply abI
  intro p qi
  unfold rW
  rw[Bool.or_eq_true]
  by_cases hr:ga (dR d) p=(p:Int)
  ·right
   obtain⟨h1,h2⟩:=aas h qi hr
   have hq:=List.all_eq_true.1 hp _ (List.mem_range.2 h1)
   exact decide_eq_true (h2.2 (of_decide_eq_true hq))
  ·left
   exact decide_eq_true hr
end Go.Proofs.YthppkofceancjaaGreat
namespace Go.Proofs.YthppkofceancjaaGreat
open Go.RowKit
def cmpE:List (Nat×Nat)->Nat->Nat
 |[],x=>x
 |e::es,x=>if cmpE es x=cmpE es e.2 then cmpE es e.1 else cmpE es x
theorem EJ(es:List (Nat×Nat))(x:Nat):cmpE es (cmpE es x)=cmpE es x:=by
 induction es generalizing x with
 |nil=>rfl
 |cons e es ih=>
  by_cases h:cmpE es x=cmpE es e.2
  ·have h1:cmpE (e::es) x=cmpE es e.1:=by rw[cmpE,if_pos h]
   rw[h1,cmpE,ih]
   split<;>rfl
  ·have h1:cmpE (e::es) x=cmpE es x:=by rw[cmpE,if_neg h]
   rw[h1,cmpE,ih,if_neg h]
theorem abl{es:List (Nat×Nat)}{e:Nat×Nat}{x y:Nat}(h:cmpE es x=cmpE es y):cmpE (e::es) x=cmpE (e::es) y:=by
 rw[cmpE,cmpE,h]
theorem abm(es:List (Nat×Nat))(e:Nat×Nat):cmpE (e::es) e.1=cmpE (e::es) e.2:=by
 rw[cmpE,cmpE,if_pos rfl]
 split<;>rfl
theorem ab3{es:List (Nat×Nat)}{e:Nat×Nat}(h:e∈es):cmpE es e.1=cmpE es e.2:=by
 induction es with
 |nil=>cases h
 |cons f es ih=>
  rcases List.mem_cons.1 h with rfl|h
  ·exact abm es e
  ·exact abl (ih h)
theorem ac3{N:Nat}{es:List (Nat×Nat)}(h:∀e∈es,e.1<N/\e.2<N){x:Nat}(hx:x<N):cmpE es x<N:=by
 induction es generalizing x with
 |nil=>exact hx
 |cons e es ih=>
  have ih:=fun x hx=>ih (fun e he=>h e (by simp[he])) (x:=x) hx
  rw[cmpE]
  split
  ·exact ih _ (h e (by simp)).1
  ·exact ih _ hx
theorem Fe{P Q:Nat->Bool}{N z:Nat}(hz:z<N)(hp:P z=true)(hq:Q z=false)(h:∀x,x<N->x≠z->Q x=P x):cn Q N+1=cn P N:=by
 induction N with
 |zero=>omega
 |succ N ih=>
  rw[cn,cn]
  by_cases e:z=N
  ·subst e
   rw[if_pos hp,if_neg (by rw[hq];exact Bool.false_ne_true),rK z (fun x hx=>h x (by omega) (by omega))]
  ·have:=ih (by omega) (fun x hx=>h x (by omega))
   rw[h N (by omega) (by omega)]
   omega
def DI:List (Nat×Nat)->Prop
 |[]=>True
 |e::es=>cmpE es e.1≠cmpE es e.2/\DI es
section
variable (e1 e2 : Nat → Nat)
def bC(l:List Nat):List (Nat×Nat):=l.map fun a=>(e1 a,e2 a)
def trE:Nat->List Nat
 |0=>[]
 |k+1=>if cmpE (bC e1 e2 (trE k)) (e1 k)=cmpE (bC e1 e2 (trE k)) (e2 k)then trE k else k::trE k
def mV:Nat->List Nat
 |0=>[]
 |k+1=>if cmpE (bC e1 e2 (trE e1 e2 k)) (e1 k)=cmpE (bC e1 e2 (trE e1 e2 k)) (e2 k)then k::mV k else mV k
theorem abx(k a:Nat)(ha:a<k):a∈trE e1 e2 k\/a∈mV e1 e2 k:=by
 induction k with
 |zero=>omega
 |succ k ih=>
  rw[trE,mV]
  by_cases e:a=k
  ·subst e
   split
   ·exact .inr (by simp)
   ·exact .inl (by simp)
  ·rcases ih (by omega)with h|h
   ·left;split<;>simp[h]
   ·right;split<;>simp[h]
theorem Bg(k:Nat):∀a∈trE e1 e2 k,a<k:=by
 induction k with
 |zero=>intro a h;cases h
 |succ k ih=>
  intro a h
  rw[trE]at h
  split at h
  ·have:=ih a h;omega
  ·rcases List.mem_cons.1 h with rfl|h
   ·omega
   ·have:=ih a h;omega
theorem FA(k:Nat):∀a∈mV e1 e2 k,a<k:=by
 induction k with
 |zero=>intro a h;cases h
 |succ k ih=>
  intro a h
  rw[mV]at h
  split at h
  ·rcases List.mem_cons.1 h with rfl|h
   ·omega
   ·have:=ih a h;omega
  ·have:=ih a h;omega
theorem adi(k:Nat):DI (bC e1 e2 (trE e1 e2 k)):=by
 induction k with
 |zero=>exact trivial
 |succ k ih=>
  rw[trE]
  split
  ·exact ih
  ·exact⟨by assumption,ih⟩
theorem JY{N k:Nat}(h:∀a,a<k->e1 a<N/\e2 a<N){l:List Nat}(hl:∀a∈l,a<k):∀e∈bC e1 e2 l,e.1<N/\e.2<N:=by
 intro e he
 obtain⟨a,ha,rfl⟩:=List.mem_map.1 he
 exact h a (hl a ha)
theorem acj(k:Nat):∀a,a<k->cmpE (bC e1 e2 (trE e1 e2 k)) (e1 a)=cmpE (bC e1 e2 (trE e1 e2 k)) (e2 a):=by
 induction k with
 |zero=>intro a h;omega
 |succ k ih=>
  intro a ha
  rw[trE]
  split
  ·rename_i h
   by_cases e:a=k
   ·subst e;exact h
   ·exact ih a (by omega)
  ·by_cases e:a=k
   ·subst e;exact abm _ (e1 a,e2 a)
   ·exact abl (ih a (by omega))
end
theorem yA{P:Nat->Bool}{N:Nat}(h:∀x,x<N->P x=false):cn P N=0:=by
 induction N with
 |zero=>rfl
 |succ N ih=>rw[cn,ih (fun x hx=>h x (by omega)),if_neg (by rw[h N (by omega)];exact Bool.false_ne_true)]
theorem alZ{e1 e2:Nat->Nat}{K:Nat}:∀(ts:List Nat),(∀a∈ts,a<K)->DI (bC e1 e2 ts)->∀(D:Nat->Bool),(∀a,a<K->D a=true->a∈ts)->
  (∀X:Nat->Bool,cn (fun a=>D a&&(X (e1 a)!=X (e2 a))) K%2=0)->∀a,a<K->D a=false:=by
 intro ts
 induction ts with
 |nil=>
  intro _ _ D hD _ a ha
  cases e:D a with
  |false=>rfl
  |true=>cases hD a ha e
 |cons t ts ih=>
  intro hK hf D hD hev
  have ht:D t=false:=by
   cases e:D t with
   |false=>rfl
   |true=>
    exfalso
    have h1:=hev fun x=>decide (cmpE (bC e1 e2 ts) x=cmpE (bC e1 e2 ts) (e1 t))
    have h2:cn (fun _=>false) K+1=cn (fun a=>D a&&(decide (cmpE (bC e1 e2 ts) (e1 a)=cmpE (bC e1 e2 ts) (e1 t))!=decide (cmpE (bC e1 e2 ts) (e2 a)=cmpE (bC e1 e2 ts) (e1 t)))) K:=by
     refine Fe (z:=t) (hK t (by simp)) ?_ rfl fun x hx hne=>?_
     ·have h3:¬cmpE (bC e1 e2 ts) (e2 t)=cmpE (bC e1 e2 ts) (e1 t):=fun e9=>hf.1 e9.symm
      simp[e,h3]
     ·cases hx2:D x with
      |false=>rfl
      |true=>
       rcases List.mem_cons.1 (hD x hx hx2)with e9|h9
       ·exact absurd e9 hne
       ·have h3:=ab3 (es:=bC e1 e2 ts) (e:=(e1 x,e2 x)) (List.mem_map.2 ⟨x,h9,rfl⟩)
        simp only at h3
        rw[h3]
        simp
    have h4:cn (fun _=>false) K=0:=yA fun _ _=>rfl
    omega
  refine ih (fun a ha=>hK a (by simp[ha])) hf.2 D (fun a ha hd=>?_) hev
  rcases List.mem_cons.1 (hD a ha hd)with rfl|h
  ·rw[ht]at hd;cases hd
  ·exact h
def bZ(j:Nat):Nat:=4*(j/4)+(j%4+3)%4
theorem KJ(P Q:Nat->Bool)(K:Nat):(cn P K+cn Q K)%2=cn (fun a=>P a !=Q a) K%2:=by
 induction K with
 |zero=>rfl
 |succ K ih=>
  rw[cn,cn,cn]
  cases P K<;>cases Q K<;>simp<;>omega
theorem amn(P:Nat->Bool)(n:Nat)(h:∀c,c<n->((if P (4*c)=true then 1 else 0)+(if P (4*c+1)=true then 1 else 0)+(if P (4*c+2)=true then 1 else 0)+(if P (4*c+3)=true then 1 else 0))%2=0):cn P (4*n)%2=0:=by
 induction n with
 |zero=>rfl
 |succ n ih=>
  have ih:=ih (fun c hc=>h c (by omega))
  have h1:=h n (by omega)
  rw[show 4*(n+1)=4*n+1+1+1+1 by omega,cn,cn,cn,cn]
  omega
structure Mp4(n:Nat)(h1 h2 hA F:Nat->Nat):Prop where
 lt:∀a,a<2*n->h1 a<4*n/\h2 a<4*n/\h1 a≠h2 a/\hA (h1 a)=a/\hA (h2 a)=a
 at_:∀j,j<4*n->hA j<2*n/\(j=h1 (hA j)\/j=h2 (hA j))
 nx:∀a,a<2*n->F (h1 a)=F (bZ (h2 a))/\F (h2 a)=F (bZ (h1 a))
 fl:∀j,j<4*n->F j<n+2
 fs:∀i,i<n+2->∃j,j<4*n/\F j=i
 VL:∀Z:Nat->Prop,(∀a,a<2*n->(Z (h1 a/4)<->Z (h2 a/4)))->∀x y,x<n->y<n->Z x->Z y
section
variable {n : Nat} {h1 h2 hA F : Nat → Nat}
theorem Mp4.hs(m:Mp4 n h1 h2 hA F)(P:Nat->Bool):cn P (4*n)=cn (fun a=>P (h1 a)) (2*n)+cn (fun a=>P (h2 a)) (2*n):=by
 have hp:((List.range (2*n)).map h1++(List.range (2*n)).map h2).Perm (List.range (4*n)):=by
  rw[List.perm_ext_iff_of_nodup]
  ·intro j
   rw[List.mem_append,List.mem_map,List.mem_map,List.mem_range]
   constructor
   ·rintro(⟨a,ha,rfl⟩|⟨a,ha,rfl⟩)
    ·exact(m.lt a (List.mem_range.1 ha)).1
    ·exact(m.lt a (List.mem_range.1 ha)).2.1
   ·intro hj
    obtain⟨h3,h4|h4⟩:=m.at_ j hj
    ·exact .inl ⟨hA j,List.mem_range.2 h3,h4.symm⟩
    ·exact .inr ⟨hA j,List.mem_range.2 h3,h4.symm⟩
  ·rw[List.nodup_append]
   have inj:∀h:Nat->Nat,(∀a,a<2*n->hA (h a)=a)->((List.range (2*n)).map h).Nodup:=fun h hh=>by
    rw[List.nodup_iff_pairwise_ne,List.pairwise_map]
    refine List.Pairwise.imp_of_mem ?_ List.nodup_range
    intro a b ha hb hab e
    have h3:=hh a (List.mem_range.1 ha)
    have h4:=hh b (List.mem_range.1 hb)
    rw[e]at h3
    exact hab (h3.symm.trans h4)
   refine⟨inj h1 fun a ha=>(m.lt a ha).2.2.2.1,inj h2 fun a ha=>(m.lt a ha).2.2.2.2,?_⟩
   intro x hx y hy
   obtain⟨a,ha,rfl⟩:=List.mem_map.1 hx
   obtain⟨b,hb,rfl⟩:=List.mem_map.1 hy
   intro e
   have h3:=(m.lt a (List.mem_range.1 ha)).2.2
   have h4:=(m.lt b (List.mem_range.1 hb)).2.2
   have e2:a=b:=by rw[<-h3.2.1,e,h4.2.2]
   subst e2
   exact h3.1 e
  ·exact List.nodup_range
 have h3:=hp.countP_eq P
 rw[List.countP_append,List.countP_map,List.countP_map]at h3
 rw[qB,qB,qB,<-List.countP_eq_length_filter,<-List.countP_eq_length_filter,<-List.countP_eq_length_filter,<-h3]
 rfl
end
end Go.Proofs.YthppkofceancjaaGreat
namespace Go.Proofs.YthppkofceancjaaGreat
open Go.RowKit
def Marks(seen:List Bool)(L:List Int):Prop:=L.Nodup/\∀y:Int,y∈L<->∃x:Nat,y=(x:Int)/\x<seen.length/\ga seen x=true
theorem aaZ{seen:List Bool}{L:List Int}{x:Nat}(h:Marks seen L)(hx:x<seen.length)(hf:ga seen x=false):Marks (seen.set x true) (L++[(x:Int)]):=by
 obtain⟨h1,h2⟩:=h
 refine⟨?_,fun y=>?_⟩
 ·rw[List.nodup_append]
  refine⟨h1,by simp,?_⟩
  intro a ha b hb e
  rw[List.mem_singleton]at hb
  subst hb
  subst e
  obtain⟨x',e,_,h4⟩:=(h2 _).1 ha
  obtain rfl:x=x':=by omega
  rw[hf]at h4
  cases h4
 ·rw[List.mem_append,List.mem_singleton,h2]
  constructor
  ·rintro(⟨x',e,h3,h4⟩|rfl)
   ·refine⟨x',e,by rw[List.length_set];exact h3,?_⟩
    rw[bB _ _ _ _ hx]
    split<;>simp[h4]
   ·exact⟨x,rfl,by rw[List.length_set];exact hx,by rw[bB _ _ _ _ hx];simp⟩
  ·rintro⟨x',e,h3,h4⟩
   rw[List.length_set]at h3
   rw[bB _ _ _ _ hx]at h4
   by_cases ry:x=x'
   ·subst ry;exact .inr e
   ·rw[if_neg ry]at h4;exact .inl ⟨x',e,h3,h4⟩
theorem ait{nx:Nat->Nat}(P:List Int)(seen:List Bool)(x:Nat)(acc:List Int)(h:Marks seen (P++acc)):
  Marks (fA nx seen x acc).1 (P++(fA nx seen x acc).2)/\(∀y,ga seen y=true->ga (fA nx seen x acc).1 y=true)/\(x<seen.length->ga (fA nx seen x acc).1 x=true):=by
 induction hk:free seen using Nat.strongRecOn generalizing seen x acc with
 |_ k ih=>
  by_cases hx:x<seen.length/\ga seen x=false
  ·rw[vG hx.1 hx.2]
   have hf:=px hx.1 hx.2
   obtain⟨r1,r2,_⟩:=ih (free (seen.set x true)) (by omega) (seen.set x true) (nx x) (acc++[(x:Int)]) (by rw[<-List.append_assoc];exact aaZ h hx.1 hx.2) rfl
   refine⟨r1,fun y hy=>r2 y ?_,fun _=>r2 x ?_⟩
   ·rw[bB _ _ _ _ hx.1];split<;>simp[hy]
   ·rw[bB _ _ _ _ hx.1];simp
  ·have e:fA nx seen x acc=(seen,acc):=by rw[fA];simp[hx]
   rw[e]
   refine⟨h,fun y hy=>hy,fun hl=>?_⟩
   cases hg:ga seen x
   ·exact absurd ⟨hl,hg⟩ hx
   ·rfl
theorem ajk{xss:List (List Int)}(h:xss.flatten.Nodup){i j:Nat}(hi:i<xss.length)(hj:j<xss.length){y:Int}(h1:y∈ga xss i)(h2:y∈ga xss j):i=j:=by
 rw[bV hi]at h1
 rw[bV hj]at h2
 rcases Nat.lt_trichotomy i j with e|e|e
 ·exact absurd rfl ((List.pairwise_iff_getElem.1 (List.pairwise_flatten.1 h).2 i j hi hj e) y h1 y h2)
 ·exact e
 ·exact absurd rfl ((List.pairwise_iff_getElem.1 (List.pairwise_flatten.1 h).2 j i hj hi e) y h2 y h1)
def kZ(d:Dg)(c:Nat):Prop:=2<=c/\c<4*d.ae.length+2
def Mx(d:Dg)(P:List Int):Prop:=∀y∈P,((dI d y.toNat:Nat):Int)∈P
theorem acB{d:Dg}(h:Uu d=true){c e:Nat}(hc:kZ d c)(he:kZ d e)(heq:dI d c=dI d e):c=e:=by
 have h1:=congrArg dA heq
 rw[Fz h hc,Fz h he]at h1
 have o1:=oG hc
 have o2:=oG he
 have key:∀x:Da,okD d x->(aX d x.a x.b)=((aX d (lI d x).a (!(lI d x).b)).1,((aX d (lI d x).a (!(lI d x).b)).2+1)%4):=fun x hx=>by
  obtain⟨q1,q2,_⟩:=nH h hx x.b
  have e1:=D4 h (c:=(aX d x.a x.b).1) (k:=((aX d x.a x.b).2+3)%4) (b:=!(lI d x).b) q1 (Nat.mod_lt _ (by decide)) (by show cm d _ _=!!(cm d _ _);rw[Bool.not_not])
  rw[show(lI d x).a=cz d (aX d x.a x.b).1 (((aX d x.a x.b).2+3)%4)from rfl,e1]
  exact Prod.ext rfl (by show _=(((aX d x.a x.b).2+3)%4+1)%4;omega)
 have k1:=key _ o1
 have k2:=key _ o2
 rw[h1]at k1
 have k3:=k1.trans k2.symm
 have t1:=D8 h o1 (dA c).b
 have t2:=D8 h o2 (dA e).b
 rw[k3]at t1
 have ea:(dA c).a=(dA e).a:=t1.1.symm.trans t2.1
 have eb:(dA c).b=(dA e).b:=by
  have:=t1.2.symm.trans t2.2
  cases h7:(dA c).b<;>cases h8:(dA e).b<;>simp_all
 refine ad1 ?_
 cases h7:dA c
 cases h8:dA e
 rw[h7,h8]at ea eb
 simp only at ea eb
 rw[ea,eb]
theorem aiv{P:List Int}(f:Int->Int)(hnd:P.Nodup)(hf:∀y∈P,f y∈P)(hinj:∀a∈P,∀b∈P,f a=f b->a=b){x:Int}(hx:x∈P):∃z∈P,f z=x:=by
 refine Classical.byContradiction fun hno=>?_
 have h1:(P.map f).Nodup:=by
  rw[List.nodup_iff_pairwise_ne,List.pairwise_map]
  exact List.Pairwise.imp_of_mem (fun ha hb hab e=>hab (hinj _ ha _ hb e)) hnd
 have h2:x∉P.map f:=fun h=>by
  obtain⟨z,hz,e⟩:=List.mem_map.1 h
  exact hno ⟨z,hz,e⟩
 have h3:=AF (List.nodup_cons.2 ⟨h2,h1⟩) (ys:=P) (fun y hy=>by
  rcases List.mem_cons.1 hy with e|hy
  ·rw[e];exact hx
  ·obtain⟨z,hz,e⟩:=List.mem_map.1 hy
   rw[<-e];exact hf z hz)
 rw[List.length_cons,List.length_map]at h3
 omega
theorem ai3{d:Dg}(h:Uu d=true)(P:List Int)(hP:Mx d P)(Vx:∀y∈P,∃c:Nat,y=(c:Int)/\kZ d c)(seen:List Bool)(x:Nat)(acc:List Int)(hm:Marks seen (P++acc))(hl:seen.length=4*d.ae.length+2)(hx:kZ d x)
  (hacc:∀y∈acc,(∃c:Nat,y=(c:Int)/\kZ d c)/\(((dI d y.toNat:Nat):Int)∈acc\/dI d y.toNat=x))(hlast:acc=[]\/∃y∈acc,dI d y.toNat=x):
  Mx d (fA (dI d) seen x acc).2/\∀y∈(fA (dI d) seen x acc).2,∃c:Nat,y=(c:Int)/\kZ d c:=by
 induction hk:free seen using Nat.strongRecOn generalizing seen x acc with
 |_ k ih=>
  by_cases hg:x<seen.length/\ga seen x=false
  ·rw[vG hg.1 hg.2]
   have hf:=px hg.1 hg.2
   refine ih (free (seen.set x true)) (by omega) (seen.set x true) (dI d x) (acc++[(x:Int)]) (by rw[<-List.append_assoc];exact aaZ hm hg.1 hg.2) (by rw[List.length_set];exact hl) (AW h hx) ?_ (.inr ⟨(x:Int),by simp,rfl⟩) rfl
   intro y hy
   rw[List.mem_append,List.mem_singleton]at hy
   rcases hy with hy|rfl
   ·obtain⟨h1,h2⟩:=hacc y hy
    refine⟨h1,.inl ?_⟩
    rw[List.mem_append,List.mem_singleton]
    rcases h2 with h2|h2
    ·exact .inl h2
    ·exact .inr (by rw[h2])
   ·exact⟨⟨x,rfl,hx⟩,.inr rfl⟩
  ·have e:fA (dI d) seen x acc=(seen,acc):=by rw[fA];simp[hg]
   rw[e]
   refine⟨?_,fun y hy=>(hacc y hy).1⟩
   have hs:ga seen x=true:=by
    cases hq:ga seen x with
    |true=>rfl
    |false=>exact absurd ⟨by rw[hl];exact hx.2,hq⟩ hg
   have hxm:(x:Int)∈P++acc:=(hm.2 _).2 ⟨x,rfl,by rw[hl];exact hx.2,hs⟩
   have hxa:(x:Int)∈acc\/acc=[]:=by
    rcases List.mem_append.1 hxm with hp|ha
    ·right
     rcases hlast with h0|⟨y,hy,hyx⟩
     ·exact h0
     ·exfalso
      -- an element of P comes before x
      obtain⟨z,hz,hzx⟩:=aiv (fun y=>((dI d y.toNat:Nat):Int)) (List.nodup_append.1 hm.1).1 hP (fun a ha b hb e9=>by
       obtain⟨c1,rfl,r1⟩:=Vx a ha
       obtain⟨c2,rfl,r2⟩:=Vx b hb
       simp only[Int.toNat_natCast]at e9
       rw[acB h r1 r2 (by omega)]) hp
      obtain⟨c1,rfl,r1⟩:=Vx z hz
      obtain⟨⟨c2,rfl,r2⟩,_⟩:=hacc y hy
      simp only[Int.toNat_natCast]at hzx hyx
      have:=acB h r1 r2 (by omega)
      subst this
      exact(List.nodup_append.1 hm.1).2.2 _ hz _ hy rfl
    ·exact .inl ha
   intro y hy
   rcases hxa with ha|ha
   ·rcases(hacc y hy).2 with h2|h2
    ·exact h2
    ·rw[h2];exact ha
   ·have hy':y∈acc:=hy
    rw[ha]at hy'
    cases hy'
theorem Io {d : Dg} (h : Uu d = true) (k : Nat) (hk : k ≤ 4 * d.ae.length) : Marks (dQ d k).1 (dQ d k).2.flatten ∧ (∀ c, 2 ≤ c → c < k + 2 → ga (dQ d k).1 c = true) ∧ (∀ r ∈ (dQ d k).2, Mx d r ∧ ∀ y ∈ r, ∃ c : Nat, y = (c : Int) ∧ kZ d c) := by
  induction k with
  | zero =>
    refine ⟨⟨by simp [dQ], fun y => ?_⟩, fun c h1 h2 => by omega, fun r hr => by simp [dQ] at hr⟩
    simp only [dQ, List.flatten_nil, List.not_mem_nil, List.length_replicate, false_iff]
    rintro ⟨x, _, h1, h2⟩
    rw [uk _ _ _ h1] at h2
    cases h2
  | succ k ih =>
    obtain ⟨i1, i2, i3⟩ := ih (by omega)
    have hlen := xY d k
    cases hg : ga (dQ d k).1 (k + 2) with
    | true =>
      rw [vR rfl hg]
      refine ⟨i1, fun c h1 h2 => ?_, i3⟩
      by_cases e : c = k + 2
      · subst e; exact hg
      · exact i2 c h1 (by omega)
    | false =>
      rw [vQ rfl hg rfl]
      dsimp only
      obtain ⟨r1, r2, r3⟩ := ait (nx := dI d) (dQ d k).2.flatten (dQ d k).1 (k + 2) [] (by simpa using i1)
      have hc := ai3 h (dQ d k).2.flatten (fun y hy => by
          obtain ⟨r, hr, Vb⟩ := List.mem_flatten.1 hy
          exact List.mem_flatten.2 ⟨r, hr, (i3 r hr).1 y Vb⟩) (fun y hy => by
          obtain ⟨r, hr, Vb⟩ := List.mem_flatten.1 hy
          exact (i3 r hr).2 y Vb) (dQ d k).1 (k + 2) [] (by simpa using i1) hlen ⟨by omega, by omega⟩ (fun y hy => by cases hy) (.inl rfl)
      refine ⟨by rw [List.flatten_append]; simpa using r1, fun c h1 h2 => ?_, fun r hr => ?_⟩
      · by_cases e : c = k + 2
        · subst e; exact r3 (by omega)
        · exact r2 c (i2 c h1 (by omega))
      · rcases List.mem_append.1 hr with hr | hr
        · exact i3 r hr
        · rw [List.mem_singleton.1 hr]; exact hc
def jw(d:Dg):List (List Int):=(dQ d (4*d.ae.length)).2
theorem abX(d:Dg):cD d=(jw d).map jY:=rfl
def qs(d:Dg)(c:Nat):Nat:=((List.range (jw d).length).find? fun i=>decide ((c:Int)∈ga (jw d) i)).getD 0
theorem yK{d:Dg}(h:Uu d=true){c:Nat}(hc:kZ d c):qs d c<(jw d).length/\(c:Int)∈ga (jw d) (qs d c):=by
 obtain⟨i1,i2,i3⟩:=Io h _ (Nat.le_refl _)
 have hs:=i2 c hc.1 hc.2
 have hm:(c:Int)∈(jw d).flatten:=(i1.2 _).2 ⟨c,rfl,by rw[xY];exact hc.2,hs⟩
 obtain⟨r,hr,hcr⟩:=List.mem_flatten.1 hm
 obtain⟨i,hi,rfl⟩:=List.mem_iff_getElem.1 hr
 unfold qs
 cases hf:(List.range (jw d).length).find? fun i=>decide ((c:Int)∈ga (jw d) i)with
 |none=>
  have:=List.find?_eq_none.1 hf i (List.mem_range.2 hi)
  rw[bV hi]at this
  simp[hcr]at this
 |some j=>
  have h1:=List.find?_some hf
  have h2:=List.mem_range.1 (List.mem_of_find?_eq_some hf)
  exact⟨h2,of_decide_eq_true h1⟩
theorem KD{d:Dg}(h:Uu d=true){c i:Nat}(hc:kZ d c)(hi:i<(jw d).length)(hm:(c:Int)∈ga (jw d) i):qs d c=i:=by
 obtain⟨h1,h2⟩:=yK h hc
 exact ajk (Io h _ (Nat.le_refl _)).1.1 h1 hi h2 hm
theorem aoe{d:Dg}(h:Uu d=true){c:Nat}(hc:kZ d c):qs d (dI d c)=qs d c:=by
 obtain⟨h1,h2⟩:=yK h hc
 refine KD h (AW h hc) h1 ?_
 have:=((Io h _ (Nat.le_refl _)).2.2 (ga (jw d) (qs d c)) (by rw[bV h1];exact List.getElem_mem _)).1 _ h2
 rwa [Int.toNat_natCast]at this
def sJ(d:Dg)(j:Nat):Da:=⟨bh d j,cm d (j/4) (j%4)⟩
def kf(d:Dg)(j:Nat):Nat:=qs d (kg (sJ d j))
theorem ym{d:Dg}(h:Uu d=true){j:Nat}(hj:j<4*d.ae.length):okD d (sJ d j):=tL h hj
theorem acz{d:Dg}(h:Uu d=true){a:Nat}(ha:a<2*d.ae.length)(b:Bool):lI d ⟨((a+1:Nat):Int),b⟩=sJ d (bZ (4*(aX d ((a+1:Nat):Int) b).1+(aX d ((a+1:Nat):Int) b).2)):=by
 obtain⟨_,h2,_⟩:=nH h (a:=((a+1:Nat):Int)) (by omega) b
 unfold lI sJ bh bZ
 rw[show(4*((4*(aX d ((a+1:Nat):Int) b).1+(aX d ((a+1:Nat):Int) b).2)/4)+((4*(aX d ((a+1:Nat):Int) b).1+(aX d ((a+1:Nat):Int) b).2)%4+3)%4)/4=(aX d ((a+1:Nat):Int) b).1 by omega,
  show(4*((4*(aX d ((a+1:Nat):Int) b).1+(aX d ((a+1:Nat):Int) b).2)/4)+((4*(aX d ((a+1:Nat):Int) b).1+(aX d ((a+1:Nat):Int) b).2)%4+3)%4)%4=((aX d ((a+1:Nat):Int) b).2+3)%4 by omega]
def dz(d:Dg)(b:Bool)(a:Nat):Nat:=4*(aX d ((a+1:Nat):Int) b).1+(aX d ((a+1:Nat):Int) b).2
theorem mo{d:Dg}(h:Uu d=true){a:Nat}(ha:a<2*d.ae.length)(b:Bool):dz d b a<4*d.ae.length/\sJ d (dz d b a)=⟨((a+1:Nat):Int),!b⟩/\dz d b a/4=(aX d ((a+1:Nat):Int) b).1:=by
 obtain⟨h1,h2,_⟩:=nH h (a:=((a+1:Nat):Int)) (by omega) b
 obtain⟨t1,t2⟩:=D8 h (a:=((a+1:Nat):Int)) (by omega) b
 have e1:dz d b a/4=(aX d ((a+1:Nat):Int) b).1:=by unfold dz;omega
 have e2:dz d b a%4=(aX d ((a+1:Nat):Int) b).2:=by unfold dz;omega
 refine⟨by unfold dz;omega,?_,e1⟩
 unfold sJ bh
 rw[e1,e2,t1,t2]
end Go.Proofs.YthppkofceancjaaGreat
namespace Go.Proofs.YthppkofceancjaaGreat
open Go.RowKit
def xI(es:List (Nat×Nat))(N:Nat)(P:Nat->Bool):Nat:=cn (fun x=>P x&&decide (cmpE es x=x)) N
theorem Jh{α:Type}{es:List (Nat×Nat)}{P:Nat->α}(h:∀e∈es,P e.1=P e.2)(x:Nat):P (cmpE es x)=P x:=by
 induction es generalizing x with
 |nil=>rfl
 |cons e es ih=>
  have ih:=fun x=>ih (fun e he=>h e (by simp[he])) x
  rw[cmpE]
  split
  ·rename_i h1
   rw[ih,h e (by simp),<-ih e.2,<-h1,ih]
  ·exact ih x
theorem akD{es:List (Nat×Nat)}{e:Nat×Nat}(hne:cmpE es e.1≠cmpE es e.2){x:Nat}(hx:x≠cmpE es e.2):cmpE (e::es) x=x<->cmpE es x=x:=by
 rw[cmpE]
 by_cases h:cmpE es x=cmpE es e.2
 ·rw[if_pos h]
  constructor
  ·intro h'
   rw[<-h',EJ]at h
   exact absurd h hne
  ·intro h'
   exact absurd (h'.symm.trans h) hx
 ·rw[if_neg h]
theorem ajW{es:List (Nat×Nat)}{e:Nat×Nat}{N:Nat}{P:Nat->Bool}(hl:∀e∈es,e.1<N/\e.2<N)(h2:e.2<N)(hne:cmpE es e.1≠cmpE es e.2)(hp:∀f∈e::es,P f.1=P f.2):xI (e::es) N P+(if P e.1=true then 1 else 0)=xI es N P:=by
 have hinv:=fun x=>Jh (es:=es) (P:=P) (fun f hf=>hp f (by simp[hf])) x
 cases hq:P e.1 with
 |true=>
  rw[if_pos rfl]
  refine Fe (z:=cmpE es e.2) (ac3 hl h2) ?_ ?_ fun x _ hx=>?_
  ·show(P (cmpE es e.2)&&decide (cmpE es (cmpE es e.2)=cmpE es e.2))=true
   rw[hinv,<-hp e (by simp),hq,decide_eq_true (EJ es e.2)]
   rfl
  ·show(P (cmpE es e.2)&&decide (cmpE (e::es) (cmpE es e.2)=cmpE es e.2))=false
   rw[decide_eq_false,Bool.and_false]
   rw[cmpE,EJ,if_pos rfl]
   exact hne
  ·exact congrArg (P x&&·) (decide_eq_decide.2 (akD hne hx))
 |false=>
  rw[if_neg Bool.false_ne_true,Nat.add_zero]
  refine rK N fun x _=>?_
  show(P x&&_)=(P x&&_)
  cases hx:P x with
  |false=>rfl
  |true=>
   refine congrArg (true&&·) (decide_eq_decide.2 ?_)
   rw[cmpE,if_neg]
   intro h
   have h3:=hinv x
   rw[h,hinv,<-hp e (by simp),hq,hx]at h3
   cases h3
theorem acr{es:List (Nat×Nat)}{N:Nat}{P:Nat->Bool}{x0:Nat}(h0:x0<N)(hp0:P x0=true)(hl:∀e∈es,e.1<N/\e.2<N)(hp:∀f∈es,P f.1=P f.2)(h:∀x,x<N->P x=true->cmpE es x=cmpE es x0):xI es N P=1:=by
 have h1:cn (fun _=>false) N+1=xI es N P:=Fe (z:=cmpE es x0) (ac3 hl h0) (by
  show(P (cmpE es x0)&&decide (cmpE es (cmpE es x0)=cmpE es x0))=true
  rw[Jh hp,hp0,decide_eq_true (EJ es x0)]
  rfl) rfl fun x hx hne=>by
   symm
   show(P x&&decide (cmpE es x=x))=false
   cases hx2:P x with
   |false=>rfl
   |true=>
    rw[Bool.true_and]
    refine decide_eq_false fun e=>hne ?_
    rw[<-e,h x hx hx2]
 have h2:cn (fun _=>false) N=0:=yA fun _ _=>rfl
 omega
theorem ala(N:Nat)(P:Nat->Bool):xI [] N P=cn P N:=by
 refine rK N fun x _=>?_
 show(P x&&decide (cmpE [] x=x))=P x
 rw[decide_eq_true (show cmpE [] x=x from rfl),Bool.and_true]
section
variable (e1 e2 : Nat → Nat)
theorem aaI(Q:Nat->Bool)(k:Nat):(trE e1 e2 k).countP Q+(mV e1 e2 k).countP Q=cn Q k:=by
 induction k with
 |zero=>rfl
 |succ k ih=>rw[trE,mV,cn];split<;>rw[List.countP_cons]<;>omega
theorem abz{N:Nat}{P:Nat->Bool}(k:Nat)(h:∀a,a<k->e1 a<N/\e2 a<N)(hp:∀a,a<k->P (e1 a)=P (e2 a)):xI (bC e1 e2 (trE e1 e2 k)) N P+(trE e1 e2 k).countP (fun a=>P (e1 a))=cn P N:=by
 induction k with
 |zero=>exact ala N P
 |succ k ih=>
  have ih:=ih (fun a ha=>h a (by omega)) (fun a ha=>hp a (by omega))
  rw[trE]
  split
  ·exact ih
  ·rename_i hne
   have:=ajW (e:=(e1 k,e2 k)) (P:=P) (JY e1 e2 (fun a ha=>h a (by omega)) (Bg e1 e2 k)) (h k (by omega)).2 hne (fun f hf=>by
    rcases List.mem_cons.1 hf with rfl|hf
    ·exact hp k (by omega)
    ·obtain⟨a,ha,rfl⟩:=List.mem_map.1 hf
     exact hp a (by have:=Bg e1 e2 k a ha;omega))
   rw[List.countP_cons]
   show xI ((e1 k,e2 k)::bC e1 e2 (trE e1 e2 k)) N P+_=_
   dsimp only at this
   omega
theorem aby(k a:Nat)(h1:a∈trE e1 e2 k)(h2:a∈mV e1 e2 k):False:=by
 induction k with
 |zero=>cases h1
 |succ k ih=>
  rw[trE]at h1
  rw[mV]at h2
  split at h1
  ·rename_i hc
   rw[if_pos hc]at h2
   rcases List.mem_cons.1 h2 with rfl|h2
   ·have:=Bg e1 e2 _ _ h1;omega
   ·exact ih h1 h2
  ·rename_i hc
   rw[if_neg hc]at h2
   rcases List.mem_cons.1 h1 with rfl|h1
   ·have:=FA e1 e2 _ _ h2;omega
   ·exact ih h1 h2
theorem ajm(k:Nat):(mV e1 e2 k).Nodup:=by
 induction k with
 |zero=>exact List.nodup_nil
 |succ k ih=>
  rw[mV]
  split
  ·exact List.nodup_cons.2 ⟨fun h=>by have:=FA e1 e2 _ _ h;omega,ih⟩
  ·exact ih
end
theorem abk{P:Nat->Bool}{K t:Nat}(ht:t<K):cn (fun a=>decide (a=t)&&P a) K%2=if P t=true then 1 else 0:=by
 cases hp:P t with
 |true=>
  have h1:cn (fun _=>false) K+1=cn (fun a=>decide (a=t)&&P a) K:=Fe (z:=t) ht (by rw[decide_eq_true rfl,hp];rfl) rfl fun x _ hx=>by rw[decide_eq_false hx];rfl
  have h2:cn (fun _=>false) K=0:=yA fun _ _=>rfl
  rw[if_pos rfl]
  omega
 |false=>
  rw[if_neg Bool.false_ne_true,yA fun x _=>?_]
  by_cases e:x=t
  ·subst e;rw[hp,Bool.and_false]
  ·rw[decide_eq_false e];rfl
theorem KI(P Q s:Nat->Bool)(K:Nat):cn (fun a=>(P a !=Q a)&&s a) K%2=(cn (fun a=>P a&&s a) K+cn (fun a=>Q a&&s a) K)%2:=by
 rw[KJ]
 refine congrArg (·%2) (rK _ fun a _=>?_)
 cases P a<;>cases Q a<;>cases s a<;>rfl
theorem alo{e1 e2:Nat->Nat}{K:Nat}:∀(ts:List Nat),(∀a∈ts,a<K)->∀u v,cmpE (bC e1 e2 ts) u=cmpE (bC e1 e2 ts) v->
  ∃D:Nat->Bool,(∀a,D a=true->a∈ts)/\∀X:Nat->Bool,cn (fun a=>D a&&(X (e1 a)!=X (e2 a))) K%2=if(X u !=X v)=true then 1 else 0:=by
 intro ts
 induction ts with
 |nil=>
  intro _ u v h
  obtain rfl:u=v:=h
  refine⟨fun _=>false,fun a h=>(by cases h),fun X=>?_⟩
  have h0:cn (fun a=>false&&(X (e1 a)!=X (e2 a))) K=0:=yA fun _ _=>rfl
  show cn (fun a=>false&&(X (e1 a)!=X (e2 a))) K%2=_
  rw[h0]
  simp
 |cons t ts ih=>
  intro hK u v h
  have ih:=ih (fun a ha=>hK a (by simp[ha]))
  have hc:∀x,cmpE (bC e1 e2 (t::ts)) x=if cmpE (bC e1 e2 ts) x=cmpE (bC e1 e2 ts) (e2 t)then cmpE (bC e1 e2 ts) (e1 t)else cmpE (bC e1 e2 ts) x:=fun x=>rfl
  rw[hc,hc]at h
  have weak:∀{x y},(∃D:Nat->Bool,(∀a,D a=true->a∈ts)/\∀X:Nat->Bool,cn (fun a=>D a&&(X (e1 a)!=X (e2 a))) K%2=if(X x !=X y)=true then 1 else 0)->∃D:Nat->Bool,(∀a,D a=true->a∈t::ts)/\∀X:Nat->Bool,cn (fun a=>D a&&(X (e1 a)!=X (e2 a))) K%2=if(X x !=X y)=true then 1 else 0:=by
   rintro x y ⟨D,h1,h2⟩
   exact⟨D,fun a ha=>List.mem_cons_of_mem _ (h1 a ha),h2⟩
  have glue:∀x y,cmpE (bC e1 e2 ts) x=cmpE (bC e1 e2 ts) (e2 t)->cmpE (bC e1 e2 ts) (e1 t)=cmpE (bC e1 e2 ts) y->∃D:Nat->Bool,(∀a,D a=true->a∈t::ts)/\∀X:Nat->Bool,cn (fun a=>D a&&(X (e1 a)!=X (e2 a))) K%2=if(X x !=X y)=true then 1 else 0:=by
   intro x y hx hy
   obtain⟨D1,p1,q1⟩:=ih x (e2 t) hx
   obtain⟨D2,p2,q2⟩:=ih (e1 t) y hy
   refine⟨fun a=>(D1 a !=D2 a)!=decide (a=t),fun a ha=>?_,fun X=>?_⟩
   ·by_cases e:a=t
    ·subst e;simp
    ·refine List.mem_cons_of_mem _ ?_
     cases h1:D1 a with
     |true=>exact p1 a h1
     |false=>
      cases h2:D2 a with
      |true=>exact p2 a h2
      |false=>simp[h1,h2,e]at ha
   ·have r1:=q1 X
    have r2:=q2 X
    have r3:=abk (P:=fun a=>X (e1 a)!=X (e2 a)) (hK t (by simp))
    have r4:=KI (fun a=>D1 a !=D2 a) (fun a=>decide (a=t)) (fun a=>X (e1 a)!=X (e2 a)) K
    have r5:=KI D1 D2 (fun a=>X (e1 a)!=X (e2 a)) K
    rw[r4,Nat.add_mod,r5,Nat.add_mod (cn _ K) (cn _ K),r1,r2,r3]
    cases X x<;>cases X y<;>cases X (e1 t)<;>cases X (e2 t)<;>rfl
  by_cases hu:cmpE (bC e1 e2 ts) u=cmpE (bC e1 e2 ts) (e2 t)
  ·by_cases hv:cmpE (bC e1 e2 ts) v=cmpE (bC e1 e2 ts) (e2 t)
   ·exact weak (ih u v (hu.trans hv.symm))
   ·rw[if_pos hu,if_neg hv]at h
    exact glue u v hu h
  ·by_cases hv:cmpE (bC e1 e2 ts) v=cmpE (bC e1 e2 ts) (e2 t)
   ·rw[if_neg hu,if_pos hv]at h
    obtain⟨D,h1,h2⟩:=glue v u hv h.symm
    refine⟨D,h1,fun X=>?_⟩
    rw[h2 X]
    cases X u<;>cases X v<;>rfl
   ·rw[if_neg hu,if_neg hv]at h
    exact weak (ih u v h)
theorem al0{e1 e2:Nat->Nat}:∀{ts:List Nat},DI (bC e1 e2 ts)->∀D:Nat->Bool,∃c:Nat->Bool,∀a∈ts,(c (e1 a)!=c (e2 a))=D a:=by
 intro ts
 induction ts with
 |nil=>exact fun _ D=>⟨fun _=>false,fun a h=>by cases h⟩
 |cons t ts ih=>
  intro h D
  obtain⟨c,hc⟩:=ih h.2 D
  by_cases hd:(c (e1 t)!=c (e2 t))=D t
  ·refine⟨c,fun a ha=>?_⟩
   rcases List.mem_cons.1 ha with rfl|ha
   ·exact hd
   ·exact hc a ha
  ·refine⟨fun x=>if cmpE (bC e1 e2 ts) x=cmpE (bC e1 e2 ts) (e2 t)then !c x else c x,fun a ha=>?_⟩
   rcases List.mem_cons.1 ha with rfl|ha
   ·have hh:¬cmpE (bC e1 e2 ts) (e1 a)=cmpE (bC e1 e2 ts) (e2 a):=h.1
    dsimp only
    rw[if_neg hh,if_pos rfl]
    revert hd
    cases c (e1 a)<;>cases c (e2 a)<;>cases D a<;>simp
   ·dsimp only
    have h1:cmpE (bC e1 e2 ts) (e1 a)=cmpE (bC e1 e2 ts) (e2 a):=ab3 (es:=bC e1 e2 ts) (e:=(e1 a,e2 a)) (List.mem_map.2 ⟨a,ha,rfl⟩)
    rw[h1,<-hc a ha]
    split<;>cases c (e1 a)<;>cases c (e2 a)<;>rfl
theorem amj(P:Nat->Bool)(n c:Nat)(hc:c<n):cn (fun j=>P j&&decide (j/4=c)) (4*n)=(if P (4*c)=true then 1 else 0)+(if P (4*c+1)=true then 1 else 0)+(if P (4*c+2)=true then 1 else 0)+(if P (4*c+3)=true then 1 else 0):=by
 induction n with
 |zero=>omega
 |succ n ih=>
  rw[show 4*(n+1)=4*n+1+1+1+1 by omega,cn,cn,cn,cn]
  rw[show(4*n)/4=n by omega,show(4*n+1)/4=n by omega,show(4*n+1+1)/4=n by omega,show(4*n+1+1+1)/4=n by omega]
  by_cases e:n=c
  ·subst e
   rw[decide_eq_true rfl,yA fun x hx=>by rw[decide_eq_false (by omega),Bool.and_false]]
   simp only[Bool.and_true]
   omega
  ·rw[decide_eq_false e]
   simp only[Bool.and_false,Bool.false_eq_true,if_false]
   exact ih (by omega)
theorem amk(P:Nat->Bool)(n:Nat):cn (fun j=>P (j/4)) (4*n)=4*cn P n:=by
 induction n with
 |zero=>rfl
 |succ n ih=>
  rw[show 4*(n+1)=4*n+1+1+1+1 by omega,cn,cn,cn,cn,cn,ih]
  rw[show(4*n)/4=n by omega,show(4*n+1)/4=n by omega,show(4*n+1+1)/4=n by omega,show(4*n+1+1+1)/4=n by omega]
  split<;>omega
theorem amm(B:Nat->Bool):∀(R:List Nat),cn (fun i=>B (R.getD i 0)) R.length=R.countP B:=by
 intro R
 have key:∀k,k<=R.length->cn (fun i=>B (R.getD i 0)) k=(R.take k).countP B:=by
  intro k
  induction k with
  |zero=>intro _;rfl
  |succ k ih=>
   intro hk
   rw[cn,ih (by omega),List.take_succ_eq_append_getElem (by omega),List.countP_append,List.getD_eq_getElem?_getD,List.getElem?_eq_getElem (by omega)]
   simp[List.countP_cons]
 rw[key _ (Nat.le_refl _),List.take_length]
structure mB(n f:Nat)(h1 h2 hA F pc pf:Nat->Nat):Prop where
 lt:∀a,a<2*n->h1 a<4*n/\h2 a<4*n/\h1 a≠h2 a/\hA (h1 a)=a/\hA (h2 a)=a
 at_:∀j,j<4*n->hA j<2*n/\(j=h1 (hA j)\/j=h2 (hA j))
 nx:∀a,a<2*n->F (h1 a)=F (bZ (h2 a))/\F (h2 a)=F (bZ (h1 a))
 fl:∀j,j<4*n->F j<f
 fs:∀i,i<f->∃j,j<4*n/\F j=i
 fj:∀Z:Nat->Prop,(∀a,a<2*n->(Z (h1 a)<->Z (bZ (h2 a)))/\(Z (h2 a)<->Z (bZ (h1 a))))->∀j j',j<4*n->j'<4*n->F j=F j'->Z j->Z j'
 Hu:∀a,a<2*n->pc (h1 a/4)=pc (h2 a/4)
 VL:∀Z:Nat->Prop,(∀a,a<2*n->(Z (h1 a/4)<->Z (h2 a/4)))->∀x y,x<n->y<n->pc x=pc y->Z x->Z y
 zD:∀j,j<4*n->pf (F j)=pc (j/4)
def qu(hA:Nat->Nat)(D:Nat->Bool)(c:Nat):Prop:=((if D (hA (4*c))=true then 1 else 0)+(if D (hA (4*c+1))=true then 1 else 0)+(if D (hA (4*c+2))=true then 1 else 0)+(if D (hA (4*c+3))=true then 1 else 0))%2=0
def Ik(n:Nat)(h1 h2 hA:Nat->Nat):Prop:=∀D:Nat->Bool,(∀c,c<n->qu hA D c)->∃Y:Nat->Bool,(∀j,j<4*n->(Y j !=Y (bZ j))=D (hA j))/\∀a,a<2*n->Y (h1 a)=Y (bZ (h2 a))/\Y (h2 a)=Y (bZ (h1 a))
theorem am2{n j:Nat}(h:j<4*n):bZ j<4*n:=by unfold bZ;omega
section
variable {n f : Nat} {h1 h2 hA F pc pf : Nat → Nat}
theorem mB.hs(m:mB n f h1 h2 hA F pc pf)(P:Nat->Bool):cn P (4*n)=cn (fun a=>P (h1 a)) (2*n)+cn (fun a=>P (h2 a)) (2*n):=by
 have hp:((List.range (2*n)).map h1++(List.range (2*n)).map h2).Perm (List.range (4*n)):=by
  rw[List.perm_ext_iff_of_nodup]
  ·intro j
   rw[List.mem_append,List.mem_map,List.mem_map,List.mem_range]
   constructor
   ·rintro(⟨a,ha,rfl⟩|⟨a,ha,rfl⟩)
    ·exact(m.lt a (List.mem_range.1 ha)).1
    ·exact(m.lt a (List.mem_range.1 ha)).2.1
   ·intro hj
    obtain⟨h3,h4|h4⟩:=m.at_ j hj
    ·exact .inl ⟨hA j,List.mem_range.2 h3,h4.symm⟩
    ·exact .inr ⟨hA j,List.mem_range.2 h3,h4.symm⟩
  ·rw[List.nodup_append]
   have inj:∀h:Nat->Nat,(∀a,a<2*n->hA (h a)=a)->((List.range (2*n)).map h).Nodup:=fun h hh=>by
    rw[List.nodup_iff_pairwise_ne,List.pairwise_map]
    refine List.Pairwise.imp_of_mem ?_ List.nodup_range
    intro a b ha hb hab e
    have h3:=hh a (List.mem_range.1 ha)
    have h4:=hh b (List.mem_range.1 hb)
    rw[e]at h3
    exact hab (h3.symm.trans h4)
   refine⟨inj h1 fun a ha=>(m.lt a ha).2.2.2.1,inj h2 fun a ha=>(m.lt a ha).2.2.2.2,?_⟩
   intro x hx y hy
   obtain⟨a,ha,rfl⟩:=List.mem_map.1 hx
   obtain⟨b,hb,rfl⟩:=List.mem_map.1 hy
   intro e
   have h3:=(m.lt a (List.mem_range.1 ha)).2.2
   have h4:=(m.lt b (List.mem_range.1 hb)).2.2
   have e2:a=b:=by rw[<-h3.2.1,e,h4.2.2]
   subst e2
   exact h3.1 e
  ·exact List.nodup_range
 have h3:=hp.countP_eq P
 rw[List.countP_append,List.countP_map,List.countP_map]at h3
 rw[qB,qB,qB,<-List.countP_eq_length_filter,<-List.countP_eq_length_filter,<-List.countP_eq_length_filter,<-h3]
 rfl
theorem mB.cut(m:mB n f h1 h2 hA F pc pf){D:Nat->Bool}(hD:∀c,c<n->qu hA D c)(X:Nat->Bool):
  cn (fun a=>D a&&(X (h1 a/4)!=X (h2 a/4))) (2*n)%2=0:=by
 have h3:=m.hs fun j=>D (hA j)&&X (j/4)
 have h4:=amn (fun j=>D (hA j)&&X (j/4)) n fun c hc=>by
  have h5:=hD c hc
  unfold qu at h5
  rw[show 4*c/4=c by omega,show(4*c+1)/4=c by omega,show(4*c+2)/4=c by omega,show(4*c+3)/4=c by omega]
  cases X c
  ·simp
  ·simpa using h5
 have h6:=KJ (fun a=>D (hA (h1 a))&&X (h1 a/4)) (fun a=>D (hA (h2 a))&&X (h2 a/4)) (2*n)
 rw[<-h3,h4]at h6
 rw[h6]
 refine congrArg (·%2) (rK _ fun a ha=>?_)
 obtain⟨_,_,_,e1,e2⟩:=m.lt a ha
 rw[e1,e2]
 cases D a<;>simp
theorem mB.aoM(m:mB n f h1 h2 hA F pc pf){D:Nat->Bool}(h:∀X:Nat->Bool,cn (fun a=>D a&&(X (h1 a/4)!=X (h2 a/4))) (2*n)%2=0)(c:Nat)(hc:c<n):qu hA D c:=by
 have h3:=m.hs fun j=>D (hA j)&&decide (j/4=c)
 rw[amj (fun j=>D (hA j)) n c hc]at h3
 have h4:=KJ (fun a=>D (hA (h1 a))&&decide (h1 a/4=c)) (fun a=>D (hA (h2 a))&&decide (h2 a/4=c)) (2*n)
 have h5:=h fun x=>decide (x=c)
 unfold qu
 rw[h3,h4,<-h5]
 refine congrArg (·%2) (rK _ fun a ha=>?_)
 obtain⟨_,_,_,e1,e2⟩:=m.lt a ha
 rw[e1,e2]
 cases D a<;>simp
theorem mB.side(m:mB n f h1 h2 hA F pc pf)(Y:Nat->Bool){j:Nat}(hj:j<4*n):(Y (F (h1 (hA j)))!=Y (F (h2 (hA j))))=(Y (F j)!=Y (F (bZ j))):=by
 obtain⟨h3,h4⟩:=m.at_ j hj
 obtain⟨n1,n2⟩:=m.nx _ h3
 rcases h4 with h4|h4
 ·rw[n2,<-h4]
 ·rw[n1,<-h4];cases Y (F j)<;>cases Y (F (bZ j))<;>rfl
theorem mB.rim(m:mB n f h1 h2 hA F pc pf)(Y:Nat->Bool){D:Nat->Bool}(hD:∀c,c<n->qu hA D c)(c:Nat)(hc:c<n):qu hA (fun a=>(Y (F (h1 a))!=Y (F (h2 a)))!=D a) c:=by
 have h5:=hD c hc
 unfold qu at h5 ⊢
 dsimp only
 have s0:=m.side Y (j:=4*c) (by omega)
 have s1:=m.side Y (j:=4*c+1) (by omega)
 have s2:=m.side Y (j:=4*c+2) (by omega)
 have s3:=m.side Y (j:=4*c+3) (by omega)
 rw[show bZ (4*c)=4*c+3 by unfold bZ;omega]at s0
 rw[show bZ (4*c+1)=4*c by unfold bZ;omega]at s1
 rw[show bZ (4*c+2)=4*c+1 by unfold bZ;omega]at s2
 rw[show bZ (4*c+3)=4*c+2 by unfold bZ;omega]at s3
 simp only[s0,s1,s2,s3]
 revert h5
 cases D (hA (4*c))<;>cases D (hA (4*c+1))<;>cases D (hA (4*c+2))<;>cases D (hA (4*c+3))<;>cases Y (F (4*c))<;>cases Y (F (4*c+1))<;>cases Y (F (4*c+2))<;>cases Y (F (4*c+3))<;>decide
theorem mB.hang(m:mB n f h1 h2 hA F pc pf)(Z:Nat->Prop)(hZ:∀j,j<4*n->(Z (F j)<->Z (F (bZ j)))):∀i i',i<f->i'<f->pf i=pf i'->Z i->Z i':=by
 have aoo:∀c,c<n->∀k,k<4->(Z (F (4*c+k))<->Z (F (4*c))):=fun c hc k hk=>by
  have z1:=hZ (4*c+1) (by omega)
  have z2:=hZ (4*c+2) (by omega)
  have z3:=hZ (4*c+3) (by omega)
  rw[show bZ (4*c+1)=4*c by unfold bZ;omega]at z1
  rw[show bZ (4*c+2)=4*c+1 by unfold bZ;omega]at z2
  rw[show bZ (4*c+3)=4*c+2 by unfold bZ;omega]at z3
  have e:k=0\/k=1\/k=2\/k=3:=by omega
  rcases e with rfl|rfl|rfl|rfl
  ·exact Iff.rfl
  ·exact z1
  ·exact z2.trans z1
  ·exact(z3.trans z2).trans z1
 have Fa:∀j,j<4*n->(Z (F j)<->Z (F (4*(j/4)))):=fun j hj=>by
  have:=aoo (j/4) (by omega) (j%4) (by omega)
  rwa [show 4*(j/4)+j%4=j by omega]at this
 have hcon:=m.VL (fun c=>Z (F (4*c))) fun a ha=>by
  obtain⟨l1,l2,_⟩:=m.lt a ha
  obtain⟨n1,_⟩:=m.nx a ha
  have c1:=Fa (h1 a) l1
  have c2:=Fa (h2 a) l2
  have z2:=hZ (h2 a) l2
  rw[n1]at c1
  exact c1.symm.trans (z2.symm.trans c2)
 intro i i' hi hi' hp hz
 obtain⟨j,hj,rfl⟩:=m.fs i hi
 obtain⟨j',hj',rfl⟩:=m.fs i' hi'
 rw[m.zD j hj,m.zD j' hj']at hp
 exact(Fa j' hj').2 (hcon (j/4) (j'/4) (by omega) (by omega) hp ((Fa j hj).1 hz))
theorem mB.anV(m:mB n f h1 h2 hA F pc pf):Ik n h1 h2 hA<->∀p x0,x0<n->pc x0=p->cn (fun i=>decide (pf i=p)) f=cn (fun x=>decide (pc x=p)) n+2:=by
 have ve:∀a,a<2*n->h1 a/4<n/\h2 a/4<n:=fun a ha=>by have:=m.lt a ha;omega
 obtain⟨T,hT⟩:∃T,trE (fun a=>h1 a/4) (fun a=>h2 a/4) (2*n)=T:=⟨_,rfl⟩
 obtain⟨R,hR⟩:∃R,mV (fun a=>h1 a/4) (fun a=>h2 a/4) (2*n)=R:=⟨_,rfl⟩
 have htl:∀a∈T,a<2*n:=by rw[<-hT];exact Bg _ _ _
 have hrl:∀a∈R,a<2*n:=by rw[<-hR];exact FA _ _ _
 have hTR:∀a,a<2*n->a∈T\/a∈R:=by rw[<-hT,<-hR];exact abx _ _ _
 have Gv:∀a,a∈T->a∈R->False:=by rw[<-hT,<-hR];exact aby _ _ _
 have hfo:DI (bC (fun a=>h1 a/4) (fun a=>h2 a/4) T):=by rw[<-hT];exact adi _ _ _
 have Ls:=acj (fun a=>h1 a/4) (fun a=>h2 a/4) (2*n)
 rw[hT]at Ls
 have afJ:R.Nodup:=by rw[<-hR];exact ajm _ _ _
 have noD:∀D:Nat->Bool,(∀c,c<n->qu hA D c)->(∀a∈R,D a=false)->∀a,a<2*n->D a=false:=fun D hev hno=>
  alZ T htl hfo D (fun a ha hd=>(hTR a ha).elim id fun h=>by rw[hno a h]at hd;cases hd) (m.cut hev)
 obtain⟨G,hG⟩:∃G:Nat->Nat,∀i,G i=R.getD i 0:=⟨fun i=>R.getD i 0,fun _=>rfl⟩
 have HF:∀i (h:i<R.length),G i=R[i]:=fun i hi=>by rw[hG i];simp[List.getD_eq_getElem?_getD,hi]
 have zQ:∀i,i<R.length->G i∈R:=fun i hi=>by rw[HF i hi];exact List.getElem_mem _
 have hRG:∀a∈R,∃i,i<R.length/\G i=a:=fun a ha=>by
  obtain⟨i,hi,e⟩:=List.getElem_of_mem ha
  exact⟨i,hi,by rw[HF i hi,e]⟩
 have ap7:∀i i',i<R.length->i'<R.length->G i=G i'->i=i':=fun i i' hi hi' e=>by
  rw[HF i hi,HF i' hi']at e
  rcases Nat.lt_trichotomy i i' with h|h|h
  ·exact absurd e (List.pairwise_iff_getElem.1 afJ i i' hi hi' h)
  ·exact h
  ·exact absurd e.symm (List.pairwise_iff_getElem.1 afJ i' i hi' hi h)
 obtain⟨T2,Vt⟩:∃T2,trE (fun i=>F (h1 (G i))) (fun i=>F (h2 (G i))) R.length=T2:=⟨_,rfl⟩
 obtain⟨C2,VE⟩:∃C2,mV (fun i=>F (h1 (G i))) (fun i=>F (h2 (G i))) R.length=C2:=⟨_,rfl⟩
 have fe:∀i,i<R.length->F (h1 (G i))<f/\F (h2 (G i))<f:=fun i hi=>by
  have:=m.lt (G i) (hrl _ (zQ i hi))
  exact⟨m.fl _ this.1,m.fl _ this.2.1⟩
 have b3:=acj (fun i=>F (h1 (G i))) (fun i=>F (h2 (G i))) R.length
 have b5:=Bg (fun i=>F (h1 (G i))) (fun i=>F (h2 (G i))) R.length
 have b6:=adi (fun i=>F (h1 (G i))) (fun i=>F (h2 (G i))) R.length
 have b7:=FA (fun i=>F (h1 (G i))) (fun i=>F (h2 (G i))) R.length
 have b8:=aby (fun i=>F (h1 (G i))) (fun i=>F (h2 (G i))) R.length
 have b9:=abx (fun i=>F (h1 (G i))) (fun i=>F (h2 (G i))) R.length
 rw[Vt]at b3 b5 b6
 rw[VE]at b7
 rw[Vt,VE]at b8 b9
 have aeN:∀p x0,x0<n->pc x0=p->cn (fun i=>decide (pf i=p)) f+C2.countP (fun i=>decide (pf (F (h1 (G i)))=p))=cn (fun x=>decide (pc x=p)) n+2:=by
  intro p x0 hx0 hp0
  have a1:=abz (fun a=>h1 a/4) (fun a=>h2 a/4) (N:=n) (P:=fun x=>decide (pc x=p)) (2*n) ve (fun a ha=>by rw[m.Hu a ha])
  have a3:=aaI (fun a=>h1 a/4) (fun a=>h2 a/4) (fun a=>decide (pc (h1 a/4)=p)) (2*n)
  rw[hT]at a1 a3
  rw[hR]at a3
  rw[acr hx0 (decide_eq_true hp0) (JY _ _ ve htl) (fun g hg=>by
   obtain⟨a,ha,rfl⟩:=List.mem_map.1 hg
   dsimp only
   rw[m.Hu a (htl a ha)]) (fun x hx hpx=>m.VL (fun x=>cmpE (bC (fun a=>h1 a/4) (fun a=>h2 a/4) T) x=cmpE (bC (fun a=>h1 a/4) (fun a=>h2 a/4) T) x0) (fun a ha=>by
    have:=Ls a ha
    rw[this]) x0 x hx0 hx (hp0.trans (of_decide_eq_true hpx).symm) rfl)]at a1
  have a4:=m.hs fun j=>decide (pc (j/4)=p)
  rw[amk (fun x=>decide (pc x=p)) n,rK (P:=fun a=>decide (pc (h2 a/4)=p)) (Q:=fun a=>decide (pc (h1 a/4)=p)) (2*n) (fun a ha=>by rw[m.Hu a ha])]at a4
  have Dv:∀i,i<R.length->pf (F (h1 (G i)))=pc (h1 (G i)/4)/\pf (F (h2 (G i)))=pc (h1 (G i)/4):=fun i hi=>by
   have hb:=hrl _ (zQ i hi)
   have:=m.lt (G i) hb
   exact⟨m.zD _ this.1,by rw[m.zD _ this.2.1,m.Hu _ hb]⟩
  have c1:=abz (fun i=>F (h1 (G i))) (fun i=>F (h2 (G i))) (N:=f) (P:=fun i=>decide (pf i=p)) R.length fe (fun i hi=>by rw[(Dv i hi).1,(Dv i hi).2])
  have c3:=aaI (fun i=>F (h1 (G i))) (fun i=>F (h2 (G i))) (fun i=>decide (pf (F (h1 (G i)))=p)) R.length
  rw[Vt]at c1 c3
  rw[VE]at c3
  have hF0:F (4*x0)<f:=m.fl _ (by omega)
  have hq0:pf (F (4*x0))=p:=by rw[m.zD _ (by omega),show 4*x0/4=x0 by omega,hp0]
  rw[acr hF0 (decide_eq_true hq0) (JY _ _ fe b5) (fun g hg=>by
   obtain⟨i,hi,rfl⟩:=List.mem_map.1 hg
   dsimp only
   rw[(Dv i (b5 i hi)).1,(Dv i (b5 i hi)).2]) (fun x hx hqx=>by
    have hno:=noD (fun a=>(decide (cmpE (bC (fun i=>F (h1 (G i))) (fun i=>F (h2 (G i))) T2) (F (h1 a))=cmpE (bC (fun i=>F (h1 (G i))) (fun i=>F (h2 (G i))) T2) (F (4*x0)))!=decide (cmpE (bC (fun i=>F (h1 (G i))) (fun i=>F (h2 (G i))) T2) (F (h2 a))=cmpE (bC (fun i=>F (h1 (G i))) (fun i=>F (h2 (G i))) T2) (F (4*x0))))!=false)
     (m.rim (fun g=>decide (cmpE (bC (fun i=>F (h1 (G i))) (fun i=>F (h2 (G i))) T2) g=cmpE (bC (fun i=>F (h1 (G i))) (fun i=>F (h2 (G i))) T2) (F (4*x0)))) (D:=fun _=>false) fun c hc=>by unfold qu;simp)
     (fun a ha=>by
      obtain⟨i,hi,rfl⟩:=hRG a ha
      have:=b3 i hi
      rw[this]
      simp)
    refine m.hang (fun g=>cmpE (bC (fun i=>F (h1 (G i))) (fun i=>F (h2 (G i))) T2) g=cmpE (bC (fun i=>F (h1 (G i))) (fun i=>F (h2 (G i))) T2) (F (4*x0))) (fun j hj=>?_) (F (4*x0)) x hF0 hx (hq0.trans (of_decide_eq_true hqx).symm) rfl
    have h9:=hno (hA j) (m.at_ j hj).1
    have h8:=m.side (fun g=>decide (cmpE (bC (fun i=>F (h1 (G i))) (fun i=>F (h2 (G i))) T2) g=cmpE (bC (fun i=>F (h1 (G i))) (fun i=>F (h2 (G i))) T2) (F (4*x0)))) hj
    rw[h8]at h9
    have h7:decide (cmpE (bC (fun i=>F (h1 (G i))) (fun i=>F (h2 (G i))) T2) (F j)=cmpE (bC (fun i=>F (h1 (G i))) (fun i=>F (h2 (G i))) T2) (F (4*x0)))=decide (cmpE (bC (fun i=>F (h1 (G i))) (fun i=>F (h2 (G i))) T2) (F (bZ j))=cmpE (bC (fun i=>F (h1 (G i))) (fun i=>F (h2 (G i))) T2) (F (4*x0))):=by simpa using h9
    exact decide_eq_decide.1 h7)]at c1
  have c5:cn (fun i=>decide (pf (F (h1 (G i)))=p)) R.length=R.countP (fun a=>decide (pc (h1 a/4)=p)):=by
   rw[<-amm]
   refine rK _ fun i hi=>?_
   rw[(Dv i hi).1,hG i]
  rw[c5]at c3
  omega
 have two:C2=[]->Ik n h1 h2 hA:=by
  intro hC D hD
  obtain⟨c,hc⟩:=al0 b6 fun i=>D (G i)
  have hno:=noD (fun a=>(c (F (h1 a))!=c (F (h2 a)))!=D a) (m.rim c hD) fun a ha=>by
   obtain⟨i,hi,rfl⟩:=hRG a ha
   have:i∈T2:=(b9 i hi).elim id fun h=>by rw[hC]at h;cases h
   rw[hc i this]
   simp
  refine⟨fun j=>c (F j),fun j hj=>?_,fun a ha=>?_⟩
  ·dsimp only
   rw[<-m.side c hj]
   exact(show∀p q r:Bool,((p !=q)!=r)=false->(p !=q)=r by decide) _ _ _ (hno (hA j) (m.at_ j hj).1)
  ·obtain⟨g1,g2⟩:=m.nx a ha
   exact⟨congrArg c g1,congrArg c g2⟩
 have one:Ik n h1 h2 hA->C2=[]:=by
  intro hP
  refine List.eq_nil_iff_forall_not_mem.2 fun i0 hi0=>?_
  have hl0:=b7 i0 hi0
  have Dt:=zQ i0 hl0
  have hb0:=hrl _ Dt
  obtain⟨D1,p1,q1⟩:=alo (K:=2*n) T htl (h1 (G i0)/4) (h2 (G i0)/4) (Ls (G i0) hb0)
  obtain⟨Y,y1,y2⟩:=hP (fun a=>D1 a !=decide (a=G i0)) (m.aoM fun X=>by
   have r1:=q1 X
   have r3:=abk (P:=fun a=>X (h1 a/4)!=X (h2 a/4)) hb0
   have r4:=KI D1 (fun a=>decide (a=G i0)) (fun a=>X (h1 a/4)!=X (h2 a/4)) (2*n)
   rw[r4,Nat.add_mod,r1,r3]
   split<;>rfl)
  obtain⟨Yf,hYf⟩:∃Yf:Nat->Bool,∀j,j<4*n->Yf (F j)=Y j:=by
   refine⟨fun i=>((List.range (4*n)).find? fun j=>decide (F j=i)).elim false Y,fun j hj=>?_⟩
   dsimp only
   cases hf:(List.range (4*n)).find? fun k=>decide (F k=F j)with
   |none=>
    have:=List.find?_eq_none.1 hf j (List.mem_range.2 hj)
    simp at this
   |some k=>
    have e1:F k=F j:=by simpa using List.find?_some hf
    have e2:=List.mem_range.1 (List.mem_of_find?_eq_some hf)
    show Y k=Y j
    exact m.fj (fun x=>Y x=Y j) (fun a ha=>⟨by rw[(y2 a ha).1],by rw[(y2 a ha).2]⟩) j k hj e2 e1.symm rfl
  have hd:∀i,i<R.length->(Yf (F (h1 (G i)))!=Yf (F (h2 (G i))))=(D1 (G i)!=decide (G i=G i0)):=fun i hi=>by
   have hb:=hrl _ (zQ i hi)
   obtain⟨l1,l2,_,e1,e2⟩:=m.lt (G i) hb
   rw[hYf _ l1,hYf _ l2,(y2 _ hb).2,y1 _ l1,e1]
  have Vv:∀i,i<R.length->D1 (G i)=false:=fun i hi=>by
   cases h:D1 (G i)with
   |false=>rfl
   |true=>exact(Gv _ (p1 _ h) (zQ i hi)).elim
  have hinv:=Jh (es:=bC (fun i=>F (h1 (G i))) (fun i=>F (h2 (G i))) T2) (P:=Yf) fun g hg=>by
   obtain⟨i,hi,rfl⟩:=List.mem_map.1 hg
   have h9:=hd i (b5 i hi)
   rw[Vv i (b5 i hi),decide_eq_false (fun e=>by
    have:=ap7 i i0 (b5 i hi) hl0 e
    subst this
    exact b8 _ hi hi0)]at h9
   dsimp only
   simpa using h9
  have h9:=hd i0 hl0
  rw[Vv i0 hl0,decide_eq_true rfl,<-hinv,b3 i0 hl0,hinv]at h9
  simp at h9
 constructor
 ·intro hP p x0 hx0 hp0
  have:=aeN p x0 hx0 hp0
  rw[one hP]at this
  exact this
 ·intro hP
  refine two (List.eq_nil_iff_forall_not_mem.2 fun i hi=>?_)
  have hl:=b7 i hi
  have hb:=hrl _ (zQ i hl)
  have l1:=(m.lt (G i) hb).1
  have h5:=aeN _ (h1 (G i)/4) (by omega) rfl
  have h6:=hP _ (h1 (G i)/4) (by omega) rfl
  have h7:C2.countP (fun i'=>decide (pf (F (h1 (G i')))=pc (h1 (G i)/4)))=0:=by omega
  rw[List.countP_eq_zero]at h7
  exact h7 i hi (decide_eq_true (m.zD _ l1))
end
end Go.Proofs.YthppkofceancjaaGreat
namespace Go.Proofs.YthppkofceancjaaGreat
open Go.RowKit
theorem ai2{d:Dg}(h:Uu d=true)(Z:Nat->Prop)(hZ:∀c,kZ d c->(Z c<->Z (dI d c)))(seen:List Bool)(x:Nat)(acc:List Int)(hl:seen.length=4*d.ae.length+2)(hx:kZ d x)(hacc:∀y∈acc,Z y.toNat<->Z x):
  ∀y∈(fA (dI d) seen x acc).2,∀z∈(fA (dI d) seen x acc).2,Z y.toNat<->Z z.toNat:=by
 induction hk:free seen using Nat.strongRecOn generalizing seen x acc with
 |_ k ih=>
  by_cases hg:x<seen.length/\ga seen x=false
  ·rw[vG hg.1 hg.2]
   have hf:=px hg.1 hg.2
   refine ih (free (seen.set x true)) (by omega) (seen.set x true) (dI d x) (acc++[(x:Int)]) (by rw[List.length_set];exact hl) (AW h hx) ?_ rfl
   intro y hy
   rw[List.mem_append,List.mem_singleton]at hy
   rcases hy with hy|rfl
   ·exact(hacc y hy).trans (hZ x hx)
   ·exact hZ x hx
  ·have e:fA (dI d) seen x acc=(seen,acc):=by rw[fA];simp[hg]
   rw[e]
   exact fun y hy z hz=>(hacc y hy).trans (hacc z hz).symm
theorem aiN{d:Dg}(h:Uu d=true)(Z:Nat->Prop)(hZ:∀c,kZ d c->(Z c<->Z (dI d c)))(k:Nat)(hk:k<=4*d.ae.length):∀r∈(dQ d k).2,∀y∈r,∀z∈r,Z y.toNat<->Z z.toNat:=by
 induction k with
 |zero=>intro r hr;simp[dQ]at hr
 |succ k ih=>
  have ih:=ih (by omega)
  have hlen:=xY d k
  cases hg:ga (dQ d k).1 (k+2)with
  |true=>rw[vR rfl hg];exact ih
  |false=>
   rw[vQ rfl hg rfl]
   dsimp only
   intro r hr
   rcases List.mem_append.1 hr with hr|hr
   ·exact ih r hr
   ·rw[List.mem_singleton.1 hr]
    exact ai2 h Z hZ _ _ _ hlen ⟨by omega,by omega⟩ (fun y hy=>by cases hy)
def Dm(d:Dg)(c:Nat):Nat:=dz d (!(dA c).b) ((dA c).a.toNat-1)
theorem JH{d:Dg}(h:Uu d=true){j:Nat}(hj:j<4*d.ae.length){b:Bool}(hb:cm d (j/4) (j%4)=!b):j=dz d b ((bh d j).toNat-1):=by
 have hr:=tL h hj
 have e0:(((bh d j).toNat-1+1:Nat):Int)=bh d j:=by omega
 have:=D4 h (c:=j/4) (k:=j%4) (b:=b) (by omega) (by omega) hb
 unfold dz
 rw[e0]
 unfold bh
 rw[this]
 dsimp only
 omega
theorem Jx{d:Dg}(h:Uu d=true){j:Nat}(hj:j<4*d.ae.length):Dm d (kg (sJ d j))=j:=by
 have ho:=(ym h hj).1
 unfold Dm
 rw[KH (by omega)]
 exact(JH h hj (by show cm d (j/4) (j%4)=!!cm d (j/4) (j%4);rw[Bool.not_not])).symm
theorem am4{d:Dg}(h:Uu d=true){c:Nat}(hc:kZ d c):Dm d (dI d c)=bZ (dz d (dA c).b ((dA c).a.toNat-1)):=by
 have ho:=oG hc
 obtain⟨o1,o2⟩:=ho
 obtain⟨a1,_⟩:=mo h (a:=(dA c).a.toNat-1) (by omega) (dA c).b
 have e:=acz h (a:=(dA c).a.toNat-1) (by omega) (dA c).b
 rw[show(((dA c).a.toNat-1+1:Nat):Int)=(dA c).a by omega]at e
 unfold dI
 rw[e]
 have e2:dz d (dA c).b ((dA c).a.toNat-1)=4*(aX d (dA c).a (dA c).b).1+(aX d (dA c).a (dA c).b).2:=by
  unfold dz
  rw[show(((dA c).a.toNat-1+1:Nat):Int)=(dA c).a by omega]
 rw[<-e2]
 exact Jx h (am2 a1)
theorem acT{d:Dg}(h:Uu d=true)(Z:Nat->Prop)(hZ:∀a,a<2*d.ae.length->(Z (dz d false a)<->Z (bZ (dz d true a)))/\(Z (dz d true a)<->Z (bZ (dz d false a)))){j j':Nat}(hj:j<4*d.ae.length)(hj':j'<4*d.ae.length)(e:kf d j=kf d j'):Z j->Z j':=by
 have hc:=yw (ym h hj)
 have hc':=yw (ym h hj')
 obtain⟨f1,f2⟩:=yK h hc
 obtain⟨f3,f4⟩:=yK h hc'
 change(_:Int)∈ga (jw d) (kf d j)at f2
 change kf d j<(jw d).length at f1
 change(_:Int)∈ga (jw d) (kf d j')at f4
 rw[<-e]at f4
 have:=aiN h (fun c=>Z (Dm d c)) (fun c hc=>by
  have ho:=oG hc
  obtain⟨o1,o2⟩:=ho
  obtain⟨z1,z2⟩:=hZ ((dA c).a.toNat-1) (by omega)
  rw[am4 h hc]
  unfold Dm
  cases (dA c).b with
  |true=>exact z1
  |false=>exact z2) _ (Nat.le_refl _) (ga (jw d) (kf d j)) (by rw[bV f1];exact List.getElem_mem _) _ f2 _ f4
 rw[Int.toNat_natCast,Int.toNat_natCast,Jx h hj,Jx h hj']at this
 exact this.1
theorem acu(j:Nat):bZ j/4=j/4:=by unfold bZ;omega
theorem EY{d:Dg}(h:Uu d=true){a:Nat}(ha:a<2*d.ae.length):bO d (dz d false a/4)=bO d (dz d true a/4):=by
 obtain⟨s,hs,e⟩:=acD h ha
 rw[(mo h ha false).2.2,(mo h ha true).2.2]
 show bO d (dU d a false)=bO d (dU d a true)
 rw[<-e,adx h (yt h ha false) hs]
theorem aof{d:Dg}(h:Uu d=true){j:Nat}(hj:j<4*d.ae.length):bO d (gU d (kf d j))=bO d (j/4):=by
 have hc:=yw (ym h hj)
 obtain⟨f1,f2⟩:=yK h hc
 change kf d j<_ at f1
 obtain⟨c,t,hr,c1,c2⟩:=Iy d _ (Nat.le_refl _) (ga (jw d) (kf d j)) (by rw[bV f1];exact List.getElem_mem _)
 have hrc:kZ d c:=⟨c1,c2⟩
 obtain⟨o1,o2⟩:=oG hrc
 have hd:hd0 d (kf d j)=dA c:=by
  unfold hd0
  rw[abX,kH _ _ _ f1,hr]
  rfl
 have e2:gU d (kf d j)=dz d (dA c).b ((dA c).a.toNat-1)/4:=by
  obtain⟨_,_,a3⟩:=mo h (a:=(dA c).a.toNat-1) (by omega) (dA c).b
  rw[a3,show(((dA c).a.toNat-1+1:Nat):Int)=(dA c).a by omega]
  unfold gU
  rw[hd]
 obtain⟨p1,p2,_⟩:=mo h (a:=(dA c).a.toNat-1) (by omega) (!(dA c).b)
 have e3:kf d (dz d (!(dA c).b) ((dA c).a.toNat-1))=kf d j:=by
  show qs d (kg (sJ d _))=_
  rw[p2,Bool.not_not,show(((dA c).a.toNat-1+1:Nat):Int)=(dA c).a by omega]
  show qs d (kg (dA c))=_
  rw[yL]
  exact KD h hrc f1 (by rw[hr];simp)
 have e4:=acT h (fun x=>bO d (x/4)=bO d (j/4)) (fun a ha=>by
  rw[acu,acu,EY h ha]
  exact⟨Iff.rfl,Iff.rfl⟩) hj p1 e3.symm rfl
 rw[e2,<-e4]
 cases (dA c).b with
 |true=>exact(EY h (by omega)).symm
 |false=>exact EY h (by omega)
theorem adI{d:Dg}(h:Uu d=true):mB d.ae.length (jw d).length (dz d false) (dz d true) (fun j=>(bh d j).toNat-1) (kf d) (bO d) (fun i=>bO d (gU d i)):=by
 refine⟨fun a ha=>?_,fun j hj=>?_,fun a ha=>?_,fun j hj=>(yK h (yw (ym h hj))).1,fun i hi=>?_,fun Z hZ j j' hj hj' e=>acT h Z hZ hj hj' e,fun a ha=>EY h ha,fun Z hZ x y hx hy e hz=>?_,fun j hj=>aof h hj⟩
 ·obtain⟨a1,a2,a3⟩:=mo h ha false
  obtain⟨b1,b2,b3⟩:=mo h ha true
  have q1:bh d (dz d false a)=((a+1:Nat):Int):=congrArg Da.a a2
  have q2:bh d (dz d true a)=((a+1:Nat):Int):=congrArg Da.a b2
  refine⟨a1,b1,fun e=>?_,?_,?_⟩
  ·rw[e,b2]at a2
   have:=congrArg Da.b a2
   simp at this
  ·rw[q1];omega
  ·rw[q2];omega
 ·have hr:=tL h hj
  refine⟨by omega,?_⟩
  cases hb:cm d (j/4) (j%4)with
  |true=>exact .inl (JH h hj (b:=false) hb)
  |false=>exact .inr (JH h hj (b:=true) hb)
 ·have key:∀b,kf d (dz d (!b) a)=kf d (bZ (dz d b a)):=fun b=>by
   obtain⟨a1,a2,a3⟩:=mo h ha (!b)
   rw[Bool.not_not]at a2
   unfold kf
   have ho:okD d (sJ d (dz d (!b) a)):=ym h a1
   rw[a2]at ho ⊢
   have h1:=aoe h (yw ho)
   rw[<-h1]
   unfold dI
   rw[KH (by have:=ho.1;simp only at this ⊢;omega),acz h ha b]
   rfl
  exact⟨key true,key false⟩
 ·obtain⟨c,t,hr,c1,c2⟩:=Iy d _ (Nat.le_refl _) (ga (jw d) i) (by rw[bV hi];exact List.getElem_mem _)
  have hrc:kZ d c:=⟨c1,c2⟩
  have hi9:=KD h hrc hi (by rw[hr];simp)
  obtain⟨ho1,ho2⟩:=oG hrc
  obtain⟨a1,a2,a3⟩:=mo h (a:=(dA c).a.toNat-1) (by omega) (!(dA c).b)
  refine⟨dz d (!(dA c).b) ((dA c).a.toNat-1),a1,?_⟩
  unfold kf
  rw[a2,Bool.not_not,show(((dA c).a.toNat-1+1:Nat):Int)=(dA c).a by omega]
  show qs d (kg (dA c))=i
  rw[yL]
  exact hi9
 ·refine aai h Z (fun u s hu hs=>?_) hx hy e hz
  obtain⟨k,hk,hh⟩:=acW h hu hs
  have:=hZ k hk
  rw[(mo h hk false).2.2,(mo h hk true).2.2]at this
  unfold dU at hh
  rcases hh with⟨g1,g2⟩|⟨g1,g2⟩
  ·rw[g1,g2]at this;exact this
  ·rw[g1,g2]at this;exact this.symm
def HPd(d:Dg):Prop:=Ik d.ae.length (dz d false) (dz d true) (fun j=>(bh d j).toNat-1)
theorem aj7{d:Dg}(h:Uu d=true):iM d=true<->HPd d:=by
 unfold HPd
 rw[(adI h).anV]
 have hfl:(cD d).length=(jw d).length:=by rw[abX,List.length_map]
 have hcn:∀i,i<(bK d).length->(ga (jB d (cD d).length) i=((ga (bK d) i).length:Int)+2<->cn (fun x=>decide (bO d (gU d x)=i)) (jw d).length=cn (fun x=>decide (bO d x=i)) d.ae.length+2):=fun i hi=>by
  rw[adS d i hi,abJ h hi,hfl]
  omega
 unfold iM
 rw[List.all_eq_true]
 constructor
 ·intro hp p x0 hx0 e
  obtain⟨l1,_⟩:=wk h hx0
  rw[e]at l1
  exact(hcn p l1).1 (of_decide_eq_true (hp p (List.mem_range.2 l1)))
 ·intro hp i hi
  have hi:=List.mem_range.1 hi
  obtain⟨_,c0,hc0,hm,_⟩:=(s9 h).el i hi
  exact decide_eq_true ((hcn i hi).2 (hp i c0 hc0 (Bj h hi hm).2))
end Go.Proofs.YthppkofceancjaaGreat
namespace Go.Proofs.YthppkofceancjaaGreat
open Go.ChangeShapes Go.WideShapes Go.ChangeAt Go.RowKit
theorem SH.ao6{w:World}{M:Hp}{X:Fr}{H H':List Rs}{i g:Nat}{T:TypeId}{l:List Value}(S:SH w M X H)(hi:nth H i=some (Rs.box g T l))(hH:H.set i Rs.emp=H'):∃M',M.le M'/\SH w M' X H'/\bQ M' g T l:=by
 obtain⟨h1,h2,h3⟩:=S.uZ hi hH
 have h4:hp w g=some (.cells l.toArray T (0,0)):=S.get hi
 exact⟨_,h1,h2,(h3 g (by simp[Rs.box])).trans h4⟩
theorem Gj{d:Dg}(h:iC d=true):d.ae.length<=16/\Uu d=true/\0<=d.loops/\d.loops<=16:=by
 rw[IQ,Bool.and_eq_true,decide_eq_true_iff]at h
 exact⟨h.1.1,h.2,h.1.2.1,h.1.2.2.1⟩
def ShM(N:Hp)(d:Dg)(g:Nat)(cA iA oA:Option Addr)(cc ic oc:Nat):Prop:=bQ N g 70 [.slice cA d.ae.length cc,.int .i64 d.loops,.slice iA (aN d false (4*d.ae.length)).length ic,.slice oA (aN d true (4*d.ae.length)).length oc]/\aB bw N cA cc d.ae/\aB cw N iA ic (aN d false (4*d.ae.length))/\aB cw N oA oc (aN d true (4*d.ae.length))
def azo(d:Dg)(v:Value)(N:Hp):Prop:=
 (iC d=false/\v=.tuple [.pointer none,.bool false].toArray)\/
 (iC d=true/\∃g cA iA oA cc ic oc,v=.tuple [.pointer (some ⟨g,0,none⟩),.bool true].toArray/\ShM N d g cA iA oA cc ic oc)
theorem aqx{w:World}{M:Hp}{X:Fr}(d:Dg){A:Option Addr}{c:Nat}(h:aB bw (M.un X.h) A c d.ae)(S:SH w M X []):Ct Tryz.prog 64 [.agg [.slice A d.ae.length c,.int .i64 d.loops].toArray] w M X (azo d):=by
 refine(aqy d h S).mono ?_
 rintro e w' ⟨v,rfl,N,S1,⟨hm,rfl,rfl⟩|⟨hm,g,vc,vi,vo,rfl,rfl,hv⟩⟩
 ·exact⟨_,rfl,M,Hp.le_refl _,S1,.inl ⟨hm,rfl⟩⟩
 ·obtain⟨hn,_⟩:=Gj hm
  have t1:=jo d false (4*d.ae.length)
  have t2:=jo d true (4*d.ae.length)
  clear hv
  obtain⟨M1,l1,S2,⟨cA,cc,rfl,r1⟩⟩:=S1.gW (i:=1) rfl rfl (by show _*40<=_;omega)
  obtain⟨M2,l2,S3,⟨iA,ic,rfl,r2⟩⟩:=S2.gW (C:=cw) (xs:=aN d false (4*d.ae.length)) (i:=2) rfl rfl (by show _*16<=_;omega)
  obtain⟨M3,l3,S4,⟨oA,oc,rfl,r3⟩⟩:=S3.gW (C:=cw) (xs:=aN d true (4*d.ae.length)) (i:=3) rfl rfl (by show _*16<=_;omega)
  obtain⟨M4,l4,S5,b⟩:=S4.ao6 (i:=0) rfl rfl
  exact⟨_,rfl,M4,(l1.trans l2).trans (l3.trans l4),S5.pick [] [] (by decide) trivial,.inr ⟨hm,g,cA,iA,oA,cc,ic,oc,rfl,b,((r1.mono l2).mono l3).mono l4,(r2.mono l3).mono l4,r3.mono l4⟩⟩
def DgR(d:Dg)(u:Value)(M:Hp):Prop:=∃A c,u=.agg [.slice A d.ae.length c,.int .i64 d.loops].toArray/\aB bw M A c d.ae
noncomputable def Zgg:=Tryz.f9.body.getD .skip
def Zgh:=cL Zgg
def Zgi:=cR Zgg
def Zgj:=cL Zgi
def Zgk:=cR Zgi
def Zgl:=cL Zgk
def Zgm:=cR Zgk
set_option maxRecDepth 10000 in
theorem IA{w:World}{M:Hp}{X:Fr}(d:Dg){aV:Option Addr}{aU:Nat}(ay:aB bw (M.un X.h) aV aU d.ae)(S:SH w M X []):Ct Tryz.prog 9 [.agg [.slice aV d.ae.length aU,.int .i64 d.loops].toArray] w M X (DgR d):=by
 unfold Ct
 have jH:d.ae.length*40<=140737488355328:=ay.room
 have hroom:d.ae.length*40<=140737488355328:=ay.room
 refine Up (b:=Zgg) Tryz.func9 rfl Tryz.ntmps9 rfl (fun C hC=>(bu [(0,_)] ⟨rfl,trivial⟩ (U1 Zgh Zgi rfl rfl rfl (U0 rfl (ar 0 1 rfl rfl rfl (cU (l:=[_,_]) rfl rfl rfl rfl rfl S ?_))))))
 intro aI w1 S1;clear S
 refine ar 1 2 rfl rfl rfl (dh (l:=[_,_]) rfl rfl rfl aqF rfl S1 ?_)
 intro bq w2 S2;clear S1
 refine U3 rfl (ah [1,2] rfl (U2 (U1 Zgj Zgk rfl rfl rfl (U0 rfl (ag 0 rfl (U4 rfl rfl bg rfl (dV) (dS)) (ag 1 rfl (U5 rfl rfl bF rfl (S2.aG (i:=1) rfl rfl)) ?_))))))
 have S3:=S2.gL bw;clear S2
 refine ar 2 3 rfl rfl rfl (Aa (C:=bw) (i:=0) rfl rfl rfl rfl rfl rfl rfl rfl mH S3 rfl ay S3.um (by have h:_*40<=_:=ay.room;show(0+_)*40<=_;first|omega|(simp only[ls];omega)) ?_)
 intro jZ w3 S4;clear S3
 change SH _ _ _ [Rs.row bw jZ d.ae,_,_]at S4
 refine ag 3 rfl (U4 rfl rfl bg rfl (dV) (dS)) (ar 4 5 rfl rfl rfl (Uo (i:=2) (us:=[_]) (l':=[_,_]) (H':=[_,_,_]) rfl rfl S4 rfl rfl rfl (S4.yM (i:=0) rfl) aq4 rfl (py (S4.one (i:=0) rfl) rfl) rfl rfl ?_))
 intro w4 S5;clear S4
 refine U3 rfl (ah [1,2] rfl (U2 (U1 Zgl Zgm rfl rfl rfl (U0 rfl (ag 0 rfl (Uc (us:=[_,_]) rfl rfl bg rfl dM (S5.aY (i:=2) rfl ⟨rfl,rfl,trivial⟩)) (ar 1 2 rfl rfl rfl (Uo (i:=1) (us:=[_,_]) (l':=[_,_]) (H':=[_,_,_]) rfl rfl S5 rfl rfl rfl rfl dM rfl (py (S5.one (i:=0) rfl) (py rfl rfl)) rfl rfl ?_)))))))
 intro w5 S6;clear S5
 refine U3 rfl (ah [2] rfl (U2 ?_))
 obtain⟨M1,hle1,S7,⟨A1,c1,e1,hr1⟩⟩:=S6.gW (i:=0) (H':=[_,_,_]) rfl rfl (by show _*40<=_;first|omega|(simp only[ls];omega))
 clear S6;subst e1
 replace ay:=ay.mono (Hp.U6 hle1 S7.mx)
 refine Us hC [_] rfl rfl ⟨⟨_,rfl,oa (us:=[_,_]) bg rfl dM (S7.aY (i:=1) rfl ⟨rfl,rfl,trivial⟩)⟩,trivial⟩ ?_
 refine⟨_,rfl,_,hle1,(S7.pick [] [] (by decide) trivial),?_⟩
 exact⟨_,_,rfl,hr1⟩
end Go.Proofs.YthppkofceancjaaGreat
