/- Part 14 of the proof of the law KhovanovTells: the walks through its functions and the plain laws that they need. -/
import Derived.Test.YthppkofceancjaaGreatKhX13
import Derived.Test.YthppkofceancjaaGreatProg
set_option linter.unusedSimpArgs false
set_option linter.unusedVariables false
noncomputable section
namespace Go.Proofs.YthppkofceancjaaGreat
open Go.RowKit
section
variable (d : Dg) (L : Nat)
def iG(i:Nat):List (Pq×Int):=(List.range i).map fun j=>(dJ (ga (allM d L (KS d)) j),(j:Int))
variable {d L}
theorem alz(i:Nat):(iG d L i).length=i:=by unfold iG;rw[List.length_map,List.length_range]
theorem adH(i:Nat):iG d L (i+1)=iG d L i++[(dJ (ga (allM d L (KS d)) i),(i:Int))]:=by unfold iG;rw[List.range_succ,List.map_append];rfl
theorem alJ{a b:Nat×Nat}(h:dJ a=dJ b):a=b:=by
 unfold dJ at h
 injection h with h1 h2
 exact Prod.ext (by omega) (by omega)
theorem adF:∀{i j:Nat},i<=j->j<allA d L->mg (dJ (ga (allM d L (KS d)) j)) (iG d L i)=none:=by
 intro i j hij hj
 cases h:mg (dJ (ga (allM d L (KS d)) j)) (iG d L i)with
 |none=>rfl
 |some v=>
  have hm:=Fv h
  unfold iG at hm
  obtain⟨k,hk,e⟩:=List.mem_map.1 hm
  have hk:=List.mem_range.1 hk
  injection e with e1 e2
  have:=ab8 (by omega) hj (alJ e1)
  omega
theorem adL{κ ε:Type}[DecidableEq κ](k:κ):∀(es fs:List (κ×ε)),mg k (es++fs)=(mg k es).or (mg k fs)
 |[],fs=>rfl
 |p::r,fs=>by
  have ih:=adL k r fs
  rw[List.cons_append]
  show(if k=p.1 then some p.2 else mg k (r++fs))=(if k=p.1 then some p.2 else mg k r).or (mg k fs)
  split
  ·rfl
  ·exact ih
theorem adG:∀{i j:Nat},j<i->i<=allA d L->mg (dJ (ga (allM d L (KS d)) j)) (iG d L i)=some (j:Int)
 |i+1,j,hj,hi=>by
  rw[adH,adL]
  by_cases e:j=i
  ·subst e
   rw[adF (Nat.le_refl _) (by omega)]
   simp[mg]
  ·rw[adG (i:=i) (by omega) (by omega)];rfl
theorem anb{i:Nat}(hi:i<allA d L):mp (dJ (ga (allM d L (KS d)) i)) (i:Int) (iG d L i)=iG d L (i+1):=by
 rw[(Fu (adF (Nat.le_refl _) hi)).2,adH]
theorem anc{s m:Nat}(hs:s<KS d)(hm:m<2^aT d L s):mg (⟨(s:Int),(m:Int)⟩:Pq) (iG d L (allA d L))=some ((offK d L s+m:Nat):Int):=by
 have h1:=Be d L hs hm
 have h2:offK d L s+m<allA d L:=by have:=rH d L hs;unfold allA;omega
 have h3:=adG (d:=d) (L:=L) h2 (Nat.le_refl _)
 rw[h1]at h3
 exact h3
abbrev lF:=Pq×Value×List Pq
def tH(p:Nat×Nat)(d:Dg)(L:Nat):Pq:=fF (gV d L p.1 p.2)
def bj(d:Dg)(L:Nat)(g:Pq)(i:Nat):List Pq:=(((allM d L (KS d)).take i).filter fun p=>decide (tH p d L=g)).map dJ
def fC(G:List lF):List (Pq×Value):=G.map fun q=>(q.1,q.2.1)
def gM(G:List lF):List (Value×List Pq):=G.map fun q=>q.2
structure kj(d:Dg)(L:Nat)(i:Nat)(G:List lF):Prop where
 nd:(G.map (·.1)).Nodup
 ks:∀g,g∈G.map (·.1)<->∃j,j<i/\tH (ga (allM d L (KS d)) j) d L=g
 xs:∀q∈G,q.2.2=bj d L q.1 i
theorem kj.bN:kj d L 0 []:=⟨List.nodup_nil,fun g=>by simp,fun q hq=>by simp at hq⟩
theorem adP(g:Pq){i:Nat}(hi:i<allA d L):bj d L g (i+1)=if tH (ga (allM d L (KS d)) i) d L=g then bj d L g i++[dJ (ga (allM d L (KS d)) i)]else bj d L g i:=by
 unfold bj
 rw[kJ _ i (by rw[lC];exact hi),List.filter_append]
 split
 ·rename_i e
  simp[e]
 ·rename_i e
  simp[e]
theorem acL(g:Pq)(i:Nat):(bj d L g i).length<=i:=by
 unfold bj
 rw[List.length_map]
 refine Nat.le_trans (List.length_filter_le _ _) ?_
 rw[List.length_take]
 exact Nat.min_le_left _ _
theorem acI{k:Pq}{v:Value}:∀{G:List lF},mg k (fC G)=some v->∃a xs b,G=a++(k,v,xs)::b/\∀v' xs',mp k v' (fC G)=fC (a++(k,v',xs')::b)
 |[],h=>by cases h
 |q::G,h=>by
  unfold fC at h
  rw[List.map_cons]at h
  unfold mg at h
  split at h
  ·rename_i e
   injection h with h
   obtain⟨q1,q2,q3⟩:=q
   dsimp only at e h
   subst e
   subst h
   exact⟨[],q3,G,rfl,fun v' xs'=>by show mp k v' ((k,q2)::fC G)=(k,v')::fC G;rw[mp,if_pos rfl]⟩
  ·rename_i e
   obtain⟨a,xs,b,rfl,h2⟩:=acI (G:=G) h
   refine⟨q::a,xs,b,rfl,fun v' xs'=>?_⟩
   show mp k v' ((q.1,q.2.1)::fC (a++(k,v,xs)::b))=(q.1,q.2.1)::fC (a++(k,v',xs')::b)
   rw[mp,if_neg e,h2 v' xs']
theorem alX{k:Pq}{G:List lF}(h:mg k (fC G)=none):k∉G.map (·.1)/\∀v' xs',mp k v' (fC G)=fC (G++[(k,v',xs')]):=by
 obtain⟨h1,h2⟩:=Fu h
 refine⟨fun hm=>h1 ?_,fun v' xs'=>?_⟩
 ·unfold fC
  rw[List.map_map]
  exact hm
 ·rw[h2]
  unfold fC
  rw[List.map_append];rfl
theorem aeF{g:Pq}{i:Nat}{P:Pq->Prop}(h:P g<->∃j,j<i/\tH (ga (allM d L (KS d)) j) d L=g):(∃j,j<i+1/\tH (ga (allM d L (KS d)) j) d L=g)<->P g\/tH (ga (allM d L (KS d)) i) d L=g:=by
 rw[h]
 constructor
 ·rintro⟨j,h1,h2⟩
  by_cases e:j=i
  ·subst e;exact .inr h2
  ·exact .inl ⟨j,by omega,h2⟩
 ·rintro(⟨j,h1,h2⟩|h2)
  ·exact⟨j,by omega,h2⟩
  ·exact⟨i,by omega,h2⟩
theorem kj.old{i:Nat}{a b:List lF}{k:Pq}{v v':Value}{xs:List Pq}(h:kj d L i (a++(k,v,xs)::b))(hi:i<allA d L)(hk:tH (ga (allM d L (KS d)) i) d L=k):kj d L (i+1) (a++(k,v',xs++[dJ (ga (allM d L (KS d)) i)])::b):=by
 have e1:(a++(k,v',xs++[dJ (ga (allM d L (KS d)) i)])::b).map (·.1)=(a++(k,v,xs)::b).map (·.1):=by simp
 have hn:=h.nd
 refine⟨by rw[e1];exact h.nd,fun g=>?_,fun q hq=>?_⟩
 ·rw[e1,aeF (P:=fun g=>g∈(a++(k,v,xs)::b).map (·.1)) (h.ks g),hk]
  constructor
  ·exact .inl
  ·rintro(h1|h1)
   ·exact h1
   ·subst h1;simp
 ·rw[adP _ hi]
  rw[List.map_append,List.map_cons,List.nodup_append,List.nodup_cons]at hn
  obtain⟨n1,⟨n2,n3⟩,n4⟩:=hn
  rcases List.mem_append.1 hq with hq|hq
  ·have hne:¬k=q.1:=fun e=>n4 q.1 (List.mem_map.2 ⟨q,hq,rfl⟩) k (List.mem_cons_self ..) e.symm
   rw[hk,if_neg hne]
   exact h.xs q (List.mem_append_left _ hq)
  ·rcases List.mem_cons.1 hq with rfl|hq
   ·rw[if_pos hk]
    have:=h.xs (k,v,xs) (by simp)
    dsimp only at this ⊢
    rw[this]
   ·have hne:¬k=q.1:=fun e=>n2 (by show k∈_;rw[e];exact List.mem_map.2 ⟨q,hq,rfl⟩)
    rw[hk,if_neg hne]
    exact h.xs q (List.mem_append_right _ (List.mem_cons_of_mem _ hq))
theorem kj.new{i:Nat}{G:List lF}{k:Pq}{v':Value}(h:kj d L i G)(hn:k∉G.map (·.1))(hi:i<allA d L)(hk:tH (ga (allM d L (KS d)) i) d L=k):kj d L (i+1) (G++[(k,v',[dJ (ga (allM d L (KS d)) i)])]):=by
 have e1:(G++[(k,v',[dJ (ga (allM d L (KS d)) i)])]).map (·.1)=G.map (·.1)++[k]:=by simp
 refine⟨?_,fun g=>?_,fun q hq=>?_⟩
 ·rw[e1,List.nodup_append]
  refine⟨h.nd,by simp,fun a ha b hb e=>?_⟩
  simp at hb
  subst e
  subst hb
  exact hn ha
 ·rw[e1,aeF (P:=fun g=>g∈G.map (·.1)) (h.ks g),hk,List.mem_append,List.mem_singleton]
  exact or_congr_right eq_comm
 ·rw[adP _ hi,hk]
  rcases List.mem_append.1 hq with hq|hq
  ·have hne:¬k=q.1:=fun e=>hn (by rw[e];exact List.mem_map.2 ⟨q,hq,rfl⟩)
   rw[if_neg hne]
   exact h.xs q hq
  ·rw[List.mem_singleton]at hq
   subst hq
   rw[if_pos rfl]
   have:bj d L k i=[]:=by
    unfold bj
    rw[List.map_eq_nil_iff,List.filter_eq_nil_iff]
    intro p hp he
    obtain⟨j,hj,e⟩:=List.mem_iff_getElem.1 hp
    rw[List.length_take]at hj
    rw[List.getElem_take]at e
    have hlen:(allM d L (KS d)).length=allA d L:=lC d L (KS d)
    refine hn ((h.ks k).2 ⟨j,by omega,?_⟩)
    rw[bV (by omega),e]
    exact of_decide_eq_true he
   dsimp only
   rw[this];rfl
theorem JF(g:Pq):bj d L g (allA d L)=(j6 d L (KS d) (g.p,g.q)).map dJ:=by
 unfold bj j6
 rw[List.take_of_length_le (by rw[lC];exact Nat.le_refl _)]
 refine congrArg (List.map dJ) (List.filter_congr fun p _=>?_)
 refine decide_eq_decide.2 ?_
 unfold tH fF
 constructor
 ·rintro rfl;rfl
 ·intro e;rw[e]
theorem amV(i:Nat)(g:Pq):g∈snF d L i<->∃j,j<i/\ga (bL d L (KS d)) j=g:=by
 induction i with
 |zero=>simp[snF]
 |succ i ih=>
  rw[snF]
  constructor
  ·intro h
   split at h
   ·obtain⟨j,h1,h2⟩:=ih.1 h;exact⟨j,by omega,h2⟩
   ·rcases List.mem_append.1 h with h|h
    ·obtain⟨j,h1,h2⟩:=ih.1 h;exact⟨j,by omega,h2⟩
    ·exact⟨i,by omega,(List.mem_singleton.1 h).symm⟩
  ·rintro⟨j,h1,h2⟩
   by_cases e:j=i
   ·subst e
    split
    ·rw[<-h2];assumption
    ·rw[<-h2];simp
   ·have:=ih.2 ⟨j,by omega,h2⟩
    split
    ·exact this
    ·exact List.mem_append_left _ this
theorem amU(i:Nat):(snF d L i).Nodup:=by
 induction i with
 |zero=>exact List.nodup_nil
 |succ i ih=>
  rw[snF]
  split
  ·exact ih
  ·rename_i h
   rw[List.nodup_append]
   refine⟨ih,by simp,fun a ha b hb e=>?_⟩
   simp at hb
   subst e
   subst hb
   exact h ha
theorem aiu{α:Type}[DecidableEq α]{a b:List α}(ha:a.Nodup)(hb:b.Nodup)(h:∀x,x∈a<->x∈b):a.Perm b:=by
 rw[List.perm_iff_count]
 intro x
 rw[ha.count,hb.count]
 by_cases hx:x∈a
 ·rw[if_pos hx,if_pos ((h x).1 hx)]
 ·rw[if_neg hx,if_neg (fun h'=>hx ((h x).2 h'))]
theorem kj.perm{G:List lF}(h:kj d L (allA d L) G)(hw:∀s,aT d L s<=64):(G.map (·.1)).Perm (snF d L (allA d L)):=by
 refine aiu h.nd (amU _) fun g=>?_
 rw[h.ks,amV]
 have inn:∀{j},j<allA d L->(ga (allM d L (KS d)) j).1<KS d/\(ga (allM d L (KS d)) j).2<2^aT d L (ga (allM d L (KS d)) j).1:=fun hj=>Bc hj
 have back:∀p:Nat×Nat,p.1<KS d->p.2<2^aT d L p.1->∃j,j<allA d L/\ga (allM d L (KS d)) j=p:=fun p h1 h2=>⟨offK d L p.1+p.2,by have:=rH d L h1;unfold allA;omega,Be d L h1 h2⟩
 constructor
 ·rintro⟨j,hj,rfl⟩
  obtain⟨h1,h2⟩:=inn hj
  obtain⟨i,hi,e⟩:=back (s7 d L (ga (allM d L (KS d)) j)) h1 (wB _ _)
  refine⟨i,hi,?_⟩
  rw[Fx hi,e]
  exact congrArg fF (Fy d L h2 (hw _))
 ·rintro⟨j,hj,rfl⟩
  obtain⟨h1,h2⟩:=inn hj
  obtain⟨i,hi,e⟩:=back (s7 d L (ga (allM d L (KS d)) j)) h1 (wB _ _)
  refine⟨i,hi,?_⟩
  rw[Fx hj,e]
  have h3:=Fy d L (wB (aT d L (ga (allM d L (KS d)) j).1) (ga (allM d L (KS d)) j).2) (hw _)
  rw[yx h2]at h3
  exact congrArg fF h3.symm
end
theorem ali{l:List Nat}{i:Nat}(h:iF l i=true):i∈l:=by
 unfold iF at h
 have:=of_decide_eq_true h
 exact List.count_pos_iff.1 (by omega)
def jU(l:List Nat)(es:List (Int×Bool)):Prop:=fS es/\∀i:Nat,(i:Int)∈es.map Prod.fst<->iF l i=true
section
variable {l : List Nat} {es : List (Int × Bool)}
theorem jU.mb:jU [] []:=⟨fS.bN,fun i=>by simp[iF]⟩
theorem jU.del(h:jU l es){i:Nat}(hm:(mg (i:Int) es).getD false=true):jU (l++[i]) (de (i:Int) es):=by
 refine⟨h.1.de_ _,fun x=>?_⟩
 have h1:=(h.2 i).1 ((E5 h.1 _).1 hm)
 rw[JJ _ h.1.1,h.2 x,I7]
 by_cases e:i=x
 ·subst e;simp[h1]
 ·rw[if_neg e]
  constructor
  ·exact fun h=>h.1
  ·exact fun h=>⟨h,by omega⟩
theorem jU.set(h:jU l es){i:Nat}(hm:¬(mg (i:Int) es).getD false=true):jU (l++[i]) (mp (i:Int) true es):=by
 obtain⟨e1,e2⟩:=h.1.Hw (k:=(i:Int)) (by omega) hm
 refine⟨e1,fun x=>?_⟩
 have h1:¬iF l i=true:=fun h'=>hm ((E5 h.1 _).2 ((h.2 i).2 h'))
 rw[e2,h.2 x,I7]
 by_cases e:i=x
 ·subst e
  rw[if_pos rfl]
  simp only[Bool.not_eq_true]at h1
  simp[h1]
 ·rw[if_neg e]
  constructor
  ·rintro(h|h)
   ·exact h
   ·omega
  ·exact .inl
theorem jU.end_(h:jU l es):dB es=iF l:=by
 funext i
 rw[Bool.eq_iff_iff,vY h.1,h.2]
theorem jU.bd{N:Nat}(h:jU l es)(hl:∀x∈l,x<N):ua N es:=fun k hk=>by
 obtain⟨m,rfl⟩:=ER h.1 hk
 have:=hl m (ali ((h.2 m).1 hk))
 omega
end
def s6(d:Dg)(L s mk k:Nat):List Nat:=(List.range k).flatMap fun k=>if aD s k=1 then[]else(dY d s (s+2^k) k mk).map (offK d L (s+2^k)+·)
section
variable {d : Dg} {L s mk k : Nat}
theorem adl:s6 d L s mk (k+1)=s6 d L s mk k++(if aD s k=1 then[]else(dY d s (s+2^k) k mk).map (offK d L (s+2^k)+·)):=by
 unfold s6
 rw[List.range_succ,List.flatMap_append,List.flatMap_cons,List.flatMap_nil,List.append_nil]
def uX(d:Dg)(L s mk k j:Nat):List Nat:=s6 d L s mk k++((dY d s (s+2^k) k mk).take j).map (offK d L (s+2^k)+·)
theorem aoR:uX d L s mk k 0=s6 d L s mk k:=by unfold uX;simp
theorem adn{j:Nat}(hj:j<(dY d s (s+2^k) k mk).length):uX d L s mk k (j+1)=uX d L s mk k j++[offK d L (s+2^k)+ga (dY d s (s+2^k) k mk) j]:=by
 unfold uX
 rw[kJ _ j hj,List.map_append,List.append_assoc];rfl
theorem akV(hb:¬aD s k=1){j:Nat}(hj:j=(dY d s (s+2^k) k mk).length):uX d L s mk k j=s6 d L s mk (k+1):=by
 unfold uX
 rw[adl,if_neg hb,hj,List.take_length]
theorem akU:(fg d s k mk).length=(dY d s (s+2^k) k mk).length:=by unfold fg;rw[List.length_map]
theorem amN{j:Nat}(hj:j<(dY d s (s+2^k) k mk).length):ga (fg d s k mk) j=⟨((s+2^k:Nat):Int),((ga (dY d s (s+2^k) k mk) j:Nat):Int)⟩:=by
 unfold fg
 rw[kH _ _ _ hj]
theorem akS(h:Uu d=true)(hp:iM d=true)(hk:k<d.ae.length)(hb:aD s k=0)(hm:mk<2^aT d L s){j:Nat}(hj:j<(dY d s (s+2^k) k mk).length):ga (dY d s (s+2^k) k mk) j<2^aT d L (s+2^k):=
 (I2 h hp (L:=L) (AX (d:=d) hk hb) hm).2 _ (nX hj)
theorem akT(h:Uu d=true)(hp:iM d=true)(hk:k<d.ae.length)(hb:aD s k=0)(hs:s<KS d)(hm:mk<2^aT d L s){j:Nat}(hj:j<(dY d s (s+2^k) k mk).length):mg (ga (fg d s k mk) j) (iG d L (allA d L))=some ((offK d L (s+2^k)+ga (dY d s (s+2^k) k mk) j:Nat):Int):=by
 rw[amN hj]
 exact anc (AG hs hk hb) (akS h hp hk hb hm hj)
theorem amO(h:Uu d=true)(hp:iM d=true)(hs:s<KS d)(hm:mk<2^aT d L s):∀x∈qg d L s mk,x<allA d L:=fun x hx=>by
 unfold qg at hx
 obtain⟨k,hk,hx⟩:=List.mem_flatMap.1 hx
 have hk:=List.mem_range.1 hk
 split at hx
 ·cases hx
 ·rename_i hb
  obtain⟨m,hm',rfl⟩:=List.mem_map.1 hx
  have hb0:aD s k=0:=by have:=jS s k;omega
  have h1:=(I2 h hp (L:=L) (AX (d:=d) hk hb0) hm).2 m hm'
  have h2:offK d L (s+2^k)+2^aT d L (s+2^k)<=offK d L (KS d):=rH d L (AG hs hk hb0)
  unfold allA
  have h3:2^aT d L (s+2^k)=2^(kM d (s+2^k)+L):=rfl
  omega
end
section
variable {d : Dg} {L : Nat}
theorem aj2(h:Uu d=true)(hp:iM d=true)(hw:∀s,aT d L s<=64){g:Pq}{R:List (Nat->Bool)}{n:Nat}(hR:R=(j6 d L (KS d) (g.p,g.q)).map fun p=>iF (qg d L p.1 p.2))(hn:KN R n):n=jt d L g:=by
 obtain⟨B,b1,b2,b3⟩:=hn
 rw[hR]at b3
 rw[<-b1]
 exact ale h hp hw b3 b2
theorem ang(hw:∀s,aT d L s<=64)(g:Pq):(bj d L g (allA d L)).length=nK d L g:=by
 rw[JF,List.length_map]
 exact an8 d L hw
end
end Go.Proofs.YthppkofceancjaaGreat
namespace Go.Proofs.YthppkofceancjaaGreat
open Go.ChangeShapes Go.WideShapes Go.ChangeAt Go.RowKit
theorem ajt(a:Int):IntKind.i64.wrap (((BitVec.ofInt 64 a &&& BitVec.ofInt 64 1).toNat:Nat):Int)=a%2:=by
 have e1:(BitVec.ofInt 64 a &&& BitVec.ofInt 64 1).toNat=(a%2).toNat:=by
  rw[BitVec.toNat_and,BitVec.toNat_ofInt,BitVec.toNat_ofInt,show((1:Int)%((2^64:Nat):Int)).toNat=1 by decide,Nat.and_one_is_mod]
  omega
 rw[e1,IntKind.wrap_i64]
 omega
end Go.Proofs.YthppkofceancjaaGreat
namespace Go.Proofs.YthppkofceancjaaGreat
open Go.ChangeShapes Go.WideShapes Go.ChangeAt Go.RowKit
theorem aeC:kW Tryz.prog 176 (fun x=>Value.agg (cQ.f x).toArray):=JA aoY (fun x y=>⟨x.p=y.p/\x.q=y.q,⟨_,_,_,_,rfl,rfl,⟨_,_,_,rfl,rfl,rfl⟩,rfl⟩,⟨fun h=>by cases x;cases y;simp at h;simp[h],fun h=>by rw[h];exact⟨rfl,rfl⟩⟩⟩) (fun k=>by simp[Instr.sameBits,cQ,rG])
theorem oD:kW Tryz.prog 116 (fun x=>Value.agg (dN.f x).toArray):=JA aoZ (fun x y=>⟨x.p=y.p/\x.q=y.q,⟨_,_,_,_,rfl,rfl,⟨_,_,_,rfl,rfl,rfl⟩,rfl⟩,⟨fun h=>by cases x;cases y;simp at h;simp[h],fun h=>by rw[h];exact⟨rfl,rfl⟩⟩⟩) (fun k=>by simp[Instr.sameBits,dN,rG])
theorem ajj(G:List lF)(q:lF):gM (G++[q])=gM G++[q.2]:=by unfold gM;rw[List.map_append];rfl
theorem Jb(a b:List lF)(q:lF):gM (a++q::b)=gM a++q.2::gM b:=by unfold gM;rw[List.map_append,List.map_cons]
theorem abS{d:Dg}{L i:Nat}{G:List lF}(h:kj d L i G):∀p∈gM G,p.2.length<=i:=fun p hp=>by
 obtain⟨q,hq,rfl⟩:=List.mem_map.1 hp
 rw[h.xs q hq]
 exact acL _ _
theorem ap8{d:Dg}{L:Nat}{G:List lF}{N:Hp}(h:kj d L (allA d L) G)(hr:∀p∈gM G,oh cQ N p.1 p.2){k:Pq}{v:Value}(hm:(k,v)∈fC G):∃A c,v=.slice A (bj d L k (allA d L)).length c/\aB cQ N A c (bj d L k (allA d L)):=by
 obtain⟨q,hq,e⟩:=List.mem_map.1 hm
 injection e with e1 e2
 subst e1 e2
 have:=hr q.2 (List.mem_map.2 ⟨q,hq,rfl⟩)
 rw[h.xs q hq]at this
 exact this
def qE(es:List (Pq×Int)):List (Pw×Int):=es.map fun q=>(⟨q.1.p,q.1.q⟩,q.2)
theorem aeD(k:Pq):∀es:List (Pq×Int),mg (⟨k.p,k.q⟩:Pw) (qE es)=mg k es
 |[]=>rfl
 |q::es=>by
  show(if(⟨k.p,k.q⟩:Pw)=⟨q.1.p,q.1.q⟩then some q.2 else mg (⟨k.p,k.q⟩:Pw) (qE es))=if k=q.1 then some q.2 else mg k es
  rw[aeD k es]
  by_cases e:k=q.1
  ·rw[if_pos e,if_pos (by rw[e])]
  ·rw[if_neg e,if_neg (fun e2=>e (by obtain⟨a,b⟩:=k;obtain⟨⟨a',b'⟩,c⟩:=q;simp at e2 ⊢;exact e2))]
theorem aeB(k:Pq)(v:Int):∀es:List (Pq×Int),qE (mp k v es)=mp (⟨k.p,k.q⟩:Pw) v (qE es)
 |[]=>rfl
 |q::es=>by
  show qE (if k=q.1 then(k,v)::es else q::mp k v es)=if(⟨k.p,k.q⟩:Pw)=⟨q.1.p,q.1.q⟩then(⟨k.p,k.q⟩,v)::qE es else(⟨q.1.p,q.1.q⟩,q.2)::mp (⟨k.p,k.q⟩:Pw) v (qE es)
  by_cases e:k=q.1
  ·rw[if_pos e,if_pos (by rw[e])];rfl
  ·rw[if_neg e,if_neg (fun e2=>e (by obtain⟨a,b⟩:=k;obtain⟨⟨a',b'⟩,c⟩:=q;simp at e2 ⊢;exact e2)),<-aeB k v es];rfl
def qb(es:List (Pq×Int)):Prop:=gI (qE es) 400
theorem qb.bN:qb []:=gI.bN 400
theorem aff{es:List (Pq×Int)}{k:Pq}{c:Int}(h:qb es)(hk:PB 400 ⟨k.p,k.q⟩):qb (mp k (wr ((mg k es).getD 0+c)) es)/\cE (qE (mp k (wr ((mg k es).getD 0+c)) es))=cE (qE es)+mono (1000*k.p+k.q) c:=by
 unfold qb
 rw[aeB,<-aeD]
 exact⟨gI.Hw h hk (AH _),aou (Nat.le_refl _) h hk c⟩
theorem ao7{es:List (Pq×Int)}{k:Pq}{c:Int}(h:qb es)(hk:PB 400 ⟨k.p,k.q⟩):qb (mp k (wr ((mg k es).getD 0-c)) es)/\cE (qE (mp k (wr ((mg k es).getD 0-c)) es))=cE (qE es)+mono (1000*k.p+k.q) (-c):=by
 rw[Int.sub_eq_add_neg]
 exact aff h hk
def sS(d:Dg)(L:Nat)(g:Pq)(j:Nat)(ps:List (Nat×List (Int×Bool))):Prop:=ps.length=j/\(∀p∈ps,fS p.2/\ua (allA d L) p.2)/\ps.map (fun p=>dB p.2)=((j6 d L (KS d) (g.p,g.q)).take j).map fun p=>iF (qg d L p.1 p.2)
theorem sS.mb(d:Dg)(L:Nat)(g:Pq):sS d L g 0 []:=⟨rfl,by simp,rfl⟩
theorem an7{d:Dg}{L:Nat}{g:Pq}{j:Nat}(hj:j<(bj d L g (allA d L)).length):∃s mk:Nat,ga (j6 d L (KS d) (g.p,g.q)) j=(s,mk)/\ga (bj d L g (allA d L)) j=⟨(s:Int),(mk:Int)⟩/\s<KS d/\mk<2^aT d L s/\j<(j6 d L (KS d) (g.p,g.q)).length:=by
 rw[JF]at hj ⊢
 rw[List.length_map]at hj
 have hm:=(tK d L).1 (List.mem_filter.1 (nX hj:ga (j6 d L (KS d) (g.p,g.q)) j∈j6 d L (KS d) (g.p,g.q))).1
 exact⟨_,_,rfl,by rw[kH _ _ _ hj];rfl,hm.1,hm.2,hj⟩
theorem sS.go{d:Dg}{L:Nat}{g:Pq}{j s mk m:Nat}{ps:List (Nat×List (Int×Bool))}{es:List (Int×Bool)}(h:sS d L g j ps)(hj:j<(j6 d L (KS d) (g.p,g.q)).length)(e:ga (j6 d L (KS d) (g.p,g.q)) j=(s,mk))(hr:jU (qg d L s mk) es)(hb:∀x∈qg d L s mk,x<allA d L):sS d L g (j+1) (ps++[(m,es)]):=by
 refine⟨by simp[h.1],fun p hp=>?_,?_⟩
 ·rcases List.mem_append.1 hp with hp|hp
  ·exact h.2.1 p hp
  ·rw[List.mem_singleton]at hp
   subst hp
   exact⟨hr.1,hr.bd hb⟩
 ·rw[List.map_append,h.2.2,kJ _ j hj,List.map_append,e,List.map_cons,List.map_nil,hr.end_];rfl
theorem sS.end_{d:Dg}{L:Nat}{g:Pq}{j n:Nat}{ps:List (Nat×List (Int×Bool))}(h:sS d L g j ps)(hab:Uu d=true)(hpl:iM d=true)(hw:∀s,aT d L s<=64)(hj:j=(bj d L g (allA d L)).length)(hn:KN (ps.map fun p=>dB p.2) n):n=jt d L g:=by
 refine aj2 hab hpl hw (R:=ps.map fun p=>dB p.2) ?_ hn
 rw[h.2.2,hj,JF,List.length_map,List.take_length]
theorem ajM{d:Dg}{L:Nat}(dn:List (Pq×Value))(k:Pq)(v:Value):smG d L ((dn++[(k,v)]).map Prod.fst)=smG d L (dn.map Prod.fst)+s5 d L k:=by rw[List.map_append];exact ajK d L _ _
def aoz(d:Dg)(L:Nat)(u:Value)(N:Hp):Prop:=∃g es,u=.map (some g)/\eF (fun x=>Value.agg (dN.f x).toArray) (Value.int .i64) g es N/\qb es/\cE (qE es)=cT (ct d L)
noncomputable def Oz:=Tryz.f57.body.getD .skip
def auE:=cL Oz
def Oy:=cR Oz
def auD:=cL Oy
def Ox:=cR Oy
def auC:=cL Ox
def Ov:=cR Ox
def Ou:=cL Ov
def Ot:=cR Ov
def auB:=cL Ou
def agz:=cR Ou
def agy:=cL agz
def Oq:=cL agy
def auA:=cL Oq
def Oo:=cR Oq
def Om:=cL Oo
def Ol:=cR Oo
def auz:=cL Om
def auy:=cR Om
def agx:=cL Ol
def auw:=cR Ol
def Oj:=cL agx
def auv:=cL Oj
def Oi:=cR Oj
def auu:=cL Oi
def agw:=cR Oi
def agv:=cL agw
def Oh:=cL agv
def aut:=cL Oh
def Og:=cR Oh
def Oe:=cL Og
def Od:=cR Og
def aus:=cL Oe
def aur:=cR Oe
def agu:=cL Od
def auq:=cR Od
def Oc:=cL agu
def aup:=cL Oc
def Ob:=cR Oc
def auo:=cL Ob
def Oa:=cR Ob
def aun:=cL Oa
def aum:=cR Oa
def aul:=cL Ot
def N9:=cR Ot
def N8:=cL N9
def N7:=cR N9
def auk:=cL N8
def agt:=cR N8
def ags:=cL agt
def N6:=cL ags
def auj:=cL N6
def N5:=cR N6
def GV:=cL N5
def N4:=cR N5
def aui:=cL GV
def auh:=cR GV
def aug:=cL N7
def auf:=cR N7
def N3:=cL N4
def aue:=cL N3
def N2:=cR N3
def aud:=cL N2
def N1:=cR N2
def NZ:=cL N1
def NY:=cR N1
def auc:=cL NZ
def agr:=cR NZ
def agq:=cL agr
def NW:=cL agq
def aub:=cL NW
def NV:=cR NW
def NU:=cL NV
def NT:=cR NV
def aua:=cL NU
def at8:=cR NU
def agp:=cL NT
def at7:=cR NT
def NS:=cL agp
def at6:=cL NS
def NR:=cR NS
def at5:=cL NR
def NQ:=cR NR
def NP:=cL NQ
def at4:=cR NQ
def at3:=cL NP
def ago:=cR NP
def agn:=cL ago
def NN:=cL agn
def at2:=cL NN
def NL:=cR NN
def NK:=cL NL
def NJ:=cR NL
def at1:=cL NK
def at0:=cR NK
def agm:=cL NJ
def atZ:=cR NJ
def NI:=cL agm
def atY:=cL NI
def NH:=cR NI
def NG:=cL NH
def NF:=cR NH
def atX:=cL NG
def ND:=cR NG
def atW:=cL ND
def atV:=cR ND
def atU:=cL NF
def agl:=cR NF
def agk:=cL agl
def NC:=cL agk
def atT:=cL NC
def NB:=cR NC
def NA:=cL NB
def Nz:=cR NB
def atS:=cL NA
def atQ:=cR NA
def agj:=cL Nz
def atP:=cR Nz
def Ny:=cL agj
def atO:=cL Ny
def Nx:=cR Ny
def atN:=cL Nx
def Nw:=cR Nx
def atM:=cL Nw
def Nv:=cR Nw
def atL:=cL Nv
def atK:=cR Nv
def atJ:=cL NY
def Nu:=cR NY
def atI:=cL Nu
def atH:=cR Nu
set_option maxHeartbeats 4000000 in
set_option maxRecDepth 10000 in
theorem akK{w:World}{M:Hp}{X:Fr}(d:Dg){bp:Nat}{cA iA oA:Option Addr}{cc ic oc:Nat}{fP:Nat}{sA:Option Addr}{sc:Nat}{vs:List Vw}(hcb:bQ (M.un X.h) fP 168 [.pointer (some ⟨bp,0,none⟩),.slice sA vs.length sc])(aH:bQ (M.un X.h) bp 70 [.slice cA d.ae.length cc,.int .i64 d.loops,.slice iA (aN d false (4*d.ae.length)).length ic,.slice oA (aN d true (4*d.ae.length)).length oc])(hsc:aB bw (M.un X.h) cA cc d.ae)(hsi:aB cw (M.un X.h) iA ic (aN d false (4*d.ae.length)))(aM:aB cw (M.un X.h) oA oc (aN d true (4*d.ae.length)))(hst:aB lZ (M.un X.h) sA sc vs)(hz:kA (M.un X.h) vs (l9 d (KS d))){L:Nat}(hn:d.ae.length<=6)(hab:Uu d=true)(hL:d.loops=(L:Int))(hL2:L<=2)(hpl:iM d=true)(S:SH w M X []):Ct Tryz.prog 57 [.pointer (some ⟨fP,0,none⟩)] w M X (aoz d L):=by
 unfold Ct
 have hvl:vs.length=KS d:=hz.1.trans (vZ d _)
 have h64:KS d<=64:=si hn
 have hA:=ada hn hL2
 refine Up (b:=Oz) Tryz.func57 rfl Tryz.ntmps57 rfl (fun C hC=>(bu [(0,_)] ⟨rfl,trivial⟩ (U1 auE Oy rfl rfl rfl (U0 rfl (af 0 1 rfl rfl (U3 rfl (ah [0] rfl (U2 (U1 auD Ox rfl rfl rfl ?_)))))))))
 refine U0 rfl (ar 0 1 rfl rfl rfl (vP Pq Value (fun x=>Value.agg (dN.f x).toArray) (fun x:Value=>x) rfl rfl rfl S ?_))
 intro eV w1 S1;clear S
 refine af 1 1 rfl rfl (U3 rfl (ah [0,3] rfl (U2 (U1 auC Ov rfl rfl rfl (U0 rfl (ar 0 1 rfl rfl rfl (vP Pq Int (fun x=>Value.agg (cQ.f x).toArray) (Value.int .i64) rfl rfl rfl S1 ?_)))))))
 intro rC w2 S2;clear S1
 refine af 1 1 rfl rfl (U3 rfl (ah [0,3,4] rfl (U2 (U1 Ou Ot rfl rfl rfl (U1 auB agz rfl rfl rfl ?_)))))
 have S3:SH _ _ _ (Rs.rws cQ (gM [])::[_,_]):=SH.afY S2;clear S2
 refine U0 rfl (af 0 1 rfl rfl (ag 1 rfl (Ur rfl rfl) (ag 2 rfl (U4 rfl rfl lG rfl (xe) (wK)) (ag 3 rfl (U5 rfl rfl uu rfl (hcb.cell S3.um rfl)) (ag 4 rfl (Uv rfl rfl rfl rfl rfl rfl uu) (af 5 1 rfl rfl (U3 rfl (ah [0,3,4,26,27] rfl ?_))))))))
 refine U2 (U7 agy 0 rfl rfl rfl ?_)
 refine Ui (fun aF ak aA=>∃(s:Nat) (G:List lF),aF=KS d-1*s/\Env 142 [(0,.pointer (some ⟨fP,0,none⟩)),(3,.map (some eV)),(4,.map (some rC)),(26,.int .i64 (vs.length:Int)),(27,.int .i64 (s:Int))] ak/\SH aA M X [Rs.rws cQ (gM G),Rs.mp (fun x=>Value.agg (cQ.f x).toArray) (Value.int .i64) rC (iG d L (offK d L s)),Rs.mp (fun x=>Value.agg (dN.f x).toArray) (fun x:Value=>x) eV (fC G)]/\s<=KS d/\kj d L (offK d L s) G) rfl ?_ ?_
 ·intro ak ai
  refine⟨_,⟨0,[],rfl,ai.sub ⟨rfl,rfl,rfl,rfl,rfl,trivial⟩,S3.pick [0,1,2] [_,_,_] (by decide) ⟨rfl,rfl,rfl,trivial⟩,?bn,?bE⟩⟩
  case bn=>omega
  case bE=>exact kj.bN
 ·rintro m3 a1 w3 ⟨s,G,rfl,aQ,S4,hs0,hgr⟩
  clear S3
  refine aW aQ (c:=Oq) rfl ?_
  clear aQ a1
  refine U1 auA Oo rfl rfl rfl (U0 rfl (ag 0 rfl (Un rfl rfl rfl) (U3 rfl (U2 (U1 Om Ol rfl rfl rfl ?_)))))
  refine Ua auz auy rfl rfl rfl rfl (fun CB=>?_) (fun CB=>?_)
  ·refine Ub rfl (ah [0,3,4,26,27] rfl (U2 (U1 agx auw rfl rfl rfl (U7 Oj 1 rfl rfl rfl (U1 auv Oi rfl rfl rfl (U0 rfl (af 0 2 rfl rfl (U3 rfl ?_))))))))
   refine ah [0,3,4,26,27,5] rfl (U2 (U1 auu agw rfl rfl rfl (U0 rfl (af 0 2 rfl rfl (ar 2 3 rfl rfl rfl (gJ rfl rfl rfl rfl rfl rfl rfl afP S4 (ad6 d s (hcb.mono S4.Uq) (aH.mono S4.Uq) (hsc.mono S4.Uq) (hsi.mono S4.Uq) (aM.mono S4.Uq) (hst.mono S4.Uq) (hz.mono S4.Uq) hn hab hL hL2 (by omega) S4.aR) ?_))))))
   rintro _ w4 S5 rfl;clear S4
   have azO:aT d L s<=14:=pR hn hL2 _
   refine ag 3 rfl (vM (n:=(aT d L s)) rfl rfl rfl (by first|assumption|omega|(simp only[ls];omega))) ?_
   refine af 4 1 rfl rfl (U3 rfl (ah [0,3,4,26,27,5,33,34] rfl (U2 (U7 agv 2 rfl rfl rfl ?_))))
   refine Ui (fun aF ak aA=>∃(mk:Nat) (G1:List lF),aF=2^aT d L s-1*mk/\Env 142 [(0,.pointer (some ⟨fP,0,none⟩)),(3,.map (some eV)),(4,.map (some rC)),(26,.int .i64 (vs.length:Int)),(27,.int .i64 (s:Int)),(5,.int .i64 (s:Int)),(33,.int .i64 ((2^(aT d L s):Nat):Int)),(34,.int .i64 (mk:Int))] ak/\SH aA M X [Rs.rws cQ (gM G1),Rs.mp (fun x=>Value.agg (cQ.f x).toArray) (Value.int .i64) rC (iG d L (offK d L s+mk)),Rs.mp (fun x=>Value.agg (dN.f x).toArray) (fun x:Value=>x) eV (fC G1)]/\mk<=2^aT d L s/\kj d L (offK d L s+mk) G1) rfl ?_ ?_
   ·intro ak ai
    refine⟨_,⟨0,G,rfl,ai.sub ⟨rfl,rfl,rfl,rfl,rfl,rfl,rfl,rfl,trivial⟩,S5.pick [0,1,2] [_,_,_] (by decide) ⟨rfl,rfl,rfl,trivial⟩,?bk,?bD⟩⟩
    case bk=>exact Nat.zero_le _
    case bD=>exact hgr
   ·rintro m4 a2 w5 ⟨mk,G1,rfl,bS,S6,hmk,Gu⟩
    clear S5
    refine aW bS (c:=Oh) rfl ?_
    clear bS a2
    refine U1 aut Og rfl rfl rfl (U0 rfl (ag 0 rfl (Un rfl rfl rfl) (U3 rfl (U2 (U1 Oe Od rfl rfl rfl ?_)))))
    refine Ua aus aur rfl rfl rfl rfl (fun sO=>?_) (fun sO=>?_)
    ·refine Ub rfl (ah [0,3,4,26,27,5,33,34] rfl (U2 (U1 agu auq rfl rfl rfl (U7 Oc 3 rfl rfl rfl (U1 aup Ob rfl rfl rfl (U0 rfl (af 0 2 rfl rfl (U3 rfl ?_))))))))
     refine ah [0,3,4,26,27,5,33,34,6] rfl (U2 (U1 auo Oa rfl rfl rfl ?_))
     have K0:aT d L s<=14:=pR hn hL2 s
     have Gs:mk<16384:=Nat.lt_of_lt_of_le (show mk<2^aT d L s by omega) (Nat.pow_le_pow_right (by decide) K0:2^aT d L s<=2^14)
     have hup:=rH d L (show s<KS d by omega)
     have hin:(offK d L s+mk)<allA d L:=by unfold allA;omega
     have hat:(ga (allM d L (KS d)) (offK d L s+mk))=(s,mk):=Be d L (show s<KS d by omega) (show mk<2^aT d L s by omega)
     refine U0 rfl (af 0 2 rfl rfl (ag 2 rfl (run_build (l:=[_,_]) rfl rfl aet rfl rfl) (ar 3 4 rfl rfl rfl (dh (l:=[_,_]) rfl rfl rfl yO rfl S6 ?_))))
     intro aI w6 S7;clear S6
     refine ar 4 5 rfl rfl rfl (Uo (i:=0) (us:=[_,_]) (l':=[_,_]) (H':=[_,_,_,_]) rfl rfl S7 rfl rfl rfl rfl gY rfl rfl rfl rfl ?_)
     intro w7 S8;clear S7
     refine U3 rfl (ah [0,3,4,26,27,5,33,34,7] rfl (U2 (U1 aun aum rfl rfl rfl (U0 rfl (af 0 1 rfl rfl (ag 1 rfl (Uc (us:=[_,_]) rfl rfl dZ rfl gY (S8.aY (i:=0) rfl ⟨rfl,rfl,trivial⟩)) (af 2 1 rfl rfl (ag 3 rfl (aap (i:=2) rfl rfl rfl rfl rfl rfl KT S8 rfl) ?_))))))))
     refine ar 4 5 rfl rfl rfl (tT (kc:=(fun x=>Value.agg (cQ.f x).toArray)) (vc:=Value.int .i64) (es:=(iG d L (offK d L s+mk))) (k:=(⟨(s:Int),(mk:Int)⟩:Pq)) (e:=((iG d L (offK d L s+mk)).length:Int)) (i:=2) (H':=[_,_,_,_]) (.inl rfl) rfl S8 rfl rfl rfl rfl KT aeC rfl ?_)
     intro w8 S9;clear S8
     refine U3 rfl (ah [0,3,4,26,27,5,33,34,7] rfl (U2 ?_))
     have afB:mp (⟨(s:Int),(mk:Int)⟩:Pq) ((iG d L (offK d L s+mk)).length:Int) (iG d L (offK d L s+mk))=iG d L ((offK d L s+mk)+1):=by(have h9:=anb hin;rw[hat]at h9;rw[alz];exact h9)
     rw[afB]at S9;clear afB
     rcases Hy:mg (fF (gV d L s mk)) (fC G1)with _|l7
     ·obtain⟨hnk,arF⟩:=alX Hy
      refine cM rfl (by kernel_rfl) S9 13 rfl ?_
      clear S9
      refine aq 0 12 rfl (by kernel_rfl) (fun _=>run_move rfl rfl) ?_
      refine aq 1 11 rfl (by kernel_rfl) (fun _=>run_move rfl rfl) ?_
      refine au 2 10 rfl (by kernel_rfl) (fun _ _ _ aj Sz=>.inl (Uc (us:=[_,_]) rfl rfl dZ rfl gY (Sz.suf.aY (i:=0) rfl ⟨rfl,rfl,trivial⟩))) ?_
      refine au 3 9 rfl (by kernel_rfl) (fun _ _ _ aj Sz=>jT rfl rfl rfl rfl rfl Gx Sz (EL d s mk ((hcb.mono (Hp.U6 aj Sz.mx)).mono Sz.Uq) ((aH.mono (Hp.U6 aj Sz.mx)).mono Sz.Uq) ((hsc.mono (Hp.U6 aj Sz.mx)).mono Sz.Uq) ((hsi.mono (Hp.U6 aj Sz.mx)).mono Sz.Uq) ((aM.mono (Hp.U6 aj Sz.mx)).mono Sz.Uq) ((hst.mono (Hp.U6 aj Sz.mx)).mono Sz.Uq) ((hz.mono (Hp.U6 aj Sz.mx)).mono Sz.Uq) hn hab hL hL2 (by omega) (by omega) Sz.aR)) ?_
      refine aq 4 8 rfl (by kernel_rfl) (fun _=>run_move rfl rfl) ?_
      refine aq 5 7 rfl (by kernel_rfl) (fun _=>run_move rfl rfl) ?_
      refine au 6 6 rfl (by kernel_rfl) (fun _ _ _ aj Sz=>.inl (Uc (us:=[_,_]) rfl rfl dZ rfl gY (Sz.suf.aY (i:=0) rfl ⟨rfl,rfl,trivial⟩))) ?_
      refine au 7 5 rfl (by kernel_rfl) (fun _ _ _ aj Sz=>jT rfl rfl rfl rfl rfl Gx Sz (EL d s mk ((hcb.mono (Hp.U6 aj Sz.mx)).mono Sz.Uq) ((aH.mono (Hp.U6 aj Sz.mx)).mono Sz.Uq) ((hsc.mono (Hp.U6 aj Sz.mx)).mono Sz.Uq) ((hsi.mono (Hp.U6 aj Sz.mx)).mono Sz.Uq) ((aM.mono (Hp.U6 aj Sz.mx)).mono Sz.Uq) ((hst.mono (Hp.U6 aj Sz.mx)).mono Sz.Uq) ((hz.mono (Hp.U6 aj Sz.mx)).mono Sz.Uq) hn hab hL hL2 (by omega) (by omega) Sz.aR)) ?_
      refine au 8 4 rfl (by kernel_rfl) (fun _ _ _ aj Sz=>.inl (qD (kc:=(fun x=>Value.agg (dN.f x).toArray)) (vc:=(fun x:Value=>x)) (es:=(fC G1)) (k:=(fF (gV d L s mk))) (zv:=(Value.slice none 0 0)) (i:=3) rfl rfl rfl BK oD ad9 Sz.suf rfl)) ?_
      refine au 9 3 rfl (by kernel_rfl) (fun _ _ _ aj Sz=>.inl (Uc (us:=[_,_]) rfl rfl dZ rfl gY (Sz.suf.aY (i:=0) rfl ⟨rfl,rfl,trivial⟩))) ?_
      refine dv (i:=10) 2 rfl (by kernel_rfl) rfl rfl (fun Hj lD=>?_)
      refine(Uf (C:=cQ) (l:=[_,_]) rfl rfl rfl rfl na rfl rfl rfl rfl lD ?_)
      intro bq w21 iq;clear lD
      refine bU.grow [_] (Hp.le_refl _) iq ?_;clear iq
      change WA _ _ _ _ _ _ _ _ _ _ _ _ [_,_,_,_,_]
      refine FL 52 (.slice none 0 0) rfl (by rw[Hy];rfl) ?_
      refine dv (i:=11) 1 rfl (by kernel_rfl) rfl rfl (fun UK mZ=>?_)
      have gK:=mZ.gL cQ;clear mZ
      refine(Ux (C:=cQ) (i:=0) (q:=1) (⟨(s:Int),(mk:Int)⟩:Pq) rfl rfl rfl rfl rfl rfl rfl rfl na gK rfl rfl rfl (by show(_+1)*16<=_;first|assumption|omega|(simp only[ls];omega)) ?_)
      intro jZ UJ il;clear gK
      have fQ:=il.pick [0,2,3,4,5] [_,_,_,_,_] (by decide) ⟨rfl,rfl,rfl,rfl,rfl,trivial⟩;clear il
      refine bU.turn (by kernel_rfl) fQ ?_;clear fQ
      change WA _ _ _ _ _ _ _ _ _ _ _ _ [_,_,_,_,_]
      refine dv (i:=12) 0 rfl (by kernel_rfl) rfl rfl (fun zu fB=>?_)
      refine(tT (kc:=(fun x=>Value.agg (dN.f x).toArray)) (vc:=(fun x:Value=>x)) (es:=(fC G1)) (k:=(fF (gV d L s mk))) (e:=(jZ)) (i:=4) (H':=[_,_,_,_,_]) (.inl rfl) rfl fB rfl rfl rfl rfl BK oD rfl ?_)
      intro Dc ki;clear fB
      refine bU.turn (by kernel_rfl) ki ?_;clear ki
      change WA _ _ _ _ _ _ _ _ _ _ _ _ [_,_,_,_,_]
      refine cF (by kernel_rfl) (fun UI rP=>?_)
      refine Ul (ah [0,3,4,26,27,5,33,34] rfl (U2 ?_))
      have uL:([])++[(⟨(s:Int),(mk:Int)⟩:Pq)]=[dJ (ga (allM d L (KS d)) (offK d L s+mk))]:=by(rw[hat];rfl)
      rw[uL]at rP;clear uL
      have afA:mp (fF (gV d L s mk)) (jZ) (fC G1)=fC (G1++[((fF (gV d L s mk)),jZ,[dJ (ga (allM d L (KS d)) (offK d L s+mk))])]):=arF _ _
      rw[afA]at rP;clear afA
      have og:=rP.pick [2,0,1,3,4] [_,_,_,_,_] (by decide) ⟨rfl,rfl,rfl,rfl,rfl,trivial⟩;clear rP
      have Ep:SH _ _ _ (Rs.bP ((gM G1++[(jZ,[dJ (ga (allM d L (KS d)) (offK d L s+mk))])]).map (fun p=>Rs.row cQ p.1 p.2))::[_,_,_]):=SH.ac8 (f:=(fun p=>Rs.row cQ p.1 p.2)) (l:=gM G1) (p:=(jZ,[dJ (ga (allM d L (KS d)) (offK d L s+mk))])) og;clear og
      rw[show gM G1++[(jZ,[dJ (ga (allM d L (KS d)) (offK d L s+mk))])]=gM (G1++[((fF (gV d L s mk)),jZ,[dJ (ga (allM d L (KS d)) (offK d L s+mk))])])from(ajj G1 ((fF (gV d L s mk)),jZ,[dJ (ga (allM d L (KS d)) (offK d L s+mk))])).symm]at Ep
      have L3:=kj.new (v':=jZ) Gu hnk hin (by rw[hat];rfl)
      refine U0 rfl (ag 0 rfl (Ud rfl rfl rfl (by first|assumption|omega|(simp only[ls];omega))) ?_)
      refine af 1 1 rfl rfl (U3 rfl (Ut ?_))
      intro ak ai
      refine⟨_,?fM,⟨mk+1,(G1++[((fF (gV d L s mk)),jZ,[dJ (ga (allM d L (KS d)) (offK d L s+mk))])]),rfl,ai.sub ⟨rfl,rfl,rfl,rfl,rfl,rfl,rfl,rfl,trivial⟩,Ep.pick [0,2,3] [_,_,_] (by decide) ⟨rfl,rfl,rfl,trivial⟩,?cu,?cN⟩⟩
      case cu=>omega
      case cN=>exact L3
      case fM=>omega
     ·obtain⟨a9,kY,b9,rfl,arE⟩:=acI Hy
      have hxl:kY.length<=(offK d L s+mk):=abS Gu (l7,kY) (by rw[Jb];simp)
      have jE:=S9.pick [1,0,2,3] [_,_,_,_] (by decide) ⟨rfl,rfl,rfl,rfl,trivial⟩;clear S9
      rw[Jb]at jE
      have Eo:SH _ _ _ (Rs.row cQ l7 kY::Rs.bP ((gM a9++gM b9).map (fun p=>Rs.row cQ p.1 p.2))::[_,_,_]):=SH.amt (f:=(fun p=>Rs.row cQ p.1 p.2)) (p:=(l7,kY)) (a:=gM a9) (b:=gM b9) jE;clear jE
      refine cM rfl (by kernel_rfl) Eo 13 rfl ?_
      clear Eo
      refine aq 0 12 rfl (by kernel_rfl) (fun _=>run_move rfl rfl) ?_
      refine aq 1 11 rfl (by kernel_rfl) (fun _=>run_move rfl rfl) ?_
      refine au 2 10 rfl (by kernel_rfl) (fun _ _ _ aj Sz=>.inl (Uc (us:=[_,_]) rfl rfl dZ rfl gY (Sz.suf.aY (i:=2) rfl ⟨rfl,rfl,trivial⟩))) ?_
      refine au 3 9 rfl (by kernel_rfl) (fun _ _ _ aj Sz=>jT rfl rfl rfl rfl rfl Gx Sz (EL d s mk ((hcb.mono (Hp.U6 aj Sz.mx)).mono Sz.Uq) ((aH.mono (Hp.U6 aj Sz.mx)).mono Sz.Uq) ((hsc.mono (Hp.U6 aj Sz.mx)).mono Sz.Uq) ((hsi.mono (Hp.U6 aj Sz.mx)).mono Sz.Uq) ((aM.mono (Hp.U6 aj Sz.mx)).mono Sz.Uq) ((hst.mono (Hp.U6 aj Sz.mx)).mono Sz.Uq) ((hz.mono (Hp.U6 aj Sz.mx)).mono Sz.Uq) hn hab hL hL2 (by omega) (by omega) Sz.aR)) ?_
      refine aq 4 8 rfl (by kernel_rfl) (fun _=>run_move rfl rfl) ?_
      refine aq 5 7 rfl (by kernel_rfl) (fun _=>run_move rfl rfl) ?_
      refine au 6 6 rfl (by kernel_rfl) (fun _ _ _ aj Sz=>.inl (Uc (us:=[_,_]) rfl rfl dZ rfl gY (Sz.suf.aY (i:=2) rfl ⟨rfl,rfl,trivial⟩))) ?_
      refine au 7 5 rfl (by kernel_rfl) (fun _ _ _ aj Sz=>jT rfl rfl rfl rfl rfl Gx Sz (EL d s mk ((hcb.mono (Hp.U6 aj Sz.mx)).mono Sz.Uq) ((aH.mono (Hp.U6 aj Sz.mx)).mono Sz.Uq) ((hsc.mono (Hp.U6 aj Sz.mx)).mono Sz.Uq) ((hsi.mono (Hp.U6 aj Sz.mx)).mono Sz.Uq) ((aM.mono (Hp.U6 aj Sz.mx)).mono Sz.Uq) ((hst.mono (Hp.U6 aj Sz.mx)).mono Sz.Uq) ((hz.mono (Hp.U6 aj Sz.mx)).mono Sz.Uq) hn hab hL hL2 (by omega) (by omega) Sz.aR)) ?_
      refine au 8 4 rfl (by kernel_rfl) (fun _ _ _ aj Sz=>.inl (qD (kc:=(fun x=>Value.agg (dN.f x).toArray)) (vc:=(fun x:Value=>x)) (es:=(fC (a9++((fF (gV d L s mk)),l7,kY)::b9))) (k:=(fF (gV d L s mk))) (zv:=(Value.slice none 0 0)) (i:=4) rfl rfl rfl BK oD ad9 Sz.suf rfl)) ?_
      refine au 9 3 rfl (by kernel_rfl) (fun _ _ _ aj Sz=>.inl (Uc (us:=[_,_]) rfl rfl dZ rfl gY (Sz.suf.aY (i:=2) rfl ⟨rfl,rfl,trivial⟩))) ?_
      refine dv (i:=10) 2 rfl (by kernel_rfl) rfl rfl (fun w40 vU=>?_)
      refine(Uf (C:=cQ) (l:=[_,_]) rfl rfl rfl rfl na rfl rfl rfl rfl vU ?_)
      intro dD w41 qF;clear vU
      refine bU.grow [_] (Hp.le_refl _) qF ?_;clear qF
      change WA _ _ _ _ _ _ _ _ _ _ _ _ [_,_,_,_,_,_]
      refine FL 52 (l7) rfl (by rw[Hy];rfl) ?_
      refine dv (i:=11) 1 rfl (by kernel_rfl) rfl rfl (fun w43 rO=>?_)
      refine(Ux (C:=cQ) (i:=1) (q:=0) (⟨(s:Int),(mk:Int)⟩:Pq) rfl rfl rfl rfl rfl rfl rfl rfl na rO rfl rfl rfl (by show(_+1)*16<=_;first|assumption|omega|(simp only[ls];omega)) ?_)
      intro oI UG vT;clear rO
      have vS:=vT.pick [1,2,3,4,5] [_,_,_,_,_] (by decide) ⟨rfl,rfl,rfl,rfl,rfl,trivial⟩;clear vT
      refine bU.turn (by kernel_rfl) vS ?_;clear vS
      change WA _ _ _ _ _ _ _ _ _ _ _ _ [_,_,_,_,_]
      refine dv (i:=12) 0 rfl (by kernel_rfl) rfl rfl (fun w46 El=>?_)
      refine(tT (kc:=(fun x=>Value.agg (dN.f x).toArray)) (vc:=(fun x:Value=>x)) (es:=(fC (a9++((fF (gV d L s mk)),l7,kY)::b9))) (k:=(fF (gV d L s mk))) (e:=(oI)) (i:=4) (H':=[_,_,_,_,_]) (.inl rfl) rfl El rfl rfl rfl rfl BK oD rfl ?_)
      intro UF Ad;clear El
      refine bU.turn (by kernel_rfl) Ad ?_;clear Ad
      change WA _ _ _ _ _ _ _ _ _ _ _ _ [_,_,_,_,_]
      refine cF (by kernel_rfl) (fun w48 x9=>?_)
      refine Ul (ah [0,3,4,26,27,5,33,34] rfl (U2 ?_))
      have uK:kY++[(⟨(s:Int),(mk:Int)⟩:Pq)]=kY++[dJ (ga (allM d L (KS d)) (offK d L s+mk))]:=by(rw[hat];rfl)
      rw[uK]at x9;clear uK
      have afz:mp (fF (gV d L s mk)) (oI) (fC (a9++((fF (gV d L s mk)),l7,kY)::b9))=fC (a9++((fF (gV d L s mk)),oI,kY++[dJ (ga (allM d L (KS d)) (offK d L s+mk))])::b9):=arE _ _
      rw[afz]at x9;clear afz
      have S57:SH _ _ _ (Rs.bP ((gM a9++(oI,kY++[dJ (ga (allM d L (KS d)) (offK d L s+mk))])::gM b9).map (fun p=>Rs.row cQ p.1 p.2))::[_,_,_]):=SH.amu (f:=(fun p=>Rs.row cQ p.1 p.2)) (p:=(oI,kY++[dJ (ga (allM d L (KS d)) (offK d L s+mk))])) x9;clear x9
      rw[show gM a9++(oI,kY++[dJ (ga (allM d L (KS d)) (offK d L s+mk))])::gM b9=gM (a9++((fF (gV d L s mk)),oI,kY++[dJ (ga (allM d L (KS d)) (offK d L s+mk))])::b9)from(Jb a9 b9 ((fF (gV d L s mk)),oI,kY++[dJ (ga (allM d L (KS d)) (offK d L s+mk))])).symm]at S57
      have L3:=kj.old (v':=oI) Gu hin (by rw[hat];rfl)
      refine U0 rfl (ag 0 rfl (Ud rfl rfl rfl (by first|assumption|omega|(simp only[ls];omega))) ?_)
      refine af 1 1 rfl rfl (U3 rfl (Ut ?_))
      intro ak ai
      refine⟨_,?jf,⟨mk+1,(a9++((fF (gV d L s mk)),oI,kY++[dJ (ga (allM d L (KS d)) (offK d L s+mk))])::b9),rfl,ai.sub ⟨rfl,rfl,rfl,rfl,rfl,rfl,rfl,rfl,trivial⟩,S57.pick [0,2,3] [_,_,_] (by decide) ⟨rfl,rfl,rfl,trivial⟩,?dL,?ek⟩⟩
      case dL=>omega
      case ek=>exact L3
      case jf=>omega
    ·refine Uk rfl rfl (Ul (ah [0,3,4,26,27] rfl (U2 ?_)))
     have e9:mk=2^aT d L s:=by omega
     subst e9
     refine U0 rfl (ag 0 rfl (Ud rfl rfl rfl (by first|assumption|omega|(simp only[ls];omega))) ?_)
     refine af 1 1 rfl rfl (U3 rfl (Ut ?_))
     intro ak ai
     refine⟨_,?je,⟨s+1,G1,rfl,ai.sub ⟨rfl,rfl,rfl,rfl,rfl,trivial⟩,S6.pick [0,1,2] [_,_,_] (by decide) ⟨rfl,rfl,rfl,trivial⟩,?ei,?fK⟩⟩
     case ei=>omega
     case fK=>exact Gu
     case je=>omega
  ·refine Uk rfl rfl (ah [0,3,4] rfl (U2 (U1 aul N9 rfl rfl rfl ?_)))
   have e9:s=KS d:=by omega
   subst e9
   replace hgr:kj d L (allA d L) G:=hgr
   have Gk:∀s,aT d L s<=64:=fun s=>Nat.le_trans (pR hn hL2 s) (by decide)
   have afy:iG d L (offK d L (KS d))=iG d L (allA d L):=rfl
   rw[afy]at S4;clear afy
   refine U0 rfl (ar 0 1 rfl rfl rfl (vP Pq Int (fun x=>Value.agg (dN.f x).toArray) (Value.int .i64) rfl rfl rfl S4 ?_))
   intro ll w49 Ek;clear S4
   refine af 1 1 rfl rfl (U3 rfl (ah [0,3,4,8] rfl (U2 (U1 N8 N7 rfl rfl rfl (U1 auk agt rfl rfl rfl ?_)))))
   obtain⟨M27,uz,pG,kD⟩:=Ek.am1 (i:=1) (H':=[_,_,_,_]) rfl rfl (fun p hp=>by have h9:=abS hgr p hp;show _*16<=_;omega)
   clear Ek
   replace aH:=aH.mono (Hp.U6 uz pG.mx)
   replace hsc:=hsc.mono (Hp.U6 uz pG.mx)
   replace hsi:=hsi.mono (Hp.U6 uz pG.mx)
   replace aM:=aM.mono (Hp.U6 uz pG.mx)
   replace hcb:=hcb.mono (Hp.U6 uz pG.mx)
   replace hst:=hst.mono (Hp.U6 uz pG.mx)
   replace hz:=hz.mono (Hp.U6 uz pG.mx)
   obtain⟨M28,sF,tY,fp⟩:=pG.Bi (i:=2) (H':=[_,_,_,_]) rfl rfl;clear pG
   replace aH:=aH.mono (Hp.U6 sF tY.mx)
   replace hsc:=hsc.mono (Hp.U6 sF tY.mx)
   replace hsi:=hsi.mono (Hp.U6 sF tY.mx)
   replace aM:=aM.mono (Hp.U6 sF tY.mx)
   replace hcb:=hcb.mono (Hp.U6 sF tY.mx)
   replace hst:=hst.mono (Hp.U6 sF tY.mx)
   replace hz:=hz.mono (Hp.U6 sF tY.mx)
   replace kD:=fun i hi=>(kD i hi).mono sF
   refine U0 rfl (af 0 1 rfl rfl ?_)
   obtain⟨M29,qM,od,hm2⟩:=tY.Bi (i:=3) (H':=[_,_,_,_]) rfl rfl;clear tY
   replace aH:=aH.mono (Hp.U6 qM od.mx)
   replace hsc:=hsc.mono (Hp.U6 qM od.mx)
   replace hsi:=hsi.mono (Hp.U6 qM od.mx)
   replace aM:=aM.mono (Hp.U6 qM od.mx)
   replace hcb:=hcb.mono (Hp.U6 qM od.mx)
   replace hst:=hst.mono (Hp.U6 qM od.mx)
   replace hz:=hz.mono (Hp.U6 qM od.mx)
   replace kD:=fun i hi=>(kD i hi).mono qM
   replace fp:=fp.mono qM
   obtain⟨sP,jN,cd⟩:=hm2.uQ
   refine ar 1 2 rfl rfl rfl (Am rfl rfl rfl rfl BK od cd od.m ?_)
   intro r3 w50 tX;clear od
   refine U3 rfl (ah [0,4,8,60] rfl (U2 (U7 ags 4 rfl rfl rfl ?_)))
   refine Ui (fun aF ak aA=>∃(sn:Array Nat) (dn:List (Pq×Value)) (lf:List (Pq×Value)) (eo:List (Pq×Int)) (Ij:Hp),M29.le Ij/\aF=lf.length/\Env 142 [(0,.pointer (some ⟨fP,0,none⟩)),(4,.map (some rC)),(8,.map (some ll)),(60,.pointer (some ⟨r3,0,none⟩))] ak/\SH aA Ij X [Rs.iV eV jN r3 sn,Rs.mp (fun x=>Value.agg (dN.f x).toArray) (Value.int .i64) ll eo]/\pI (fun x=>Value.agg (dN.f x).toArray) (fun x:Value=>x) sP sn lf/\(dn++lf).Perm (fC G)/\qb eo/\cE (qE eo)=smG d L (dn.map Prod.fst)) rfl ?_ ?_
   ·intro ak ai
    refine⟨_,⟨#[],[],(fC G),[],_,Hp.le_refl _,rfl,ai.sub ⟨rfl,rfl,rfl,rfl,trivial⟩,tX.pick [0,1] [_,_] (by decide) ⟨rfl,rfl,trivial⟩,?fJ,?gu,?kq,?su⟩⟩
    case fJ=>exact cd.Dp
    case gu=>exact List.Perm.refl _
    case kq=>exact qb.bN
    case su=>rfl
   ·rintro m6 a3 w51 ⟨sn,dn,lf,eo,Ij,nu,rfl,cW,ik,hlf,eN,zO,hce⟩
    clear tX
    refine aW cW (c:=N6) rfl ?_
    clear cW a3
    replace aH:=aH.mono (Hp.U6 nu ik.mx)
    replace hsc:=hsc.mono (Hp.U6 nu ik.mx)
    replace hsi:=hsi.mono (Hp.U6 nu ik.mx)
    replace aM:=aM.mono (Hp.U6 nu ik.mx)
    replace hcb:=hcb.mono (Hp.U6 nu ik.mx)
    replace hst:=hst.mono (Hp.U6 nu ik.mx)
    replace hz:=hz.mono (Hp.U6 nu ik.mx)
    replace kD:=fun i hi=>(kD i hi).mono nu
    replace fp:=fp.mono nu
    replace hm2:=hm2.mono nu
    replace cd:=cd.mono nu
    refine U1 auj N5 rfl rfl rfl (U0 rfl ?_)
    refine ar 0 1 rfl rfl rfl (AK (i:=0) rfl rfl rfl rfl ik rfl cd ik.m hlf (fun jX=>?_) (fun k1 v1 lR lQ jk w52 jX FX sD S64=>?_))
    ·refine ag 1 rfl (Ug rfl rfl rfl) (U3 rfl (ah [0,4,8,60,62] rfl (U2 (U1 GV N4 rfl rfl rfl (jq auh rfl rfl rfl (Uk rfl rfl (ah [8] rfl (U2 ?_))))))))
     refine U1 aug auf rfl rfl rfl (U0 rfl (af 0 2 rfl rfl (U3 rfl (ah [2] rfl (U2 ?_)))))
     obtain⟨M31,oF,mY,hm3⟩:=ik.Bi (i:=1) (H':=[_,_]) rfl rfl;clear ik
     replace aH:=aH.mono (Hp.U6 oF mY.mx)
     replace hsc:=hsc.mono (Hp.U6 oF mY.mx)
     replace hsi:=hsi.mono (Hp.U6 oF mY.mx)
     replace aM:=aM.mono (Hp.U6 oF mY.mx)
     replace hcb:=hcb.mono (Hp.U6 oF mY.mx)
     replace hst:=hst.mono (Hp.U6 oF mY.mx)
     replace hz:=hz.mono (Hp.U6 oF mY.mx)
     replace kD:=fun i hi=>(kD i hi).mono oF
     replace fp:=fp.mono oF
     replace hm2:=hm2.mono oF
     replace cd:=cd.mono oF
     refine Us hC [_] rfl rfl ⟨rfl,trivial⟩ ?_
     refine⟨_,rfl,_,(((uz.trans sF).trans qM).trans nu).trans oF,(mY.pick [] [] (by decide) trivial),?_⟩
     obtain rfl:lf=[]:=jX
     rw[List.append_nil]at eN
     have hfin:cE (qE eo)=cT (ct d L):=by
      have h9:((fC G).map Prod.fst).Perm (snF d L (allA d L)):=by have h8:=hgr.perm Gk;unfold fC;rw[List.map_map];exact h8
      rw[hce,ajL d L ((eN.map Prod.fst).trans h9),(Ea hn hL2).2.2]
     exact⟨_,_,rfl,hm3,zO,hfin⟩
    ·clear ik
     change SH _ _ _ [Rs.iV eV jN r3 jk,_]at S64
     refine ag 1 rfl (Ug rfl rfl rfl) (U3 rfl (ah [0,4,8,60,62] rfl (U2 (U1 GV N4 rfl rfl rfl (rM aui rfl rfl rfl (Ub rfl (ah [0,4,8,60] rfl (U2 ?_))))))))
     refine U7 N3 5 rfl rfl rfl (U1 aue N2 rfl rfl rfl (U0 rfl (ag 0 rfl (Ai (i:=0) rfl rfl S64 rfl cd S64.m sD) (ag 1 rfl (Ug rfl rfl rfl) (ag 2 rfl (Ug rfl rfl rfl) (ar 3 4 rfl rfl rfl (dh (l:=[_,_]) rfl rfl rfl KQ rfl S64 ?_)))))))
     intro jR w53 tW;clear S64
     refine ar 4 5 rfl rfl rfl (Uo (i:=0) (us:=[_,_]) (l':=[_,_]) (H':=[_,_,_]) rfl rfl tW rfl rfl rfl rfl BM rfl rfl rfl rfl ?_)
     intro w54 x8;clear tW
     refine af 5 1 rfl rfl (U3 rfl (ah [0,4,8,60,9,10] rfl (U2 (U1 aud N1 rfl rfl rfl ?_))))
     have hmem:(k1,v1)∈fC G:=eN.mem_iff.1 (by rw[jX];simp)
     obtain⟨Ag,cg,hvg,hrg⟩:=ap8 hgr kD hmem
     have hkb:=JR hn hL2 (Nat.le_refl _) ((hgr.perm Gk).mem_iff.1 (by obtain⟨q9,h9,e9⟩:=List.mem_map.1 hmem;injection e9 with e8 _;exact List.mem_map.2 ⟨q9,h9,e8⟩):k1∈snF d L (allA d L))
     have hgl:(bj d L k1 (allA d L)).length<=allA d L:=acL _ _
     refine eZ 10 (.slice Ag (bj d L k1 (allA d L)).length cg) rfl hvg (U0 rfl (af 0 1 rfl rfl (U3 rfl (ah [0,4,8,60,9,10,11] rfl (U2 (U1 NZ NY rfl rfl rfl (U1 auc agr rfl rfl rfl ?_)))))))
     have x7:SH _ _ _ (Rs.rq (Value.int .i64) Value.bool []::[_,_,_]):=SH.afY x8;clear x8
     refine U0 rfl (af 0 1 rfl rfl (ag 1 rfl (Uv rfl rfl rfl rfl rfl rfl FN) (af 2 1 rfl rfl (U3 rfl (U2 (U7 agq 6 rfl rfl rfl ?_))))))
     have S69:=x7.gL (nz 180);clear x7
     refine Ui (fun aF ak aA=>∃(j:Nat) (ps:List (Nat×List (Int×Bool))) (cH:Value) (Ii:Hp),Ij.le Ii/\aF=(bj d L k1 (allA d L)).length-1*j/\Env 142 [(0,.pointer (some ⟨fP,0,none⟩)),(4,.map (some rC)),(8,.map (some ll)),(60,.pointer (some ⟨r3,0,none⟩)),(9,.pointer (some ⟨jR,0,none⟩)),(10,.slice Ag (bj d L k1 (allA d L)).length cg),(11,cH),(66,.slice Ag (bj d L k1 (allA d L)).length cg),(67,.int .i64 ((bj d L k1 (allA d L)).length:Int)),(68,.int .i64 (j:Int))] ak/\SH aA Ii X [Rs.row (nz 180) cH (ps.map fun p=>some p.1),Rs.rq (Value.int .i64) Value.bool ps,Rs.box jR 116 [.int .i64 k1.p,.int .i64 k1.q],Rs.iV eV jN r3 jk,Rs.mp (fun x=>Value.agg (dN.f x).toArray) (Value.int .i64) ll eo]/\j<=(bj d L k1 (allA d L)).length/\sS d L k1 j ps) rfl ?_ ?_
     ·intro ak ai
      refine⟨_,⟨0,[],_,_,Hp.le_refl _,rfl,ai.sub ⟨rfl,rfl,rfl,rfl,rfl,rfl,rfl,rfl,rfl,rfl,trivial⟩,S69.pick [0,1,2,3,4] [_,_,_,_,_] (by decide) ⟨rfl,rfl,rfl,rfl,rfl,trivial⟩,?gq,?gj⟩⟩
      case gq=>omega
      case gj=>exact sS.mb _ _ _
     ·rintro m7 a4 w55 ⟨j,ps,cH,Ii,mF,rfl,kE,kO,hj,hrs⟩
      clear S69
      refine aW kE (c:=NW) rfl ?_
      clear kE a4
      replace aH:=aH.mono (Hp.U6 mF kO.mx)
      replace hsc:=hsc.mono (Hp.U6 mF kO.mx)
      replace hsi:=hsi.mono (Hp.U6 mF kO.mx)
      replace aM:=aM.mono (Hp.U6 mF kO.mx)
      replace hcb:=hcb.mono (Hp.U6 mF kO.mx)
      replace hst:=hst.mono (Hp.U6 mF kO.mx)
      replace hz:=hz.mono (Hp.U6 mF kO.mx)
      replace kD:=fun i hi=>(kD i hi).mono mF
      replace fp:=fp.mono mF
      replace hm2:=hm2.mono mF
      replace cd:=cd.mono mF
      replace hrg:=hrg.mono mF
      have LW:(ps.map fun p=>some p.1).length=j:=by rw[List.length_map];exact hrs.1
      refine U1 aub NV rfl rfl rfl (U0 rfl (ag 0 rfl (Un rfl rfl rfl) (U3 rfl (U2 (U1 NU NT rfl rfl rfl ?_)))))
      refine Ua aua at8 rfl rfl rfl rfl (fun asb=>?_) (fun asb=>?_)
      ·refine Ub rfl (ah [0,4,8,60,9,10,11,66,67,68] rfl (U2 (U1 agp at7 rfl rfl rfl (U7 NS 7 rfl rfl rfl (U1 at6 NR rfl rfl rfl (U0 rfl (ag 0 rfl (U9 (C:=cQ) j rfl rfl rfl na (by first|rfl|omega) hrg (by first|assumption|omega|(simp only[ls];omega))) ?_)))))))
       refine ag 1 rfl (Uc (us:=[_,_]) rfl rfl dZ rfl gY (hrg.fV kO.m (e:=j) (by first|assumption|omega|(simp only[ls];omega)) (j:=0) ⟨rfl,rfl,trivial⟩)) ?_
       refine ar 2 3 rfl rfl rfl (dh (l:=[_,_]) rfl rfl rfl yO rfl kO ?_)
       intro rD w56 Ac;clear kO
       refine ar 3 4 rfl rfl rfl (Uo (i:=0) (us:=[_,_]) (l':=[_,_]) (H':=[_,_,_,_,_,_]) rfl rfl Ac rfl rfl rfl rfl gY rfl rfl rfl rfl ?_)
       intro w57 Ej;clear Ac
       refine U3 rfl (ah [0,4,8,60,9,10,11,66,67,68,13] rfl (U2 (U1 at5 NQ rfl rfl rfl ?_)))
       obtain⟨s,mk,hgP,hgL,hs,hmk,hjP⟩:=an7 (show j<(bj d L k1 (allA d L)).length by omega)
       have K0:aT d L s<=14:=pR hn hL2 s
       have Gs:mk<16384:=Nat.lt_of_lt_of_le hmk (Nat.pow_le_pow_right (by decide) K0:2^aT d L s<=2^14)
       rw[hgL]at Ej
       replace Ej:SH _ _ _ [Rs.box rD 176 [.int .i64 (s:Int),.int .i64 (mk:Int)],_,_,_,_,_]:=Ej
       refine U0 rfl (ar 0 1 rfl rfl rfl (vP Int Bool (Value.int .i64) Value.bool rfl rfl rfl Ej ?_))
       intro qq w58 x6;clear Ej
       refine af 1 1 rfl rfl (U3 rfl (ah [0,4,8,60,9,10,11,66,67,68,13,14] rfl (U2 (U1 NP at4 rfl rfl rfl (U1 at3 ago rfl rfl rfl (U0 rfl (af 0 1 rfl rfl (ag 1 rfl (Ur rfl rfl) ?_))))))))
       refine ag 2 rfl (U4 rfl rfl lG rfl (xy) (xk)) (ag 3 rfl (U5 rfl rfl qP rfl (hcb.cell x6.um rfl)) (ag 4 rfl (Ur rfl rfl) (ag 5 rfl (U4 rfl rfl jM rfl (lY) (lN)) (ag 6 rfl (U4 rfl rfl bg rfl (dV) (dS)) (ag 7 rfl (U5 rfl rfl bF rfl (aH.cell x6.um rfl)) (ag 8 rfl (Uv rfl rfl rfl rfl rfl rfl bF) (af 9 1 rfl rfl (U3 rfl ?_))))))))
       refine ah [0,4,8,60,9,10,11,66,67,68,13,14,81,82] rfl (U2 (U7 agn 8 rfl rfl rfl ?_))
       refine Ui (fun aF ak aA=>∃(k:Nat) (es:List (Int×Bool)) (M33:Hp),Ii.le M33/\aF=d.ae.length-1*k/\Env 142 [(0,.pointer (some ⟨fP,0,none⟩)),(4,.map (some rC)),(8,.map (some ll)),(60,.pointer (some ⟨r3,0,none⟩)),(9,.pointer (some ⟨jR,0,none⟩)),(10,.slice Ag (bj d L k1 (allA d L)).length cg),(11,cH),(66,.slice Ag (bj d L k1 (allA d L)).length cg),(67,.int .i64 ((bj d L k1 (allA d L)).length:Int)),(68,.int .i64 (j:Int)),(13,.pointer (some ⟨rD,0,none⟩)),(14,.map (some qq)),(81,.int .i64 (d.ae.length:Int)),(82,.int .i64 (k:Int))] ak/\SH aA M33 X [Rs.mp (Value.int .i64) Value.bool qq es,Rs.box rD 176 [.int .i64 (s:Int),.int .i64 (mk:Int)],Rs.row (nz 180) cH (ps.map fun p=>some p.1),Rs.rq (Value.int .i64) Value.bool ps,Rs.box jR 116 [.int .i64 k1.p,.int .i64 k1.q],Rs.iV eV jN r3 jk,Rs.mp (fun x=>Value.agg (dN.f x).toArray) (Value.int .i64) ll eo]/\k<=d.ae.length/\jU (s6 d L s mk k) es) rfl ?_ ?_
       ·intro ak ai
        refine⟨_,⟨0,[],_,Hp.le_refl _,rfl,ai.sub ⟨rfl,rfl,rfl,rfl,rfl,rfl,rfl,rfl,rfl,rfl,rfl,rfl,rfl,rfl,trivial⟩,x6.pick [0,1,2,3,4,5,6] [_,_,_,_,_,_,_] (by decide) ⟨rfl,rfl,rfl,rfl,rfl,rfl,rfl,trivial⟩,?iy,?iw⟩⟩
        case iy=>omega
        case iw=>exact jU.mb
       ·rintro m9 a5 w59 ⟨k,es,M33,lL,rfl,ql,fW,iJ,hrm⟩
        clear x6
        refine aW ql (c:=NN) rfl ?_
        clear ql a5
        replace aH:=aH.mono (Hp.U6 lL fW.mx)
        replace hsc:=hsc.mono (Hp.U6 lL fW.mx)
        replace hsi:=hsi.mono (Hp.U6 lL fW.mx)
        replace aM:=aM.mono (Hp.U6 lL fW.mx)
        replace hcb:=hcb.mono (Hp.U6 lL fW.mx)
        replace hst:=hst.mono (Hp.U6 lL fW.mx)
        replace hz:=hz.mono (Hp.U6 lL fW.mx)
        replace kD:=fun i hi=>(kD i hi).mono lL
        replace fp:=fp.mono lL
        replace hm2:=hm2.mono lL
        replace cd:=cd.mono lL
        replace hrg:=hrg.mono lL
        refine U1 at2 NL rfl rfl rfl (U0 rfl (ag 0 rfl (Un rfl rfl rfl) (U3 rfl (U2 (U1 NK NJ rfl rfl rfl ?_)))))
        refine Ua at1 at0 rfl rfl rfl rfl (fun Mi=>?_) (fun Mi=>?_)
        ·refine Ub rfl (ah [0,4,8,60,9,10,11,66,67,68,13,14,81,82] rfl (U2 (U1 agm atZ rfl rfl rfl (U7 NI 9 rfl rfl rfl (U1 atY NH rfl rfl rfl (U0 rfl (af 0 2 rfl rfl (U3 rfl ?_))))))))
         refine ah [0,4,8,60,9,10,11,66,67,68,13,14,81,82,15] rfl (U2 (U1 NG NF rfl rfl rfl (U1 atX ND rfl rfl rfl (U0 rfl (ag 0 rfl (U4 rfl rfl dZ rfl (aL) (aJ)) (ag 1 rfl (U5 rfl rfl aw rfl (fW.aG (i:=1) rfl rfl)) (af 2 1 rfl rfl (ag 3 rfl (tN (s:=s) (n:=k) rfl rfl rfl (by first|assumption|omega|(simp only[ls];omega))) ?_))))))))
         refine ag 4 rfl (vK (s:=(s/2^k)) rfl rfl rfl) (ag 5 rfl (Uz rfl rfl rfl) (U3 rfl (ah [0,4,8,60,9,10,11,66,67,68,13,14,81,82,15,90] rfl (U2 ?_))))
         refine Ua atW atV rfl rfl rfl rfl (fun Mh=>?_) (fun Mh=>?_)
         ·have iK:aD s k=1:=by unfold aD;omega
          refine Uk rfl rfl (ah [0,4,8,60,9,10,11,66,67,68,13,14,81,82] rfl (U2 ?_))
          have vh:jU (s6 d L s mk (k+1)) es:=by rw[adl,if_pos iK,List.append_nil];exact hrm
          refine U0 rfl (ag 0 rfl (Ud rfl rfl rfl (by first|assumption|omega|(simp only[ls];omega))) ?_)
          refine af 1 1 rfl rfl (U3 rfl (Ut ?_))
          intro ak ai
          refine⟨_,?sK,⟨k+1,es,_,(lL),rfl,ai.sub ⟨rfl,rfl,rfl,rfl,rfl,rfl,rfl,rfl,rfl,rfl,rfl,rfl,rfl,rfl,trivial⟩,fW.pick [0,1,2,3,4,5,6] [_,_,_,_,_,_,_] (by decide) ⟨rfl,rfl,rfl,rfl,rfl,rfl,rfl,trivial⟩,?nk,?nj⟩⟩
          case nk=>omega
          case nj=>exact vh
          case sK=>omega
         ·have iK:aD s k=0:=by have h9:=jS s k;unfold aD at*;omega
          refine Ub rfl (ah [0,4,8,60,9,10,11,66,67,68,13,14,81,82,15] rfl (U2 (U1 atU agl rfl rfl rfl (U0 rfl (af 0 1 rfl rfl (ag 1 rfl (Uc (us:=[_,_]) rfl rfl dZ rfl gY (fW.aY (i:=1) rfl ⟨rfl,rfl,trivial⟩)) (af 2 1 rfl rfl (ar 3 4 rfl rfl rfl (dt rfl rfl rfl rfl rfl rfl rfl asy fW (aox d s mk k (hcb.mono fW.Uq) (aH.mono fW.Uq) (hsc.mono fW.Uq) (hsi.mono fW.Uq) (aM.mono fW.Uq) (hst.mono fW.Uq) (hz.mono fW.Uq) hn hab hL hL2 hs hmk (by omega) iK fW.aR) ?_)))))))))
          intro aAM w60 M34 nt tV ap4;clear fW
          replace aH:=aH.mono (Hp.U6 nt tV.mx)
          replace hsc:=hsc.mono (Hp.U6 nt tV.mx)
          replace hsi:=hsi.mono (Hp.U6 nt tV.mx)
          replace aM:=aM.mono (Hp.U6 nt tV.mx)
          replace hcb:=hcb.mono (Hp.U6 nt tV.mx)
          replace hst:=hst.mono (Hp.U6 nt tV.mx)
          replace hz:=hz.mono (Hp.U6 nt tV.mx)
          replace kD:=fun i hi=>(kD i hi).mono nt
          replace fp:=fp.mono nt
          replace hm2:=hm2.mono nt
          replace cd:=cd.mono nt
          replace hrg:=hrg.mono nt
          obtain⟨A1,c1,rfl,hr1⟩:=ap4
          have htr:(fg d s k mk).length*16<=140737488355328:=hr1.room
          have htl:=akU (d:=d) (s:=s) (mk:=mk) (k:=k)
          refine ag 4 rfl (Uv rfl rfl rfl rfl rfl rfl FN) (af 5 1 rfl rfl (U3 rfl (ah [0,4,8,60,9,10,11,66,67,68,13,14,81,82,94,95,96] rfl (U2 (U7 agk 10 rfl rfl rfl ?_)))))
          refine Ui (fun aF ak aA=>∃(q:Nat) (jm:List (Int×Bool)),aF=(fg d s k mk).length-1*q/\Env 142 [(0,.pointer (some ⟨fP,0,none⟩)),(4,.map (some rC)),(8,.map (some ll)),(60,.pointer (some ⟨r3,0,none⟩)),(9,.pointer (some ⟨jR,0,none⟩)),(10,.slice Ag (bj d L k1 (allA d L)).length cg),(11,cH),(66,.slice Ag (bj d L k1 (allA d L)).length cg),(67,.int .i64 ((bj d L k1 (allA d L)).length:Int)),(68,.int .i64 (j:Int)),(13,.pointer (some ⟨rD,0,none⟩)),(14,.map (some qq)),(81,.int .i64 (d.ae.length:Int)),(82,.int .i64 (k:Int)),(94,.slice A1 (fg d s k mk).length c1),(95,.int .i64 ((fg d s k mk).length:Int)),(96,.int .i64 (q:Int))] ak/\SH aA M34 X [Rs.mp (Value.int .i64) Value.bool qq jm,Rs.box rD 176 [.int .i64 (s:Int),.int .i64 (mk:Int)],Rs.row (nz 180) cH (ps.map fun p=>some p.1),Rs.rq (Value.int .i64) Value.bool ps,Rs.box jR 116 [.int .i64 k1.p,.int .i64 k1.q],Rs.iV eV jN r3 jk,Rs.mp (fun x=>Value.agg (dN.f x).toArray) (Value.int .i64) ll eo]/\q<=(fg d s k mk).length/\jU (uX d L s mk k q) jm) rfl ?_ ?_
          ·intro ak ai
           refine⟨_,⟨0,es,rfl,ai.sub ⟨rfl,rfl,rfl,rfl,rfl,rfl,rfl,rfl,rfl,rfl,rfl,rfl,rfl,rfl,rfl,rfl,rfl,trivial⟩,tV.pick [0,1,2,3,4,5,6] [_,_,_,_,_,_,_] (by decide) ⟨rfl,rfl,rfl,rfl,rfl,rfl,rfl,trivial⟩,?pN,?pM⟩⟩
           case pN=>omega
           case pM=>(rw[aoR];exact hrm)
          ·rintro m10 a6 w61 ⟨q,jm,rfl,vr,Ie,hq,hrm1⟩
           clear tV
           refine aW vr (c:=NC) rfl ?_
           clear vr a6
           refine U1 atT NB rfl rfl rfl (U0 rfl (ag 0 rfl (Un rfl rfl rfl) (U3 rfl (U2 (U1 NA Nz rfl rfl rfl ?_)))))
           refine Ua atS atQ rfl rfl rfl rfl (fun ar3=>?_) (fun ar3=>?_)
           ·refine Ub rfl (ah [0,4,8,60,9,10,11,66,67,68,13,14,81,82,94,95,96] rfl (U2 (U1 agj atP rfl rfl rfl (U7 Ny 11 rfl rfl rfl (U1 atO Nx rfl rfl rfl (U0 rfl (ag 0 rfl (U9 (C:=cQ) q rfl rfl rfl na (by first|rfl|omega) hr1 (by first|assumption|omega|(simp only[ls];omega))) ?_)))))))
            refine ag 1 rfl (Uc (us:=[_,_]) rfl rfl dZ rfl gY (hr1.fV Ie.m (e:=q) (by first|assumption|omega|(simp only[ls];omega)) (j:=0) ⟨rfl,rfl,trivial⟩)) ?_
            refine ar 2 3 rfl rfl rfl (dh (l:=[_,_]) rfl rfl rfl yO rfl Ie ?_)
            intro gb6 w62 S77;clear Ie
            refine ar 3 4 rfl rfl rfl (Uo (i:=0) (us:=[_,_]) (l':=[_,_]) (H':=[_,_,_,_,_,_,_,_]) rfl rfl S77 rfl rfl rfl rfl gY rfl rfl rfl rfl ?_)
            intro w63 x5;clear S77
            refine U3 rfl (ah [0,4,8,60,9,10,11,66,67,68,13,14,81,82,94,95,96,17] rfl (U2 (U1 atN Nw rfl rfl rfl (U0 rfl (af 0 1 rfl rfl (ag 1 rfl (Uc (us:=[_,_]) rfl rfl dZ rfl gY (x5.aY (i:=0) rfl ⟨rfl,rfl,trivial⟩)) (ag 2 rfl (Ir (kc:=(fun x=>Value.agg (cQ.f x).toArray)) (vc:=(Value.int .i64)) (es:=(iG d L (allA d L))) (k:=(ga (fg d s k mk) q)) (zv:=0) rfl rfl rfl KT aeC nN fp x5.m) (af 3 1 rfl rfl ?_))))))))
            refine U3 rfl (ah [0,4,8,60,9,10,11,66,67,68,13,14,81,82,94,95,96,18] rfl (U2 (U1 atM Nv rfl rfl rfl ?_)))
            have arp:=akT hab hpl (show k<d.ae.length by omega) iK hs hmk (show q<(dY d s (s+2^k) k mk).length by omega)
            refine eZ 18 (.int .i64 ((offK d L (s+2^k)+ga (dY d s (s+2^k) k mk) q:Nat):Int)) rfl (int_eq (by rw[arp];rfl)) ?_
            refine U0 rfl (af 0 2 rfl rfl (ag 2 rfl (qD (kc:=Value.int .i64) (vc:=Value.bool) (es:=jm) (k:=((offK d L (s+2^k)+ga (dY d s (s+2^k) k mk) q:Nat):Int)) (zv:=false) (i:=1) rfl rfl rfl pQ mS Hi x5 rfl) (U3 rfl (ah [0,4,8,60,9,10,11,66,67,68,13,14,81,82,94,95,96,18,105] rfl (U2 ?_)))))
            refine dH atL atK rfl rfl rfl rfl (fun Lq=>?_) (fun Lq=>?_)
            ·refine U0 rfl (af 0 2 rfl rfl (ar 2 3 rfl rfl rfl (aaG (kc:=Value.int .i64) (vc:=Value.bool) (es:=jm) (k:=((offK d L (s+2^k)+ga (dY d s (s+2^k) k mk) q:Nat):Int)) (i:=1) (H':=[_,_,_,_,_,_,_,_]) rfl rfl rfl rfl rfl x5 rfl rfl rfl pQ mS rfl ?_)))
             intro w64 S79;clear x5
             refine U3 rfl (Ul (ah [0,4,8,60,9,10,11,66,67,68,13,14,81,82,94,95,96] rfl (U2 (U0 rfl (ag 0 rfl (Ud rfl rfl rfl (by first|assumption|omega|(simp only[ls];omega))) ?_)))))
             refine af 1 1 rfl rfl (U3 rfl (Ut ?_))
             intro ak ai
             refine⟨_,?wS,⟨q+1,de ((offK d L (s+2^k)+ga (dY d s (s+2^k) k mk) q:Nat):Int) jm,rfl,ai.sub ⟨rfl,rfl,rfl,rfl,rfl,rfl,rfl,rfl,rfl,rfl,rfl,rfl,rfl,rfl,rfl,rfl,rfl,trivial⟩,S79.pick [1,2,3,4,5,6,7] [_,_,_,_,_,_,_] (by decide) ⟨rfl,rfl,rfl,rfl,rfl,rfl,rfl,trivial⟩,?pL,?pK⟩⟩
             case pL=>omega
             case pK=>(rw[adn (by omega)];first|exact hrm1.del (by assumption)|exact hrm1.set (fun h9=>by rw[Lq]at h9;cases h9))
             case wS=>omega
            ·refine U0 rfl (af 0 2 rfl rfl (ar 2 3 rfl rfl rfl (tT (kc:=Value.int .i64) (vc:=Value.bool) (es:=jm) (k:=((offK d L (s+2^k)+ga (dY d s (s+2^k) k mk) q:Nat):Int)) (e:=true) (i:=1) (H':=[_,_,_,_,_,_,_,_]) (.inl rfl) rfl x5 rfl rfl rfl rfl pQ mS rfl ?_)))
             intro UE S80;clear x5
             refine U3 rfl (Ul (ah [0,4,8,60,9,10,11,66,67,68,13,14,81,82,94,95,96] rfl (U2 (U0 rfl (ag 0 rfl (Ud rfl rfl rfl (by first|assumption|omega|(simp only[ls];omega))) ?_)))))
             refine af 1 1 rfl rfl (U3 rfl (Ut ?_))
             intro ak ai
             refine⟨_,?wQ,⟨q+1,mp ((offK d L (s+2^k)+ga (dY d s (s+2^k) k mk) q:Nat):Int) true jm,rfl,ai.sub ⟨rfl,rfl,rfl,rfl,rfl,rfl,rfl,rfl,rfl,rfl,rfl,rfl,rfl,rfl,rfl,rfl,rfl,trivial⟩,S80.pick [1,2,3,4,5,6,7] [_,_,_,_,_,_,_] (by decide) ⟨rfl,rfl,rfl,rfl,rfl,rfl,rfl,trivial⟩,?wy,?wu⟩⟩
             case wy=>omega
             case wu=>(rw[adn (by omega)];first|exact hrm1.del (by assumption)|exact hrm1.set (fun h9=>by rw[Lq]at h9;cases h9))
             case wQ=>omega
           ·refine Uk rfl rfl (Ul (ah [0,4,8,60,9,10,11,66,67,68,13,14,81,82] rfl (U2 ?_)))
            have vh:jU (s6 d L s mk (k+1)) jm:=by rw[<-akV (j:=q) (by omega) (by omega)];exact hrm1
            refine U0 rfl (ag 0 rfl (Ud rfl rfl rfl (by first|assumption|omega|(simp only[ls];omega))) ?_)
            refine af 1 1 rfl rfl (U3 rfl (Ut ?_))
            intro ak ai
            refine⟨_,?apJ,⟨k+1,jm,_,(lL.trans nt),rfl,ai.sub ⟨rfl,rfl,rfl,rfl,rfl,rfl,rfl,rfl,rfl,rfl,rfl,rfl,rfl,rfl,trivial⟩,Ie.pick [0,1,2,3,4,5,6] [_,_,_,_,_,_,_] (by decide) ⟨rfl,rfl,rfl,rfl,rfl,rfl,rfl,trivial⟩,?Br,?Bp⟩⟩
            case Br=>omega
            case Bp=>exact vh
            case apJ=>omega
        ·refine Uk rfl rfl (ah [0,4,8,60,9,10,11,66,67,68,14] rfl (U2 ?_))
         have hek:k=d.ae.length:=by omega
         have hre:jU (qg d L s mk) es:=by rw[hek]at hrm;exact hrm
         refine U0 rfl (af 0 2 rfl rfl (ar 2 3 rfl rfl rfl (Uf (C:=(nz 180)) (l:=[_]) rfl rfl rfl rfl FT rfl rfl rfl rfl fW ?_)))
         intro HI w66 Ei;clear fW
         refine ar 3 4 rfl rfl rfl (Ux (C:=(nz 180)) (i:=3) (q:=0) (some qq) rfl rfl rfl rfl rfl rfl rfl rfl FT Ei rfl rfl rfl (by show(_+1)*8<=_;first|assumption|omega|(simp only[ls];omega)) ?_)
         intro aAP w67 Eh;clear Ei
         have Ab:=Eh.pick [1,2,3,4,5,6,7] [_,_,_,_,_,_,_] (by decide) ⟨rfl,rfl,rfl,rfl,rfl,rfl,rfl,trivial⟩;clear Eh
         refine af 4 1 rfl rfl (U3 rfl (Ul (ah [0,4,8,60,9,10,11,66,67,68] rfl (U2 ?_))))
         have afo:(ps.map fun p=>some p.1)++[(some qq)]=((ps++[(qq,es)]).map fun p=>some p.1):=by simp
         rw[afo]at Ab;clear afo
         have Eg:=Ab.pick [3,0,1,2,4,5,6] [_,_,_,_,_,_,_] (by decide) ⟨rfl,rfl,rfl,rfl,rfl,rfl,rfl,trivial⟩;clear Ab
         have S85:SH _ _ _ (Rs.rq (Value.int .i64) Value.bool (ps++[(qq,es)])::[_,_,_,_,_]):=SH.ac8 (f:=(fun p=>Rs.mp (Value.int .i64) Value.bool p.1 p.2)) (l:=ps) (p:=(qq,es)) Eg;clear Eg
         have arx:=hrs.go (m:=qq) hjP hgP hre (amO hab hpl hs hmk)
         refine U0 rfl (ag 0 rfl (Ud rfl rfl rfl (by first|assumption|omega|(simp only[ls];omega))) ?_)
         refine af 1 1 rfl rfl (U3 rfl (Ut ?_))
         intro ak ai
         refine⟨_,?La,⟨j+1,(ps++[(qq,es)]),_,_,(mF.trans lL),rfl,ai.sub ⟨rfl,rfl,rfl,rfl,rfl,rfl,rfl,rfl,rfl,rfl,trivial⟩,S85.pick [2,0,3,4,5] [_,_,_,_,_] (by decide) ⟨rfl,rfl,rfl,rfl,rfl,trivial⟩,?Bo,?Bn⟩⟩
         case Bo=>omega
         case Bn=>exact arx
         case La=>omega
      ·refine Uk rfl rfl (ah [0,4,8,60,9,10,11] rfl (U2 (U1 atJ Nu rfl rfl rfl (U0 rfl (af 0 1 rfl rfl ?_)))))
       have S86:SH _ _ _ (Rs.bP [_,_]::[_,_,_]):=SH.nJ (A:=[_,_]) (B:=[_,_,_]) kO;clear kO
       have an0:=aoA ps (allA d L) hrs.2.1 hA (by have:=hrs.1;omega) (S86.ng (i:=0) rfl)
       refine ar 1 2 rfl rfl rfl (r8 (i:=0) rfl rfl rfl rfl rfl rfl rfl aqs S86 rfl an0 ?_)
       intro aAK w68 Ae aAV jc pF o8;clear S86
       replace aH:=aH.mono (Hp.U6 jc pF.mx)
       replace hsc:=hsc.mono (Hp.U6 jc pF.mx)
       replace hsi:=hsi.mono (Hp.U6 jc pF.mx)
       replace aM:=aM.mono (Hp.U6 jc pF.mx)
       replace hcb:=hcb.mono (Hp.U6 jc pF.mx)
       replace hst:=hst.mono (Hp.U6 jc pF.mx)
       replace hz:=hz.mono (Hp.U6 jc pF.mx)
       replace kD:=fun i hi=>(kD i hi).mono jc
       replace fp:=fp.mono jc
       replace hm2:=hm2.mono jc
       replace cd:=cd.mono jc
       replace hrg:=hrg.mono jc
       obtain⟨n,rfl,hnr,rfl⟩:=o8
       replace pF:SH _ _ _ (Rs.bP []::[_,_,_]):=pF
       refine af 2 1 rfl rfl (U3 rfl (ah [0,4,8,60,9,10,19] rfl (U2 (U1 atI atH rfl rfl rfl ?_))))
       have ary:=hrs.end_ hab hpl Gk (by omega) hnr
       have hrl:=JV (d:=d) (L:=L) k1
       have hgn:=ang Gk k1
       have aBw:=Lu (d:=d) (L:=L) k1
       refine uh (fun ak aA=>Env 142 [(0,.pointer (some ⟨fP,0,none⟩)),(4,.map (some rC)),(8,.map (some ll)),(60,.pointer (some ⟨r3,0,none⟩)),(9,.pointer (some ⟨jR,0,none⟩)),(19,.int .i64 (n:Int))] ak/\SH aA Ae X [Rs.box jR 116 [.int .i64 k1.p,.int .i64 k1.q],Rs.iV eV jN r3 jk,Rs.mp (fun x=>Value.agg (dN.f x).toArray) (Value.int .i64) ll (mp k1 (wr ((mg k1 eo).getD 0+(((bj d L k1 (allA d L)).length:Int) -(n:Int)))) eo)]) ?_ ?_
       ·refine abt rfl (by kernel_rfl) pF 11 rfl ?_
        clear pF
        refine kN (i:=0) (d:=119) 10 rfl (by kernel_rfl) (by kernel_rfl) (by kernel_rfl) rfl rfl rfl (fun _=>run_move rfl rfl) ?_
        refine Ar (i:=1) (d:=120) 9 rfl (by kernel_rfl) (by kernel_rfl) (by kernel_rfl) rfl rfl rfl (fun _ _ _ aj Sz=>.inl (Uc (us:=[_,_]) rfl rfl uw rfl BM (Sz.suf.aY (i:=1) rfl ⟨rfl,rfl,trivial⟩))) ?_
        refine kN (i:=3) (d:=122) 8 rfl (by kernel_rfl) (by kernel_rfl) (by kernel_rfl) rfl rfl rfl (fun _=>run_move rfl rfl) ?_
        refine Ar (i:=4) (d:=123) 7 rfl (by kernel_rfl) (by kernel_rfl) (by kernel_rfl) rfl rfl rfl (fun _ _ _ aj Sz=>.inl (Uv rfl rfl rfl rfl rfl rfl FN)) ?_
        refine kN (i:=5) (d:=124) 6 rfl (by kernel_rfl) (by kernel_rfl) (by kernel_rfl) rfl rfl rfl (fun _=>run_move rfl rfl) ?_
        refine kN (i:=6) (d:=125) 5 rfl (by kernel_rfl) (by kernel_rfl) (by kernel_rfl) rfl rfl rfl (fun _=>qy rfl rfl rfl (by first|assumption|omega|(simp only[ls];omega))) ?_
        refine ach (i:=2) (j:=8) 4 rfl rfl (by kernel_rfl) rfl rfl rfl rfl (fun w82 sQ=>?_) (fun w82 sQ=>?_)
        ·refine(U8 rfl rfl (qD (kc:=(fun x=>Value.agg (dN.f x).toArray)) (vc:=Value.int .i64) (es:=eo) (k:=k1) (zv:=0) (i:=3) rfl rfl rfl se oD nN sQ rfl) ?_)
         refine iX.grow [] (Hp.le_refl _) sQ ?_;clear sQ
         change WAY _ _ _ _ _ _ _ _ _ _ _ _ [_,_,_,_]
         refine kN (i:=7) (d:=126) 3 rfl (by kernel_rfl) (by kernel_rfl) (by kernel_rfl) rfl rfl rfl (fun _=>vX rfl rfl rfl) ?_
         refine vI (i:=8) 2 rfl (by kernel_rfl) rfl rfl (fun w85 C6=>?_)
         refine(Et (kc:=(fun x=>Value.agg (dN.f x).toArray)) (vc:=Value.int .i64) (es:=eo) (k:=k1) (zv:=0) (i:=3) rfl rfl rfl C6 rfl rfl rfl se oD nN ?_)
         intro sx1 w86 zr;clear C6
         change SH _ _ _ [_,_,_,Rs.qh (fun x=>Value.agg (dN.f x).toArray) (Value.int .i64) ll (mp k1 ((mg k1 eo).getD 0) eo) k1 sx1]at zr
         refine iX.turn (by kernel_rfl) zr ?_;clear zr
         change WAY _ _ _ _ _ _ _ _ _ _ _ _ [_,_,_,_]
         refine kN (i:=9) (d:=128) 1 rfl (by kernel_rfl) (by kernel_rfl) (by kernel_rfl) rfl rfl rfl (fun _=>Ug rfl rfl rfl) ?_
         refine vI (i:=10) 0 rfl (by kernel_rfl) rfl rfl (fun w89 xE=>?_)
         refine(Ic (kc:=(fun x=>Value.agg (dN.f x).toArray)) (vc:=Value.int .i64) (es:=(mp k1 ((mg k1 eo).getD 0) eo)) (k:=k1) (e:=(wr (((mg k1 eo).getD 0)+(((bj d L k1 (allA d L)).length:Int) -(n:Int))))) (st:=sx1) (i:=3) (H':=[_,_,_,_]) rfl rfl xE rfl rfl rfl rfl rfl ?_)
         intro w90 C5;clear xE
         refine iX.turn (by kernel_rfl) C5 ?_;clear C5
         change WAY _ _ _ _ _ _ _ _ _ _ _ _ [_,_,_,_]
         refine EU (by kernel_rfl) (fun w91 C4=>?_)
         refine Ut ?_
         have afx:mp k1 (wr (((mg k1 eo).getD 0)+(((bj d L k1 (allA d L)).length:Int) -(n:Int)))) (mp k1 ((mg k1 eo).getD 0) eo)=(mp k1 (wr ((mg k1 eo).getD 0+(((bj d L k1 (allA d L)).length:Int) -(n:Int)))) eo):=by first|rfl|rw[Ex,sj]|rw[sj]
         rw[afx]at C4;clear afx
         intro ak ai
         refine⟨ai.sub ⟨rfl,rfl,rfl,rfl,rfl,rfl,trivial⟩,C4.pick [1,2,3] [_,_,_] (by decide) ⟨rfl,rfl,rfl,trivial⟩⟩
        ·refine(Et (kc:=(fun x=>Value.agg (dN.f x).toArray)) (vc:=Value.int .i64) (es:=eo) (k:=k1) (zv:=0) (i:=3) rfl rfl rfl sQ rfl rfl rfl se oD nN ?_)
         intro sx2 w92 zq;clear sQ
         change SH _ _ _ [_,_,_,Rs.qh (fun x=>Value.agg (dN.f x).toArray) (Value.int .i64) ll (mp k1 ((mg k1 eo).getD 0) eo) k1 sx2]at zq
         refine iX.turn (by kernel_rfl) zq ?_;clear zq
         change WAY _ _ _ _ _ _ _ _ _ _ _ _ [_,_,_,_]
         refine kN (i:=9) (d:=128) 3 rfl (by kernel_rfl) (by kernel_rfl) (by kernel_rfl) rfl rfl rfl (fun _=>Ug rfl rfl rfl) ?_
         refine vI (i:=2) 2 rfl (by kernel_rfl) rfl rfl (fun w96 dC=>?_)
         refine(U8 rfl rfl (aaf (kc:=(fun x=>Value.agg (dN.f x).toArray)) (vc:=Value.int .i64) (es:=(mp k1 ((mg k1 eo).getD 0) eo)) (k:=k1) (zv:=0) (i:=3) rfl rfl rfl se oD nN dC rfl) ?_)
         refine iX.grow [] (Hp.le_refl _) dC ?_;clear dC
         change WAY _ _ _ _ _ _ _ _ _ _ _ _ [_,_,_,_]
         refine kN (i:=7) (d:=126) 1 rfl (by kernel_rfl) (by kernel_rfl) (by kernel_rfl) rfl rfl rfl (fun _=>vX rfl rfl rfl) ?_
         refine vI (i:=10) 0 rfl (by kernel_rfl) rfl rfl (fun w99 ah3=>?_)
         refine(Ic (kc:=(fun x=>Value.agg (dN.f x).toArray)) (vc:=Value.int .i64) (es:=(mp k1 ((mg k1 eo).getD 0) eo)) (k:=k1) (e:=(wr (((mg k1 (mp k1 ((mg k1 eo).getD 0) eo)).getD 0)+(((bj d L k1 (allA d L)).length:Int) -(n:Int))))) (st:=sx2) (i:=3) (H':=[_,_,_,_]) rfl rfl ah3 rfl rfl rfl rfl rfl ?_)
         intro aqX C0;clear ah3
         refine iX.turn (by kernel_rfl) C0 ?_;clear C0
         change WAY _ _ _ _ _ _ _ _ _ _ _ _ [_,_,_,_]
         refine EU (by kernel_rfl) (fun aqW CZ=>?_)
         refine Ut ?_
         have afw:mp k1 (wr (((mg k1 (mp k1 ((mg k1 eo).getD 0) eo)).getD 0)+(((bj d L k1 (allA d L)).length:Int) -(n:Int)))) (mp k1 ((mg k1 eo).getD 0) eo)=(mp k1 (wr ((mg k1 eo).getD 0+(((bj d L k1 (allA d L)).length:Int) -(n:Int)))) eo):=by first|rfl|rw[Ex,sj]|rw[sj]
         rw[afw]at CZ;clear afw
         intro ak ai
         refine⟨ai.sub ⟨rfl,rfl,rfl,rfl,rfl,rfl,trivial⟩,CZ.pick [1,2,3] [_,_,_] (by decide) ⟨rfl,rfl,rfl,trivial⟩⟩
       ·rintro a7 w69 ⟨vq,S89⟩
        clear pF
        refine uy vq ?_
        clear vq a7
        have hq1:=aff (k:=k1) (c:=((bj d L k1 (allA d L)).length:Int) -(n:Int)) zO (by unfold PB;dsimp only;omega)
        refine U2 ?_
        refine uh (fun ak aA=>Env 142 [(0,.pointer (some ⟨fP,0,none⟩)),(4,.map (some rC)),(8,.map (some ll)),(60,.pointer (some ⟨r3,0,none⟩))] ak/\SH aA Ae X [Rs.iV eV jN r3 jk,Rs.mp (fun x=>Value.agg (dN.f x).toArray) (Value.int .i64) ll (mp (⟨k1.p+1,k1.q⟩:Pq) (wr ((mg (⟨k1.p+1,k1.q⟩:Pq) (mp k1 (wr ((mg k1 eo).getD 0+(((bj d L k1 (allA d L)).length:Int) -(n:Int)))) eo)).getD 0-(n:Int))) (mp k1 (wr ((mg k1 eo).getD 0+(((bj d L k1 (allA d L)).length:Int) -(n:Int)))) eo))]) ?_ ?_
        ·refine abt rfl (by kernel_rfl) S89 13 rfl ?_
         clear S89
         refine kN (i:=0) (d:=129) 12 rfl (by kernel_rfl) (by kernel_rfl) (by kernel_rfl) rfl rfl rfl (fun _=>run_move rfl rfl) ?_
         refine kN (i:=1) (d:=130) 11 rfl (by kernel_rfl) (by kernel_rfl) (by kernel_rfl) rfl rfl rfl (fun _=>U4 rfl rfl uw rfl (aL) (aJ)) ?_
         refine Ar (i:=2) (d:=131) 10 rfl (by kernel_rfl) (by kernel_rfl) (by kernel_rfl) rfl rfl rfl (fun _ _ _ aj Sz=>.inl (U5 rfl rfl aw rfl (Sz.suf.aG (i:=0) rfl rfl))) ?_
         refine kN (i:=3) (d:=132) 9 rfl (by kernel_rfl) (by kernel_rfl) (by kernel_rfl) rfl rfl rfl (fun _=>Ud rfl rfl rfl (by first|assumption|omega|(simp only[ls];omega))) ?_
         refine kN (i:=4) (d:=133) 8 rfl (by kernel_rfl) (by kernel_rfl) (by kernel_rfl) rfl rfl rfl (fun _=>U4 rfl rfl uw rfl (aL) (aJ)) ?_
         refine Ar (i:=5) (d:=134) 7 rfl (by kernel_rfl) (by kernel_rfl) (by kernel_rfl) rfl rfl rfl (fun _ _ _ aj Sz=>.inl (U5 rfl rfl aw rfl (Sz.suf.aG (i:=0) rfl rfl))) ?_
         refine Ar (i:=6) (d:=135) 6 rfl (by kernel_rfl) (by kernel_rfl) (by kernel_rfl) rfl rfl rfl (fun _ _ _ aj Sz=>.inl (run_build (l:=[_,_]) rfl rfl aeu rfl rfl)) ?_
         refine kN (i:=8) (d:=137) 5 rfl (by kernel_rfl) (by kernel_rfl) (by kernel_rfl) rfl rfl rfl (fun _=>run_move rfl rfl) ?_
         refine ach (i:=7) (j:=10) 4 rfl rfl (by kernel_rfl) rfl rfl rfl rfl (fun LF zn=>?_) (fun LF zn=>?_)
         ·refine(U8 rfl rfl (qD (kc:=(fun x=>Value.agg (dN.f x).toArray)) (vc:=Value.int .i64) (es:=(mp k1 (wr ((mg k1 eo).getD 0+(((bj d L k1 (allA d L)).length:Int) -(n:Int)))) eo)) (k:=(⟨k1.p+1,k1.q⟩:Pq)) (zv:=0) (i:=2) rfl rfl rfl se oD nN zn rfl) ?_)
          refine iX.grow [] (Hp.le_refl _) zn ?_;clear zn
          change WAY _ _ _ _ _ _ _ _ _ _ _ _ [_,_,_]
          refine kN (i:=9) (d:=138) 3 rfl (by kernel_rfl) (by kernel_rfl) (by kernel_rfl) rfl rfl rfl (fun _=>I4 rfl rfl rfl) ?_
          refine vI (i:=10) 2 rfl (by kernel_rfl) rfl rfl (fun ae6 ah1=>?_)
          refine(Et (kc:=(fun x=>Value.agg (dN.f x).toArray)) (vc:=Value.int .i64) (es:=(mp k1 (wr ((mg k1 eo).getD 0+(((bj d L k1 (allA d L)).length:Int) -(n:Int)))) eo)) (k:=(⟨k1.p+1,k1.q⟩:Pq)) (zv:=0) (i:=2) rfl rfl rfl ah1 rfl rfl rfl se oD nN ?_)
          intro sx3 aqT eU;clear ah1
          change SH _ _ _ [_,_,Rs.qh (fun x=>Value.agg (dN.f x).toArray) (Value.int .i64) ll (mp (⟨k1.p+1,k1.q⟩:Pq) ((mg (⟨k1.p+1,k1.q⟩:Pq) (mp k1 (wr ((mg k1 eo).getD 0+(((bj d L k1 (allA d L)).length:Int) -(n:Int)))) eo)).getD 0) (mp k1 (wr ((mg k1 eo).getD 0+(((bj d L k1 (allA d L)).length:Int) -(n:Int)))) eo)) (⟨k1.p+1,k1.q⟩:Pq) sx3]at eU
          refine iX.turn (by kernel_rfl) eU ?_;clear eU
          change WAY _ _ _ _ _ _ _ _ _ _ _ _ [_,_,_]
          refine kN (i:=11) (d:=140) 1 rfl (by kernel_rfl) (by kernel_rfl) (by kernel_rfl) rfl rfl rfl (fun _=>Ug rfl rfl rfl) ?_
          refine vI (i:=12) 0 rfl (by kernel_rfl) rfl rfl (fun aAy oW=>?_)
          refine(Ic (kc:=(fun x=>Value.agg (dN.f x).toArray)) (vc:=Value.int .i64) (es:=(mp (⟨k1.p+1,k1.q⟩:Pq) ((mg (⟨k1.p+1,k1.q⟩:Pq) (mp k1 (wr ((mg k1 eo).getD 0+(((bj d L k1 (allA d L)).length:Int) -(n:Int)))) eo)).getD 0) (mp k1 (wr ((mg k1 eo).getD 0+(((bj d L k1 (allA d L)).length:Int) -(n:Int)))) eo))) (k:=(⟨k1.p+1,k1.q⟩:Pq)) (e:=(wr (((mg (⟨k1.p+1,k1.q⟩:Pq) (mp k1 (wr ((mg k1 eo).getD 0+(((bj d L k1 (allA d L)).length:Int) -(n:Int)))) eo)).getD 0) -(n:Int)))) (st:=sx3) (i:=2) (H':=[_,_,_]) rfl rfl oW rfl rfl rfl rfl rfl ?_)
          intro aAx gP;clear oW
          refine iX.turn (by kernel_rfl) gP ?_;clear gP
          change WAY _ _ _ _ _ _ _ _ _ _ _ _ [_,_,_]
          refine EU (by kernel_rfl) (fun aAw uU=>?_)
          refine Ut ?_
          have afv:mp (⟨k1.p+1,k1.q⟩:Pq) (wr (((mg (⟨k1.p+1,k1.q⟩:Pq) (mp k1 (wr ((mg k1 eo).getD 0+(((bj d L k1 (allA d L)).length:Int) -(n:Int)))) eo)).getD 0) -(n:Int))) (mp (⟨k1.p+1,k1.q⟩:Pq) ((mg (⟨k1.p+1,k1.q⟩:Pq) (mp k1 (wr ((mg k1 eo).getD 0+(((bj d L k1 (allA d L)).length:Int) -(n:Int)))) eo)).getD 0) (mp k1 (wr ((mg k1 eo).getD 0+(((bj d L k1 (allA d L)).length:Int) -(n:Int)))) eo))=(mp (⟨k1.p+1,k1.q⟩:Pq) (wr ((mg (⟨k1.p+1,k1.q⟩:Pq) (mp k1 (wr ((mg k1 eo).getD 0+(((bj d L k1 (allA d L)).length:Int) -(n:Int)))) eo)).getD 0-(n:Int))) (mp k1 (wr ((mg k1 eo).getD 0+(((bj d L k1 (allA d L)).length:Int) -(n:Int)))) eo)):=by first|rfl|rw[Ex,sj]|rw[sj]
          rw[afv]at uU;clear afv
          intro ak ai
          refine⟨ai.sub ⟨rfl,rfl,rfl,rfl,trivial⟩,uU.pick [1,2] [_,_] (by decide) ⟨rfl,rfl,trivial⟩⟩
         ·refine(Et (kc:=(fun x=>Value.agg (dN.f x).toArray)) (vc:=Value.int .i64) (es:=(mp k1 (wr ((mg k1 eo).getD 0+(((bj d L k1 (allA d L)).length:Int) -(n:Int)))) eo)) (k:=(⟨k1.p+1,k1.q⟩:Pq)) (zv:=0) (i:=2) rfl rfl rfl zn rfl rfl rfl se oD nN ?_)
          intro sx4 aAv p9;clear zn
          change SH _ _ _ [_,_,Rs.qh (fun x=>Value.agg (dN.f x).toArray) (Value.int .i64) ll (mp (⟨k1.p+1,k1.q⟩:Pq) ((mg (⟨k1.p+1,k1.q⟩:Pq) (mp k1 (wr ((mg k1 eo).getD 0+(((bj d L k1 (allA d L)).length:Int) -(n:Int)))) eo)).getD 0) (mp k1 (wr ((mg k1 eo).getD 0+(((bj d L k1 (allA d L)).length:Int) -(n:Int)))) eo)) (⟨k1.p+1,k1.q⟩:Pq) sx4]at p9
          refine iX.turn (by kernel_rfl) p9 ?_;clear p9
          change WAY _ _ _ _ _ _ _ _ _ _ _ _ [_,_,_]
          refine kN (i:=11) (d:=140) 3 rfl (by kernel_rfl) (by kernel_rfl) (by kernel_rfl) rfl rfl rfl (fun _=>Ug rfl rfl rfl) ?_
          refine vI (i:=7) 2 rfl (by kernel_rfl) rfl rfl (fun aqS fR=>?_)
          refine(U8 rfl rfl (aaf (kc:=(fun x=>Value.agg (dN.f x).toArray)) (vc:=Value.int .i64) (es:=(mp (⟨k1.p+1,k1.q⟩:Pq) ((mg (⟨k1.p+1,k1.q⟩:Pq) (mp k1 (wr ((mg k1 eo).getD 0+(((bj d L k1 (allA d L)).length:Int) -(n:Int)))) eo)).getD 0) (mp k1 (wr ((mg k1 eo).getD 0+(((bj d L k1 (allA d L)).length:Int) -(n:Int)))) eo))) (k:=(⟨k1.p+1,k1.q⟩:Pq)) (zv:=0) (i:=2) rfl rfl rfl se oD nN fR rfl) ?_)
          refine iX.grow [] (Hp.le_refl _) fR ?_;clear fR
          change WAY _ _ _ _ _ _ _ _ _ _ _ _ [_,_,_]
          refine kN (i:=9) (d:=138) 1 rfl (by kernel_rfl) (by kernel_rfl) (by kernel_rfl) rfl rfl rfl (fun _=>I4 rfl rfl rfl) ?_
          refine vI (i:=12) 0 rfl (by kernel_rfl) rfl rfl (fun aqR ji=>?_)
          refine(Ic (kc:=(fun x=>Value.agg (dN.f x).toArray)) (vc:=Value.int .i64) (es:=(mp (⟨k1.p+1,k1.q⟩:Pq) ((mg (⟨k1.p+1,k1.q⟩:Pq) (mp k1 (wr ((mg k1 eo).getD 0+(((bj d L k1 (allA d L)).length:Int) -(n:Int)))) eo)).getD 0) (mp k1 (wr ((mg k1 eo).getD 0+(((bj d L k1 (allA d L)).length:Int) -(n:Int)))) eo))) (k:=(⟨k1.p+1,k1.q⟩:Pq)) (e:=(wr (((mg (⟨k1.p+1,k1.q⟩:Pq) (mp (⟨k1.p+1,k1.q⟩:Pq) ((mg (⟨k1.p+1,k1.q⟩:Pq) (mp k1 (wr ((mg k1 eo).getD 0+(((bj d L k1 (allA d L)).length:Int) -(n:Int)))) eo)).getD 0) (mp k1 (wr ((mg k1 eo).getD 0+(((bj d L k1 (allA d L)).length:Int) -(n:Int)))) eo))).getD 0) -(n:Int)))) (st:=sx4) (i:=2) (H':=[_,_,_]) rfl rfl ji rfl rfl rfl rfl rfl ?_)
          intro aqQ qZ;clear ji
          refine iX.turn (by kernel_rfl) qZ ?_;clear qZ
          change WAY _ _ _ _ _ _ _ _ _ _ _ _ [_,_,_]
          refine EU (by kernel_rfl) (fun ae5 CT=>?_)
          refine Ut ?_
          have afu:mp (⟨k1.p+1,k1.q⟩:Pq) (wr (((mg (⟨k1.p+1,k1.q⟩:Pq) (mp (⟨k1.p+1,k1.q⟩:Pq) ((mg (⟨k1.p+1,k1.q⟩:Pq) (mp k1 (wr ((mg k1 eo).getD 0+(((bj d L k1 (allA d L)).length:Int) -(n:Int)))) eo)).getD 0) (mp k1 (wr ((mg k1 eo).getD 0+(((bj d L k1 (allA d L)).length:Int) -(n:Int)))) eo))).getD 0) -(n:Int))) (mp (⟨k1.p+1,k1.q⟩:Pq) ((mg (⟨k1.p+1,k1.q⟩:Pq) (mp k1 (wr ((mg k1 eo).getD 0+(((bj d L k1 (allA d L)).length:Int) -(n:Int)))) eo)).getD 0) (mp k1 (wr ((mg k1 eo).getD 0+(((bj d L k1 (allA d L)).length:Int) -(n:Int)))) eo))=(mp (⟨k1.p+1,k1.q⟩:Pq) (wr ((mg (⟨k1.p+1,k1.q⟩:Pq) (mp k1 (wr ((mg k1 eo).getD 0+(((bj d L k1 (allA d L)).length:Int) -(n:Int)))) eo)).getD 0-(n:Int))) (mp k1 (wr ((mg k1 eo).getD 0+(((bj d L k1 (allA d L)).length:Int) -(n:Int)))) eo)):=by first|rfl|rw[Ex,sj]|rw[sj]
          rw[afu]at CT;clear afu
          intro ak ai
          refine⟨ai.sub ⟨rfl,rfl,rfl,rfl,trivial⟩,CT.pick [1,2] [_,_] (by decide) ⟨rfl,rfl,trivial⟩⟩
        ·rintro a8 aqV ⟨Dz,azm⟩
         clear S89
         refine uy Dz ?_
         clear Dz a8
         have hq2:=ao7 (k:=(⟨k1.p+1,k1.q⟩:Pq)) (c:=(n:Int)) hq1.1 (by unfold PB;dsimp only;omega)
         have art:smG d L (dn.map Prod.fst)+(mono (1000*k1.p+k1.q) (((bj d L k1 (allA d L)).length:Int) -(n:Int))+mono (1000*(k1.p+1)+k1.q) (-(n:Int)))=smG d L (dn.map Prod.fst)+s5 d L k1:=by rw[hgn,ary];rfl
         refine Ul (Ut ?_)
         intro ak ai
         refine⟨_,?apG,⟨jk,dn++[(k1,v1)],lR++lQ,(mp (⟨k1.p+1,k1.q⟩:Pq) (wr ((mg (⟨k1.p+1,k1.q⟩:Pq) (mp k1 (wr ((mg k1 eo).getD 0+(((bj d L k1 (allA d L)).length:Int) -(n:Int)))) eo)).getD 0-(n:Int))) (mp k1 (wr ((mg k1 eo).getD 0+(((bj d L k1 (allA d L)).length:Int) -(n:Int)))) eo)),_,((nu.trans mF).trans jc),rfl,ai.sub ⟨rfl,rfl,rfl,rfl,trivial⟩,azm.pick [0,1] [_,_] (by decide) ⟨rfl,rfl,trivial⟩,?Kf,?Ke,?Kc,?Kb⟩⟩
         case Kf=>assumption
         case Ke=>(refine List.Perm.trans ?_ eN;simp only[*,List.append_assoc,List.cons_append,List.nil_append];exact(List.perm_append_left_iff _).2 (List.perm_middle.symm))
         case Kc=>exact hq2.1
         case Kb=>(rw[hq2.2,hq1.2,hce,ajM,aC.add_assoc];exact art)
         case apG=>(simp only[*,List.length_append,List.length_cons];omega)
end Go.Proofs.YthppkofceancjaaGreat
namespace Go.Proofs.YthppkofceancjaaGreat
open Go.RowKit
def tP(q:Pw×Int):T2:=⟨q.1.x,q.1.z,q.2⟩
def p2(es:List (Pw×Int))(k:jG):T2:=⟨k.1.x,k.1.z,(mg k.1 es).getD 0⟩
def ib(es:List (Pw×Int)):List (Pw×Int):=es.filter fun q=>decide (q.2≠0)
section
variable {es dn : List (Pw × Int)} {B : Nat}
theorem yn(es:List (Pw×Int)):(ib es).Sublist es:=List.filter_sublist
theorem abM(h:gI es B):gI (ib es) B:=⟨((yn es).map Prod.fst).nodup h.1,fun q hq=>h.2 q ((yn es).subset hq)⟩
theorem adE:∀es:List (Pw×Int),cE (ib es)=cE es
 |[]=>rfl
 |q::es=>by
  have ih:=adE es
  have e:∀l:List (Pw×Int),cE (q::l)=mono (enc q.1) q.2+cE l:=fun l=>rfl
  unfold ib at*
  rw[List.filter_cons,e]
  split
  ·rw[e,ih]
  ·rename_i h
   have h0:q.2=0:=by simpa using h
   rw[ih,h0,Aj,aC.add_comm,aC.add_zero]
theorem akc(dn:List (Pw×Int))(k:Pw)(v:Int):ib (dn++[(k,v)])=ib dn++(if v=0 then[]else[(k,v)]):=by
 unfold ib
 rw[List.filter_append]
 by_cases h:v=0
 ·rw[if_pos h];simp[h]
 ·rw[if_neg h];simp[h]
theorem apa{q:Pw×Int}(h:gI es B)(hq:q∈ib es):mg q.1 es=some q.2/\mg q.1 (ib es)=some q.2/\q.2≠0:=
 ⟨E3 h.1 q ((yn es).subset hq),E3 (abM h).1 q hq,by have:=(List.mem_filter.1 hq).2;simpa using this⟩
theorem acR:∀{ks:List jG},(∀k∈ks,∃v,mg k.1 es=some v/\mg k.1 (ib es)=some v/\v≠0)->xV (ib es) (ks.map Subtype.val)=ks.map (p2 es)
 |[],_=>rfl
 |k::ks,h=>by
  obtain⟨v,h1,h2,h3⟩:=h k (List.mem_cons_self ..)
  rw[List.map_cons,abU,acR (ks:=ks) fun k hk=>h k (List.mem_cons_of_mem _ hk),h2,List.map_cons]
  show(if v=0 then[]else[(⟨k.1.x,k.1.z,v⟩:T2)])++_=_
  rw[if_neg h3]
  unfold p2
  rw[h1];rfl
theorem ai5(h:gI es B)(hp:dn.Perm es){ls:List jG}(hls:ls.map Subtype.val=(ib dn).map Prod.fst):ls.map (p2 es)=(ib dn).map tP:=by
 have e1:ls.map (p2 es)=(ls.map Subtype.val).map fun k=>(⟨k.x,k.z,(mg k es).getD 0⟩:T2):=by rw[List.map_map];rfl
 rw[e1,hls,List.map_map]
 refine List.map_congr_left fun q hq=>?_
 have h1:=E3 h.1 q (hp.mem_iff.1 ((yn dn).subset hq))
 show(⟨q.1.x,q.1.z,(mg q.1 es).getD 0⟩:T2)=tP q
 rw[h1];rfl
theorem ai6{l:List T2}{ls:List jG}(h:gI es 400)(hp:dn.Perm es)(hls:ls.map Subtype.val=(ib dn).map Prod.fst)(hc:kX l)(hb:B2 400 l)(he:cE es=cT l):(oJ ls).map (p2 es)=l:=by
 have qi:(ib dn).Perm (ib es):=hp.filter _
 have hk:(ls.map Subtype.val).Perm ((ib es).map Prod.fst):=by rw[hls];exact qi.map _
 rw[<-am5 (B:=400) (Nat.le_refl _) (abM h) hk hc hb ((adE es).trans he)]
 refine(acR fun k hk'=>?_).symm
 have h1:k∈ls:=(IK ls).mem_iff.1 hk'
 obtain⟨q,hq,e⟩:=List.mem_map.1 (hk.mem_iff.1 (List.mem_map.2 ⟨k,h1,rfl⟩))
 obtain⟨g1,g2,g3⟩:=apa h hq
 exact⟨q.2,by rw[<-e];exact g1,by rw[<-e];exact g2,g3⟩
theorem apb(h:gI es B)(hp:dn.Perm es):∀k∈(ib dn).map Prod.fst,PB B k:=fun k hk=>by
 obtain⟨q,hq,rfl⟩:=List.mem_map.1 hk
 exact(h.2 q (hp.mem_iff.1 ((yn dn).subset hq))).1
end
theorem aoi{t:T2}:Go.Proofs.YthppkofceancjaaGreat.mono t.z (wr (t.c*wr (1-wr (2*(t.x%2)))))=Go.Proofs.YthppkofceancjaaGreat.mono t.z (lq t):=by
 unfold lq
 have h:t.x%2=0\/t.x%2=1:=by omega
 rcases h with h|h
 ·rw[h,if_neg (by simp)]
  refine Ew rfl ?_
  rw[show wr (2*0)=0 by decide,show wr (1-0)=1 by decide,Int.mul_one]
  exact BQ _
 ·rw[h,if_pos (by simp)]
  refine Ew rfl ?_
  rw[show wr (2*1)=2 by decide,show wr (1-2)=-1 by decide,Int.mul_neg,Int.mul_one]
end Go.Proofs.YthppkofceancjaaGreat
namespace Go.Proofs.YthppkofceancjaaGreat
open Go.Shelf Go.ChangeShapes Go.WideShapes Go.ChangeAt Go.RowKit Go.Sort
def aiD:Go.Shelf.Ren:=⟨fun|6=>58|15=>102|14=>101|28=>160|29=>161|20=>152|21=>153|22=>154|23=>155|24=>156|25=>157|26=>158|27=>159|46=>187|47=>188|48=>189|49=>190|50=>191|57=>205|n=>n,fun|22=>42|24=>97|25=>118|3=>3|39=>185|0=>0|53=>244|55=>246|4=>4|46=>237|45=>236|50=>241|5=>5|9=>9|66=>265|70=>251|76=>276|77=>152|n=>n,fun|n=>n⟩
theorem amT:Go.Proofs.SlLaysF0.n6 Tryz.prog aiD:={
 mixed:=by kernel_rfl
 f6:=⟨ "slices.SortFunc[[]knotwork/api.Term2,knotwork/api.Term2]",by decide,Tryz.func58.trans (congrArg some (by kernel_rfl))⟩
 f14:=⟨ "slices.pdqsortCmpFunc[knotwork/api.Term2]",by decide,Tryz.func101.trans (congrArg some (by kernel_rfl))⟩
 f15:=Tryz.func102.trans (congrArg some (by kernel_rfl))
 f20:=⟨ "slices.insertionSortCmpFunc[knotwork/api.Term2]",by decide,Tryz.func152.trans (congrArg some (by kernel_rfl))⟩
 f21:=⟨ "slices.heapSortCmpFunc[knotwork/api.Term2]",by decide,Tryz.func153.trans (congrArg some (by kernel_rfl))⟩
 f22:=⟨ "slices.breakPatternsCmpFunc[knotwork/api.Term2]",by decide,Tryz.func154.trans (congrArg some (by kernel_rfl))⟩
 f23:=⟨ "slices.choosePivotCmpFunc[knotwork/api.Term2]",by decide,Tryz.func155.trans (congrArg some (by kernel_rfl))⟩
 f24:=⟨ "slices.reverseRangeCmpFunc[knotwork/api.Term2]",by decide,Tryz.func156.trans (congrArg some (by kernel_rfl))⟩
 f25:=⟨ "slices.partialInsertionSortCmpFunc[knotwork/api.Term2]",by decide,Tryz.func157.trans (congrArg some (by kernel_rfl))⟩
 f26:=⟨ "slices.partitionEqualCmpFunc[knotwork/api.Term2]",by decide,Tryz.func158.trans (congrArg some (by kernel_rfl))⟩
 f27:=⟨ "slices.partitionCmpFunc[knotwork/api.Term2]",by decide,Tryz.func159.trans (congrArg some (by kernel_rfl))⟩
 f28:=Tryz.func160.trans (congrArg some (by kernel_rfl))
 f29:=Tryz.func161.trans (congrArg some (by kernel_rfl))
 f46:=⟨ "slices.siftDownCmpFunc[knotwork/api.Term2]",by decide,Tryz.func187.trans (congrArg some (by kernel_rfl))⟩
 f47:=Tryz.func188.trans (congrArg some (by kernel_rfl))
 f48:=Tryz.func189.trans (congrArg some (by kernel_rfl))
 f49:=⟨ "slices.medianAdjacentCmpFunc[knotwork/api.Term2]",by decide,Tryz.func190.trans (congrArg some (by kernel_rfl))⟩
 f50:=⟨ "slices.medianCmpFunc[knotwork/api.Term2]",by decide,Tryz.func191.trans (congrArg some (by kernel_rfl))⟩
 f57:=⟨ "slices.order2CmpFunc[knotwork/api.Term2]",by decide,Tryz.func205.trans (congrArg some (by kernel_rfl))⟩
 t0:=uT0
 a0:=Tryz.isAgg0
 z0:=Tryz.sizeOf0
 v0:=Tryz.zeroValue0
 t3:=aw
 a3:=Tryz.isAgg3
 z3:=Tryz.sizeOf3
 v3:=Tryz.zeroValue3
 t4:=gD
 a4:=Tryz.isAgg4
 z4:=Tryz.sizeOf4
 v4:=Tryz.zeroValue4
 t5:=uT5
 a5:=Tryz.isAgg5
 z5:=Tryz.sizeOf5
 v5:=Tryz.zeroValue5
 t9:=uT9
 a9:=Tryz.isAgg9
 z9:=Tryz.sizeOf9
 v9:=Tryz.zeroValue9
 t22:=pY
 a22:=Tryz.isAgg42
 z22:=Tryz.sizeOf42
 v22:=Tryz.zeroValue42
 t25:=aoQ
 a25:=Tryz.isAgg118
 z25:=Tryz.sizeOf118
 v25:=Tryz.zeroValue118
 t39:=FM
 a39:=Tryz.isAgg185
 z39:=Tryz.sizeOf185
 v39:=Tryz.zeroValue185
 t45:=aek
 a45:=Tryz.isAgg236
 z45:=Tryz.sizeOf236
 v45:=Tryz.zeroValue236
 t46:=aej
 a46:=Tryz.isAgg237
 z46:=Tryz.sizeOf237
 v46:=Tryz.zeroValue237
 t50:=aei
 a50:=Tryz.isAgg241
 z50:=Tryz.sizeOf241
 v50:=Tryz.zeroValue241
 t53:=aeh
 a53:=Tryz.isAgg244
 z53:=Tryz.sizeOf244
 v53:=Tryz.zeroValue244
 t55:=KR
 a55:=Tryz.isAgg246
 z55:=Tryz.sizeOf246
 v55:=Tryz.zeroValue246
 t66:=aee
 a66:=Tryz.isAgg265
 z66:=Tryz.sizeOf265
 v66:=Tryz.zeroValue265
 t70:=aef
 a70:=Tryz.isAgg251
 z70:=Tryz.sizeOf251
 v70:=Tryz.zeroValue251
 t76:=aed
 a76:=Tryz.isAgg276
 z76:=Tryz.sizeOf276
 v76:=Tryz.zeroValue276
 t77:=aen
 a77:=Tryz.isAgg152
 z77:=Tryz.sizeOf152
 v77:=Tryz.zeroValue152}
set_option maxHeartbeats 2000000 in
theorem aor(es:List (Pw×Int))(x y:jG)(W:World):Calls Tryz.prog 59 #[.agg (bH.f (p2 es x)).toArray,.agg (bH.f (p2 es y)).toArray] W fun e w'=>e=.returned (.int .i64 (tI x y))/\∃q os',w'=grow (W.drewN q) os':=by
 obtain⟨⟨a,b⟩,ha⟩:=x
 obtain⟨⟨c,d⟩,hc⟩:=y
 obtain⟨s,hs⟩:∃s,(mg (⟨a,b⟩:Pw) es).getD 0=s:=⟨_,rfl⟩
 obtain⟨t,ht⟩:∃t,(mg (⟨c,d⟩:Pw) es).getD 0=t:=⟨_,rfl⟩
 have e1:p2 es ⟨⟨a,b⟩,ha⟩=⟨a,b,s⟩:=by unfold p2;rw[hs]
 have e2:p2 es ⟨⟨c,d⟩,hc⟩=⟨c,d,t⟩:=by unfold p2;rw[ht]
 rw[e1,e2]
 clear e1 e2 hs ht
 unfold PB at ha hc
 simp only at ha hc
 have w1:=wrP (a:=a) (b:=c) (by omega) (by omega)
 have w2:=wrP (a:=b) (b:=d) (by omega) (by omega)
 have hcon:=fun(B:Nat) (T:TypeId) W' h=>arh B T (a-c) (b-d) W' h
 have e9:tI ⟨⟨a,b⟩,ha⟩ ⟨⟨c,d⟩,hc⟩=if a-c=0 then b-d else a-c:=rfl
 rw[e9]
 generalize (if a-c=0 then b-d else a-c)=r at hcon ⊢
 show Calls Tryz.prog 59 #[.agg #[.int .i64 a,.int .i64 b,.int .i64 s],.agg #[.int .i64 c,.int .i64 d,.int .i64 t]] W _
 go_enter Tryz.func59,Tryz.ntmps59
 go_wp2_with (go_at_call 47;refine(hcon _ _ _ (anZ _ _ _ _)).mono ?_;rintro e w' ⟨rfl,rfl⟩)
 go_ret
 exact⟨rfl,0,_,by rw[alloc_eq_grow,alloc_eq_grow,alloc_eq_grow,grow_grow,grow_grow];rfl⟩
theorem ak2{w:World}{M:Hp}{X:Fr}{v:Value}(es:List (Pw×Int)){xs:List jG}(hsz:xs.length<4611686018427387904)(S:SH w M X [Rs.row bH v (xs.map (p2 es))]):
  C1 Tryz.prog 58 [v,.func (.func 59) #[] #[]] w M X fun u M' r'=>u=.tuple #[]/\M'=M/\r'=Rs.row bH v ((oJ xs).map (p2 es)):=
 aix amT (C:=bH) (by decide) (p2 es) Tryz.isAgg97 Tryz.sizeOf97 aq5 aq1 (enters_of Tryz.func59 (by kernel_rfl) rfl) (fun x y W=>aor es x y W) hsz S
end Go.Proofs.YthppkofceancjaaGreat
