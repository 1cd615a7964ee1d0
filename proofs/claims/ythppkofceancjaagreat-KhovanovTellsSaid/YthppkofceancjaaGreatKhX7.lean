/- Part 7 of the proof of the law KhovanovTells: the walks through its functions and the plain laws that they need. -/
import Derived.Test.YthppkofceancjaaGreatKhX6
set_option linter.unusedSimpArgs false
set_option linter.unusedVariables false
noncomputable section
namespace Go.Proofs.YthppkofceancjaaGreat
open Go.ChangeShapes Go.WideShapes Go.ChangeAt Go.RowKit
def ia(d:Dg):Int:=if iC d=true then(if iM d=true then 0 else 5)else 7
theorem acU{d:Dg}(h:ia d=0):iC d=true/\iM d=true:=by
 unfold ia at h
 split at h
 ·split at h
  ·exact⟨by assumption,by assumption⟩
  ·cases h
 ·cases h
def aqv(d:Dg)(v:Value)(N:Hp):Prop:=
 (ia d≠0/\v=.tuple [.pointer none,.int .i64 (ia d)].toArray)\/
 (ia d=0/\∃g cA iA oA cc ic oc,v=.tuple [.pointer (some ⟨g,0,none⟩),.int .i64 0].toArray/\ShM N d g cA iA oA cc ic oc)
noncomputable def Zgn:=Tryz.f82.body.getD .skip
def Zgo:=cL Zgn
def Zgp:=cR Zgn
def Zgq:=cL Zgp
def Zgr:=cR Zgp
def Zgs:=cL Zgr
def Ib:=cR Zgr
def Ia:=cL Zgs
def Zgv:=cL Ia
def H9:=cR Ia
def Zgx:=cL H9
def Zgy:=cR H9
def Zgz:=cL Zgx
def Zh0:=cR Zgx
def Zh1:=cL Zgy
def Zh2:=cR Zgy
def Zh3:=cL Zh2
def Zh4:=cR Zh2
def Zh5:=cL Zh3
def Zh6:=cR Zh3
def Zh7:=cL Ib
def Zh8:=cR Ib
set_option maxRecDepth 10000 in
theorem aoB{w:World}{M:Hp}{X:Fr}(d:Dg){aV:Option Addr}{aU:Nat}(ay:aB bw (M.un X.h) aV aU d.ae)(S:SH w M X []):Ct Tryz.prog 82 [.agg [.slice aV d.ae.length aU,.int .i64 d.loops].toArray] w M X (aqv d):=by
 unfold Ct
 have jH:d.ae.length*40<=140737488355328:=ay.room
 refine Up (b:=Zgn) Tryz.func82 rfl Tryz.ntmps82 rfl (fun C hC=>(bu [(0,_)] ⟨rfl,trivial⟩ (U1 Zgo Zgp rfl rfl rfl (U0 rfl (ar 0 1 rfl rfl rfl (cU (l:=[_,_]) rfl rfl rfl rfl rfl S ?_))))))
 intro aI w1 S1;clear S
 refine af 1 2 rfl rfl (U3 rfl (ah [1] rfl (U2 (U1 Zgq Zgr rfl rfl rfl (U0 rfl (ag 0 rfl (Uc (us:=[_,_]) rfl rfl bg rfl dM (S1.aY (i:=0) rfl ⟨rfl,rfl,trivial⟩)) (ar 1 2 rfl rfl rfl (dt rfl rfl rfl rfl rfl rfl rfl asG S1 (aqx d (ay.mono S1.Uq) S1.aR) ?_))))))))
 intro mP w2 M1 hle1 S2 jg;clear S1
 replace ay:=ay.mono (Hp.U6 hle1 S2.mx)
 rcases jg with⟨BW,rfl⟩|⟨BW,g1,cA8,iA8,oA8,cc8,ic8,oc8,rfl,Gq,Gp,Gm,Gl⟩
 ·refine af 2 1 rfl rfl (ag 3 rfl (Ug rfl rfl rfl) (ag 4 rfl (Ug rfl rfl rfl) (af 5 2 rfl rfl (U3 rfl (ah [4,5] rfl (U2 (U1 Zgs Ib rfl rfl rfl (U7 Ia 0 rfl rfl rfl ?_))))))))
  refine U1 Zgv H9 rfl rfl rfl (U0 rfl (af 0 1 rfl rfl (ag 1 rfl (mX rfl rfl) (af 2 1 rfl rfl (U3 rfl (ah [4,11] rfl (U2 (rM Zgx rfl rfl rfl ?_))))))))
  refine U1 Zgz Zh0 rfl rfl rfl (U0 rfl (af 0 2 rfl rfl (U3 rfl (ah [2,3] rfl (U2 (Us hC [_,_] rfl rfl ⟨rfl,rfl,trivial⟩ ?_))))))
  refine⟨_,rfl,_,hle1,(S2.pick [] [] (by decide) trivial),?_⟩
  have e0:ia d=7:=by unfold ia;rw[if_neg (by rw[BW];exact Bool.false_ne_true)]
  exact .inl ⟨by rw[e0];decide,by rw[e0];rfl⟩
 ·obtain⟨hn,hab,arI,arH⟩:=Gj BW
  refine af 2 1 rfl rfl (ag 3 rfl (Ug rfl rfl rfl) (ag 4 rfl (Ug rfl rfl rfl) (af 5 2 rfl rfl (U3 rfl (ah [4,5] rfl (U2 (U1 Zgs Ib rfl rfl rfl (U7 Ia 0 rfl rfl rfl ?_))))))))
  refine U1 Zgv H9 rfl rfl rfl (U0 rfl (af 0 1 rfl rfl (ag 1 rfl (mX rfl rfl) (af 2 1 rfl rfl (U3 rfl (ah [4,11] rfl (U2 (jq Zgy rfl rfl rfl ?_))))))))
  refine U1 Zh1 Zh2 rfl rfl rfl (U0 rfl (af 0 1 rfl rfl (ar 1 2 rfl rfl rfl (dt rfl rfl rfl rfl rfl rfl rfl asF S2 (akL d (Gq.mono (Hp.fG _ _)) (Gp.mono (Hp.fG _ _)) (Gm.mono (Hp.fG _ _)) (Gl.mono (Hp.fG _ _)) hn hab S2.aR) ?_))))
  intro Df w3 M2 hle2 S3 p7;clear S2
  replace ay:=ay.mono (Hp.U6 hle2 S3.mx)
  replace Gq:=Gq.mono hle2
  replace Gp:=Gp.mono hle2
  replace Gm:=Gm.mono hle2
  replace Gl:=Gl.mono hle2
  obtain rfl:=p7
  refine ag 2 rfl (mX rfl rfl) (af 3 1 rfl rfl (U3 rfl (ah [4,14] rfl (U2 ?_))))
  refine dH Zh3 Zh4 rfl rfl rfl rfl (fun iT=>?_) (fun iT=>?_)
  ·simp only[Bool.and_eq_true,Bool.or_eq_true,Bool.and_eq_false_iff,Bool.or_eq_false_iff,decide_eq_true_eq,decide_eq_false_iff_not,Bool.not_eq_true',Bool.not_eq_false']at iT
   refine U1 Zh5 Zh6 rfl rfl rfl (U0 rfl (af 0 2 rfl rfl (U3 rfl (ah [2,3] rfl (U2 (Us hC [_,_] rfl rfl ⟨rfl,rfl,trivial⟩ ?_))))))
   refine⟨_,rfl,_,hle1.trans hle2,(S3.pick [] [] (by decide) trivial),?_⟩
   have e0:ia d=5:=by unfold ia;rw[if_pos BW,if_neg (by simp[*])]
   exact .inl ⟨by rw[e0];decide,by rw[e0];rfl⟩
  ·simp only[Bool.and_eq_true,Bool.or_eq_true,Bool.and_eq_false_iff,Bool.or_eq_false_iff,decide_eq_true_eq,decide_eq_false_iff_not,Bool.not_eq_true',Bool.not_eq_false']at iT
   refine Ub rfl (Ul (ah [4] rfl (U2 (U1 Zh7 Zh8 rfl rfl rfl (U0 rfl (af 0 3 rfl rfl (U3 rfl (ah [2,3] rfl ?_))))))))
   refine U2 (Us hC [_,_] rfl rfl ⟨rfl,rfl,trivial⟩ ?_)
   refine⟨_,rfl,_,hle1.trans hle2,(S3.pick [] [] (by decide) trivial),?_⟩
   have e0:ia d=0:=by unfold ia;rw[if_pos BW,if_pos (by simpa using iT)]
   exact .inr ⟨e0,_,_,_,_,_,_,_,rfl,Gq,Gp,Gm,Gl⟩
noncomputable def Zh9:=Tryz.f49.body.getD .skip
def Zha:=cL Zh9
def Zhb:=cR Zh9
def Zhc:=cL Zhb
def Zhd:=cR Zhb
def Zhe:=cL Zhc
def Zhf:=cR Zhc
def Zhg:=cL Zhf
def Zhh:=cR Zhf
def Zhi:=cL Zhg
def Zhj:=cR Zhg
def Zhk:=cL Zhd
def Zhl:=cR Zhd
def Zhm:=cL Zhk
def Zhn:=cR Zhk
def Zho:=cL Zhn
def Zhp:=cR Zhn
def Zhq:=cL Zho
def Zhr:=cR Zho
def Zhs:=cL Zhl
def Zht:=cR Zhl
set_option maxRecDepth 10000 in
theorem aiy{w:World}{M:Hp}{X:Fr}(d:Dg){aV:Option Addr}{aU:Nat}(ay:aB bw (M.un X.h) aV aU d.ae)(S:SH w M X []):Ct Tryz.prog 49 [.agg [.slice aV d.ae.length aU,.int .i64 d.loops].toArray] w M X (fun u _=>u=.int .i64 (ia d)):=by
 unfold Ct
 have jH:d.ae.length*40<=140737488355328:=ay.room
 refine Up (b:=Zh9) Tryz.func49 rfl Tryz.ntmps49 rfl (fun C hC=>(bu [(0,_)] ⟨rfl,trivial⟩ (U1 Zha Zhb rfl rfl rfl (U0 rfl (ar 0 1 rfl rfl rfl (cU (l:=[_,_]) rfl rfl rfl rfl rfl S ?_))))))
 intro aI w1 S1;clear S
 refine af 1 1 rfl rfl (U3 rfl (ah [1] rfl (U2 (U1 Zhc Zhd rfl rfl rfl (U1 Zhe Zhf rfl rfl rfl (U0 rfl (ag 0 rfl (Uc (us:=[_,_]) rfl rfl bg rfl dM (S1.aY (i:=0) rfl ⟨rfl,rfl,trivial⟩)) (ar 1 2 rfl rfl rfl (gJ rfl rfl rfl rfl rfl rfl rfl asQ S1 (aip d (ay.mono S1.Uq) S1.aR) ?_)))))))))
 rintro _ w2 S2 rfl;clear S1
 refine ag 2 rfl (mX rfl rfl) (U3 rfl (ah [1,5] rfl (U2 ?_)))
 refine dH Zhg Zhh rfl rfl rfl rfl (fun zP=>?_) (fun zP=>?_)
 ·simp only[Bool.and_eq_true,Bool.or_eq_true,Bool.and_eq_false_iff,Bool.or_eq_false_iff,decide_eq_true_eq,decide_eq_false_iff_not,Bool.not_eq_true',Bool.not_eq_false']at zP
  refine U1 Zhi Zhj rfl rfl rfl (U0 rfl (af 0 1 rfl rfl (U3 rfl (ah [2] rfl (U2 (Us hC [_] rfl rfl ⟨rfl,trivial⟩ ?_))))))
  refine⟨_,rfl,_,Hp.le_refl _,(S2.pick [] [] (by decide) trivial),?_⟩
  have e0:ia d=7:=by unfold ia;rw[if_neg (by simp_all)]
  rw[e0]
  rfl
 ·simp only[Bool.and_eq_true,Bool.or_eq_true,Bool.and_eq_false_iff,Bool.or_eq_false_iff,decide_eq_true_eq,decide_eq_false_iff_not,Bool.not_eq_true',Bool.not_eq_false']at zP
  have hm:iC d=true:=by simpa using zP
  obtain⟨hn,hab,_,_⟩:=Gj hm
  refine Ub rfl (ah [1] rfl (U2 (U1 Zhk Zhl rfl rfl rfl (U1 Zhm Zhn rfl rfl rfl (U0 rfl (ag 0 rfl (Uc (us:=[_,_]) rfl rfl bg rfl dM (S2.aY (i:=0) rfl ⟨rfl,rfl,trivial⟩)) (ar 1 2 rfl rfl rfl (dt rfl rfl rfl rfl rfl rfl rfl asP S2 (aiS d (ay.mono S2.Uq) (hn) (hab) S2.aR) ?_))))))))
  intro Df w3 M1 hle1 S3 p7;clear S2
  replace ay:=ay.mono (Hp.U6 hle1 S3.mx)
  obtain rfl:=p7
  refine ag 2 rfl (mX rfl rfl) (U3 rfl (ah [8] rfl (U2 ?_)))
  refine dH Zho Zhp rfl rfl rfl rfl (fun HE=>?_) (fun HE=>?_)
  ·simp only[Bool.and_eq_true,Bool.or_eq_true,Bool.and_eq_false_iff,Bool.or_eq_false_iff,decide_eq_true_eq,decide_eq_false_iff_not,Bool.not_eq_true',Bool.not_eq_false']at HE
   refine U1 Zhq Zhr rfl rfl rfl (U0 rfl (af 0 1 rfl rfl (U3 rfl (ah [2] rfl (U2 (Us hC [_] rfl rfl ⟨rfl,trivial⟩ ?_))))))
   refine⟨_,rfl,_,hle1,(S3.pick [] [] (by decide) trivial),?_⟩
   have e1:=aat hab
   have e0:ia d=5:=by unfold ia;rw[if_pos hm,if_neg (by rw[<-e1];simp[*])]
   rw[e0]
   rfl
  ·simp only[Bool.and_eq_true,Bool.or_eq_true,Bool.and_eq_false_iff,Bool.or_eq_false_iff,decide_eq_true_eq,decide_eq_false_iff_not,Bool.not_eq_true',Bool.not_eq_false']at HE
   refine Ub rfl (Uw [] trivial (U2 (U1 Zhs Zht rfl rfl rfl (U0 rfl (af 0 1 rfl rfl (U3 rfl (U2 (Us hC [_] rfl rfl ⟨rfl,trivial⟩ ?_))))))))
   refine⟨_,rfl,_,hle1,(S3.pick [] [] (by decide) trivial),?_⟩
   have e1:=aat hab
   have e0:ia d=0:=by unfold ia;rw[if_pos hm,if_pos (by rw[<-e1];simpa using HE)]
   rw[e0]
   rfl
end Go.Proofs.YthppkofceancjaaGreat
namespace Go.Proofs.YthppkofceancjaaGreat
open Go.ChangeShapes Go.WideShapes Go.ChangeAt Go.RowKit
section
variable {P : Program} {o : Oper} {L : List (Nat × Value)} {w : World} {a b : Int}
theorem aco{ca:Call}{ops:List Operand}{ts:List TypeId}(hop:o.op=.call ca)(di:ca.callee=.builtin .min)(hxs:ca.args=ops.toArray)(hts:ca.argTypes=ts.toArray)(hx:oevs L ops=some [.int .i64 a,.int .i64 b]):Run P o L w (.int .i64 (min a b)) w:=by
 intro n c he
 have e:(if b<a then b else a)=min a b:=by
  by_cases h:b<a
  ·rw[if_pos h];omega
  ·rw[if_neg h];omega
 unfold execOp
 simp only[hop,resolve,di,hxs,hts,List.map_toArray,he.ny hx,Sem.run_bind,Sem.run_pure,Result.andThen_ok,invoke,builtin,Builtin.min_,List.foldlM_cons,List.foldlM_nil,Builtin.min2,e]
end
def relN(cl:List Int)(f t:Int):Nat->List Int
 |0=>cl
 |a+1=>if ga (relN cl f t a) a=f then(relN cl f t a).set a t else relN cl f t a
theorem EM(cl:List Int)(f t:Int)(a:Nat):(relN cl f t a).length=cl.length:=by
 induction a with
 |zero=>rfl
 |succ a ih=>rw[relN];split<;>(try rw[List.length_set])<;>exact ih
theorem alg(cl:List Int)(f t:Int)(a:Nat)(ha:a<=cl.length):∀x,ga (relN cl f t a) x=if x<a/\ga cl x=f then t else ga cl x:=by
 induction a with
 |zero=>intro x;rw[if_neg (by omega)];rfl
 |succ a ih=>
  have ih:=ih (by omega)
  have ha0:ga (relN cl f t a) a=ga cl a:=by rw[ih,if_neg (by omega)]
  intro x
  rw[relN,ha0]
  split
  ·rename_i e
   rw[bB _ _ _ _ (by rw[EM];omega)]
   split
   ·rename_i e2;subst e2
    rw[if_pos ⟨by omega,e⟩]
   ·rw[ih]
    by_cases h9:x<a/\ga cl x=f
    ·rw[if_pos h9,if_pos ⟨by omega,h9.2⟩]
    ·rw[if_neg h9,if_neg (fun h=>h9 ⟨by omega,h.2⟩)]
  ·rename_i e
   rw[ih]
   by_cases h9:x<a/\ga cl x=f
   ·rw[if_pos h9,if_pos ⟨by omega,h9.2⟩]
   ·rw[if_neg h9,if_neg (fun(h:x<a+1/\ga cl x=f)=>by
     by_cases h8:x=a
     ·subst h8;exact e h.2
     ·exact h9 ⟨by omega,h.2⟩)]
def F9(N:Nat)(cl:List Int):Prop:=cl.length=N/\∀x,x<N->0<=ga cl x/\ga cl x<=x/\ga cl (ga cl x).toNat=ga cl x
theorem alu{N:Nat}{cl VM:List Int}{f t:Int}(hok:F9 N cl)(hl:VM.length=N)(hg:∀x,x<N->ga VM x=if ga cl x=f then t else ga cl x)(hft:t<=f)(h0:0<=t)(hti:ga cl t.toNat=t):F9 N VM:=by
 refine⟨hl,fun x hx=>?_⟩
 obtain⟨x1,x2,x3⟩:=hok.2 x hx
 have e:=hg x hx
 by_cases hf:ga cl x=f
 ·rw[if_pos hf]at e
  rw[e]
  refine⟨h0,by omega,?_⟩
  rw[hg _ (by omega)]
  split
  ·rfl
  ·exact hti
 ·rw[if_neg hf]at e
  rw[e]
  refine⟨x1,x2,?_⟩
  rw[hg _ (by omega),x3,if_neg hf]
end Go.Proofs.YthppkofceancjaaGreat
namespace Go.Proofs.YthppkofceancjaaGreat
open Go.ChangeShapes Go.WideShapes Go.ChangeAt Go.RowKit
section
variable (e1 e2 : Nat → Nat) (N : Nat)
def mj(cl:List Int)(k:Nat):Int:=max (ga cl (e1 k)) (ga cl (e2 k))
def o6(cl:List Int)(k:Nat):Int:=min (ga cl (e1 k)) (ga cl (e2 k))
def clsG:Nat->List Int
 |0=>iniW N N
 |k+1=>relN (clsG k) (mj e1 e2 (clsG k) k) (o6 e1 e2 (clsG k) k) N
theorem yh(k:Nat):(clsG e1 e2 N k).length=N:=by
 induction k with
 |zero=>exact vE _ _
 |succ k ih=>rw[clsG,EM,ih]
theorem rV(k x:Nat)(hx:x<N):ga (clsG e1 e2 N (k+1)) x=if ga (clsG e1 e2 N k) x=mj e1 e2 (clsG e1 e2 N k) k then o6 e1 e2 (clsG e1 e2 N k) k else ga (clsG e1 e2 N k) x:=by
 rw[clsG,alg _ _ _ _ (by rw[yh];exact Nat.le_refl _)]
 by_cases h9:ga (clsG e1 e2 N k) x=mj e1 e2 (clsG e1 e2 N k) k
 ·rw[if_pos ⟨hx,h9⟩,if_pos h9]
 ·rw[if_neg (fun h=>h9 h.2),if_neg h9]
theorem z7(y:Nat)(hy:y<N):ga (clsG e1 e2 N 0) y=(y:Int):=E7 _ _ (Nat.le_refl _) y hy
theorem aob(cl:List Int)(k:Nat):mj e1 e2 cl k=ga cl (e1 k)\/mj e1 e2 cl k=ga cl (e2 k):=by unfold mj;omega
theorem adj(cl:List Int)(k:Nat):o6 e1 e2 cl k=ga cl (e1 k)\/o6 e1 e2 cl k=ga cl (e2 k):=by unfold o6;omega
variable {e1 e2 N}
theorem amo{K:Nat}(he:∀k,k<K->e1 k<N/\e2 k<N)(k:Nat)(hk:k<=K):F9 N (clsG e1 e2 N k):=by
 induction k with
 |zero=>exact⟨vE _ _,fun x hx=>by
   rw[z7 e1 e2 N x hx]
   refine⟨by omega,by omega,?_⟩
   rw[show((x:Int)).toNat=x by omega,z7 e1 e2 N x hx]⟩
 |succ k ih=>
  have ih:=ih (by omega)
  obtain⟨b1,b2⟩:=he k (by omega)
  obtain⟨p1,_,p3⟩:=ih.2 _ b1
  obtain⟨q1,_,q3⟩:=ih.2 _ b2
  refine alu ih (yh _ _ _ _) (fun x hx=>rV e1 e2 N k x hx) (by unfold mj o6;omega) (by unfold o6;omega) ?_
  rcases adj e1 e2 (clsG e1 e2 N k) k with e|e<;>rw[e]<;>assumption
theorem ajp{j x y:Nat}(hx:x<N)(hy:y<N)(e:ga (clsG e1 e2 N j) x=ga (clsG e1 e2 N j) y):ga (clsG e1 e2 N (j+1)) x=ga (clsG e1 e2 N (j+1)) y:=by
 rw[rV e1 e2 N j x hx,rV e1 e2 N j y hy,e]
theorem ajo{k:Nat}(b1:e1 k<N)(b2:e2 k<N)(j:Nat)(hj:k<j):ga (clsG e1 e2 N j) (e1 k)=ga (clsG e1 e2 N j) (e2 k):=by
 induction j with
 |zero=>omega
 |succ j ih=>
  by_cases e:k=j
  ·subst e
   rw[rV e1 e2 N k _ b1,rV e1 e2 N k _ b2]
   unfold mj o6
   split<;>split<;>omega
  ·exact ajp b1 b2 (ih (by omega))
theorem akE{K:Nat}(he:∀k,k<K->e1 k<N/\e2 k<N)(Z:Nat->Prop)(hZ:∀k,k<K->(Z (e1 k)<->Z (e2 k)))(j:Nat)(hj:j<=K):∀x y,x<N->y<N->ga (clsG e1 e2 N j) x=ga (clsG e1 e2 N j) y->(Z x<->Z y):=by
 induction j with
 |zero=>
  intro x y hx hy e
  rw[z7 e1 e2 N x hx,z7 e1 e2 N y hy]at e
  obtain rfl:x=y:=by omega
  exact Iff.rfl
 |succ j ih=>
  have ih:=ih (by omega)
  obtain⟨b1,b2⟩:=he j (by omega)
  have hz:=hZ j (by omega)
  have hf:∀x,x<N->ga (clsG e1 e2 N j) x=mj e1 e2 (clsG e1 e2 N j) j->(Z x<->Z (e1 j)):=fun x hx e=>by
   rcases aob e1 e2 (clsG e1 e2 N j) j with h2|h2
   ·exact ih x _ hx b1 (e.trans h2)
   ·exact(ih x _ hx b2 (e.trans h2)).trans hz.symm
  have ht:∀x,x<N->ga (clsG e1 e2 N j) x=o6 e1 e2 (clsG e1 e2 N j) j->(Z x<->Z (e1 j)):=fun x hx e=>by
   rcases adj e1 e2 (clsG e1 e2 N j) j with h2|h2
   ·exact ih x _ hx b1 (e.trans h2)
   ·exact(ih x _ hx b2 (e.trans h2)).trans hz.symm
  intro x y hx hy e
  rw[rV e1 e2 N j x hx,rV e1 e2 N j y hy]at e
  by_cases HB:ga (clsG e1 e2 N j) x=mj e1 e2 (clsG e1 e2 N j) j
  ·rw[if_pos HB]at e
   by_cases zN:ga (clsG e1 e2 N j) y=mj e1 e2 (clsG e1 e2 N j) j
   ·exact(hf x hx HB).trans (hf y hy zN).symm
   ·rw[if_neg zN]at e
    exact(hf x hx HB).trans (ht y hy e.symm).symm
  ·rw[if_neg HB]at e
   by_cases zN:ga (clsG e1 e2 N j) y=mj e1 e2 (clsG e1 e2 N j) j
   ·rw[if_pos zN]at e
    exact(ht x hx e).trans (hf y hy zN).symm
   ·rw[if_neg zN]at e
    exact ih x y hx hy e
end
end Go.Proofs.YthppkofceancjaaGreat
namespace Go.Proofs.YthppkofceancjaaGreat
open Go.RowKit
structure Af(d:Dg)(Y:Nat->Bool):Prop where
 alt:∀j,j<4*d.ae.length->Y (bZ j)=!Y j
 arc:∀a,a<2*d.ae.length->Y (dz d false a)=!Y (dz d true a)
theorem akR{d:Dg}(h:Uu d=true)(hp:iM d=true):∃Y,Af d Y:=by
 obtain⟨Y,y1,y2⟩:=(aj7 h).1 hp (fun _=>true) fun c hc=>by unfold qu;simp
 have alt:∀j,j<4*d.ae.length->Y (bZ j)=!Y j:=fun j hj=>by
  have:=y1 j hj
  revert this
  cases Y j<;>cases Y (bZ j)<;>simp
 refine⟨Y,alt,fun a ha=>?_⟩
 rw[(y2 a ha).1,alt _ (mo h ha true).1]
def eY(d:Dg)(Y:Nat->Bool)(b:Bool)(x:Nat):Nat:=if Y (dz d false (x-1))=b then dz d false (x-1)else dz d true (x-1)
theorem F4{d:Dg}(h:Uu d=true){Y:Nat->Bool}(C:Af d Y)(b:Bool){x:Nat}(h0:1<=x)(hx:x<=2*d.ae.length):eY d Y b x<4*d.ae.length/\bh d (eY d Y b x)=(x:Int)/\Y (eY d Y b x)=b:=by
 have ha:x-1<2*d.ae.length:=by omega
 have q:∀b,bh d (dz d b (x-1))=(x:Int):=fun b=>by
  have:=congrArg Da.a (mo h ha b).2.1
  rw[show x-1+1=x by omega]at this
  exact this
 unfold eY
 split
 ·rename_i e
  exact⟨(mo h ha false).1,q false,e⟩
 ·rename_i e
  refine⟨(mo h ha true).1,q true,?_⟩
  have:=C.arc (x-1) ha
  rw[this]at e
  revert e
  cases Y (dz d true (x-1))<;>cases b<;>simp
theorem KF{d:Dg}(h:Uu d=true){Y:Nat->Bool}(C:Af d Y){j:Nat}(hj:j<4*d.ae.length):j=eY d Y (Y j) (bh d j).toNat:=by
 have hr:=tL h hj
 have ha:(bh d j).toNat-1<2*d.ae.length:=by omega
 unfold eY
 rcases((adI h).at_ j hj).2 with e|e
 ·rw[<-e,if_pos rfl]
 ·rw[if_neg,<-e]
  rw[C.arc _ ha,<-e]
  cases Y j<;>simp
def aD(s k:Nat):Nat:=s/2^k%2
theorem jS(s k:Nat):aD s k<2:=Nat.mod_lt _ (by decide)
def pS(s j:Nat):Nat:=4*(j/4)+(if(j%4+aD s (j/4))%2=0 then(j%4+1)%4 else(j%4+3)%4)
theorem wm(s j:Nat):pS s j/4=j/4:=by unfold pS;split<;>omega
theorem FV{n s j:Nat}(h:j<4*n):pS s j<4*n:=by have:=wm s j;omega
theorem J1(s j:Nat):pS s (pS s j)=j:=by
 have h1:=wm s j
 have h2:=jS s (j/4)
 have h3:pS s j%4=(if(j%4+aD s (j/4))%2=0 then(j%4+1)%4 else(j%4+3)%4):=by unfold pS;split<;>omega
 have h4:pS s (pS s j)=4*(pS s j/4)+(if(pS s j%4+aD s (pS s j/4))%2=0 then(pS s j%4+1)%4 else(pS s j%4+3)%4):=rfl
 rw[h4,h1,h3]
 split<;>split<;>omega
theorem ady{d:Dg}{Y:Nat->Bool}(C:Af d Y)(s:Nat){j:Nat}(hj:j<4*d.ae.length):Y (pS s j)=!Y j:=by
 have hl:=FV (s:=s) hj
 by_cases e:(j%4+aD s (j/4))%2=0
 ·have e1:bZ (pS s j)=j:=by unfold pS bZ;rw[if_pos e];omega
  have:=C.alt _ hl
  rw[e1]at this
  rw[this,Bool.not_not]
 ·have e1:pS s j=bZ j:=by unfold pS bZ;rw[if_neg e]
  rw[e1,C.alt _ hj]
def iI(d:Dg)(gn:Nat->Bool)(s i:Nat):Nat:=if gn (i/2)=true then(cz d (i/2) (aD s (i/2)+2*(i%2))).toNat else 0
def iH(d:Dg)(gn:Nat->Bool)(s i:Nat):Nat:=if gn (i/2)=true then(cz d (i/2) ((aD s (i/2)+2*(i%2)+1)%4)).toNat else 0
def kC(d:Dg)(gn:Nat->Bool)(s:Nat):List Int:=clsG (iI d gn s) (iH d gn s) (2*d.ae.length+1) (2*d.ae.length)
theorem yU{d:Dg}(h:Uu d=true)(gn:Nat->Bool)(s:Nat):∀i,i<2*d.ae.length->iI d gn s i<2*d.ae.length+1/\iH d gn s i<2*d.ae.length+1:=fun i hi=>by
 have hb:=jS s (i/2)
 have h1:=iN h (i:=i/2) (by omega) (k:=aD s (i/2)+2*(i%2)) (by omega)
 have h2:=iN h (i:=i/2) (by omega) (k:=(aD s (i/2)+2*(i%2)+1)%4) (by omega)
 unfold iI iH
 split<;>omega
theorem aph{d:Dg}(h:Uu d=true)(gn:Nat->Bool)(s:Nat):F9 (2*d.ae.length+1) (kC d gn s):=amo (yU h gn s) _ (Nat.le_refl _)
def kR(d:Dg)(gn:Nat->Bool)(s x:Nat):Nat:=(ga (kC d gn s) x).toNat
theorem iW{d:Dg}(h:Uu d=true)(gn:Nat->Bool)(s:Nat){x:Nat}(hx:x<2*d.ae.length+1):ga (kC d gn s) x=(kR d gn s x:Int)/\kR d gn s x<=x/\kR d gn s (kR d gn s x)=kR d gn s x:=by
 obtain⟨o1,o2,o3⟩:=(aph h gn s).2 x hx
 have e:ga (kC d gn s) x=(kR d gn s x:Int):=by unfold kR;omega
 refine⟨e,by omega,?_⟩
 unfold kR at e ⊢
 rw[o3]
theorem aq2{d:Dg}(h:Uu d=true)(gn:Nat->Bool)(s:Nat){i:Nat}(hi:i<2*d.ae.length)(hg:gn (i/2)=true):∃j,j<4*d.ae.length/\j/4=i/2/\iI d gn s i=(bh d j).toNat/\iH d gn s i=(bh d (pS s j)).toNat:=by
 have hb:=jS s (i/2)
 refine⟨4*(i/2)+(aD s (i/2)+2*(i%2)),by omega,by omega,?_,?_⟩
 ·unfold iI bh
  rw[if_pos hg,show(4*(i/2)+(aD s (i/2)+2*(i%2)))/4=i/2 by omega,show(4*(i/2)+(aD s (i/2)+2*(i%2)))%4=aD s (i/2)+2*(i%2) by omega]
 ·have e:pS s (4*(i/2)+(aD s (i/2)+2*(i%2)))=4*(i/2)+(aD s (i/2)+2*(i%2)+1)%4:=by
   unfold pS
   rw[show(4*(i/2)+(aD s (i/2)+2*(i%2)))/4=i/2 by omega,show(4*(i/2)+(aD s (i/2)+2*(i%2)))%4=aD s (i/2)+2*(i%2) by omega,if_pos (by omega)]
  rw[e]
  unfold iH bh
  rw[if_pos hg,show(4*(i/2)+(aD s (i/2)+2*(i%2)+1)%4)/4=i/2 by omega,show(4*(i/2)+(aD s (i/2)+2*(i%2)+1)%4)%4=(aD s (i/2)+2*(i%2)+1)%4 by omega]
theorem azs{d:Dg}(gn:Nat->Bool)(s:Nat){j:Nat}(hj:j<4*d.ae.length)(hg:gn (j/4)=true):∃i,i<2*d.ae.length/\((iI d gn s i=(bh d j).toNat/\iH d gn s i=(bh d (pS s j)).toNat)\/(iI d gn s i=(bh d (pS s j)).toNat/\iH d gn s i=(bh d j).toNat)):=by
 have hb:=jS s (j/4)
 have key:∀m,m<2->iI d gn s (2*(j/4)+m)=(cz d (j/4) (aD s (j/4)+2*m)).toNat/\iH d gn s (2*(j/4)+m)=(cz d (j/4) ((aD s (j/4)+2*m+1)%4)).toNat:=fun m hm=>by
  unfold iI iH
  rw[show(2*(j/4)+m)/2=j/4 by omega,show(2*(j/4)+m)%2=m by omega,if_pos hg,if_pos hg]
  exact⟨rfl,rfl⟩
 have e1:bh d j=cz d (j/4) (j%4):=rfl
 have e2:bh d (pS s j)=cz d (j/4) (if(j%4+aD s (j/4))%2=0 then(j%4+1)%4 else(j%4+3)%4):=by
  unfold bh
  rw[wm]
  congr 1
  unfold pS
  split<;>omega
 rw[e1,e2]
 by_cases e:(j%4+aD s (j/4))%2=0
 ·rw[if_pos e]
  obtain⟨k1,k2⟩:=key ((j%4-aD s (j/4))/2) (by omega)
  refine⟨2*(j/4)+(j%4-aD s (j/4))/2,by omega,.inl ⟨?_,?_⟩⟩
  ·rw[k1,show aD s (j/4)+2*((j%4-aD s (j/4))/2)=j%4 by omega]
  ·rw[k2,show aD s (j/4)+2*((j%4-aD s (j/4))/2)=j%4 by omega]
 ·rw[if_neg e]
  obtain⟨k1,k2⟩:=key (((j%4+3)%4-aD s (j/4))/2) (by omega)
  refine⟨2*(j/4)+((j%4+3)%4-aD s (j/4))/2,by omega,.inr ⟨?_,?_⟩⟩
  ·rw[k1,show aD s (j/4)+2*(((j%4+3)%4-aD s (j/4))/2)=(j%4+3)%4 by omega]
  ·rw[k2,show(aD s (j/4)+2*(((j%4+3)%4-aD s (j/4))/2)+1)%4=j%4 by omega]
theorem yG{d:Dg}(h:Uu d=true)(gn:Nat->Bool)(s:Nat)(Z:Nat->Prop)(hZ:∀j,j<4*d.ae.length->gn (j/4)=true->(Z (bh d j).toNat<->Z (bh d (pS s j)).toNat)){x y:Nat}(hx:x<2*d.ae.length+1)(hy:y<2*d.ae.length+1)(e:kR d gn s x=kR d gn s y):Z x<->Z y:=by
 refine akE (yU h gn s) Z (fun i hi=>?_) _ (Nat.le_refl _) x y hx hy ?_
 ·cases hg:gn (i/2)with
  |true=>
   obtain⟨j,hj,hji,e1,e2⟩:=aq2 h gn s hi hg
   rw[e1,e2]
   exact hZ j hj (by rw[hji];exact hg)
  |false=>
   unfold iI iH
   rw[if_neg (by rw[hg];exact Bool.false_ne_true),if_neg (by rw[hg];exact Bool.false_ne_true)]
 ·show ga (kC d gn s) x=ga (kC d gn s) y
  rw[(iW h gn s hx).1,(iW h gn s hy).1,e]
theorem rX{d:Dg}(h:Uu d=true)(gn:Nat->Bool)(s:Nat){j:Nat}(hj:j<4*d.ae.length)(hg:gn (j/4)=true):kR d gn s (bh d j).toNat=kR d gn s (bh d (pS s j)).toNat:=by
 obtain⟨i,hi,hh⟩:=azs (d:=d) gn s hj hg
 have:=ajo (N:=2*d.ae.length+1) (e1:=iI d gn s) (e2:=iH d gn s) (k:=i) (yU h gn s i hi).1 (yU h gn s i hi).2 (2*d.ae.length) hi
 rcases hh with⟨e1,e2⟩|⟨e1,e2⟩
 ·rw[e1,e2]at this;exact congrArg Int.toNat this
 ·rw[e1,e2]at this;exact(congrArg Int.toNat this).symm
def nY(d:Dg)(Y:Nat->Bool)(gn:Nat->Bool)(s:Nat)(b:Bool)(x:Nat):Nat:=if gn (eY d Y b x/4)=true then(bh d (pS s (eY d Y b x))).toNat else x
def xJ(f:Nat->Nat):Nat->Nat->Nat
 |0,x=>x
 |m+1,x=>xJ f m (f x)
theorem akB{d:Dg}(h:Uu d=true){Y:Nat->Bool}(C:Af d Y){gn:Nat->Bool}{s:Nat}(b:Bool){x y:Nat}(hx:x<2*d.ae.length+1)(hy:y<2*d.ae.length+1)(gx:gn (eY d Y b x/4)=false)(gy:gn (eY d Y b y/4)=false)(e:kR d gn s x=kR d gn s y):x=y:=by
 have step:∀j,j<4*d.ae.length->gn (j/4)=true->Y j=b->((∃m,xJ (nY d Y gn s b) m (bh d j).toNat=x)<->∃m,xJ (nY d Y gn s b) m (bh d (pS s j)).toNat=x):=fun j hj hg hb=>by
  have ej:=KF h C hj
  rw[hb]at ej
  have e1:nY d Y gn s b (bh d j).toNat=(bh d (pS s j)).toNat:=by unfold nY;rw[<-ej,if_pos hg]
  constructor
  ·rintro⟨m,hm⟩
   cases m with
   |zero=>
    have hm':(bh d j).toNat=x:=hm
    rw[hm']at ej
    rw[<-ej,hg]at gx
    cases gx
   |succ m=>exact⟨m,by rw[<-e1];exact hm⟩
  ·rintro⟨m,hm⟩
   exact⟨m+1,by show xJ _ m (nY d Y gn s b _)=x;rw[e1];exact hm⟩
 obtain⟨m,hm⟩:=(yG h gn s (fun z=>∃m,xJ (nY d Y gn s b) m z=x) (fun j hj hg=>by
  by_cases hb:Y j=b
  ·exact step j hj hg hb
  ·have:=step (pS s j) (FV hj) (by rw[wm];exact hg) (by rw[ady C s hj];revert hb;cases Y j<;>cases b<;>simp)
   rw[J1]at this
   exact this.symm) hx hy e).1 ⟨0,rfl⟩
 have fix:∀m,xJ (nY d Y gn s b) m y=y:=by
  intro m
  induction m with
  |zero=>rfl
  |succ m ih=>
   have:nY d Y gn s b y=y:=by unfold nY;rw[if_neg (by rw[gy];exact Bool.false_ne_true)]
   show xJ _ m (nY d Y gn s b y)=y
   rw[this,ih]
 rw[<-hm,fix m]
theorem ajl{d:Dg}(h:Uu d=true){Y:Nat->Bool}(C:Af d Y){gn:Nat->Bool}{s x:Nat}(h0:1<=x)(hx:x<=2*d.ae.length)(gx:gn (eY d Y true x/4)=false):∃y,1<=y/\y<=2*d.ae.length/\kR d gn s y=kR d gn s x/\gn (eY d Y false y/4)=false:=by
 refine Classical.byContradiction fun hno=>?_
 have hno:∀y,1<=y->y<=2*d.ae.length->kR d gn s y=kR d gn s x->gn (eY d Y false y/4)=true:=fun y h1 h2 h3=>by
  cases hg:gn (eY d Y false y/4)with
  |true=>rfl
  |false=>exact absurd ⟨y,h1,h2,h3,hg⟩ hno
 obtain⟨u,hu0,hu⟩:∃u:Nat->Nat,u 0=x/\∀m,u (m+1)=nY d Y gn s false (u m):=⟨fun m=>Nat.rec x (fun _ y=>nY d Y gn s false y) m,rfl,fun _=>rfl⟩
 have step:∀y,1<=y->y<=2*d.ae.length->kR d gn s y=kR d gn s x->1<=nY d Y gn s false y/\nY d Y gn s false y<=2*d.ae.length/\kR d gn s (nY d Y gn s false y)=kR d gn s x/\eY d Y true (nY d Y gn s false y)=pS s (eY d Y false y):=fun y h1 h2 h3=>by
  have hg:=hno y h1 h2 h3
  obtain⟨e1,e2,e3⟩:=F4 h C false h1 h2
  have n1:nY d Y gn s false y=(bh d (pS s (eY d Y false y))).toNat:=by unfold nY;rw[if_pos hg]
  have hl:=FV (s:=s) e1
  have hb:=tL h hl
  have ey:=KF h C hl
  rw[ady C s e1,e3]at ey
  rw[n1]
  refine⟨by omega,by omega,?_,ey.symm⟩
  rw[<-rX h gn s e1 hg,e2,Int.toNat_natCast,h3]
 have hall:∀m,1<=u m/\u m<=2*d.ae.length/\kR d gn s (u m)=kR d gn s x:=by
  intro m
  induction m with
  |zero=>rw[hu0];exact⟨h0,hx,rfl⟩
  |succ m ih=>
   obtain⟨s1,s2,s3,_⟩:=step (u m) ih.1 ih.2.1 ih.2.2
   rw[hu]
   exact⟨s1,s2,s3⟩
 have KZ:∀m,eY d Y true (u (m+1))=pS s (eY d Y false (u m)):=fun m=>by
  rw[hu]
  exact(step (u m) (hall m).1 (hall m).2.1 (hall m).2.2).2.2.2
 have inj:∀i k,u i=u (i+k+1)->False:=by
  intro i
  induction i with
  |zero=>
   intro k e
   rw[hu0,show 0+k+1=k+1 by omega]at e
   have h1:=KZ k
   rw[<-e]at h1
   have h2:=hno (u k) (hall k).1 (hall k).2.1 (hall k).2.2
   rw[h1,wm,h2]at gx
   cases gx
  |succ i ih=>
   intro k e
   have h1:=KZ i
   have h2:=KZ (i+k+1)
   rw[show i+k+1+1=i+1+k+1 by omega,<-e,h1]at h2
   have h3:=congrArg (pS s) h2
   rw[J1,J1]at h3
   have t1:=(F4 h C false (hall i).1 (hall i).2.1).2.1
   have t2:=(F4 h C false (hall (i+k+1)).1 (hall (i+k+1)).2.1).2.1
   rw[h3,t2]at t1
   exact ih k (by omega)
 have hnd:((List.range (2*d.ae.length+1)).map u).Nodup:=by
  rw[List.nodup_iff_pairwise_ne,List.pairwise_map]
  refine List.Pairwise.imp_of_mem (R:=fun a b=>a<b) (fun{a b} _ _ hab e=>?_) List.pairwise_lt_range
  exact inj a (b-a-1) (by rw[show a+(b-a-1)+1=b by omega];exact e)
 have:=AF hnd (ys:=(List.range (2*d.ae.length)).map (·+1)) fun y hy=>by
  obtain⟨m,_,rfl⟩:=List.mem_map.1 hy
  have:=hall m
  exact List.mem_map.2 ⟨u m-1,List.mem_range.2 (by omega),by omega⟩
 rw[List.length_map,List.length_map,List.length_range,List.length_range]at this
 omega
def av(_:Nat):Bool:=true
def eA(k c:Nat):Bool:=decide (c≠k)
structure uW(d:Dg)(k s t:Nat):Prop where
 k_:k<d.ae.length
 s0:aD s k=0
 t1:aD t k=1
 eq:∀c,c≠k->aD t c=aD s c
def aK(d:Dg)(k i:Nat):Nat:=(cz d k i).toNat
theorem iL{d:Dg}(h:Uu d=true){k i:Nat}(hk:k<d.ae.length)(hi:i<4):1<=aK d k i/\aK d k i<=2*d.ae.length:=by
 have:=iN h hk hi
 unfold aK;omega
theorem l5(d:Dg)(k:Nat){i:Nat}(hi:i<4):(bh d (4*k+i)).toNat=aK d k i:=by
 unfold bh aK
 rw[show(4*k+i)/4=k by omega,show(4*k+i)%4=i by omega]
theorem JN{d:Dg}{k s:Nat}{Z:Nat->Prop}(h:∀i,i<4->(Z (aK d k i)<->Z (bh d (pS s (4*k+i))).toNat)){j:Nat}(hj:j/4=k):Z (bh d j).toNat<->Z (bh d (pS s j)).toNat:=by
 have:=h (j%4) (by omega)
 rw[<-l5 d k (by omega),show 4*k+j%4=j by omega]at this
 exact this
theorem Jy{s k i:Nat}(hs:aD s k=0)(hi:i<4):pS s (4*k+i)=4*k+(if i%2=0 then i+1 else i-1):=by
 unfold pS
 rw[show(4*k+i)/4=k by omega,show(4*k+i)%4=i by omega,hs]
 split<;>split<;>omega
theorem JZ{s k i:Nat}(hs:aD s k=1)(hi:i<4):pS s (4*k+i)=4*k+(if i%2=0 then(i+3)%4 else(i+1)%4):=by
 unfold pS
 rw[show(4*k+i)/4=k by omega,show(4*k+i)%4=i by omega,hs]
 split<;>split<;>omega
theorem akw{d:Dg}(h:Uu d=true)(hp:iM d=true){k s:Nat}(hk:k<d.ae.length):
  ((kR d (eA k) s (aK d k 0)=kR d (eA k) s (aK d k 1)/\kR d (eA k) s (aK d k 2)=kR d (eA k) s (aK d k 3))\/(kR d (eA k) s (aK d k 0)=kR d (eA k) s (aK d k 3)/\kR d (eA k) s (aK d k 2)=kR d (eA k) s (aK d k 1)))/\kR d (eA k) s (aK d k 0)≠kR d (eA k) s (aK d k 2):=by
 obtain⟨Y,C⟩:=akR h hp
 have afH:∀c,eA k c=false<->c=k:=fun c=>by unfold eA;simp
 have bd:=fun i (hi:i<4)=>iL h hk hi
 have uM:∀i,i<4->Y (4*k+i)=if i%2=0 then Y (4*k)else !Y (4*k):=fun i hi=>by
  have c1:=C.alt (4*k+1) (by omega)
  have c2:=C.alt (4*k+2) (by omega)
  have c3:=C.alt (4*k+3) (by omega)
  rw[show bZ (4*k+1)=4*k by unfold bZ;omega]at c1
  rw[show bZ (4*k+2)=4*k+1 by unfold bZ;omega]at c2
  rw[show bZ (4*k+3)=4*k+2 by unfold bZ;omega]at c3
  have e0:Y (4*k+0)=Y (4*k):=rfl
  have:i=0\/i=1\/i=2\/i=3:=by omega
  rcases this with rfl|rfl|rfl|rfl<;>revert c1 c2 c3 e0<;>cases Y (4*k)<;>cases Y (4*k+0)<;>cases Y (4*k+1)<;>cases Y (4*k+2)<;>cases Y (4*k+3)<;>simp
 have ends:∀i,i<4->eY d Y (Y (4*k+i)) (aK d k i)=4*k+i:=fun i hi=>by
  have:=KF h C (j:=4*k+i) (by omega)
  rw[l5 d k hi]at this
  exact this.symm
 have gE:∀i,i<4->eA k (eY d Y (Y (4*k+i)) (aK d k i)/4)=false:=fun i hi=>by rw[ends i hi,afH];omega
 -- two ends of one colour are of two rings
 have two:∀i i',i<4->i'<4->i%2=i'%2->kR d (eA k) s (aK d k i)=kR d (eA k) s (aK d k i')->i=i':=fun i i' hi hi' hm e=>by
  have hc:Y (4*k+i)=Y (4*k+i'):=by rw[uM i hi,uM i' hi',hm]
  have h1:=akB h C (gn:=eA k) (s:=s) (Y (4*k+i)) (x:=aK d k i) (y:=aK d k i') (by have:=bd i hi;omega) (by have:=bd i' hi';omega) (gE i hi) (by rw[hc];exact gE i' hi') e
  have e1:=ends i hi
  have e2:=ends i' hi'
  rw[hc,h1,e2]at e1
  omega
 -- each end leads to one of the other colour
 have lead:∀i,i<4->Y (4*k+i)=true->∃i',i'<4/\i'%2≠i%2/\kR d (eA k) s (aK d k i')=kR d (eA k) s (aK d k i):=fun i hi hY=>by
  have g1:=gE i hi
  rw[hY]at g1
  obtain⟨b1,b2⟩:=bd i hi
  obtain⟨y,y1,y2,y3,y4⟩:=ajl h C (gn:=eA k) (s:=s) b1 b2 g1
  obtain⟨z1,z2,z3⟩:=F4 h C false y1 y2
  have hdiv:=(afH _).1 y4
  refine⟨eY d Y false y%4,by omega,fun e=>?_,?_⟩
  ·have q1:=uM (eY d Y false y%4) (by omega)
   have q2:=uM i hi
   rw[show 4*k+eY d Y false y%4=eY d Y false y by omega,z3,e]at q1
   rw[hY]at q2
   rw[<-q1]at q2
   cases q2
  ·rw[<-y3]
   congr 1
   rw[<-l5 d k (by omega),show 4*k+eY d Y false y%4=eY d Y false y by omega,z2,Int.toNat_natCast]
 refine⟨?_,fun e=>by have:=two 0 2 (by omega) (by omega) rfl e;omega⟩
 -- the black ends
 obtain⟨p,hp1⟩:∃p,p<2/\Y (4*k+p)=true/\Y (4*k+(p+2))=true:=by
  have q0:=uM 0 (by omega)
  have q1:=uM 1 (by omega)
  have q2:=uM 2 (by omega)
  have q3:=uM 3 (by omega)
  cases hY:Y (4*k)with
  |true=>exact⟨0,by omega,hY,by rw[q2];exact hY⟩
  |false=>exact⟨1,by omega,by rw[q1,hY];rfl,by show Y (4*k+3)=true;rw[q3,hY];rfl⟩
 obtain⟨hp0,qj,hpb⟩:=hp1
 obtain⟨i,hi,him,hie⟩:=lead p (by omega) qj
 obtain⟨i',hi',aBF,Cv⟩:=lead (p+2) (by omega) hpb
 have hne:i≠i':=fun e=>by
  subst e
  have:=two p (p+2) (by omega) (by omega) (by omega) (hie.symm.trans Cv)
  omega
 have aos:(p=0/\((i=1/\i'=3)\/(i=3/\i'=1)))\/(p=1/\((i=0/\i'=2)\/(i=2/\i'=0))):=by omega
 rcases aos with⟨rfl,⟨rfl,rfl⟩|⟨rfl,rfl⟩⟩|⟨rfl,⟨rfl,rfl⟩|⟨rfl,rfl⟩⟩
 ·exact .inl ⟨hie.symm,Cv.symm⟩
 ·exact .inr ⟨hie.symm,Cv.symm⟩
 ·exact .inl ⟨hie,Cv⟩
 ·exact .inr ⟨Cv,hie⟩
end Go.Proofs.YthppkofceancjaaGreat
namespace Go.Proofs.YthppkofceancjaaGreat
open Go.RowKit
theorem adA{d:Dg}(h:Uu d=true){k s t:Nat}(F:∀c,c≠k->aD t c=aD s c){x y:Nat}(hx:x<2*d.ae.length+1)(hy:y<2*d.ae.length+1)(e:kR d (eA k) s x=kR d (eA k) s y):kR d av t x=kR d av t y:=by
 refine((yG h (eA k) s (fun z=>kR d av t x=kR d av t z) (fun j hj hg=>?_) hx hy e).1 rfl)
 have hjk:j/4≠k:=by unfold eA at hg;exact of_decide_eq_true hg
 have e1:pS s j=pS t j:=by unfold pS;rw[F _ hjk]
 rw[e1,rX h av t hj rfl]
theorem BA{d:Dg}(h:Uu d=true){k s t:Nat}(F:uW d k s t):kR d av s (aK d k 0)=kR d av s (aK d k 1)/\kR d av s (aK d k 2)=kR d av s (aK d k 3)/\kR d av t (aK d k 1)=kR d av t (aK d k 2)/\kR d av t (aK d k 3)=kR d av t (aK d k 0):=by
 have hk:=F.k_
 have t0:=rX h av s (j:=4*k+0) (by omega) rfl
 have t2:=rX h av s (j:=4*k+2) (by omega) rfl
 have t1:=rX h av t (j:=4*k+1) (by omega) rfl
 have t3:=rX h av t (j:=4*k+3) (by omega) rfl
 rw[Jy F.s0 (by omega),if_pos rfl,l5 d k (by omega),l5 d k (by omega)]at t0
 rw[Jy F.s0 (by omega),if_pos rfl,l5 d k (by omega),l5 d k (by omega)]at t2
 rw[JZ F.t1 (by omega),if_neg (by decide),l5 d k (by omega),l5 d k (by omega)]at t1
 rw[JZ F.t1 (by omega),if_neg (by decide),l5 d k (by omega),l5 d k (by omega)]at t3
 exact⟨t0,t2,t1,t3⟩
theorem akx{d:Dg}(h:Uu d=true)(hp:iM d=true){k s t:Nat}(F:uW d k s t):kR d av s (aK d k 0)=kR d av s (aK d k 2)<->kR d av t (aK d k 0)≠kR d av t (aK d k 2):=by
 have hk:=F.k_
 have bd:=fun i (hi:i<4)=>iL h hk hi
 have b0:=bd 0 (by omega)
 have b1:=bd 1 (by omega)
 have b2:=bd 2 (by omega)
 have b3:=bd 3 (by omega)
 obtain⟨s1,s2,t1,t2⟩:=BA h F
 obtain⟨hc,hne⟩:=akw h hp (s:=s) hk
 -- the ring of the first end outside is one that ties keep, where the crossing's ties keep it
 have apart:∀u,(∀c,c≠k->aD u c=aD s c)->(∀i,i<4->((kR d (eA k) s (aK d k i)=kR d (eA k) s (aK d k 0))<->(kR d (eA k) s (bh d (pS u (4*k+i))).toNat=kR d (eA k) s (aK d k 0))))->kR d av u (aK d k 0)≠kR d av u (aK d k 2):=fun u hu ht e=>by
  refine hne ((yG h av u (fun z=>kR d (eA k) s z=kR d (eA k) s (aK d k 0)) (fun j hj _=>?_) (x:=aK d k 0) (y:=aK d k 2) (by omega) (by omega) e).1 rfl).symm
  by_cases hjk:j/4=k
  ·exact JN (Z:=fun z=>kR d (eA k) s z=kR d (eA k) s (aK d k 0)) ht hjk
  ·have e1:pS u j=pS s j:=by unfold pS;rw[hu _ hjk]
   rw[e1,rX h (eA k) s hj (by unfold eA;exact decide_eq_true hjk)]
 have pz:∀i,i<4->(bh d (pS s (4*k+i))).toNat=aK d k (if i%2=0 then i+1 else i-1):=fun i hi=>by
  rw[Jy F.s0 hi,l5 d k (by split<;>omega)]
 have po:∀i,i<4->(bh d (pS t (4*k+i))).toNat=aK d k (if i%2=0 then(i+3)%4 else(i+1)%4):=fun i hi=>by
  rw[JZ F.t1 hi,l5 d k (by split<;>omega)]
 rcases hc with⟨c1,c2⟩|⟨c1,c2⟩
 ·have h1:kR d av s (aK d k 0)≠kR d av s (aK d k 2):=apart s (fun _ _=>rfl) fun i hi=>by
   rw[pz i hi]
   have:i=0\/i=1\/i=2\/i=3:=by omega
   rcases this with rfl|rfl|rfl|rfl
   ·rw[if_pos rfl,c1]
   ·rw[if_neg (by decide),c1]
   ·rw[if_pos rfl,c2]
   ·rw[if_neg (by decide),c2]
  have h2:kR d av t (aK d k 0)=kR d av t (aK d k 2):=(adA h F.eq (by omega) (by omega) c1).trans t1
  exact⟨fun e=>absurd e h1,fun e=>absurd h2 e⟩
 ·have h1:kR d av t (aK d k 0)≠kR d av t (aK d k 2):=apart t F.eq fun i hi=>by
   rw[po i hi]
   have:i=0\/i=1\/i=2\/i=3:=by omega
   rcases this with rfl|rfl|rfl|rfl
   ·rw[if_pos rfl,c1]
   ·rw[if_neg (by decide),c2]
   ·rw[if_pos rfl,c2]
   ·rw[if_neg (by decide),c1]
  have h2:kR d av s (aK d k 0)=kR d av s (aK d k 2):=s1.trans (adA h (t:=s) (fun _ _=>rfl) (by omega) (by omega) c2).symm
  exact⟨fun _=>h1,fun _=>h2⟩
theorem I5{d:Dg}(h:Uu d=true){k u v:Nat}(hk:k<d.ae.length)(F:∀c,c≠k->aD v c=aD u c){y:Nat}(hy:y<2*d.ae.length+1)(hf:∀i,i<4->kR d av u (aK d k i)≠kR d av u y):
  (∀z,z<2*d.ae.length+1->(kR d av u z=kR d av u y<->kR d av v z=kR d av v y))/\kR d av v y=kR d av u y:=by
 have one:∀z,z<2*d.ae.length+1->kR d av v z=kR d av v y->kR d av u z=kR d av u y:=fun z hz e=>by
  refine(yG h av v (fun z=>kR d av u z=kR d av u y) (fun j hj _=>?_) hz hy e).2 rfl
  by_cases hjk:j/4=k
  ·refine JN (k:=k) (Z:=fun z=>kR d av u z=kR d av u y) (fun i hi=>?_) hjk
   have e2:(bh d (pS v (4*k+i))).toNat=aK d k (pS v (4*k+i)%4):=by
    rw[<-l5 d k (by omega)]
    have:=wm v (4*k+i)
    congr 2
    omega
   rw[e2]
   exact⟨fun e9=>absurd e9 (hf i hi),fun e9=>absurd e9 (hf _ (by omega))⟩
  ·have e1:pS v j=pS u j:=by unfold pS;rw[F _ hjk]
   rw[e1,rX h av u hj rfl]
 have two:∀z,z<2*d.ae.length+1->kR d av u z=kR d av u y->kR d av v z=kR d av v y:=fun z hz e=>by
  refine(yG h av u (fun z=>kR d av v z=kR d av v y) (fun j hj _=>?_) hz hy e).2 rfl
  by_cases hjk:j/4=k
  ·have bd:=fun i (hi:i<4)=>iL h hk hi
   refine JN (k:=k) (Z:=fun z=>kR d av v z=kR d av v y) (fun i hi=>?_) hjk
   have e2:(bh d (pS u (4*k+i))).toNat=aK d k (pS u (4*k+i)%4):=by
    rw[<-l5 d k (by omega)]
    have:=wm u (4*k+i)
    congr 2
    omega
   rw[e2]
   exact⟨fun e9=>absurd (one _ (by have:=bd i hi;omega) e9) (hf i hi),fun e9=>absurd (one _ (by have:=bd (pS u (4*k+i)%4) (by omega);omega) e9) (hf _ (by omega))⟩
  ·have e1:pS u j=pS v j:=by unfold pS;rw[F _ hjk]
   rw[e1,rX h av v hj rfl]
 refine⟨fun z hz=>⟨two z hz,one z hz⟩,?_⟩
 obtain⟨_,a2,a3⟩:=iW h av u hy
 obtain⟨_,b2,b3⟩:=iW h av v hy
 have e1:=two (kR d av u y) (by omega) a3
 have e2:=one (kR d av v y) (by omega) b3
 obtain⟨_,c2,_⟩:=iW h av v (x:=kR d av u y) (by omega)
 obtain⟨_,d2,_⟩:=iW h av u (x:=kR d av v y) (by omega)
 omega
theorem Fb{P:Nat->Bool}{a:Nat}(h:P a=true):cn P (a+1)=cn P a+1:=by rw[cn,if_pos h]
theorem FB (P : Nat → Bool) {a b : Nat} (hab : a ≤ b) : cn P a ≤ cn P b := by
  induction b with
  | zero => obtain rfl : a = 0 := by omega
            exact Nat.le_refl _
  | succ b ih =>
    by_cases h : a = b + 1
    · rw [h]; exact Nat.le_refl _
    · have := ih (by omega); rw [cn]; omega
theorem ami{P:Nat->Bool}{x y:Nat}(hx:P x=true)(hy:P y=true)(e:cn P x=cn P y):x=y:=by
 have h1:=Fb hx
 have h2:=Fb hy
 rcases Nat.lt_trichotomy x y with h|h|h
 ·have:=FB P (a:=x+1) (b:=y) (by omega);omega
 ·exact h
 ·have:=FB P (a:=y+1) (b:=x) (by omega);omega
theorem amh{P:Nat->Bool}{N r:Nat}(h:r<cn P N):∃x,x<N/\P x=true/\cn P x=r:=by
 induction N with
 |zero=>exact absurd h (Nat.not_lt_zero _)
 |succ N ih=>
  rw[cn]at h
  by_cases hp:P N=true
  ·rw[if_pos hp]at h
   by_cases e:r=cn P N
   ·exact⟨N,by omega,hp,e.symm⟩
   ·obtain⟨x,h1,h2⟩:=ih (by omega)
    exact⟨x,by omega,h2⟩
  ·rw[if_neg hp]at h
   obtain⟨x,h1,h2⟩:=ih (by omega)
   exact⟨x,by omega,h2⟩
def j0(d:Dg)(s x:Nat):Bool:=decide (1<=x)&&decide (kR d av s x=x)
def kM(d:Dg)(s:Nat):Nat:=cn (j0 d s) (2*d.ae.length+1)
def kI(d:Dg)(s x:Nat):Nat:=cn (j0 d s) (kR d av s x)
theorem pJ{d:Dg}(h:Uu d=true)(s:Nat){x:Nat}(h0:1<=x)(hx:x<=2*d.ae.length):1<=kR d av s x/\kR d av s x<=x:=by
 obtain⟨_,a2,a3⟩:=iW h av s (x:=x) (by omega)
 refine⟨?_,a2⟩
 have:=(yG h av s (fun z=>1<=z) (fun j hj _=>by
  have b1:=tL h hj
  have b2:=tL h (FV (s:=s) hj)
  exact⟨fun _=>by omega,fun _=>by omega⟩) (x:=x) (y:=kR d av s x) (by omega) (by omega) a3.symm).1 h0
 exact this
theorem ES{d:Dg}(h:Uu d=true)(s:Nat){x:Nat}(h0:1<=x)(hx:x<=2*d.ae.length):j0 d s (kR d av s x)=true:=by
 obtain⟨p1,p2⟩:=pJ h s h0 hx
 obtain⟨_,_,a3⟩:=iW h av s (x:=x) (by omega)
 unfold j0
 rw[decide_eq_true p1,decide_eq_true a3]
 rfl
theorem jC{d:Dg}(h:Uu d=true)(s:Nat){x:Nat}(h0:1<=x)(hx:x<=2*d.ae.length):kI d s x<kM d s:=by
 have h1:=Fb (ES h s h0 hx)
 have h2:=pJ h s h0 hx
 have h3:=FB (j0 d s) (a:=kR d av s x+1) (b:=2*d.ae.length+1) (by omega)
 unfold kI kM
 omega
theorem nZ{d:Dg}(h:Uu d=true)(s:Nat){x y:Nat}(h0:1<=x)(hx:x<=2*d.ae.length)(g0:1<=y)(hy:y<=2*d.ae.length):kI d s x=kI d s y<->kR d av s x=kR d av s y:=by
 constructor
 ·exact fun e=>ami (ES h s h0 hx) (ES h s g0 hy) e
 ·intro e;unfold kI;rw[e]
theorem ant{d:Dg}(h:Uu d=true)(s:Nat){r:Nat}(hr:r<kM d s):∃x,1<=x/\x<=2*d.ae.length/\kR d av s x=x/\kI d s x=r:=by
 obtain⟨x,h1,h2,h3⟩:=amh hr
 unfold j0 at h2
 rw[Bool.and_eq_true]at h2
 have e:=of_decide_eq_true h2.2
 exact⟨x,of_decide_eq_true h2.1,by omega,e,by unfold kI;rw[e];exact h3⟩
theorem sk{d:Dg}(s:Nat):kM d s<=2*d.ae.length:=by
 have h0:j0 d s 0=false:=rfl
 have:∀m,cn (j0 d s) (m+1)<=m:=by
  intro m
  induction m with
  |zero=>rw[cn,h0];exact Nat.le_refl _
  |succ m ih=>rw[cn];split<;>omega
 exact this _
end Go.Proofs.YthppkofceancjaaGreat
namespace Go.Proofs.YthppkofceancjaaGreat
open Go.RowKit
def bsum(f:Nat->Bool):Nat->Nat
 |0=>0
 |w+1=>bsum f w+(if f w=true then 2^w else 0)
theorem Ff(f:Nat->Bool)(w:Nat):bsum f w<2^w:=by
 induction w with
 |zero=>exact Nat.one_pos
 |succ w ih=>rw[bsum,Nat.pow_succ];split<;>omega
theorem akH(f:Nat->Bool)(w r:Nat):(bsum f w).testBit r=(decide (r<w)&&f r):=by
 induction w with
 |zero=>simp[bsum]
 |succ w ih=>
  rw[bsum]
  have hl:=Ff f w
  split
  ·rename_i hf
   rw[Nat.add_comm]
   rcases Nat.lt_trichotomy r w with h|h|h
   ·rw[Nat.testBit_two_pow_add_gt h,ih,decide_eq_true h,decide_eq_true (show r<w+1 by omega)]
   ·subst h
    rw[Nat.testBit_two_pow_add_eq,ih,decide_eq_false (show¬r<r by omega),decide_eq_true (show r<r+1 by omega),hf]
    rfl
   ·rw[Nat.testBit_lt_two_pow,decide_eq_false (show¬r<w+1 by omega)]
    ·rfl
    ·have:2^(w+1)<=2^r:=Nat.pow_le_pow_right (by decide) (by omega)
     rw[Nat.pow_succ]at this
     omega
  ·rename_i hf
   rw[Nat.add_zero,ih]
   by_cases h:r=w
   ·subst h
    rw[decide_eq_false (show¬r<r by omega),Bool.eq_false_iff.2 hf];simp
   ·by_cases h2:r<w
    ·rw[decide_eq_true h2,decide_eq_true (show r<w+1 by omega)]
    ·rw[decide_eq_false h2,decide_eq_false (show¬r<w+1 by omega)]
def fu(w M:Nat):Nat:=2^w-(M+1)
theorem wB(w M:Nat):fu w M<2^w:=by have:=Nat.two_pow_pos w;unfold fu;omega
theorem yx{w M:Nat}(h:M<2^w):fu w (fu w M)=M:=by unfold fu;omega
theorem ac1{w M:Nat}(h:M<2^w)(r:Nat):(fu w M).testBit r=(decide (r<w)&&!M.testBit r):=Nat.testBit_two_pow_sub_succ h r
theorem aon{w M N:Nat}(hM:M<2^w)(h:∀r,r<w->N.testBit r=!M.testBit r)(hN:N<2^w):N=fu w M:=by
 refine Nat.eq_of_testBit_eq fun r=>?_
 rw[ac1 hM]
 by_cases hr:r<w
 ·rw[decide_eq_true hr,Bool.true_and,h r hr]
 ·rw[decide_eq_false hr,Bool.false_and,Nat.testBit_lt_two_pow]
  exact Nat.lt_of_lt_of_le hN (Nat.pow_le_pow_right (by decide) (by omega))
def dx(d:Dg)(s:Nat):List Nat:=(List.range (2*d.ae.length+1)).filter (j0 d s)
theorem Ju(d:Dg)(s:Nat):(dx d s).length=kM d s:=(qB (j0 d s) _).symm
theorem al4(P:Nat->Bool)(N:Nat):∀{x:Nat},x<N->P x=true->ga ((List.range N).filter P) (cn P x)=x:=by
 induction N with
 |zero=>intro x h;omega
 |succ N ih=>
  intro x hx hp
  rw[List.range_succ,List.filter_append]
  by_cases e:x=N
  ·subst e
   rw[tU _ _ _ (by rw[<-qB];exact Nat.le_refl _),<-qB,Nat.sub_self]
   simp[hp,ga]
  ·have h1:=Fb hp
   have h2:=FB P (a:=x+1) (b:=N) (by omega)
   rw[pE _ _ _ (by rw[<-qB];omega)]
   exact ih (by omega) hp
theorem JX{d:Dg}(h:Uu d=true)(s:Nat){x:Nat}(h0:1<=x)(hx:x<=2*d.ae.length)(hr:kR d av s x=x):ga (dx d s) (kI d s x)=x:=by
 have hp:=ES h s h0 hx
 rw[hr]at hp
 unfold kI
 rw[hr]
 exact al4 _ _ (by omega) hp
def xG(d:Dg)(s t k mk i:Nat):Bool:=decide (ga (dx d t) i≠kR d av t (aK d k 0))&&(decide (ga (dx d t) i≠kR d av t (aK d k 2))&&mk.testBit (kI d s (ga (dx d t) i)))
def tB(d:Dg)(s t k mk:Nat):Nat->Nat
 |0=>mk/2^kM d s*2^kM d t
 |i+1=>if xG d s t k mk i=true then tB d s t k mk i ||| 2^i else tB d s t k mk i
theorem Fj(d:Dg)(s t k mk:Nat):∀i,i<=kM d t->∀r,(tB d s t k mk i).testBit r=if r<kM d t then(decide (r<i)&&xG d s t k mk r)else mk.testBit (r-kM d t+kM d s):=by
 intro i
 induction i with
 |zero=>
  intro _ r
  rw[tB]
  split
  ·rename_i hr
   rw[Nat.mul_comm,Nat.testBit_two_pow_mul,decide_eq_false (show¬r>=kM d t by omega)]
   simp
  ·rename_i hr
   rw[Nat.mul_comm,Nat.testBit_two_pow_mul,decide_eq_true (show r>=kM d t by omega),Bool.true_and,Nat.testBit_div_two_pow]
 |succ i ih=>
  intro hi r
  have ih:=ih (by omega) r
  rw[tB]
  split
  ·rename_i hc
   rw[Nat.testBit_or,ih,Nat.testBit_two_pow]
   by_cases hr:r<kM d t
   ·rw[if_pos hr,if_pos hr]
    by_cases e:i=r
    ·subst e
     rw[decide_eq_true rfl,decide_eq_true (show i<i+1 by omega),hc];simp
    ·rw[decide_eq_false e,Bool.or_false]
     by_cases h2:r<i
     ·rw[decide_eq_true h2,decide_eq_true (show r<i+1 by omega)]
     ·rw[decide_eq_false h2,decide_eq_false (show¬r<i+1 by omega)]
   ·rw[if_neg hr,if_neg hr,decide_eq_false (show¬i=r by omega),Bool.or_false]
  ·rename_i hc
   rw[ih]
   by_cases hr:r<kM d t
   ·rw[if_pos hr,if_pos hr]
    by_cases e:i=r
    ·subst e
     rw[decide_eq_false (show¬i<i by omega),Bool.eq_false_iff.2 hc];simp
    ·by_cases h2:r<i
     ·rw[decide_eq_true h2,decide_eq_true (show r<i+1 by omega)]
     ·rw[decide_eq_false h2,decide_eq_false (show¬r<i+1 by omega)]
   ·rw[if_neg hr,if_neg hr]
def dY(d:Dg)(s t k mk:Nat):List Nat:=
 if kR d av s (aK d k 0)≠kR d av s (aK d k 2)then
  (if mk.testBit (kI d s (aK d k 0))=true/\mk.testBit (kI d s (aK d k 2))=true then[tB d s t k mk (kM d t) ||| 2^kI d t (aK d k 0)]
  else if mk.testBit (kI d s (aK d k 0))=true\/mk.testBit (kI d s (aK d k 2))=true then[tB d s t k mk (kM d t)]else[])
 else if mk.testBit (kI d s (aK d k 0))=true then[tB d s t k mk (kM d t) ||| 2^kI d t (aK d k 0),tB d s t k mk (kM d t) ||| 2^kI d t (aK d k 2)]
 else[tB d s t k mk (kM d t)]
def pd(d:Dg)(L:Nat)(s t k mn:Nat)(x y:Bool):Nat:=bsum (fun r=>if r<kM d t then(if r=kI d t (aK d k 2)then y else if r=kI d t (aK d k 0)then x else mn.testBit (kI d s (ga (dx d t) r)))else mn.testBit (r-kM d t+kM d s)) (kM d t+L)
def vD(d:Dg)(L:Nat)(s t k mn:Nat):List Nat:=
 if kI d s (aK d k 0)≠kI d s (aK d k 2)then
  (if mn.testBit (kI d s (aK d k 0))=true/\mn.testBit (kI d s (aK d k 2))=true then[]
  else[pd d L s t k mn (mn.testBit (kI d s (aK d k 0))||mn.testBit (kI d s (aK d k 2))) (mn.testBit (kI d s (aK d k 0))||mn.testBit (kI d s (aK d k 2)))])
 else if mn.testBit (kI d s (aK d k 0))=true then[pd d L s t k mn true true]
 else[pd d L s t k mn false true,pd d L s t k mn true false]
theorem z8{d:Dg}(h:Uu d=true)(t:Nat){r:Nat}(hr:r<kM d t):1<=ga (dx d t) r/\ga (dx d t) r<=2*d.ae.length/\kR d av t (ga (dx d t) r)=ga (dx d t) r/\kI d t (ga (dx d t) r)=r:=by
 obtain⟨x,h1,h2,h3,h4⟩:=ant h t hr
 have:=JX h t h1 h2 h3
 rw[h4]at this
 rw[this]
 exact⟨h1,h2,h3,h4⟩
theorem I2 {d : Dg} (h : Uu d = true) (hp : iM d = true) {L k s t mk : Nat} (F : uW d k s t) (hm : mk < 2 ^ (kM d s + L)) : dY d s t k mk = (vD d L s t k (fu (kM d s + L) mk)).map (fu (kM d t + L)) ∧ ∀ m ∈ dY d s t k mk, m < 2 ^ (kM d t + L) := by
  have hk := F.k_
  have b0 := iL h hk (i := 0) (by omega)
  have b2 := iL h hk (i := 2) (by omega)
  have i0s := jC h s b0.1 b0.2
  have i2s := jC h s b2.1 b2.2
  have Hx := jC h t b0.1 b0.2
  have i2t := jC h t b2.1 b2.2
  have law := akx h hp F
  obtain ⟨s1, s2, t1, t2⟩ := BA h F
  have cb : ∀ r, r < kM d s + L → (fu (kM d s + L) mk).testBit r = !mk.testBit r := fun r hr => by rw [ac1 hm, decide_eq_true hr, Bool.true_and]
  have vV : tB d s t k mk (kM d t) < 2 ^ (kM d t + L) := by
    refine Nat.lt_pow_two_of_testBit _ fun r hr => ?_
    rw [Fj d s t k mk _ (Nat.le_refl _), if_neg (by omega), Nat.testBit_lt_two_pow]
    exact Nat.lt_of_lt_of_le hm (Nat.pow_le_pow_right (by decide) (by omega))
  have Hr : ∀ i, i < kM d t → 2 ^ i < 2 ^ (kM d t + L) := fun i hi => Nat.pow_lt_pow_right (by decide) (by omega)
  -- the bits of a result
  have key : ∀ (N : Nat) (x y : Bool), N < 2 ^ (kM d t + L) → (kI d t (aK d k 0) = kI d t (aK d k 2) → x = y) →
      (∀ r, r < kM d t → N.testBit r = if r = kI d t (aK d k 2) then !y else if r = kI d t (aK d k 0) then !x else (tB d s t k mk (kM d t)).testBit r) → (∀ r, kM d t ≤ r → N.testBit r = (tB d s t k mk (kM d t)).testBit r) → N = fu (kM d t + L) (pd d L s t k (fu (kM d s + L) mk) x y) := fun N x y hN hxy h1 h2 => by
    refine aon (Ff _ _) (fun r hr => ?_) hN
    unfold pd
    rw [akH, decide_eq_true hr, Bool.true_and]
    by_cases hrt : r < kM d t
    · rw [if_pos hrt, h1 r hrt]
      by_cases e2 : r = kI d t (aK d k 2)
      · rw [if_pos e2, if_pos e2]
      · rw [if_neg e2, if_neg e2]
        by_cases e0 : r = kI d t (aK d k 0)
        · rw [if_pos e0, if_pos e0]
        · rw [if_neg e0, if_neg e0, Fj d s t k mk _ (Nat.le_refl _), if_pos hrt, decide_eq_true hrt, Bool.true_and]
          obtain ⟨g1, g2, g3, g4⟩ := z8 h t hrt
          have n0 : ga (dx d t) r ≠ kR d av t (aK d k 0) := fun e => e0 (by rw [← g4]; unfold kI; rw [g3, e])
          have n2 : ga (dx d t) r ≠ kR d av t (aK d k 2) := fun e => e2 (by rw [← g4]; unfold kI; rw [g3, e])
          have hlt := jC h s g1 g2
          unfold xG
          rw [decide_eq_true n0, decide_eq_true n2, Bool.true_and, Bool.true_and, cb _ (by omega), Bool.not_not]
    · rw [if_neg hrt, h2 r (by omega), Fj d s t k mk _ (Nat.le_refl _), if_neg hrt, cb _ (by omega), Bool.not_not]
  have Bz : ∀ r, r < kM d t → (r = kI d t (aK d k 2) ∨ r = kI d t (aK d k 0)) → (tB d s t k mk (kM d t)).testBit r = false := fun r hr hh => by
    rw [Fj d s t k mk _ (Nat.le_refl _), if_pos hr, decide_eq_true hr, Bool.true_and]
    obtain ⟨g1, g2, g3, g4⟩ := z8 h t hr
    unfold xG
    rcases hh with e | e
    · have : ga (dx d t) r = kR d av t (aK d k 2) := by rw [← g3]; exact (nZ h t g1 g2 b2.1 b2.2).1 (g4.trans e)
      rw [decide_eq_false (p := ga (dx d t) r ≠ kR d av t (aK d k 2)) (fun hn => hn this)]; simp
    · have : ga (dx d t) r = kR d av t (aK d k 0) := by rw [← g3]; exact (nZ h t g1 g2 b0.1 b0.2).1 (g4.trans e)
      rw [decide_eq_false (p := ga (dx d t) r ≠ kR d av t (aK d k 0)) (fun hn => hn this)]; simp
  -- the base alone: both rings have -
  have base : tB d s t k mk (kM d t) = fu (kM d t + L) (pd d L s t k (fu (kM d s + L) mk) true true) := key _ true true vV (fun _ => rfl) (fun r hr => by
    by_cases e2 : r = kI d t (aK d k 2)
    · rw [if_pos e2, Bz r hr (.inl e2)]; rfl
    · rw [if_neg e2]
      by_cases e0 : r = kI d t (aK d k 0)
      · rw [if_pos e0, Bz r hr (.inr e0)]; rfl
      · rw [if_neg e0]) (fun _ _ => rfl)
  have plus : ∀ i, i < kM d t → ∀ x y : Bool, (kI d t (aK d k 0) = kI d t (aK d k 2) → x = y) → (∀ r, r < kM d t → (decide (r = i) || (tB d s t k mk (kM d t)).testBit r) = if r = kI d t (aK d k 2) then !y else if r = kI d t (aK d k 0) then !x else (tB d s t k mk (kM d t)).testBit r) → tB d s t k mk (kM d t) ||| 2 ^ i = fu (kM d t + L) (pd d L s t k (fu (kM d s + L) mk) x y) := fun i hi x y hxy hh => by
    refine key _ x y (Nat.or_lt_two_pow vV (Hr i hi)) hxy (fun r hr => ?_) (fun r hr => ?_)
    · rw [Nat.testBit_or, Nat.testBit_two_pow, ← hh r hr, Bool.or_comm]
      by_cases e : r = i
      · rw [decide_eq_true e, decide_eq_true e.symm]
      · rw [decide_eq_false e, decide_eq_false (fun e9 => e e9.symm)]
    · rw [Nat.testBit_or, Nat.testBit_two_pow, decide_eq_false (show ¬ i = r by omega), Bool.or_false]
  have eqI : kI d s (aK d k 0) = kI d s (aK d k 2) ↔ kR d av s (aK d k 0) = kR d av s (aK d k 2) := nZ h s b0.1 b0.2 b2.1 b2.2
  have eqT : kI d t (aK d k 0) = kI d t (aK d k 2) ↔ kR d av t (aK d k 0) = kR d av t (aK d k 2) := nZ h t b0.1 b0.2 b2.1 b2.2
  have c0 := cb (kI d s (aK d k 0)) (by omega)
  have c2 := cb (kI d s (aK d k 2)) (by omega)
  unfold dY vD
  rw [c0, c2]
  by_cases hs : kR d av s (aK d k 0) = kR d av s (aK d k 2)
  · have hT : kI d t (aK d k 0) ≠ kI d t (aK d k 2) := fun e => law.1 hs (eqT.1 e)
    rw [if_neg (show ¬ kR d av s (aK d k 0) ≠ kR d av s (aK d k 2) from fun hn => hn hs), if_neg (show ¬ kI d s (aK d k 0) ≠ kI d s (aK d k 2) from fun hn => hn (eqI.2 hs))]
    cases mk.testBit (kI d s (aK d k 0)) with
    | true =>
      have p1 := plus (kI d t (aK d k 0)) Hx false true (fun e => absurd e hT) (fun r hr => by
        by_cases e2 : r = kI d t (aK d k 2)
        · rw [if_pos e2, Bz r hr (.inl e2), decide_eq_false (fun e0 => hT (by rw [← e0, e2]))]; rfl
        · rw [if_neg e2]
          by_cases e0 : r = kI d t (aK d k 0)
          · rw [if_pos e0, decide_eq_true e0]; rfl
          · rw [if_neg e0, decide_eq_false e0, Bool.false_or])
      have p2 := plus (kI d t (aK d k 2)) i2t true false (fun e => absurd e hT) (fun r hr => by
        by_cases e2 : r = kI d t (aK d k 2)
        · rw [if_pos e2, decide_eq_true e2]; rfl
        · rw [if_neg e2, decide_eq_false e2, Bool.false_or]
          by_cases e0 : r = kI d t (aK d k 0)
          · rw [if_pos e0, Bz r hr (.inr e0)]; rfl
          · rw [if_neg e0])
      rw [if_pos rfl, if_neg (by decide)]
      refine ⟨?_, fun m hm => ?_⟩
      · rw [List.map_cons, List.map_cons, List.map_nil, ← p1, ← p2]
      · simp only [List.mem_cons, List.not_mem_nil, or_false] at hm
        rcases hm with rfl | rfl
        · exact Nat.or_lt_two_pow vV (Hr _ Hx)
        · exact Nat.or_lt_two_pow vV (Hr _ i2t)
    | false =>
      rw [if_neg (by decide), if_pos (show (!false) = true from rfl)]
      refine ⟨?_, fun m hm => ?_⟩
      · rw [List.map_cons, List.map_nil, ← base]
      · simp only [List.mem_cons, List.not_mem_nil, or_false] at hm
        rw [hm]; exact vV
  · have hT : kI d t (aK d k 0) = kI d t (aK d k 2) := eqT.2 (by
      refine Classical.byContradiction fun hn => hs (law.2 hn))
    have p1 := plus (kI d t (aK d k 0)) Hx false false (fun _ => rfl) (fun r hr => by
      by_cases e2 : r = kI d t (aK d k 2)
      · rw [if_pos e2, decide_eq_true (e2.trans hT.symm)]; rfl
      · rw [if_neg e2, if_neg (by rw [hT]; exact e2), decide_eq_false (by rw [hT]; exact e2), Bool.false_or])
    rw [if_pos hs, if_pos (show kI d s (aK d k 0) ≠ kI d s (aK d k 2) from fun e => hs (eqI.1 e))]
    cases mk.testBit (kI d s (aK d k 0)) <;> cases mk.testBit (kI d s (aK d k 2)) <;> simp only [Bool.not_true, Bool.not_false, Bool.false_eq_true, and_true, and_false, true_and, false_and, or_true, or_false, if_true, if_false, Bool.or_true, Bool.or_false, and_self, or_self, Bool.or_self]
    · exact ⟨rfl, fun m hm => by cases hm⟩
    · exact ⟨by rw [List.map_cons, List.map_nil, ← base], fun m hm => by rw [List.mem_singleton.1 hm]; exact vV⟩
    · exact ⟨by rw [List.map_cons, List.map_nil, ← base], fun m hm => by rw [List.mem_singleton.1 hm]; exact vV⟩
    · exact ⟨by rw [List.map_cons, List.map_nil, ← p1], fun m hm => by rw [List.mem_singleton.1 hm]; exact Nat.or_lt_two_pow vV (Hr _ Hx)⟩
end Go.Proofs.YthppkofceancjaaGreat
namespace Go.Proofs.YthppkofceancjaaGreat
open Go.RowKit
def vx(u v:Nat->Bool):Nat->Bool:=fun i=>u i !=v i
def vz:Nat->Bool:=fun _=>false
theorem Jq(u v:Nat->Bool):vx u v=vx v u:=by funext i;unfold vx;cases u i<;>cases v i<;>rfl
theorem ye(u v w:Nat->Bool):vx (vx u v) w=vx u (vx v w):=by funext i;unfold vx;cases u i<;>cases v i<;>cases w i<;>rfl
theorem Jp(u:Nat->Bool):vx u u=vz:=by funext i;unfold vx vz;cases u i<;>rfl
theorem AL(u:Nat->Bool):vx u vz=u:=by funext i;unfold vx vz;cases u i<;>rfl
theorem aoL(u:Nat->Bool):vx vz u=u:=by rw[Jq,AL]
theorem aci(u v:Nat->Bool):vx (vx u v) v=u:=by rw[ye,Jp,AL]
def comb:List (Nat->Bool)->List Bool->(Nat->Bool)
 |b::B,c::C=>if c=true then vx b (comb B C)else comb B C
 |_,_=>vz
def lx:List Bool->List Bool->List Bool
 |c::C,d::D=>(c !=d)::lx C D
 |_,_=>[]
theorem J8:∀{C D:List Bool},C.length=D.length->(lx C D).length=C.length
 |[],[],_=>rfl
 |c::C,d::D,h=>by simp only[lx,List.length_cons]at h ⊢;rw[J8 (by omega)]
theorem JK:∀{B:List (Nat->Bool)}{C D:List Bool},C.length=B.length->D.length=B.length->comb B (lx C D)=vx (comb B C) (comb B D)
 |[],[],[],_,_=>by rw[show comb [] (lx [] [])=vz from rfl,show comb [] []=vz from rfl,AL]
 |b::B,c::C,d::D,h1,h2=>by
  simp only[List.length_cons]at h1 h2
  have ih:=JK (B:=B) (C:=C) (D:=D) (by omega) (by omega)
  simp only[lx,comb]
  rw[ih]
  cases c<;>cases d
  ·rfl
  ·show vx b (vx (comb B C) (comb B D))=vx (comb B C) (vx b (comb B D))
   rw[<-ye,<-ye,Jq b]
  ·show vx b (vx (comb B C) (comb B D))=vx (vx b (comb B C)) (comb B D)
   rw[ye]
  ·show vx (comb B C) (comb B D)=vx (vx b (comb B C)) (vx b (comb B D))
   rw[Jq b,ye,<-ye b b,Jp,aoL]
theorem EI:∀{B:List (Nat->Bool)}{n:Nat},comb B (List.replicate n false)=vz
 |[],0=>rfl
 |[],_+1=>rfl
 |_::_,0=>rfl
 |b::B,n+1=>by rw[List.replicate_succ];show comb B _=vz;exact EI
def Sp(B:List (Nat->Bool))(v:Nat->Bool):Prop:=∃C,C.length=B.length/\comb B C=v
theorem EW(B:List (Nat->Bool)):Sp B vz:=⟨List.replicate B.length false,List.length_replicate ..,EI⟩
theorem Bh{B:List (Nat->Bool)}{u v:Nat->Bool}(h1:Sp B u)(h2:Sp B v):Sp B (vx u v):=by
 obtain⟨C,l1,rfl⟩:=h1
 obtain⟨D,l2,rfl⟩:=h2
 exact⟨lx C D,by rw[J8 (by omega),l1],JK l1 l2⟩
theorem rI{B:List (Nat->Bool)}{b u:Nat->Bool}(h:Sp B u):Sp (b::B) u:=by
 obtain⟨C,l,rfl⟩:=h
 exact⟨false::C,by simp[l],rfl⟩
theorem gF{B:List (Nat->Bool)}{b:Nat->Bool}(h:b∈B):Sp B b:=by
 induction B with
 |nil=>cases h
 |cons c B ih=>
  rcases List.mem_cons.1 h with rfl|h
  ·refine⟨true::List.replicate B.length false,by simp,?_⟩
   show vx b (comb B _)=b
   rw[EI,AL]
  ·exact rI (ih h)
theorem ack{A B:List (Nat->Bool)}(h:∀a∈A,Sp B a)(C:List Bool):Sp B (comb A C):=by
 induction A generalizing C with
 |nil=>cases C<;>exact EW B
 |cons a A ih=>
  cases C with
  |nil=>exact EW B
  |cons c C=>
   have ih:=ih (fun a ha=>h a (by simp[ha])) C
   simp only[comb]
   split
   ·exact Bh (h a (by simp)) ih
   ·exact ih
theorem Av{A B:List (Nat->Bool)}(h:∀a∈A,Sp B a){v:Nat->Bool}(hv:Sp A v):Sp B v:=by
 obtain⟨C,_,rfl⟩:=hv
 exact ack h C
def om(B:List (Nat->Bool)):Prop:=∀C,C.length=B.length->comb B C=vz->C=List.replicate B.length false
theorem alU{B:List (Nat->Bool)}(h:om B):∀{C D:List Bool},C.length=B.length->D.length=B.length->comb B C=comb B D->C=D:=by
 intro C D l1 l2 e
 have h1:=h (lx C D) (by rw[J8 (by omega),l1]) (by rw[JK l1 l2,e,Jp])
 have key:∀{C D:List Bool}{n:Nat},C.length=n->D.length=n->lx C D=List.replicate n false->C=D:=by
  intro C
  induction C with
  |nil=>intro D n h1 h2 _;simp at h1;subst h1;exact(List.eq_nil_of_length_eq_zero h2).symm
  |cons c C ih=>
   intro D n h1 h2 h3
   cases D with
   |nil=>simp at h1 h2;omega
   |cons d D=>
    cases n with
    |zero=>simp at h1
    |succ n=>
     rw[List.replicate_succ]at h3
     injection h3 with h4 h5
     simp only[List.length_cons]at h1 h2
     rw[ih (by omega) (by omega) h5]
     have:c=d:=by revert h4;cases c<;>cases d<;>simp
     rw[this]
 exact key l1 l2 h1
def allB:Nat->List (List Bool)
 |0=>[[]]
 |n+1=>(allB n).map (false::·)++(allB n).map (true::·)
theorem ab9(n:Nat):(allB n).length=2^n:=by
 induction n with
 |zero=>rfl
 |succ n ih=>rw[allB,List.length_append,List.length_map,List.length_map,ih,Nat.pow_succ];omega
theorem Jj{n:Nat}{C:List Bool}:C∈allB n<->C.length=n:=by
 induction n generalizing C with
 |zero=>simp[allB]
 |succ n ih=>
  rw[allB,List.mem_append,List.mem_map,List.mem_map]
  constructor
  ·rintro(⟨D,hD,rfl⟩|⟨D,hD,rfl⟩)<;>simp[ih.1 hD]
  ·intro h
   cases C with
   |nil=>simp at h
   |cons c C=>
    have hl:C.length=n:=by simpa using h
    cases c
    ·exact .inl ⟨C,ih.2 hl,rfl⟩
    ·exact .inr ⟨C,ih.2 hl,rfl⟩
theorem aiR(n:Nat):(allB n).Nodup:=by
 induction n with
 |zero=>simp[allB]
 |succ n ih=>
  have inj:∀c:Bool,((allB n).map (c::·)).Nodup:=fun c=>by
   rw[List.nodup_iff_pairwise_ne,List.pairwise_map]
   exact List.Pairwise.imp (fun hab e=>hab (by injection e)) ih
  rw[allB,List.nodup_append]
  refine⟨inj false,inj true,?_⟩
  intro x hx y hy e
  obtain⟨u,_,rfl⟩:=List.mem_map.1 hx
  obtain⟨v,_,rfl⟩:=List.mem_map.1 hy
  injection e with e
  cases e
theorem ai9{xs ys:List (List Bool)}(h:xs.Nodup)(hs:∀x∈xs,x∈ys):xs.length<=ys.length:=by
 induction xs generalizing ys with
 |nil=>simp
 |cons x xs ih=>
  rw[List.nodup_cons]at h
  have hx:=hs x (by simp)
  have:=ih (ys:=ys.erase x) h.2 fun y hy=>by
   refine(List.mem_erase_of_ne ?_).2 (hs y (by simp[hy]))
   intro e
   subst e
   exact h.1 hy
  rw[List.length_erase_of_mem hx]at this
  have hp:=List.length_pos_of_mem hx
  rw[List.length_cons]
  omega
theorem anu{A B:List (Nat->Bool)}(h:∀a∈A,Sp B a)(hA:om A):A.length<=B.length:=by
 have hc:∀C:List Bool,∃D:List Bool,D.length=B.length/\comb B D=comb A C:=fun C=>ack h C
 obtain⟨f,hf⟩:∃f:List Bool->List Bool,∀C,(f C).length=B.length/\comb B (f C)=comb A C:=⟨fun C=>(hc C).choose,fun C=>(hc C).choose_spec⟩
 have hnd:((allB A.length).map f).Nodup:=by
  rw[List.nodup_iff_pairwise_ne,List.pairwise_map]
  refine List.Pairwise.imp_of_mem (fun{C D} hC hD hne e=>hne ?_) (aiR A.length)
  refine alU hA (Jj.1 hC) (Jj.1 hD) ?_
  rw[<-(hf C).2,<-(hf D).2,e]
 have h1:=ai9 hnd (ys:=allB B.length) fun x hx=>by
  obtain⟨C,_,rfl⟩:=List.mem_map.1 hx
  exact Jj.2 (hf C).1
 rw[List.length_map,ab9,ab9]at h1
 exact(Nat.pow_le_pow_iff_right (by decide)).1 h1
theorem Jf{l:Nat}:∀{B:List (Nat->Bool)}{C:List Bool},(∀b∈B,b l=false)->comb B C l=false
 |[],_,_=>by cases ‹List Bool›<;>rfl
 |b::B,[],_=>rfl
 |b::B,c::C,h=>by
  have ih:=Jf (B:=B) (C:=C) fun x hx=>h x (by simp[hx])
  simp only[comb]
  split
  ·show(b l !=comb B C l)=false
   rw[h b (by simp),ih];rfl
  ·exact ih
theorem acH:om []:=fun C h _=>by rw[List.eq_nil_of_length_eq_zero h];rfl
theorem akq{B:List (Nat->Bool)}{b:Nat->Bool}{l:Nat}(hb:b l=true)(hB:∀x∈B,x l=false)(h:om B):om (b::B):=by
 intro C hl hz
 cases C with
 |nil=>simp at hl
 |cons c C=>
  simp only[List.length_cons]at hl
  have hc:c=false:=by
   cases c with
   |false=>rfl
   |true=>
    have h1:comb (b::B) (true::C) l=false:=by rw[hz];rfl
    have h2:comb (b::B) (true::C) l=(b l !=comb B C l):=rfl
    rw[h2,hb,Jf hB]at h1
    cases h1
  subst hc
  have h3:=h C (by omega) hz
  rw[h3,List.length_cons,List.replicate_succ]
def eB(A B:List (Nat->Bool)):Prop:=(∀a∈A,Sp B a)/\∀b∈B,Sp A b
theorem eB.refl(A:List (Nat->Bool)):eB A A:=⟨fun _ h=>gF h,fun _ h=>gF h⟩
theorem eB.trans{A B C:List (Nat->Bool)}(h1:eB A B)(h2:eB B C):eB A C:=⟨fun a ha=>Av h2.1 (h1.1 a ha),fun c hc=>Av h1.2 (h2.2 c hc)⟩
theorem eB.symm{A B:List (Nat->Bool)}(h:eB A B):eB B A:=⟨h.2,h.1⟩
def pull(f:Nat->Nat)(v:Nat->Bool):Nat->Bool:=fun i=>v (f i)
theorem abg(f:Nat->Nat):∀(B:List (Nat->Bool)) (C:List Bool),comb (B.map (pull f)) C=pull f (comb B C)
 |[],C=>by cases C<;>rfl
 |b::B,[]=>rfl
 |b::B,c::C=>by
  simp only[List.map_cons,comb]
  rw[abg f B C]
  split<;>rfl
theorem akZ{f:Nat->Nat}{B:List (Nat->Bool)}{v:Nat->Bool}(h:Sp B v):Sp (B.map (pull f)) (pull f v):=by
 obtain⟨C,l,rfl⟩:=h
 exact⟨C,by rw[List.length_map];exact l,abg f B C⟩
theorem aj1{f g:Nat->Nat}{R1 R2 B1 B2:List (Nat->Bool)}(h1:eB B1 R1)(i1:om B1)(h2:eB B2 R2)(i2:om B2)(hf:∀r∈R1,Sp (R2.map (pull f)) r)(hg:∀r∈R2,Sp (R1.map (pull g)) r):B1.length=B2.length:=by
 have key:∀{f:Nat->Nat}{R1 R2 B1 B2:List (Nat->Bool)},eB B1 R1->om B1->eB B2 R2->(∀r∈R1,Sp (R2.map (pull f)) r)->B1.length<=B2.length:=by
  intro f R1 R2 B1 B2 h1 i1 h2 hf
  have:=anu (A:=B1) (B:=B2.map (pull f)) (fun a ha=>by
   refine Av (fun r hr=>?_) (h1.1 a ha)
   refine Av (fun x hx=>?_) (hf r hr)
   obtain⟨y,hy,rfl⟩:=List.mem_map.1 hx
   exact akZ (h2.2 y hy)) i1
  rwa [List.length_map]at this
 exact Nat.le_antisymm (key h1 i1 h2 hf) (key h2 i2 h1 hg)
end Go.Proofs.YthppkofceancjaaGreat
namespace Go.Proofs.YthppkofceancjaaGreat
open Go.RowKit
def Ld(v:Nat->Bool)(l:Nat):Prop:=v l=true/\∀j,j<l->v j=false
structure Ih(B:List (Nat×(Nat->Bool))):Prop where
 ld:∀p∈B,Ld p.2 p.1
 nd:(B.map Prod.fst).Nodup
theorem apg{u v:Nat->Bool}{l l':Nat}(h1:Ld u l)(h2:Ld v l')(h:l≠l'):Ld (vx u v) (min l l'):=by
 unfold Ld vx
 rcases Nat.lt_or_gt_of_ne h with h3|h3
 ·rw[Nat.min_eq_left (by omega)]
  refine⟨by rw[h1.1,h2.2 l h3];rfl,fun j hj=>by rw[h1.2 j hj,h2.2 j (by omega)];rfl⟩
 ·rw[Nat.min_eq_right (by omega)]
  refine⟨by rw[h2.1,h1.2 l' h3];rfl,fun j hj=>by rw[h2.2 j hj,h1.2 j (by omega)];rfl⟩
theorem aj9:∀{B:List (Nat×(Nat->Bool))}{C:List Bool},Ih B->C.length=B.length->(C=List.replicate B.length false)\/∃l,l∈B.map Prod.fst/\Ld (comb (B.map Prod.snd) C) l:=by
 intro B
 induction B with
 |nil=>intro C _ h;exact .inl (by rw[List.eq_nil_of_length_eq_zero h];rfl)
 |cons p B ih=>
  intro C hp hl
  cases C with
  |nil=>simp at hl
  |cons c C=>
   simp only[List.length_cons]at hl
   have hp2:Ih B:=⟨fun q hq=>hp.ld q (by simp[hq]),(List.nodup_cons.1 hp.nd).2⟩
   have ih:=ih (C:=C) hp2 (by omega)
   cases c with
   |false=>
    rcases ih with h|⟨l,h1,h2⟩
    ·left;rw[h,List.length_cons,List.replicate_succ]
    ·exact .inr ⟨l,by simp only[List.map_cons,List.mem_cons];exact .inr h1,h2⟩
   |true=>
    right
    have hp0:=hp.ld p (by simp)
    rcases ih with h|⟨l,h1,h2⟩
    ·refine⟨p.1,by simp,?_⟩
     show Ld (vx p.2 (comb (B.map Prod.snd) C)) p.1
     rw[h,show B.length=(B.map Prod.snd).length by rw[List.length_map],EI,AL]
     exact hp0
    ·have hne:p.1≠l:=fun e=>(List.nodup_cons.1 hp.nd).1 (by rw[e];exact h1)
     have h3:=apg hp0 h2 hne
     refine⟨min p.1 l,?_,h3⟩
     simp only[List.map_cons,List.mem_cons]
     rcases Nat.lt_or_gt_of_ne hne with h4|h4
     ·left;rw[Nat.min_eq_left (by omega)]
     ·right;rw[Nat.min_eq_right (by omega)];exact h1
theorem alm{B:List (Nat×(Nat->Bool))}(h:Ih B):om (B.map Prod.snd):=by
 intro C hl hz
 rw[List.length_map]at hl ⊢
 rcases aj9 h hl with h1|⟨l,_,h2⟩
 ·exact h1
 ·have:=h2.1
  rw[hz]at this
  cases this
theorem alR{u v:Nat->Bool}{l:Nat}(h1:Ld u l)(h2:Ld v l):∀j,j<=l->vx u v j=false:=by
 intro j hj
 unfold vx
 by_cases e:j=l
 ·subst e;rw[h1.1,h2.1];rfl
 ·rw[h1.2 j (by omega),h2.2 j (by omega)];rfl
def vL(r:List Bool):Nat->Bool:=fun i=>ga r i
def ku(r q:List Bool):List Bool:=List.zipWith (fun a b=>a !=b) r q
def jD(r:List Bool):Option Nat:=r.findIdx? id
def rkD:Nat->List (List Bool)->Nat
 |_,[]=>0
 |0,_=>0
 |f+1,r::R=>match jD r with
  |none=>rkD f R
  |some l=>1+rkD f (R.map fun q=>if ga q l=true then ku q r else q)
theorem Al{r q:List Bool}(h:r.length=q.length):(ku r q).length=r.length:=by unfold ku;rw[List.length_zipWith];omega
theorem Ak{r:List Bool}{i:Nat}(h:r.length<=i):ga r i=false:=by
 show r.getD i default=false
 rw[List.getD_eq_getElem?_getD,List.getElem?_eq_none h]
 rfl
theorem Jm{r q:List Bool}(h:r.length=q.length)(i:Nat):ga (ku r q) i=(ga r i !=ga q i):=by
 by_cases hi:i<r.length
 ·rw[bV (by rw[Al h];exact hi),bV hi,bV (by omega)]
  unfold ku
  rw[List.getElem_zipWith]
 ·rw[Ak (by rw[Al h];omega),Ak (r:=r) (by omega),Ak (r:=q) (by omega)]
  rfl
theorem adg{r q:List Bool}(h:r.length=q.length):vL (ku r q)=vx (vL r) (vL q):=by
 funext i
 exact Jm h i
theorem aiK{r:List Bool}(h:jD r=none):vL r=vz:=by
 funext i
 unfold vL
 by_cases hi:i<r.length
 ·rw[bV hi]
  have:=List.findIdx?_eq_none_iff.1 h r[i] (List.getElem_mem _)
  simpa[vz]using this
 ·rw[Ak (by omega)];rfl
theorem aau{r:List Bool}{l:Nat}(h:jD r=some l):l<r.length/\ga r l=true:=by
 unfold jD at h
 rw[List.findIdx?_eq_some_iff_getElem]at h
 obtain⟨h1,h2,_⟩:=h
 exact⟨h1,by rw[bV h1];exact h2⟩
theorem ak0{B:List (Nat->Bool)}{l:Nat}(hB:∀b∈B,b l=false){v:Nat->Bool}(h:Sp B v):v l=false:=by
 obtain⟨C,_,rfl⟩:=h
 exact Jf hB
theorem aiZ(N:Nat):∀(f:Nat) (R:List (List Bool)),R.length<=f->(∀r∈R,r.length=N)->∃B,B.length=rkD f R/\om B/\eB B (R.map vL):=by
 intro f
 induction f with
 |zero=>
  intro R hR _
  obtain rfl:R=[]:=List.eq_nil_of_length_eq_zero (by omega)
  exact⟨[],rfl,acH,eB.refl _⟩
 |succ f ih=>
  intro R hR hN
  cases R with
  |nil=>exact⟨[],rfl,acH,eB.refl _⟩
  |cons r R=>
   have hr:=hN r (by simp)
   cases hl:jD r with
   |none=>
    obtain⟨B,b1,b2,b3⟩:=ih R (by simpa using hR) (fun q hq=>hN q (by simp[hq]))
    refine⟨B,by rw[b1,rkD,hl],b2,?_⟩
    refine b3.trans ⟨fun a ha=>?_,fun b hb=>?_⟩
    ·rw[List.map_cons];exact rI (gF ha)
    ·rw[List.map_cons,List.mem_cons]at hb
     rcases hb with rfl|hb
     ·rw[aiK hl];exact EW _
     ·exact gF hb
   |some l=>
    obtain⟨l1,l2⟩:=aau hl
    have hz:∀q∈R.map (fun q=>if ga q l=true then ku q r else q),vL q l=false:=fun q hq=>by
     obtain⟨q0,hq0,rfl⟩:=List.mem_map.1 hq
     have Du:=hN q0 (by simp[hq0])
     unfold vL
     split
     ·rename_i h;rw[Jm (by omega),h,l2];rfl
     ·rename_i h;simpa using h
    obtain⟨B,b1,b2,b3⟩:=ih (R.map fun q=>if ga q l=true then ku q r else q) (by rw[List.length_map];simpa using hR) (fun q hq=>by
     obtain⟨q0,hq0,rfl⟩:=List.mem_map.1 hq
     have Du:=hN q0 (by simp[hq0])
     split
     ·rw[Al (by omega)];exact Du
     ·exact Du)
    refine⟨vL r::B,?_,?_,?_⟩
    ·rw[List.length_cons,b1,rkD,hl];simp only;omega
    ·refine akq (l:=l) l2 (fun b hb=>?_) b2
     refine ak0 (fun a ha=>?_) (b3.1 b hb)
     obtain⟨q,hq,rfl⟩:=List.mem_map.1 ha
     exact hz q hq
    ·have e1:eB (vL r::B) (vL r::(R.map fun q=>if ga q l=true then ku q r else q).map vL):=⟨fun a ha=>by
      rcases List.mem_cons.1 ha with rfl|ha
      ·exact gF (by simp)
      ·exact rI (b3.1 a ha),fun b hb=>by
      rcases List.mem_cons.1 hb with rfl|hb
      ·exact gF (by simp)
      ·exact rI (b3.2 b hb)⟩
     refine e1.trans ⟨fun a ha=>?_,fun b hb=>?_⟩
     ·rcases List.mem_cons.1 ha with rfl|ha
      ·exact gF (by simp)
      ·obtain⟨q,hq,rfl⟩:=List.mem_map.1 ha
       obtain⟨q0,hq0,rfl⟩:=List.mem_map.1 hq
       have Du:=hN q0 (by simp[hq0])
       have m0:Sp ((r::R).map vL) (vL q0):=gF (List.mem_map.2 ⟨q0,by simp[hq0],rfl⟩)
       have mr:Sp ((r::R).map vL) (vL r):=gF (List.mem_map.2 ⟨r,by simp,rfl⟩)
       split
       ·rw[adg (by omega)];exact Bh m0 mr
       ·exact m0
     ·obtain⟨q0,hq0,rfl⟩:=List.mem_map.1 hb
      rcases List.mem_cons.1 hq0 with rfl|hq0
      ·exact gF (by simp)
      ·have Du:=hN q0 (by simp[hq0])
       have mr:Sp (vL r::(R.map fun q=>if ga q l=true then ku q r else q).map vL) (vL r):=gF (by simp)
       have m1:Sp (vL r::(R.map fun q=>if ga q l=true then ku q r else q).map vL) (vL (if ga q0 l=true then ku q0 r else q0)):=gF (List.mem_cons_of_mem _ (List.mem_map.2 ⟨_,List.mem_map.2 ⟨q0,hq0,rfl⟩,rfl⟩))
       by_cases hg:ga q0 l=true
       ·rw[if_pos hg,adg (by omega)]at m1
        have:=Bh m1 mr
        rwa [aci]at this
       ·rw[if_neg hg]at m1
        exact m1
def dm:Nat->Nat->Nat
 |0,_=>0
 |w+1,M=>M%2+dm w (M/2)
theorem aaU:∀{w M:Nat},M<2^w->dm w (fu w M)+dm w M=w
 |0,_,_=>rfl
 |w+1,M,h=>by
  rw[Nat.pow_succ]at h
  have ih:=aaU (w:=w) (M:=M/2) (by omega)
  have h2:=Nat.two_pow_pos w
  have e1:fu (w+1) M%2+M%2=1:=by unfold fu;rw[Nat.pow_succ];omega
  have e2:fu (w+1) M/2=fu w (M/2):=by unfold fu;rw[Nat.pow_succ];omega
  rw[dm,dm,e2]
  omega
theorem D5:∀{w v M:Nat},M<2^w->w<=v->dm v M=dm w M
 |0,v,M,h,_=>by
  obtain rfl:M=0:=by simpa using h
  induction v with
  |zero=>rfl
  |succ v ih=>show 0%2+dm v (0/2)=0;rw[show 0/2=0 from rfl,ih (by omega)];rfl
 |w+1,0,M,_,h=>by omega
 |w+1,v+1,M,h,hv=>by
  rw[Nat.pow_succ]at h
  rw[dm,dm,D5 (w:=w) (v:=v) (by omega) (by omega)]
section
variable (d : Dg) (L : Nat)
def aT(s:Nat):Nat:=kM d s+L
def offK:Nat->Nat
 |0=>0
 |s+1=>offK s+2^aT d L s
theorem rH{s t:Nat}(h:s<t):offK d L s+2^aT d L s<=offK d L t:=by
 induction t with
 |zero=>omega
 |succ t ih=>
  rw[offK]
  by_cases e:s=t
  ·subst e;exact Nat.le_refl _
  ·exact Nat.le_trans (ih (by omega)) (Nat.le_add_right _ _)
theorem akb{s t m m':Nat}(hm:m<2^aT d L s)(hm':m'<2^aT d L t)(e:offK d L s+m=offK d L t+m'):s=t/\m=m':=by
 rcases Nat.lt_trichotomy s t with h|h|h
 ·have:=rH d L h;omega
 ·subst h;exact⟨rfl,by omega⟩
 ·have:=rH d L h;omega
open Classical in
noncomputable def kB(K i:Nat):Nat:=if h:∃p:Nat×Nat,p.1<K/\p.2<2^aT d L p.1/\i=offK d L p.1+p.2 then offK d L h.choose.1+fu (aT d L h.choose.1) h.choose.2 else i
theorem JT{K s m:Nat}(hs:s<K)(hm:m<2^aT d L s):kB d L K (offK d L s+m)=offK d L s+fu (aT d L s) m:=by
 have hx:∃p:Nat×Nat,p.1<K/\p.2<2^aT d L p.1/\offK d L s+m=offK d L p.1+p.2:=⟨(s,m),hs,hm,rfl⟩
 unfold kB
 rw[dif_pos hx]
 obtain⟨_,h2,h3⟩:=hx.choose_spec
 obtain⟨e1,e2⟩:=akb d L hm h2 h3
 rw[<-e1,<-e2]
theorem JS(K i:Nat):kB d L K (kB d L K i)=i:=by
 by_cases hx:∃p:Nat×Nat,p.1<K/\p.2<2^aT d L p.1/\i=offK d L p.1+p.2
 ·obtain⟨⟨s,m⟩,h1,h2,rfl⟩:=hx
  dsimp only at h1 h2 ⊢
  rw[JT d L h1 h2,JT d L h1 (wB _ _),yx h2]
 ·have e:kB d L K i=i:=by unfold kB;rw[dif_neg hx]
  rw[e,e]
def qg(s mk:Nat):List Nat:=(List.range d.ae.length).flatMap fun k=>if aD s k=1 then[]else(dY d s (s+2^k) k mk).map (offK d L (s+2^k)+·)
def l8(s mn:Nat):List Nat:=(List.range d.ae.length).flatMap fun k=>if aD s k=1 then[]else(vD d L s (s+2^k) k mn).map (offK d L (s+2^k)+·)
def iF(l:List Nat):Nat->Bool:=fun i=>decide (l.count i%2=1)
theorem rL(s k:Nat):(aD s k=1)<->s.testBit k=true:=by
 unfold aD
 rw[Nat.testBit_eq_decide_div_mod_eq,decide_eq_true_iff]
theorem AX{s k:Nat}(hk:k<d.ae.length)(h:aD s k=0):uW d k s (s+2^k):=by
 have hb:s.testBit k=false:=by
  cases e:s.testBit k with
  |false=>rfl
  |true=>rw[(rL s k).2 e]at h;cases h
 have ht:∀c,(s+2^k).testBit c=(if c=k then true else s.testBit c):=fun c=>by
  have e:s+2^k=s ||| 2^k:=by
   refine Nat.eq_of_testBit_eq fun i=>?_
   rw[Nat.testBit_or,Nat.testBit_two_pow,Nat.add_comm]
   rcases Nat.lt_trichotomy i k with h1|h1|h1
   ·rw[Nat.testBit_two_pow_add_gt h1,decide_eq_false (show¬k=i by omega),Bool.or_false]
   ·subst h1;rw[Nat.testBit_two_pow_add_eq,hb,decide_eq_true rfl];rfl
   ·rw[decide_eq_false (show¬k=i by omega),Bool.or_false]
    -- no carry
    have h0:s/2^k%2=0:=h
    rw[Nat.testBit_eq_decide_div_mod_eq,Nat.testBit_eq_decide_div_mod_eq]
    have hp:=Nat.two_pow_pos k
    have e1:(2^k+s)/2^(k+1)=s/2^(k+1):=by
     rw[Nat.pow_succ,<-Nat.div_div_eq_div_mul,<-Nat.div_div_eq_div_mul,Nat.add_div_left _ hp]
     omega
    have e2:∀x,x/2^i=x/2^(k+1)/2^(i-(k+1)):=fun x=>by
     rw[Nat.div_div_eq_div_mul,<-Nat.pow_add,show k+1+(i-(k+1))=i by omega]
    rw[e2 (2^k+s),e2 s,e1]
  rw[e,Nat.testBit_or,Nat.testBit_two_pow]
  by_cases hc:c=k
  ·rw[if_pos hc,decide_eq_true hc.symm,Bool.or_true]
  ·rw[if_neg hc,decide_eq_false (fun e=>hc e.symm),Bool.or_false]
 have cv:∀a b c e,(a.testBit c=b.testBit e)->aD a c=aD b e:=fun a b c e hh=>by
  have l1:=jS a c
  have l2:=jS b e
  have h1:=rL a c
  have h2:=rL b e
  rw[hh,<-h2]at h1
  omega
 exact⟨hk,h,(rL _ k).2 (by rw[ht,if_pos rfl]),fun c hc=>cv _ _ _ _ (by rw[ht,if_neg hc])⟩
theorem aaw{α β:Type}{l:List α}{f g:α->List β}(h:∀x∈l,f x=g x):l.flatMap f=l.flatMap g:=by
 induction l with
 |nil=>rfl
 |cons x l ih=>rw[List.flatMap_cons,List.flatMap_cons,h x (by simp),ih fun y hy=>h y (by simp[hy])]
theorem adk{d:Dg}{L:Nat}(h:Uu d=true)(hp:iM d=true){K s mk:Nat}(hK:∀k,k<d.ae.length->aD s k=0->s+2^k<K)(hm:mk<2^aT d L s):qg d L s mk=(l8 d L s (fu (aT d L s) mk)).map (kB d L K):=by
 unfold qg l8
 rw[List.map_flatMap]
 refine aaw fun k hk=>?_
 have hk:=List.mem_range.1 hk
 by_cases hb:aD s k=1
 ·rw[if_pos hb,if_pos hb];rfl
 ·have hb0:aD s k=0:=by have:=jS s k;omega
  rw[if_neg hb,if_neg hb]
  have F:=AX d hk hb0
  obtain⟨t1,t2⟩:=I2 h hp (L:=L) F hm
  rw[t1,List.map_map,List.map_map]
  refine List.map_congr_left fun m hm'=>?_
  have hlt:m<2^aT d L (s+2^k):=by
   unfold vD at hm'
   have bs:∀x y,pd d L s (s+2^k) k (fu (aT d L s) mk) x y<2^aT d L (s+2^k):=fun x y=>Ff _ _
   split at hm'
   ·split at hm'
    ·cases hm'
    ·rw[List.mem_singleton.1 hm'];exact bs _ _
   ·split at hm'
    ·rw[List.mem_singleton.1 hm'];exact bs _ _
    ·simp only[List.mem_cons,List.not_mem_nil,or_false]at hm'
     rcases hm' with rfl|rfl
     ·exact bs _ _
     ·exact bs _ _
  show offK d L (s+2^k)+fu (kM d (s+2^k)+L) m=kB d L K (offK d L (s+2^k)+m)
  rw[JT d L (hK k hk hb0) hlt]
  rfl
theorem aex(K:Nat)(l:List Nat):iF (l.map (kB d L K))=pull (kB d L K) (iF l):=by
 funext i
 unfold iF pull
 congr 2
 have:(l.map (kB d L K)).count i=l.count (kB d L K i):=by
  induction l with
  |nil=>rfl
  |cons x l ih=>
   rw[List.map_cons,List.count_cons,List.count_cons,ih]
   congr 1
   by_cases e:x=kB d L K i
   ·rw[if_pos (by rw[e,JS];simp),if_pos (by simp[e])]
   ·rw[if_neg (by
     intro h9
     have h8:kB d L K x=i:=by simpa using h9
     exact e (by rw[<-h8,JS])),if_neg (by simpa using e)]
 rw[this]
end
end Go.Proofs.YthppkofceancjaaGreat
namespace Go.Proofs.YthppkofceancjaaGreat
open Go.RowKit
section
variable (d : Dg) (L : Nat)
def mR:Nat:=cn (fun c=>(ga d.ae c).plus) d.ae.length
def gV(s mk:Nat):Int×Int:=((dm 64 s:Int) -((d.ae.length:Int) -mR d),2*(dm 64 mk:Int) -(aT d L s:Int)+dm 64 s+mR d-2*((d.ae.length:Int) -mR d))
def ml(s mn:Nat):Int×Int:=((dm 64 s:Int) -((d.ae.length:Int) -mR d),(aT d L s:Int) -2*dm 64 mn+dm 64 s+mR d-2*((d.ae.length:Int) -mR d))
theorem Fy{s mk:Nat}(hm:mk<2^aT d L s)(hw:aT d L s<=64):ml d L s (fu (aT d L s) mk)=gV d L s mk:=by
 have h1:=aaU hm
 have h2:=D5 hm hw
 have h3:=D5 (wB (aT d L s) mk) hw
 unfold gV ml
 rw[h2,h3]
 refine Prod.ext rfl ?_
 show _=_
 omega
def allM(K:Nat):List (Nat×Nat):=(List.range K).flatMap fun s=>(List.range (2^aT d L s)).map fun m=>(s,m)
theorem tK{K:Nat}{p:Nat×Nat}:p∈allM d L K<->p.1<K/\p.2<2^aT d L p.1:=by
 unfold allM
 rw[List.mem_flatMap]
 constructor
 ·rintro⟨s,hs,hp⟩
  obtain⟨m,hm,rfl⟩:=List.mem_map.1 hp
  exact⟨List.mem_range.1 hs,List.mem_range.1 hm⟩
 ·rintro⟨h1,h2⟩
  exact⟨p.1,List.mem_range.2 h1,List.mem_map.2 ⟨p.2,List.mem_range.2 h2,rfl⟩⟩
theorem EK(K:Nat):allM d L (K+1)=allM d L K++(List.range (2^aT d L K)).map fun m=>(K,m):=by
 unfold allM
 rw[List.range_succ,List.flatMap_append,List.flatMap_cons,List.flatMap_nil,List.append_nil]
theorem lC(K:Nat):(allM d L K).length=offK d L K:=by
 induction K with
 |zero=>rfl
 |succ K ih=>rw[EK,List.length_append,ih,List.length_map,List.length_range];rfl
theorem IJ(K:Nat):(allM d L K).Nodup:=by
 induction K with
 |zero=>exact List.nodup_nil
 |succ K ih=>
  rw[EK,List.nodup_append]
  refine⟨ih,?_,?_⟩
  ·rw[List.nodup_iff_pairwise_ne,List.pairwise_map]
   exact List.Pairwise.imp (fun hab e=>hab (congrArg Prod.snd e)) List.nodup_range
  ·intro p hp q hq e
   obtain⟨m,_,rfl⟩:=List.mem_map.1 hq
   have:=((tK d L).1 hp).1
   rw[e]at this
   omega
theorem Be{K s m:Nat}(hs:s<K)(hm:m<2^aT d L s):ga (allM d L K) (offK d L s+m)=(s,m):=by
 induction K with
 |zero=>omega
 |succ K ih=>
  rw[EK]
  by_cases e:s=K
  ·subst e
   rw[tU _ _ _ (by rw[lC];omega),lC,show offK d L s+m-offK d L s=m by omega,kH _ _ _ (by rw[List.length_range];exact hm),bV (by rw[List.length_range];exact hm),List.getElem_range]
  ·have:=rH d L (s:=s) (t:=K) (by omega)
   rw[pE _ _ _ (by rw[lC];omega)]
   exact ih (by omega)
def j6(K:Nat)(g:Int×Int):List (Nat×Nat):=(allM d L K).filter fun p=>decide (gV d L p.1 p.2=g)
def lj(K:Nat)(g:Int×Int):List (Nat×Nat):=(allM d L K).filter fun p=>decide (ml d L p.1 p.2=g)
def s7(p:Nat×Nat):Nat×Nat:=(p.1,fu (aT d L p.1) p.2)
theorem aaV{xs ys:List (Nat×Nat)}(h:xs.Nodup)(hs:∀x∈xs,x∈ys):xs.length<=ys.length:=by
 induction xs generalizing ys with
 |nil=>simp
 |cons x xs ih=>
  rw[List.nodup_cons]at h
  have hx:=hs x (by simp)
  have:=ih (ys:=ys.erase x) h.2 fun y hy=>by
   refine(List.mem_erase_of_ne ?_).2 (hs y (by simp[hy]))
   intro e
   subst e
   exact h.1 hy
  rw[List.length_erase_of_mem hx]at this
  have hp:=List.length_pos_of_mem hx
  rw[List.length_cons]
  omega
theorem FZ{K:Nat}{g:Int×Int}(hw:∀s,aT d L s<=64){p:Nat×Nat}(hp:p.1<K/\p.2<2^aT d L p.1):(p∈j6 d L K g<->s7 d L p∈lj d L K g)/\(p∈lj d L K g<->s7 d L p∈j6 d L K g):=by
 have hc:=wB (aT d L p.1) p.2
 have e1:=Fy d L hp.2 (hw _)
 have e2:=Fy d L hc (hw _)
 rw[yx hp.2]at e2
 have m1:∀f:Nat×Nat->Bool,p∈(allM d L K).filter f<->f p=true:=fun f=>by rw[List.mem_filter];exact⟨fun h=>h.2,fun h=>⟨(tK d L).2 hp,h⟩⟩
 have m2:∀f:Nat×Nat->Bool,s7 d L p∈(allM d L K).filter f<->f (s7 d L p)=true:=fun f=>by rw[List.mem_filter];exact⟨fun h=>h.2,fun h=>⟨(tK d L).2 ⟨hp.1,hc⟩,h⟩⟩
 unfold j6 lj
 rw[m1,m2,m1,m2]
 simp only[decide_eq_true_iff]
 unfold s7
 exact⟨by rw[e1],by rw[e2]⟩
theorem an8{K:Nat}{g:Int×Int}(hw:∀s,aT d L s<=64):(j6 d L K g).length=(lj d L K g).length:=by
 have inj:∀l:List (Nat×Nat),l.Nodup->(∀p∈l,p.1<K/\p.2<2^aT d L p.1)->(l.map (s7 d L)).Nodup:=fun l hn hl=>by
  rw[List.nodup_iff_pairwise_ne,List.pairwise_map]
  refine List.Pairwise.imp_of_mem (fun{a b} ha hb hab e=>hab ?_) hn
  have h1:=congrArg Prod.fst e
  have h2:=congrArg Prod.snd e
  unfold s7 at h1 h2
  dsimp only at h1 h2
  have h3:a.2=b.2:=by
   rw[<-yx (hl a ha).2,<-yx (hl b hb).2,h2,h1]
  exact Prod.ext h1 h3
 have hP:∀p∈j6 d L K g,p.1<K/\p.2<2^aT d L p.1:=fun p hp=>(tK d L).1 (List.mem_filter.1 hp).1
 have hD:∀p∈lj d L K g,p.1<K/\p.2<2^aT d L p.1:=fun p hp=>(tK d L).1 (List.mem_filter.1 hp).1
 have l1:=aaV (inj _ ((IJ d L K).filter _) hP) (ys:=lj d L K g) fun x hx=>by
  obtain⟨p,hp,rfl⟩:=List.mem_map.1 hx
  exact((FZ d L hw (hP p hp)).1).1 hp
 have l2:=aaV (inj _ ((IJ d L K).filter _) hD) (ys:=j6 d L K g) fun x hx=>by
  obtain⟨p,hp,rfl⟩:=List.mem_map.1 hx
  exact((FZ d L hw (hD p hp)).2).1 hp
 rw[List.length_map]at l1 l2
 exact Nat.le_antisymm l1 l2
def mI(N:Nat)(l:List Nat):List Bool:=(List.range N).map (iF l)
def Dk(K:Nat)(g:Int×Int):Nat:=rkD (lj d L K g).length ((lj d L K g).map fun p=>mI (offK d L K) (l8 d L p.1 p.2))
end
theorem amY{N:Nat}{l:List Nat}(h:∀x∈l,x<N):vL (mI N l)=iF l:=by
 funext i
 unfold vL mI
 by_cases hi:i<N
 ·rw[kH _ _ _ (by rw[List.length_range];exact hi),bV (by rw[List.length_range];exact hi),List.getElem_range]
 ·rw[Ak (by rw[List.length_map,List.length_range];omega)]
  unfold iF
  rw[List.count_eq_zero.2 (fun hm=>hi (h i hm))]
  rfl
theorem aeO(d:Dg)(L s t k mn:Nat):∀m∈vD d L s t k mn,m<2^aT d L t:=fun m hm'=>by
 unfold vD at hm'
 have bs:∀x y,pd d L s t k mn x y<2^aT d L t:=fun x y=>Ff _ _
 split at hm'
 ·split at hm'
  ·cases hm'
  ·rw[List.mem_singleton.1 hm'];exact bs _ _
 ·split at hm'
  ·rw[List.mem_singleton.1 hm'];exact bs _ _
  ·simp only[List.mem_cons,List.not_mem_nil,or_false]at hm'
   rcases hm' with rfl|rfl
   ·exact bs _ _
   ·exact bs _ _
theorem amP{d:Dg}{L K s mn:Nat}(hK:∀k,k<d.ae.length->aD s k=0->s+2^k<K):∀x∈l8 d L s mn,x<offK d L K:=fun x hx=>by
 unfold l8 at hx
 obtain⟨k,hk,hx⟩:=List.mem_flatMap.1 hx
 have hk:=List.mem_range.1 hk
 split at hx
 ·cases hx
 ·rename_i hb
  obtain⟨m,hm,rfl⟩:=List.mem_map.1 hx
  have h1:=aeO d L s (s+2^k) k mn m hm
  have h2:=rH d L (hK k hk (by have:=jS s k;omega))
  exact Nat.lt_of_lt_of_le (Nat.add_lt_add_left h1 _) h2
theorem AG{n s k:Nat}(hs:s<2^n)(hk:k<n)(hb:aD s k=0):s+2^k<2^n:=by
 have e:s+2^k=s ||| 2^k:=by
  refine Nat.eq_of_testBit_eq fun i=>?_
  have hbk:s.testBit k=false:=by
   cases e:s.testBit k with
   |false=>rfl
   |true=>rw[(rL s k).2 e]at hb;cases hb
  rw[Nat.testBit_or,Nat.testBit_two_pow,Nat.add_comm]
  rcases Nat.lt_trichotomy i k with h1|h1|h1
  ·rw[Nat.testBit_two_pow_add_gt h1,decide_eq_false (show¬k=i by omega),Bool.or_false]
  ·subst h1;rw[Nat.testBit_two_pow_add_eq,hbk,decide_eq_true rfl];rfl
  ·rw[decide_eq_false (show¬k=i by omega),Bool.or_false]
   have h0:s/2^k%2=0:=hb
   rw[Nat.testBit_eq_decide_div_mod_eq,Nat.testBit_eq_decide_div_mod_eq]
   have hp:=Nat.two_pow_pos k
   have e1:(2^k+s)/2^(k+1)=s/2^(k+1):=by
    rw[Nat.pow_succ,<-Nat.div_div_eq_div_mul,<-Nat.div_div_eq_div_mul,Nat.add_div_left _ hp]
    omega
   have e2:∀x,x/2^i=x/2^(k+1)/2^(i-(k+1)):=fun x=>by
    rw[Nat.div_div_eq_div_mul,<-Nat.pow_add,show k+1+(i-(k+1))=i by omega]
   rw[e2 (2^k+s),e2 s,e1]
 rw[e]
 exact Nat.or_lt_two_pow hs (Nat.pow_lt_pow_right (by decide) hk)
theorem ale{d:Dg}{L:Nat}(h:Uu d=true)(hp:iM d=true)(hw:∀s,aT d L s<=64){g:Int×Int}{B:List (Nat->Bool)}(hB:eB B ((j6 d L (2^d.ae.length) g).map fun p=>iF (qg d L p.1 p.2)))(hI:om B):B.length=Dk d L (2^d.ae.length) g:=by
 have hlt:∀s,s<2^d.ae.length->∀k,k<d.ae.length->aD s k=0->s+2^k<2^d.ae.length:=fun s hs k hk hb=>AG hs hk hb
 obtain⟨B2,b1,b2,b3⟩:=aiZ (offK d L (2^d.ae.length)) (lj d L (2^d.ae.length) g).length ((lj d L (2^d.ae.length) g).map fun p=>mI (offK d L (2^d.ae.length)) (l8 d L p.1 p.2)) (by rw[List.length_map];exact Nat.le_refl _) (fun r hr=>by
  obtain⟨p,_,rfl⟩:=List.mem_map.1 hr
  unfold mI
  rw[List.length_map,List.length_range])
 have hP:∀p∈j6 d L (2^d.ae.length) g,p.1<2^d.ae.length/\p.2<2^aT d L p.1:=fun p hp=>(tK d L).1 (List.mem_filter.1 hp).1
 have hD:∀p∈lj d L (2^d.ae.length) g,p.1<2^d.ae.length/\p.2<2^aT d L p.1:=fun p hp=>(tK d L).1 (List.mem_filter.1 hp).1
 have eD:∀p∈lj d L (2^d.ae.length) g,vL (mI (offK d L (2^d.ae.length)) (l8 d L p.1 p.2))=iF (l8 d L p.1 p.2):=fun p hp=>amY (amP (hlt _ (hD p hp).1))
 unfold Dk
 rw[<-b1]
 refine aj1 (f:=kB d L (2^d.ae.length)) (g:=kB d L (2^d.ae.length)) hB hI b3 b2 (fun r hr=>?_) (fun r hr=>?_)
 ·obtain⟨p,hp',rfl⟩:=List.mem_map.1 hr
  obtain⟨h1,h2⟩:=hP p hp'
  have hs:=((FZ d L hw ⟨h1,h2⟩).1).1 hp'
  rw[adk h hp (hlt _ h1) h2,aex]
  refine gF (List.mem_map.2 ⟨_,List.mem_map.2 ⟨_,List.mem_map.2 ⟨_,hs,rfl⟩,rfl⟩,?_⟩)
  rw[eD _ hs]
  rfl
 ·obtain⟨q,hq,rfl⟩:=List.mem_map.1 hr
  obtain⟨p,hp',rfl⟩:=List.mem_map.1 hq
  obtain⟨h1,h2⟩:=hD p hp'
  have hs:=((FZ d L hw ⟨h1,h2⟩).2).1 hp'
  rw[eD p hp']
  have e:=adk h hp (hlt _ h1) (L:=L) (mk:=fu (aT d L p.1) p.2) (wB _ _)
  rw[yx h2]at e
  have e2:=aex d L (2^d.ae.length) (l8 d L p.1 p.2)
  rw[<-e]at e2
  have e3:iF (l8 d L p.1 p.2)=pull (kB d L (2^d.ae.length)) (iF (qg d L p.1 (fu (aT d L p.1) p.2))):=by
   rw[e2]
   funext i
   unfold pull
   rw[JS]
  rw[e3]
  exact gF (List.mem_map.2 ⟨_,List.mem_map.2 ⟨_,hs,rfl⟩,rfl⟩)
end Go.Proofs.YthppkofceancjaaGreat
namespace Go.Proofs.YthppkofceancjaaGreat
open Go.RowKit
def jy(ws:List Int)(a b:Nat):List Int:=if ga ws a=ga ws b then ws else ws.map (fun v=>if v=ga ws b then ga ws a else v)
theorem yo(ws:List Int)(a b:Nat):(jy ws a b).length=ws.length:=by
 unfold jy;split<;>simp
theorem Jz(ws:List Int)(a b:Nat){x:Nat}(hx:x<ws.length):ga (jy ws a b) x=if ga ws x=ga ws b then ga ws a else ga ws x:=by
 unfold jy
 by_cases h:ga ws a=ga ws b
 ·rw[if_pos h]
  split
  ·rename_i e;rw[e,h]
  ·rfl
 ·rw[if_neg h,kH _ _ _ hx]
theorem ano{ws wz:List Int}{a b:Nat}(h:¬ga ws a=ga ws b)(hl:wz.length=ws.length)(hg:∀j,j<ws.length->ga wz j=if ga ws j=ga ws b then ga ws a else ga ws j):wz=jy ws a b:=
 yI (by rw[hl,yo]) fun x hx=>by rw[hg x (by omega),Jz _ _ _ (by omega)]
def qO(N T:Nat)(cl ws:List Int):Prop:=ws.length=T/\∀x y,x<T->y<T->(ga ws x=ga ws y<->x=y\/(x<N/\y<N/\ga cl x=ga cl y))
theorem aao{N T:Nat}{e1 e2:Nat->Nat}{i:Nat}{ws:List Int}(hT:N<=T)(h1:e1 i<N)(h2:e2 i<N)(H:qO N T (clsG e1 e2 N i) ws):qO N T (clsG e1 e2 N (i+1)) (jy ws (e1 i) (e2 i)):=by
 obtain⟨hl,H⟩:=H
 refine⟨by rw[yo,hl],fun x y hx hy=>?_⟩
 rw[Jz _ _ _ (by omega),Jz _ _ _ (by omega)]
 have q1:=H x y hx hy
 have q2:=H x (e1 i) hx (by omega)
 have q3:=H x (e2 i) hx (by omega)
 have q4:=H y (e1 i) hy (by omega)
 have q5:=H y (e2 i) hy (by omega)
 have q6:=H (e1 i) (e2 i) (by omega) (by omega)
 have ft:(mj e1 e2 (clsG e1 e2 N i) i=ga (clsG e1 e2 N i) (e1 i)/\o6 e1 e2 (clsG e1 e2 N i) i=ga (clsG e1 e2 N i) (e2 i))\/(mj e1 e2 (clsG e1 e2 N i) i=ga (clsG e1 e2 N i) (e2 i)/\o6 e1 e2 (clsG e1 e2 N i) i=ga (clsG e1 e2 N i) (e1 i)):=by unfold mj o6;omega
 have lhs:((if ga ws x=ga ws (e2 i)then ga ws (e1 i)else ga ws x)=(if ga ws y=ga ws (e2 i)then ga ws (e1 i)else ga ws y))<->(ga ws x=ga ws y\/((ga ws x=ga ws (e1 i)\/ga ws x=ga ws (e2 i))/\(ga ws y=ga ws (e1 i)\/ga ws y=ga ws (e2 i)))):=by
  clear q1 q2 q3 q4 q5 q6 ft H
  split<;>split<;>omega
 rw[lhs]
 by_cases xM:x<N
 ·by_cases xL:y<N
  ·have rhs:(ga (clsG e1 e2 N (i+1)) x=ga (clsG e1 e2 N (i+1)) y)<->(ga (clsG e1 e2 N i) x=ga (clsG e1 e2 N i) y\/((ga (clsG e1 e2 N i) x=ga (clsG e1 e2 N i) (e1 i)\/ga (clsG e1 e2 N i) x=ga (clsG e1 e2 N i) (e2 i))/\(ga (clsG e1 e2 N i) y=ga (clsG e1 e2 N i) (e1 i)\/ga (clsG e1 e2 N i) y=ga (clsG e1 e2 N i) (e2 i)))):=by
    rw[rV e1 e2 N i x xM,rV e1 e2 N i y xL]
    clear lhs q1 q2 q3 q4 q5 q6 H
    rcases ft with⟨a,b⟩|⟨a,b⟩<;>rw[a,b]<;>split<;>split<;>omega
   have n1:∀{u v:Nat},u=v->ga (clsG e1 e2 N i) u=ga (clsG e1 e2 N i) v:=fun e=>by rw[e]
   have c:∀{u v:Nat},u<N->v<N->(ga ws u=ga ws v<->u=v\/(u<N/\v<N/\ga (clsG e1 e2 N i) u=ga (clsG e1 e2 N i) v))->(ga ws u=ga ws v<->ga (clsG e1 e2 N i) u=ga (clsG e1 e2 N i) v):=fun hu hv h=>by
    rw[h]
    exact⟨fun h=>h.elim (fun e=>n1 e) fun h=>h.2.2,fun h=>.inr ⟨hu,hv,h⟩⟩
   rw[c xM xL q1,c xM h1 q2,c xM h2 q3,c xL h1 q4,c xL h2 q5,<-rhs]
   constructor
   ·exact fun h=>.inr ⟨xM,xL,h⟩
   ·rintro(e|⟨_,_,h⟩)
    ·rw[e]
    ·exact h
  ·have m4:ga ws y≠ga ws (e1 i):=fun e=>by rcases q4.1 e with e|e<;>omega
   have m5:ga ws y≠ga ws (e2 i):=fun e=>by rcases q5.1 e with e|e<;>omega
   constructor
   ·rintro(e|⟨_,e|e⟩)
    ·rcases q1.1 e with e|e
     ·exact .inl e
     ·exact absurd e.2.1 xL
    ·exact absurd e m4
    ·exact absurd e m5
   ·rintro(e|e)
    ·exact .inl (by rw[e])
    ·exact absurd e.2.1 xL
 ·have m4:ga ws x≠ga ws (e1 i):=fun e=>by rcases q2.1 e with e|e<;>omega
  have m5:ga ws x≠ga ws (e2 i):=fun e=>by rcases q3.1 e with e|e<;>omega
  constructor
  ·rintro(e|⟨e|e,_⟩)
   ·rcases q1.1 e with e|e
    ·exact .inl e
    ·exact absurd e.1 xM
   ·exact absurd e m4
   ·exact absurd e m5
  ·rintro(e|e)
   ·exact .inl (by rw[e])
   ·exact absurd e.1 xM
section
variable (d : Dg) (L : Nat) (s : Nat)
def fh(x:Nat):Nat:=if x<2*d.ae.length+1 then kR d av s x else x
def lu(x:Nat):Bool:=decide (1<=x/\fh d s x=x)
def eG(x:Nat):Nat:=cn (lu d s) (fh d s x)
def aO:List Int:=(List.range (2*d.ae.length+1+L)).map fun x=>if x=0 then 0 else(eG d s x:Int)
theorem E2:(aO d L s).length=2*d.ae.length+1+L:=by unfold aO;rw[List.length_map,List.length_range]
theorem wq{x:Nat}(h0:1<=x)(hx:x<2*d.ae.length+1+L):ga (aO d L s) x=(eG d s x:Int):=by
 unfold aO
 rw[kH _ _ _ (by rw[List.length_range];exact hx),bV (by rw[List.length_range];exact hx),List.getElem_range,if_neg (by omega)]
theorem apc:ga (aO d L s) 0=0:=by
 unfold aO
 rw[kH _ _ _ (by rw[List.length_range];omega),bV (by rw[List.length_range];omega),List.getElem_range,if_pos rfl]
variable {d L s}
theorem Fl(h:Uu d=true){x:Nat}(h0:1<=x):1<=fh d s x/\fh d s x<=x/\fh d s (fh d s x)=fh d s x:=by
 unfold fh
 by_cases hx:x<2*d.ae.length+1
 ·rw[if_pos hx]
  obtain⟨p1,p2⟩:=pJ h s h0 (by omega)
  rw[if_pos (by omega)]
  exact⟨p1,p2,(iW h av s hx).2.2⟩
 ·rw[if_neg hx,if_neg hx];omega
theorem abB(h:Uu d=true){T:Nat}{ws:List Int}(H:qO (2*d.ae.length+1) T (kC d av s) ws){x y:Nat}(hx:x<T)(hy:y<T):ga ws x=ga ws y<->fh d s x=fh d s y:=by
 rw[H.2 x y hx hy]
 unfold fh
 by_cases h1:x<2*d.ae.length+1
 ·obtain⟨a1,a2,_⟩:=iW h av s h1
  rw[if_pos h1]
  by_cases h2:y<2*d.ae.length+1
  ·obtain⟨b1,b2,_⟩:=iW h av s h2
   rw[if_pos h2,a1,b1]
   constructor
   ·rintro(e|⟨_,_,e⟩)
    ·rw[e]
    ·omega
   ·intro e;exact .inr ⟨h1,h2,by rw[e]⟩
  ·rw[if_neg h2];omega
 ·rw[if_neg h1]
  by_cases h2:y<2*d.ae.length+1
  ·obtain⟨b1,b2,_⟩:=iW h av s h2
   rw[if_pos h2];omega
  ·rw[if_neg h2];omega
theorem adZ{a:Nat}(h0:1<=a):cn (lu d s) (a+1)=cn (lu d s) a+if fh d s a=a then 1 else 0:=by
 rw[cn]
 unfold lu
 by_cases e:fh d s a=a
 ·rw[if_pos (decide_eq_true ⟨h0,e⟩),if_pos e]
 ·rw[if_neg (by rw[decide_eq_true_iff];exact fun h=>e h.2),if_neg e]
theorem acY{x:Nat}(hx:x<2*d.ae.length+1):lu d s x=j0 d s x:=by
 unfold lu j0 fh
 rw[if_pos hx]
 by_cases h1:1<=x<;>by_cases h2:kR d av s x=x<;>simp[h1,h2]
theorem ad2{P Q:Nat->Bool}{n:Nat}(h:∀x,x<n->P x=Q x):cn P n=cn Q n:=by
 induction n with
 |zero=>rfl
 |succ n ih=>rw[cn,cn,ih fun x hx=>h x (by omega),h n (by omega)]
theorem acX(i:Nat):cn (lu d s) (2*d.ae.length+1+i)=kM d s+i:=by
 induction i with
 |zero=>exact ad2 fun x hx=>acY hx
 |succ i ih=>
  rw[<-Nat.add_assoc,adZ (by omega),ih,if_pos (by unfold fh;rw[if_neg (by omega)])]
  omega
theorem rU(h:Uu d=true){x:Nat}(hx:x<2*d.ae.length+1):eG d s x=kI d s x:=by
 have:=(iW h av s hx).2.1
 unfold eG kI fh
 rw[if_pos hx]
 exact ad2 fun y hy=>acY (by omega)
theorem AE(i:Nat):eG d s (2*d.ae.length+1+i)=kM d s+i:=by
 unfold eG fh
 rw[if_neg (by omega)]
 exact acX i
theorem J4(h:Uu d=true){x:Nat}(h0:1<=x)(hx:x<2*d.ae.length+1+L):eG d s x<kM d s+L:=by
 by_cases e:x<2*d.ae.length+1
 ·rw[rU h e]
  have:=jC h s h0 (by omega)
  omega
 ·obtain⟨i,rfl⟩:∃i,x=2*d.ae.length+1+i:=⟨x-(2*d.ae.length+1),by omega⟩
  rw[AE];omega
def uP(a b:Nat):Int:=if fh d s a<b then(eG d s a:Int)else -1
theorem al2{a b:Nat}(e:fh d s b=fh d s a)(hb:fh d s b<=b):uP (d:=d) (s:=s) a (b+1)=(eG d s b:Int):=by
 unfold uP
 rw[if_pos (by omega)]
 unfold eG
 rw[e]
theorem al1{a b:Nat}(e:fh d s b≠fh d s a)(hb:fh d s (fh d s a)=fh d s a):uP (d:=d) (s:=s) a (b+1)=uP (d:=d) (s:=s) a b:=by
 unfold uP
 by_cases h:fh d s a=b
 ·rw[h]at hb;exact absurd (hb.trans h.symm) e
 ·by_cases h2:fh d s a<b
  ·rw[if_pos h2,if_pos (by omega)]
  ·rw[if_neg h2,if_neg (by omega)]
end
theorem aan{d:Dg}(h:Uu d=true){s k T:Nat}{ws:List Int}(hT:2*d.ae.length+1<=T)(hk:k<d.ae.length){a b c e:Nat}(hab:if aD s k=0 then a=aK d k 0/\b=aK d k 1/\c=aK d k 2/\e=aK d k 3 else a=aK d k 1/\b=aK d k 2/\c=aK d k 3/\e=aK d k 0)(H:qO (2*d.ae.length+1) T (clsG (iI d av s) (iH d av s) (2*d.ae.length+1) (2*k)) ws):qO (2*d.ae.length+1) T (clsG (iI d av s) (iH d av s) (2*d.ae.length+1) (2*(k+1))) (jy (jy ws a b) c e):=by
 have b1:=yU h av s (2*k) (by omega)
 have b2:=yU h av s (2*k+1) (by omega)
 have e1:iI d av s (2*k)=a/\iH d av s (2*k)=b/\iI d av s (2*k+1)=c/\iH d av s (2*k+1)=e:=by
  unfold iI iH av
  rw[if_pos rfl,if_pos rfl,if_pos rfl,if_pos rfl,show 2*k/2=k by omega,show(2*k+1)/2=k by omega,show 2*k%2=0 by omega,show(2*k+1)%2=1 by omega]
  have hb:=jS s k
  by_cases e0:aD s k=0
  ·rw[if_pos e0]at hab
   obtain⟨rfl,rfl,rfl,rfl⟩:=hab
   rw[e0];exact⟨rfl,rfl,rfl,rfl⟩
  ·rw[if_neg e0]at hab
   obtain⟨rfl,rfl,rfl,rfl⟩:=hab
   rw[show aD s k=1 by omega];exact⟨rfl,rfl,rfl,rfl⟩
 have s1:=aao hT b1.1 b1.2 H
 have s2:=aao hT b2.1 b2.2 s1
 rw[e1.1,e1.2.1,e1.2.2.1,e1.2.2.2]at s2
 exact s2
theorem ajP{N T:Nat}{e1 e2:Nat->Nat}:qO N T (clsG e1 e2 N 0) (iniW T T):=⟨vE _ _,fun x y hx hy=>by
 rw[E7 _ _ (Nat.le_refl _) x hx,E7 _ _ (Nat.le_refl _) y hy]
 constructor
 ·intro e;exact .inl (by omega)
 ·rintro(e|⟨h1,h2,e⟩)
  ·rw[e]
  ·rw[z7 e1 e2 N x h1,z7 e1 e2 N y h2]at e;exact e⟩
def rS(d:Dg)(s a:Nat)(xs:List Int):Prop:=(∀x,1<=x->x<a->ga xs x=(eG d s x:Int))/\∀x,x=0\/a<=x->ga xs x=0
theorem rS.mb(d:Dg)(s T:Nat):rS d s 1 (List.replicate T 0):=⟨fun x h1 h2=>by omega,fun x _=>by
 by_cases hx:x<T
 ·rw[bV (by simpa using hx)];simp
 ·show List.getD _ _ _=0
  rw[List.getD_eq_getElem?_getD,List.getElem?_eq_none (by simpa using hx)];rfl⟩
def jV(d:Dg)(s a b:Nat)(xs:List Int):Prop:=(∀x,1<=x->x<a->ga xs x=(eG d s x:Int))/\ga xs a=uP (d:=d) (s:=s) a b/\∀x,x=0\/a<x->ga xs x=0
theorem jV.mb{d:Dg}(h:Uu d=true){s a:Nat}{xs:List Int}(ha:1<=a)(hl:a<xs.length)(H:rS d s a xs):jV d s a 1 (xs.set a (-1)):=by
 refine⟨fun x h1 h2=>?_,?_,fun x hx=>?_⟩
 ·rw[bB _ _ _ _ (by omega),if_neg (by omega)];exact H.1 x h1 h2
 ·rw[bB _ _ _ _ (by omega),if_pos rfl]
  have:=(Fl (s:=s) h ha).1
  unfold uP;rw[if_neg (by omega)]
 ·rw[bB _ _ _ _ (by omega),if_neg (by omega)];exact H.2 x (by omega)
theorem jV.go{d:Dg}(h:Uu d=true){s a b T:Nat}{xs ws:List Int}(hb:1<=b)(hba:b<a)(hl:a<xs.length)(Vs:a<T)(Sm:qO (2*d.ae.length+1) T (kC d av s) ws)(H:jV d s a b xs)(e:ga ws b=ga ws a):jV d s a (b+1) (xs.set a (ga xs b)):=by
 refine⟨fun x h1 h2=>?_,?_,fun x hx=>?_⟩
 ·rw[bB _ _ _ _ (by omega),if_neg (by omega)];exact H.1 x h1 h2
 ·rw[bB _ _ _ _ (by omega),if_pos rfl,H.1 b hb hba,al2 ((abB h Sm (by omega) Vs).1 e) (Fl h hb).2.1]
 ·rw[bB _ _ _ _ (by omega),if_neg (by omega)];exact H.2.2 x (by omega)
theorem jV.no{d:Dg}(h:Uu d=true){s a b T:Nat}{xs ws:List Int}(hb:1<=b)(hba:b<a)(Vs:a<T)(Sm:qO (2*d.ae.length+1) T (kC d av s) ws)(H:jV d s a b xs)(e:¬ga ws b=ga ws a):jV d s a (b+1) xs:=
 ⟨H.1,by rw[al1 (fun e2=>e ((abB h Sm (by omega) Vs).2 e2)) (Fl h (by omega)).2.2];exact H.2.1,H.2.2⟩
theorem jV.end_{d:Dg}(h:Uu d=true){s a:Nat}{xs:List Int}(ha:1<=a)(H:jV d s a a xs):(ga xs a<0->fh d s a=a/\eG d s a=cn (lu d s) a/\cn (lu d s) (a+1)=cn (lu d s) a+1)/\(¬ga xs a<0->cn (lu d s) (a+1)=cn (lu d s) a/\rS d s (a+1) xs):=by
 have e:=H.2.1
 have hr:=(Fl (s:=s) h ha).2.1
 have c:=adZ (d:=d) (s:=s) ha
 unfold uP at e
 by_cases h1:fh d s a<a
 ·rw[if_pos h1]at e
  rw[if_neg (by omega)]at c
  refine⟨fun h9=>by omega,fun _=>⟨by omega,fun x h2 h3=>?_,fun x hx=>H.2.2 x (by omega)⟩⟩
  by_cases h4:x=a
  ·rw[h4,e]
  ·exact H.1 x h2 (by omega)
 ·rw[if_neg h1]at e
  have h2:fh d s a=a:=by omega
  rw[if_pos h2]at c
  exact⟨fun _=>⟨h2,by unfold eG;rw[h2],c⟩,fun h9=>by omega⟩
theorem jV.new{d:Dg}{s a:Nat}{xs:List Int}(ha:1<=a)(hl:a<xs.length)(H:jV d s a a xs)(e:eG d s a=cn (lu d s) a):rS d s (a+1) (xs.set a ((cn (lu d s) a:Nat):Int)):=by
 refine⟨fun x h1 h2=>?_,fun x hx=>?_⟩
 ·rw[bB _ _ _ _ (by omega)]
  by_cases h4:x=a
  ·rw[if_pos h4.symm,h4,e]
  ·rw[if_neg (by omega)];exact H.1 x h1 (by omega)
 ·rw[bB _ _ _ _ (by omega),if_neg (by omega)];exact H.2.2 x (by omega)
theorem rS.end_{d:Dg}{L s:Nat}{xs:List Int}(hl:xs.length=2*d.ae.length+1+L)(H:rS d s (2*d.ae.length+1+L) xs):xs=aO d L s:=yI (by rw[E2,hl]) fun x hx=>by
 by_cases h0:x=0
 ·rw[h0,apc];exact H.2 0 (.inl rfl)
 ·rw[wq d L s (by omega) (by omega)];exact H.1 x (by omega) (by omega)
end Go.Proofs.YthppkofceancjaaGreat
namespace Go.Proofs.YthppkofceancjaaGreat
open Go.ChangeShapes Go.WideShapes Go.ChangeAt Go.RowKit
section
variable {P : Program} {o : Oper} {L : List (Nat × Value)} {w : World} {x y : Operand} {t t' src dst : TypeId} {a b : Int} {k k2 : IntKind}
theorem Az{bo:BinOp}{v:Value}(ho:o.op=.binOp bo t x y t')(hx:oev L x=some (.int k a))(hy:oev L y=some (.int k2 b))(h:∀w,(binOp bo t (.int k a) (.int k2 b)).run P w=.ok v w):Run P o L w v w:=by
 intro n c hc
 unfold execOp
 simp only[ho,hc.eval hx,hc.eval hy]
 have:∀w,(eqGuard bo t x y (.int k a) (.int k2 b)).run P w=.ok () w:=by
  intro w
  unfold eqGuard
  split<;>simp
 simp[this,h]
theorem vW(ho:o.op=.binOp .shr t x y t')(hx:oev L x=some (.int k a))(hy:oev L y=some (.int k2 b))(h:0<=b):Run P o L w (.int k (a.fdiv (2^min b.toNat k.bits))) w:=
 Az ho hx hy fun w=>by simp[binOp,Op.shift,Int.not_lt.2 h]
theorem abC(ho:o.op=.binOp .shl t x y t')(hx:oev L x=some (.int k a))(hy:oev L y=some (.int k2 b))(h:0<=b):Run P o L w (.int k (k.wrap (a*2^min b.toNat k.bits))) w:=
 Az ho hx hy fun w=>by simp[binOp,Op.shift,Int.not_lt.2 h]
theorem vH(ho:o.op=.binOp .and t x y t')(hx:oev L x=some (.int k a))(hy:oev L y=some (.int k b)):Run P o L w (.int k (k.wrap ((BitVec.ofInt k.bits a &&& BitVec.ofInt k.bits b).toNat:Nat))) w:=
 Az ho hx hy fun w=>by simp[binOp,Op.intBits]
theorem yf(ho:o.op=.binOp .add t x y t')(hx:oev L x=some (.int k a))(hy:oev L y=some (.int k b)):Run P o L w (.int k (k.wrap (a+b))) w:=
 Az ho hx hy fun w=>by simp[binOp,Op.intArith]
theorem aaQ(ho:o.op=.convert src dst x)(hx:oev L x=some (.int k a))(hs:∃d,P.underlying src=some d)(hd:P.underlying dst=some (.int k2)):Run P o L w (.int k2 (k2.wrap a)) w:=by
 intro n c he
 obtain⟨d,hs⟩:=hs
 unfold execOp
 simp only[ho,he.eval hx,convert,Sem.run_bind,run_underlying hs,run_underlying hd,Result.andThen_ok,Conv.intToInt,Sem.run_pure]
theorem tN{s n:Nat}(ho:o.op=.binOp .shr t x y t')(hx:oev L x=some (.int .i64 (s:Int)))(hy:oev L y=some (.int .i64 (n:Int)))(h:n<=64):Run P o L w (.int .i64 ((s/2^n:Nat):Int)) w:=by
 have:=vW (w:=w) (P:=P) ho hx hy (by omega)
 rw[show min ((n:Int).toNat) IntKind.i64.bits=n by show min _ 64=n;omega,Int.fdiv_eq_ediv_of_nonneg _ (by exact Int.le_of_lt (Int.pow_pos (by decide)))]at this
 rw[show((s/2^n:Nat):Int)=(s:Int)/2^n by rw[Int.natCast_ediv,Int.natCast_pow];rfl]
 exact this
theorem vM{n:Nat}(ho:o.op=.binOp .shl t x y t')(hx:oev L x=some (.int .i64 1))(hy:oev L y=some (.int .i64 (n:Int)))(h:n<=62):Run P o L w (.int .i64 ((2^n:Nat):Int)) w:=by
 have:=abC (w:=w) (P:=P) ho hx hy (by omega)
 rw[show min ((n:Int).toNat) IntKind.i64.bits=n by show min _ 64=n;omega]at this
 have e:IntKind.i64.wrap (1*2^n)=((2^n:Nat):Int):=by
  have h1:(2:Int)^n=((2^n:Nat):Int):=by rw[Int.natCast_pow];rfl
  have h2:2^n<=2^62:=Nat.pow_le_pow_right (by decide) h
  rw[Int.one_mul,h1]
  have h3:2^n<=4611686018427387904:=h2
  generalize 2^n=m at*
  exact pP (by omega)
 rw[e]at this
 exact this
theorem EC(s:Nat):BitVec.ofInt 64 (s:Int)=BitVec.ofNat 64 s:=by
 apply BitVec.eq_of_toNat_eq
 simp
theorem vK{s:Nat}(ho:o.op=.binOp .and t x y t')(hx:oev L x=some (.int .i64 (s:Int)))(hy:oev L y=some (.int .i64 1)):Run P o L w (.int .i64 ((s%2:Nat):Int)) w:=by
 have:=vH (w:=w) (P:=P) ho hx hy
 have e:(BitVec.ofInt IntKind.i64.bits (s:Int) &&& BitVec.ofInt IntKind.i64.bits 1).toNat=s%2:=by
  show(BitVec.ofInt 64 (s:Int) &&& BitVec.ofInt 64 ((1:Nat):Int)).toNat=s%2
  rw[EC,EC,BitVec.toNat_and,BitVec.toNat_ofNat,BitVec.toNat_ofNat,Nat.mod_eq_of_lt (show 1<2^64 by decide),Nat.and_one_is_mod]
  omega
 rw[e]at this
 have e2:IntKind.i64.wrap ((s%2:Nat):Int)=((s%2:Nat):Int):=pP (by omega)
 rw[e2]at this
 exact this
theorem aaP{s:Nat}(ho:o.op=.convert src dst x)(hx:oev L x=some (.int .i64 (s:Int)))(hs:∃d,P.underlying src=some d)(hd:P.underlying dst=some (.int .u64))(h:s<9223372036854775808):Run P o L w (.int .u64 (s:Int)) w:=by
 have:=aaQ (w:=w) ho hx hs hd
 rw[show IntKind.u64.wrap (s:Int)=(s:Int)from by
  show(s:Int)%18446744073709551616=_
  omega]at this
 exact this
end
def zF(a:Int)(n:Nat):Int:=a.fdiv (2^n)
def Dn(a b:Int):Int:=IntKind.u64.wrap ((BitVec.ofInt 64 a &&& BitVec.ofInt 64 b).toNat:Nat)
def zG(a b:Int):Int:=IntKind.u64.wrap (a+b)
def UY(x:Int):Int:=zG (Dn (zF x 1) 6148914691236517205) (Dn x 6148914691236517205)
def UX(x:Int):Int:=zG (Dn (zF (UY x) 2) 3689348814741910323) (Dn (UY x) 3689348814741910323)
def UW(x:Int):Int:=Dn (zG (zF (UX x) 4) (UX x)) 1085102592571150095
def UU(x:Int):Int:=zG (UW x) (zF (UW x) 8)
def UT(x:Int):Int:=zG (UU x) (zF (UU x) 16)
def oc6(x:Int):Int:=zG (UT x) (zF (UT x) 32)
def ocR(x:Int):Int:=IntKind.i64.wrap ((BitVec.ofInt 64 (IntKind.i64.wrap (oc6 x)) &&& BitVec.ofInt 64 127).toNat:Nat)
end Go.Proofs.YthppkofceancjaaGreat
