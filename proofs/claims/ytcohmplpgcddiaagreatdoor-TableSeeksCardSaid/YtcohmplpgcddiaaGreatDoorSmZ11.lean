/- Part 11 of the proof of the law TableSeeks: the walks through its functions and the plain laws that they need. -/
import Derived.Test.YtcohmplpgcddiaaGreatDoorSmZ10
set_option linter.unusedSimpArgs false
set_option linter.unusedVariables false
noncomputable section
namespace Go.Proofs.YtcohmplpgcddiaaGreatDoor
open Go.ChangeShapes Go.WideShapes Go.ChangeAt Go.RowKit
def cmpL:List Int->List Int->Int
 |[],[]=>0
 |[],_::_=>-1
 |_::_,[]=>1
 |x::xs,y::ys=>if x<y then -1 else if y<x then 1 else cmpL xs ys
theorem DB:∀a b:List Int,cmpL b a=-cmpL a b
 |[],[]=>rfl
 |[],_::_=>rfl
 |_::_,[]=>rfl
 |x::xs,y::ys=>by
  rw[cmpL,cmpL]
  by_cases h:x<y
  ·rw[if_pos h,if_neg (by omega),if_pos h];rfl
  ·by_cases h2:y<x
   ·rw[if_pos h2,if_neg h,if_pos h2]
   ·rw[if_neg h2,if_neg h,if_neg h,if_neg h2,DB xs ys]
theorem R6:∀a b c:List Int,cmpL a b<=0->cmpL b c<=0->cmpL a c<=0/\(cmpL a b<0\/cmpL b c<0->cmpL a c<0)
 |[],[],[]=>fun _ _=>⟨Int.le_refl _,fun h=>h.elim id id⟩
 |[],[],_::_=>fun _ _=>by simp[cmpL]
 |[],_::_,[]=>fun _ h=>by simp[cmpL]at h
 |[],_::_,_::_=>fun _ _=>by simp[cmpL]
 |_::_,[],_=>fun h _=>by simp[cmpL]at h
 |_::_,_::_,[]=>fun _ h=>by simp[cmpL]at h
 |x::xs,y::ys,z::zs=>fun h1 h2=>by
  have ih:=R6 xs ys zs
  rw[cmpL]at h1 h2 ⊢
  rw[cmpL,cmpL]
  by_cases a1:x<y
  ·by_cases a2:y<z
   ·rw[if_pos a1,if_pos a2,if_pos (show x<z by omega)];exact⟨by omega,fun _=>by omega⟩
   ·rw[if_neg a2]at h2
    by_cases a3:z<y
    ·rw[if_pos a3]at h2;omega
    ·rw[if_pos (show x<z by omega)];exact⟨by omega,fun _=>by omega⟩
  ·rw[if_neg a1]at h1
   by_cases b1:y<x
   ·rw[if_pos b1]at h1;omega
   ·rw[if_neg b1]at h1
    by_cases a2:y<z
    ·rw[if_pos (show x<z by omega)];exact⟨by omega,fun _=>by omega⟩
    ·rw[if_neg a2]at h2
     by_cases a3:z<y
     ·rw[if_pos a3]at h2;omega
     ·rw[if_neg a3]at h2
      rw[if_neg (show¬x<z by omega),if_neg (show¬z<x by omega),if_neg a1,if_neg b1,if_neg a2,if_neg a3]
      exact ih h1 h2
theorem HQ{a b:List Int}{i:Nat}(ha:i<a.length)(hb:i<b.length):cmpL (a.drop i) (b.drop i)=if ga a i<ga b i then -1 else if ga b i<ga a i then 1 else cmpL (a.drop (i+1)) (b.drop (i+1)):=by
 rw[List.drop_eq_getElem_cons ha,List.drop_eq_getElem_cons hb,cmpL,cZ ha,cZ hb]
theorem aaH{a b:List Int}{i:Nat}(ha:i<a.length)(hb:b.length<=i):cmpL (a.drop i) (b.drop i)=1:=by
 rw[List.drop_eq_getElem_cons ha,List.drop_eq_nil_of_le hb];rfl
theorem K3{a b:List Int}{i:Nat}(ha:a.length<=i):cmpL (a.drop i) (b.drop i)=if i<b.length then -1 else 0:=by
 rw[List.drop_eq_nil_of_le ha]
 split
 ·rename_i h;rw[List.drop_eq_getElem_cons h];rfl
 ·rename_i h;rw[List.drop_eq_nil_of_le (by omega)];rfl
def gV(a b:List Int):Bool:=if a.length=b.length then decide (cmpL a b<0)else decide (a.length<b.length)
theorem abz(a:List Int):gV a a=false:=by
 have:=DB a a
 unfold gV;rw[if_pos rfl,decide_eq_false_iff_not];omega
theorem LB{a b:List Int}(h:a.length=b.length):gV a b=decide (cmpL a b<0):=by unfold gV;rw[if_pos h]
theorem RV{a b:List Int}(h:gV a b=true):gV b a=false:=by
 unfold gV at*
 have:=DB a b
 by_cases e:a.length=b.length
 ·rw[if_pos e,decide_eq_true_iff]at h
  rw[if_pos e.symm,decide_eq_false_iff_not];omega
 ·rw[if_neg e,decide_eq_true_iff]at h
  rw[if_neg (fun e2=>e e2.symm),decide_eq_false_iff_not];omega
theorem aaF{a b c:List Int}(h1:gV b a=false)(h2:gV c b=false):gV c a=false/\(gV a b=true\/gV b c=true->gV a c=true):=by
 unfold gV at*
 have t:=R6 a b c
 have q1:=DB a b
 have q2:=DB b c
 have q3:=DB a c
 by_cases e1:b.length=a.length
 ·rw[if_pos e1,decide_eq_false_iff_not]at h1
  by_cases e2:c.length=b.length
  ·rw[if_pos e2,decide_eq_false_iff_not]at h2
   obtain⟨t1,t2⟩:=t (by omega) (by omega)
   rw[if_pos (show c.length=a.length by omega),if_pos (show a.length=c.length by omega),if_pos e1.symm,if_pos e2.symm,decide_eq_false_iff_not,decide_eq_true_iff,decide_eq_true_iff,decide_eq_true_iff]
   exact⟨by omega,t2⟩
  ·rw[if_neg e2,decide_eq_false_iff_not]at h2
   rw[if_neg (show¬c.length=a.length by omega),if_neg (show¬a.length=c.length by omega),decide_eq_false_iff_not,decide_eq_true_iff (p:=a.length<c.length)]
   exact⟨by omega,fun _=>by omega⟩
 ·rw[if_neg e1,decide_eq_false_iff_not]at h1
  by_cases e2:c.length=b.length
  ·rw[if_neg (show¬c.length=a.length by omega),if_neg (show¬a.length=c.length by omega),decide_eq_false_iff_not,decide_eq_true_iff (p:=a.length<c.length)]
   exact⟨by omega,fun _=>by omega⟩
  ·rw[if_neg e2,decide_eq_false_iff_not]at h2
   rw[if_neg (show¬c.length=a.length by omega),if_neg (show¬a.length=c.length by omega),decide_eq_false_iff_not,decide_eq_true_iff (p:=a.length<c.length)]
   exact⟨by omega,fun _=>by omega⟩
def jD(K:Nat->List Int)(i j:Nat):Prop:=gV (K i) (K j)=true\/(gV (K j) (K i)=false/\i<j)
theorem acW{K:Nat->List Int}{i j:Nat}(h:jD K i j):¬jD K j i:=by
 rintro(h2|⟨h2,h3⟩)
 ·rcases h with h|⟨h,_⟩
  ·rw[RV h]at h2;cases h2
  ·rw[h]at h2;cases h2
 ·rcases h with h|⟨_,h4⟩
  ·rw[h]at h2;cases h2
  ·omega
theorem VO{K:Nat->List Int}{i j:Nat}(h:jD K i j):gV (K j) (K i)=false:=by
 rcases h with h|⟨h,_⟩
 ·exact RV h
 ·exact h
theorem SX{K:Nat->List Int}{i j k:Nat}(h1:jD K i j)(h2:jD K j k):jD K i k:=by
 obtain⟨t1,t2⟩:=aaF (VO h1) (VO h2)
 rcases h1 with h1|⟨h1,h3⟩
 ·exact .inl (t2 (.inl h1))
 ·rcases h2 with h2|⟨h2,h4⟩
  ·exact .inl (t2 (.inr h2))
  ·exact .inr ⟨t1,by omega⟩
def q9(K:Nat->List Int)(m:Nat)(σ:List Nat):Prop:=σ.Perm (List.range m)/\σ.Pairwise (jD K)
theorem Lb{K:Nat->List Int}:∀{σ τ:List Nat},σ.Perm τ->σ.Pairwise (jD K)->τ.Pairwise (jD K)->σ=τ
 |[],τ,h,_,_=>(List.nil_perm.1 h).symm
 |x::xs,[],h,_,_=>by have:=h.length_eq;cases this
 |x::xs,y::ys,h,h1,h2=>by
  have hx:x=y:=by
   by_cases e:x=y
   ·exact e
   ·exfalso
    have m1:x∈y::ys:=h.subset (List.mem_cons_self ..)
    have m2:y∈x::xs:=h.symm.subset (List.mem_cons_self ..)
    rcases List.mem_cons.1 m1 with r|r
    ·exact e r
    ·rcases List.mem_cons.1 m2 with r2|r2
     ·exact e r2.symm
     ·exact acW ((List.pairwise_cons.1 h1).1 y r2) ((List.pairwise_cons.1 h2).1 x r)
  subst hx
  rw[Lb (List.perm_cons x|>.1 h) (List.pairwise_cons.1 h1).2 (List.pairwise_cons.1 h2).2]
noncomputable def sK(K:Nat->List Int)(m:Nat):List Nat:=Classical.epsilon (q9 K m)
theorem Nn{K:Nat->List Int}{m:Nat}{σ:List Nat}(h:q9 K m σ):sK K m=σ:=by
 have h2:q9 K m (sK K m):=Classical.epsilon_spec ⟨σ,h⟩
 exact Lb (h2.1.trans h.1.symm) h2.2 h.2
def Du(K:Nat->List Int)(s:Option Nat)(x:Nat):Option Nat:=match s with
 |none=>some x
 |some b=>if gV (K x) (K b)=true then some x else some b
def rT(K:Nat->List Int)(l:List Nat):Option Nat:=l.foldl (Du K) none
theorem Es(K:Nat->List Int)(l:List Nat)(x:Nat):rT K (l++[x])=Du K (rT K l) x:=by unfold rT;rw[List.foldl_append];rfl
theorem aeg{K:Nat->List Int}(n:Nat):∀{l:List Nat},l.length=n+1->∃b,rT K l=some b/\b∈l:=by
 induction n with
 |zero=>intro l h;match l,h with
  |[x],_=>exact⟨x,rfl,List.mem_singleton.2 rfl⟩
 |succ n ih=>
  intro l h
  have hl:l≠[]:=fun e=>by rw[e]at h;cases h
  obtain⟨b,h1,h2⟩:=ih (l:=l.dropLast) (by rw[List.length_dropLast];omega)
  have e:=List.dropLast_concat_getLast hl
  rw[<-e,Es,h1]
  unfold Du
  dsimp only
  split
  ·exact⟨_,rfl,by simp⟩
  ·exact⟨b,rfl,List.mem_append_left _ h2⟩
end Go.Proofs.YtcohmplpgcddiaaGreatDoor
namespace Go.Proofs.YtcohmplpgcddiaaGreatDoor
open Go.ChangeShapes Go.WideShapes Go.ChangeAt Go.RowKit
def ahT(s:Cf)(u:Value)(N:Hp):Prop:=∃A c B e,u=.agg [.slice A s.od.length c,.slice B s.co.length e].toArray/\aJ aQ N A c s.od/\aJ aQ N B e s.co
def wB(n:Nat)(es:List (Int×Int))(nu:List Int):Prop:=∀x:Nat,x<n->mg (x:Int) es=if ga nu x<0 then none else some (ga nu x)
theorem wB.put{n:Nat}{es:List (Int×Int)}{nu:List Int}(h:wB n es nu)(hl:nu.length=n){y:Nat}(hy:y<n){v:Int}(hv:0<=v):wB n (mp (y:Int) v es) (nu.set y v):=fun x hx=>by
 rw[yJ,eX _ _ _ _ (by omega)]
 by_cases e:x=y
 ·subst e;rw[if_pos rfl,if_pos rfl,if_neg (by omega)]
 ·rw[if_neg (show¬(x:Int)=(y:Int) by omega)]
  simp only[if_neg (show¬y=x from fun e2=>e e2.symm)]
  exact h x hx
theorem wB.start(d:Dg){st:Nat}(hs:st<d.ae.length):wB d.ae.length (mp (st:Int) 0 []) (zL d st).nu:=wB.put (nu:=List.replicate d.ae.length (-1)) (fun x hx=>by rw[rZ _ _ _ hx];rfl) (by simp) hs (by omega)
noncomputable def Z5e:=Tryz.f53.body.getD .skip
set_option maxHeartbeats 4000000 in
set_option maxRecDepth 10000 in
theorem Wd{w:World}{M:Hp}{X:Fr}(d:Dg){cI:Nat}{cA iA oA:Option Addr}{cc ic oc:Nat}(st:Nat)(bI:fW (M.un X.h) cI 66 [.slice cA d.ae.length cc,.int .i64 d.loops,.slice iA (aI d false (4*d.ae.length)).length ic,.slice oA (aI d true (4*d.ae.length)).length oc])(hsc:aJ bu (M.un X.h) cA cc d.ae)(hsi:aJ cQ (M.un X.h) iA ic (aI d false (4*d.ae.length)))(bq:aJ cQ (M.un X.h) oA oc (aI d true (4*d.ae.length)))(hn:d.ae.length<=16)(hab:aO d=true)(hst:st<d.ae.length)(S:SH w M X []):Ct Tryz.prog 53 [.pointer (some ⟨cI,0,none⟩),.int .i64 (st:Int)] w M X (ahT (fF d st)):=by
 unfold Ct
 refine cw (b:=Z5e) Tryz.func53 rfl Tryz.ntmps53 rfl (fun C hC=>(cB [0,1] rfl (ar (aj rfl (bW (l:=[_,_]) rfl rfl rfl Fa rfl S ?_)))))
 intro aP w1 S1;clear S
 refine aB (sw (aj rfl (xJ Int Int (Value.int .i64) (Value.int .i64) rfl rfl rfl S1 ?_)))
 intro iH w2 S2;clear S1
 refine af 1 rfl (aj rfl (ou (kc:=Value.int .i64) (vc:=Value.int .i64) (es:=([])) (k:=(st:Int)) (e:=0) (i:=0) (H':=[_,_]) (.inr rfl) rfl S2 rfl rfl rfl rfl nT mr rfl ?_))
 intro w3 S3;clear S2
 refine af 2 rfl (bL [0,1,4,5] rfl (af 1 rfl (aj rfl (eQ (C:=aQ) (l:=[_]) rfl rfl rfl rfl bt rfl rfl rfl rfl S3 ?_))))
 intro bJ w4 S4;clear S3
 refine ag rfl (run_build (l:=[_,_]) rfl rfl agr rfl rfl) (aj rfl (bW (l:=[_,_]) rfl rfl rfl Fa rfl S4 ?_))
 intro dE w5 S5;clear S4
 refine aj rfl (bH 0 [_,_] [_,_] [_,_,_,_] rfl S5 rfl rfl nU rfl rfl ?_)
 intro w6 S6;clear S5
 refine bM [0,4,5,6] rfl (ar (af 1 rfl (aB (bK (bg ?_)))))
 have S7:=S6.qi (C:=aQ) [(st:Int)] (i:=1) (H':=[_,_,_,_]) rfl rfl (by simp) rfl;clear S6
 obtain⟨s6,zK⟩:∃v,v=Value.slice (some ⟨bJ,0,none⟩) ([(st:Int)]).length ([(st:Int)]).length:=⟨_,rfl⟩
 simp only[List.length_singleton]at zK S7
 rw[<-zK]at S7
 have S8:=S7.jI aQ;clear S7
 refine ck (fun aZ au aR=>∃(i:Nat) (sc:Cf) (es:List (Int×Int)) (eV:Value) (BQ:Value) (M1:Hp),M.le M1/\aZ=d.ae.length-i/\Env 88 [(0,.pointer (some ⟨cI,0,none⟩)),(4,.pointer (some ⟨aP,0,none⟩)),(5,.map (some iH)),(6,.pointer (some ⟨dE,0,none⟩)),(7,.int .i64 (i:Int))] au/\SH aR M1 X [Rs.row aQ BQ sc.co,Rs.box dE 110 [eV,BQ],Rs.row aQ eV sc.od,Rs.mp (Value.int .i64) (Value.int .i64) iH es,Rs.box aP 110 [.slice none 0 0,.slice none 0 0]]/\i<=sc.od.length/\sc=eH d st i/\wB d.ae.length es sc.nu/\pn d st sc/\sc.co.length<=9*i) rfl ?_ ?_
 ·intro au aq
  refine⟨_,⟨0,(zL d st),(mp (st:Int) 0 []),_,_,_,Hp.le_refl _,rfl,aq.su rfl,S8.pick [0,1,2,3,4] [_,_,_,_,_] (by decide) ⟨rfl,rfl,rfl,rfl,rfl,trivial⟩,?dh,?dC,?jm,?q7,?AB⟩⟩
  case dh=>(show 0<=1;omega)
  case dC=>rfl
  case jm=>exact wB.start d hst
  case q7=>exact MU hst
  case AB=>exact Nat.le_refl _
 ·rintro m2 a1 w7 ⟨i,sc,es,eV,BQ,M1,bh,rfl,bN,S9,hi,nN,hes,hci,ajq⟩
  clear S8
  refine cy bN ?_
  clear bN a1
  replace bI:=bI.mono (Hp.aD bh S9.mx)
  replace hsc:=hsc.mono (Hp.aD bh S9.mx)
  replace hsi:=hsi.mono (Hp.aD bh S9.mx)
  replace bq:=bq.mono (Hp.aD bh S9.mx)
  have OC:=hci.le
  have GZ:=fun h=>hci.od i h
  refine cJ (ar (af 1 rfl (ag rfl (az rfl gT rfl jP jO) (ag rfl (aw rfl dm (S9.bc 1 rfl rfl)) (ag rfl (kZ (i:=2) rfl bt S9 rfl) (af 1 rfl (ax [0,4,5,6,7,24] rfl ?_)))))))
  refine bp rfl (fun rA=>?_) (fun rA=>?_)
  ·refine aV (bC [0,4,5,6,7] rfl (bg (ar (ag rfl (az rfl gT rfl jP jO) (ag rfl (aw rfl dm (S9.bc 1 rfl rfl)) (af 1 rfl (ag rfl (bS (i:=2) i rfl bt S9 rfl) (ag rfl (aw rfl aG (S9.dS (i:=2) (e:=i) (j:=0) rfl (by first|omega|(simp only[ls];omega)) rfl rfl)) ?_))))))))
   refine af 1 rfl (bM [0,4,5,6,7,8] rfl ?_)
   obtain⟨uT,vX,Ci⟩:=GZ (by omega)
   obtain⟨c,hcn⟩:∃c:Nat,ga sc.od i=(c:Int):=⟨(ga sc.od i).toNat,(Int.toNat_of_nonneg uT).symm⟩
   have hcl:c<d.ae.length:=by rw[hcn,Int.toNat_natCast]at vX;exact vX
   have kH:cg d c=cg d st:=by rw[hcn,Int.toNat_natCast]at Ci;exact hci.pc c hcl (by rw[Ci];omega)
   rw[hcn,Int.toNat_natCast]at Ci
   clear GZ vX uT
   refine iZ 8 (.int .i64 (c:Int)) rfl (int_eq hcn) (aH (af 1 rfl (bM [0,4,5,6,7,8,9] rfl (ar (af 2 rfl (ag rfl (az rfl jy rfl jZ jX) (ag rfl (az rfl aM rfl dN dM) (ag rfl (aw rfl cE (bI.cell S9.um rfl)) ?_))))))))
   refine af 1 rfl (ag rfl (cN c rfl fX hsc) (ag rfl (az rfl b6 rfl lM lJ) (ag rfl (aw rfl gY (hsc.cell S9.um (i:=c) (by first|omega|(simp only[ls];omega)) 4 rfl rfl)) ?_)))
   refine ax [0,4,5,6,7,8,9,40] rfl ?_
   refine gB rfl (fun pM=>?_) (fun pM=>?_)
   ·refine aH (af 1 rfl (bM [0,4,5,6,7,8,9] rfl (iZ 9 (.int .i64 (kF (ga d.ae c))) rfl (int_eq (by unfold kF;first|(rw[if_pos (by assumption)])|(rw[if_neg (by simp[*])]))) ?_)))
    refine aH (ag rfl (az rfl gT rfl jP jO) (ag rfl (aw rfl dm (S9.bc 1 rfl rfl)) (af 1 rfl (aj rfl (eQ (C:=aQ) (l:=[_]) rfl rfl rfl rfl bt rfl rfl rfl rfl S9 ?_)))))
    intro lK w8 bQ;clear S9
    refine aj rfl (gw (C:=aQ) (i:=1) (q:=0) (kF (ga d.ae c)) rfl rfl rfl rfl rfl rfl rfl rfl bt bQ rfl rfl rfl (by show(_+1)*8<=_;first|omega|(simp only[ls];omega)) ?_)
    intro ah9 w9 cz;clear bQ
    have cO:=cz.pick [1,2,3,4,5] [_,_,_,_,_] (by decide) ⟨rfl,rfl,rfl,rfl,rfl,trivial⟩;clear cz
    refine ag rfl (az rfl gT rfl jP jO) (aj rfl (gJ (i:=1) (us:=[_]) (l':=[_,_]) (H':=[_,_,_,_,_]) rfl rfl cO rfl rfl rfl (cO.nS (i:=0) rfl) vz rfl (iq (cO.one (i:=0) rfl) rfl) rfl rfl ?_))
    intro ld cF;clear cO
    refine bL [0,4,5,6,7,8] rfl (af 1 rfl (aB (bK (bg ?_))))
    refine ck (fun aZ au aR=>∃(k:Nat) (sk:Cf) (iz:List (Int×Int)) (jx:Value) (mK:Value) (M2:Hp),M1.le M2/\aZ=4-k/\Env 88 [(0,.pointer (some ⟨cI,0,none⟩)),(4,.pointer (some ⟨aP,0,none⟩)),(5,.map (some iH)),(6,.pointer (some ⟨dE,0,none⟩)),(7,.int .i64 (i:Int)),(8,.int .i64 (c:Int)),(47,.int .i64 (k:Int))] au/\SH aR M2 X [Rs.row aQ mK sk.co,Rs.box dE 110 [jx,mK],Rs.row aQ jx sk.od,Rs.mp (Value.int .i64) (Value.int .i64) iH iz,Rs.box aP 110 [.slice none 0 0,.slice none 0 0]]/\k<=4/\sk=cfK d c ⟨sc.nu,sc.od,sc.co++[kF (ga d.ae c)]⟩ k/\wB d.ae.length iz sk.nu/\pn d st sk/\mb (⟨sc.nu,sc.od,sc.co++[kF (ga d.ae c)]⟩:Cf) sk/\sk.co.length<=9*i+1+2*k) rfl ?_ ?_
    ·intro au aq
     refine⟨_,⟨0,(⟨sc.nu,sc.od,sc.co++[kF (ga d.ae c)]⟩:Cf),es,_,_,_,Hp.le_refl _,rfl,aq.su rfl,cF.pick [0,1,2,3,4] [_,_,_,_,_] (by decide) ⟨rfl,rfl,rfl,rfl,rfl,trivial⟩,?dv,?dL,?jl,?py,?wP,?AA⟩⟩
     case dv=>omega
     case dL=>rfl
     case jl=>exact hes
     case py=>exact⟨hci.nl,hci.od,hci.nu,hci.pc,hci.sn,hci.ps⟩
     case wP=>exact mb.refl _
     case AA=>(rw[List.length_append];show _+1<=_;omega)
    ·rintro m3 a2 lI ⟨k,sk,iz,jx,mK,M2,hle2,rfl,cU,ct,hk,hsk,oO,gq,hcm,Ba⟩
     clear cF
     refine cy cU ?_
     clear cU a2
     replace bI:=bI.mono (Hp.aD hle2 ct.mx)
     replace hsc:=hsc.mono (Hp.aD hle2 ct.mx)
     replace hsi:=hsi.mono (Hp.aD hle2 ct.mx)
     replace bq:=bq.mono (Hp.aD hle2 ct.mx)
     have Nt:=gq.le
     have hnb:=fun(h:k<4)=>vk hab hcl h
     have O1:=fun h=>oO (bB d c k) h
     have Bb:=gq.nl
     refine ar (af 1 rfl (aB (di ?_)))
     refine bp rfl (fun hb48=>?_) (fun hb48=>?_)
     ·refine aV (bC [0,4,5,6,7,8,47] rfl (bg (ar (af 2 rfl (bL [0,4,5,6,7,8,47,10] rfl (af 3 rfl (ag rfl (run_build (l:=[_,_]) rfl rfl Fi rfl rfl) (aj rfl (dU rfl rfl rfl rfl rfl rfl rfl Pk ct (Mc d c k (bI.mono ct.bn) (hsc.mono ct.bn) (hsi.mono ct.bn) (bq.mono ct.bn) (by first|assumption|omega) hab (by omega) (by omega) ct.aT) ?_)))))))))
      rintro _ nL cS rfl;clear ct
      refine dz 54 (.agg [.int .i64 (bB d c k:Int),.int .i64 (gW d c k:Int)].toArray) rfl rfl ?_
      have ur:=hnb (by omega)
      have ry:=O1 ur
      refine aj rfl (bW (l:=[_,_]) rfl rfl rfl qX rfl cS ?_)
      intro iI ng cC;clear cS
      refine aj rfl (bH 0 [_,_] [_,_] [_,_,_,_,_,_] rfl cC rfl rfl gX rfl rfl ?_)
      intro lH bY;clear cC
      refine bL [0,4,5,6,7,8,47,11] rfl (af 1 rfl (ag rfl (az rfl dX rfl aY aX) (ag rfl (aw rfl aG (bY.bc 0 rfl rfl)) (ag rfl (KY (kc:=Value.int .i64) (vc:=Value.int .i64) (es:=iz) (k:=(bB d c k:Int)) (zv:=0) (i:=4) rfl rfl rfl nT mr BK bY rfl) (af 5 rfl (bM [0,4,5,6,7,8,47,11,12,13] rfl (ar (af 2 rfl ?_))))))))
      refine ax [0,4,5,6,7,8,47,11,12,63] rfl ?_
      refine gB rfl (fun n9=>?_) (fun n9=>?_)
      ·simp only[Bool.and_eq_true,Bool.or_eq_true,Bool.and_eq_false_iff,Bool.or_eq_false_iff,decide_eq_true_eq,decide_eq_false_iff_not,Bool.not_eq_true',Bool.not_eq_false']at n9
       have hS:ga sk.nu (bB d c k)<0:=by(rcases Int.lt_or_le (ga sk.nu (bB d c k)) 0 with h9|h9;exact h9;rw[if_neg (by omega)]at ry;rw[ry]at n9;simp at n9)
       replace hS:eP d c sk k=⟨sk.nu.set (bB d c k) (sk.od.length:Int),sk.od++[(bB d c k:Int)],sk.co++[(sk.od.length:Int),(gW d c k:Int)]⟩:=by unfold eP;rw[if_pos hS]
       refine ar (ag rfl (az rfl gT rfl jP jO) (ag rfl (aw rfl dm (bY.bc 2 rfl rfl)) (ag rfl (kZ (i:=3) rfl bt bY rfl) (af 1 rfl (bL [0,4,5,6,7,8,47,11,12] rfl (af 1 rfl (ag rfl (az rfl dX rfl aY aX) (ag rfl (aw rfl aG (bY.bc 0 rfl rfl)) ?_))))))))
       refine af 1 rfl (aj rfl (ou (kc:=Value.int .i64) (vc:=Value.int .i64) (es:=iz) (k:=(bB d c k:Int)) (e:=(sk.od.length:Int)) (i:=4) (H':=[_,_,_,_,_,_]) (.inl rfl) rfl bY rfl rfl rfl rfl nT mr rfl ?_))
       intro ow dW;clear bY
       refine ax [0,4,5,6,7,8,47,11,12] rfl (aH (ag rfl (az rfl gT rfl jP jO) (ag rfl (aw rfl dm (dW.bc 2 rfl rfl)) (ag rfl (az rfl dX rfl aY aX) (ag rfl (aw rfl aG (dW.bc 0 rfl rfl)) (aj rfl (eQ (C:=aQ) (l:=[_]) rfl rfl rfl rfl bt rfl rfl rfl rfl dW ?_)))))))
       intro rS oU ek;clear dW
       refine aj rfl (gw (C:=aQ) (i:=4) (q:=0) (bB d c k:Int) rfl rfl rfl rfl rfl rfl rfl rfl bt ek rfl rfl rfl (by show(_+1)*8<=_;first|omega|(simp only[ls];omega)) ?_)
       intro AU pU fM;clear ek
       have eF:=fM.pick [1,2,3,4,5,6] [_,_,_,_,_,_] (by decide) ⟨rfl,rfl,rfl,rfl,rfl,rfl,trivial⟩;clear fM
       refine ag rfl (az rfl gT rfl jP jO) (aj rfl (gJ (i:=2) (us:=[_]) (l':=[_,_]) (H':=[_,_,_,_,_,_]) rfl rfl eF rfl rfl rfl (eF.nS (i:=3) rfl) vz rfl (iq (eF.one (i:=3) rfl) rfl) rfl rfl ?_))
       intro vP fx;clear eF
       refine ax [0,4,5,6,7,8,47,11,12] rfl (aH (ag rfl (az rfl gT rfl jP jO) (ag rfl (aw rfl dm (fx.bc 2 rfl rfl)) (af 1 rfl (ag rfl (az rfl dX rfl aY aX) (ag rfl (aw rfl aG (fx.bc 0 rfl rfl)) (aj rfl (uH (C:=aQ) (l:=[_,_]) (pl:=[(0,1),(1,1)]) rfl rfl rfl rfl bt rfl rfl rfl rfl rfl fx ?_))))))))
       intro uY zu gN;clear fx
       have kM:=gN.qi (C:=aQ) [(sk.od.length:Int),(gW d c k:Int)] (i:=0) (H':=[_,_,_,_,_,_,_]) rfl rfl (by simp) rfl;clear gN
       obtain⟨M3,bZ,gI,⟨_,_,eE,hr1⟩⟩:=kM.gP (i:=0) (H':=[_,_,_,_,_,_,_]) rfl rfl (by show 2*_<=_;decide);clear kM;injection eE with qf _ qd;subst qf;subst qd
       replace bI:=bI.mono (Hp.aD bZ gI.mx)
       replace hsc:=hsc.mono (Hp.aD bZ gI.mx)
       replace hsi:=hsi.mono (Hp.aD bZ gI.mx)
       replace bq:=bq.mono (Hp.aD bZ gI.mx)
       refine aj rfl (sX (C:=aQ) (i:=2) rfl rfl rfl rfl rfl rfl rfl rfl bt gI rfl hr1 gI.m (by show(_+_)*8<=_;first|omega|(simp only[ls];omega)) ?_)
       intro mK vO fU;clear gI
       change SH _ _ _ [_,_,Rs.row aQ mK (sk.co++([(sk.od.length:Int),(gW d c k:Int)])),_,_,_,_]at fU
       refine ag rfl (az rfl gT rfl jP jO) (aj rfl (gJ (i:=3) (us:=[_]) (l':=[_,_]) (H':=[_,_,_,_,_,_,_]) rfl rfl fU rfl rfl rfl (fU.nS (i:=2) rfl) vz rfl (iq (fU.one (i:=2) rfl) rfl) rfl rfl ?_))
       intro xU fG;clear fU
       refine aB (bE (aW [0,4,5,6,7,8,47] rfl ?_))
       have nZ:sk.od++[(bB d c k:Int)]=(eP d c sk k).od:=by rw[hS]
       rw[nZ]at fG;clear nZ
       have za:sk.co++([(sk.od.length:Int),(gW d c k:Int)])=(eP d c sk k).co:=by rw[hS]
       rw[za]at fG;clear za
       refine aH (ag rfl (bj rfl) (af 1 rfl (aB (br ?_))))
       intro au aq
       refine⟨_,?kr,⟨k+1,(eP d c sk k),mp (bB d c k:Int) (sk.od.length:Int) iz,_,_,_,(hle2.trans bZ),rfl,aq.su rfl,fG.pick [2,3,4,5,6] [_,_,_,_,_] (by decide) ⟨rfl,rfl,rfl,rfl,rfl,trivial⟩,?fg,?fR,?ko,?mI,?wO,?Az⟩⟩
       case fg=>omega
       case fR=>(rw[hsk];rfl)
       case ko=>(rw[hS];first|exact oO.put Bb ur (by omega)|exact oO)
       case mI=>exact(kx hab gq hcl kH (by omega)).1
       case wO=>exact hcm.trans (kx hab gq hcl kH (by omega)).2.1
       case Az=>(rw[(kx hab gq hcl kH (by omega)).2.2.2];omega)
       case kr=>omega
      ·simp only[Bool.and_eq_true,Bool.or_eq_true,Bool.and_eq_false_iff,Bool.or_eq_false_iff,decide_eq_true_eq,decide_eq_false_iff_not,Bool.not_eq_true',Bool.not_eq_false']at n9
       have hS:¬ga sk.nu (bB d c k)<0:=by intro h9;rw[if_pos h9]at ry;rw[ry]at n9;simp at n9
       rw[if_neg hS]at ry
       have nr:=gq.nu _ ur
       replace hS:eP d c sk k=⟨sk.nu,sk.od,sk.co++[ga sk.nu (bB d c k),(gW d c k:Int)]⟩:=by unfold eP;rw[if_neg hS]
       refine aV (aW [0,4,5,6,7,8,47,11,12] rfl (iZ 12 (.int .i64 (ga sk.nu (bB d c k))) rfl (int_eq (by rw[ry];rfl)) ?_))
       refine aH (ag rfl (az rfl gT rfl jP jO) (ag rfl (aw rfl dm (bY.bc 2 rfl rfl)) (af 1 rfl (ag rfl (az rfl dX rfl aY aX) (ag rfl (aw rfl aG (bY.bc 0 rfl rfl)) (aj rfl (uH (C:=aQ) (l:=[_,_]) (pl:=[(0,1),(1,1)]) rfl rfl rfl rfl bt rfl rfl rfl rfl rfl bY ?_)))))))
       intro wm Kj kj;clear bY
       have pj:=kj.qi (C:=aQ) [ga sk.nu (bB d c k),(gW d c k:Int)] (i:=0) (H':=[_,_,_,_,_,_,_]) rfl rfl (by simp) rfl;clear kj
       obtain⟨M4,b7,gM,⟨_,_,eE,hr2⟩⟩:=pj.gP (i:=0) (H':=[_,_,_,_,_,_,_]) rfl rfl (by show 2*_<=_;decide);clear pj;injection eE with qf _ qd;subst qf;subst qd
       replace bI:=bI.mono (Hp.aD b7 gM.mx)
       replace hsc:=hsc.mono (Hp.aD b7 gM.mx)
       replace hsi:=hsi.mono (Hp.aD b7 gM.mx)
       replace bq:=bq.mono (Hp.aD b7 gM.mx)
       refine aj rfl (sX (C:=aQ) (i:=2) rfl rfl rfl rfl rfl rfl rfl rfl bt gM rfl hr2 gM.m (by show(_+_)*8<=_;first|omega|(simp only[ls];omega)) ?_)
       intro Oh BN jd;clear gM
       change SH _ _ _ [_,_,Rs.row aQ Oh (sk.co++([ga sk.nu (bB d c k),(gW d c k:Int)])),_,_,_,_]at jd
       refine ag rfl (az rfl gT rfl jP jO) (aj rfl (gJ (i:=3) (us:=[_]) (l':=[_,_]) (H':=[_,_,_,_,_,_,_]) rfl rfl jd rfl rfl rfl (jd.nS (i:=2) rfl) vz rfl (iq (jd.one (i:=2) rfl) rfl) rfl rfl ?_))
       intro xS gu;clear jd
       refine aB (bE (aW [0,4,5,6,7,8,47] rfl ?_))
       have y9:sk.od=(eP d c sk k).od:=by rw[hS]
       rw[y9]at gu;clear y9
       have vC:sk.co++([ga sk.nu (bB d c k),(gW d c k:Int)])=(eP d c sk k).co:=by rw[hS]
       rw[vC]at gu;clear vC
       refine aH (ag rfl (bj rfl) (af 1 rfl (aB (br ?_))))
       intro au aq
       refine⟨_,?jr,⟨k+1,(eP d c sk k),iz,_,_,_,(hle2.trans b7),rfl,aq.su rfl,gu.pick [2,3,4,5,6] [_,_,_,_,_] (by decide) ⟨rfl,rfl,rfl,rfl,rfl,trivial⟩,?fJ,?fZ,?lX,?nV,?tV,?wN⟩⟩
       case fJ=>omega
       case fZ=>(rw[hsk];rfl)
       case lX=>(rw[hS];first|exact oO.put Bb ur (by omega)|exact oO)
       case nV=>exact(kx hab gq hcl kH (by omega)).1
       case tV=>exact hcm.trans (kx hab gq hcl kH (by omega)).2.1
       case wN=>(rw[(kx hab gq hcl kH (by omega)).2.2.2];omega)
       case jr=>omega
     ·refine bX rfl (bE (aW [0,4,5,6,7] rfl (aH (af 1 rfl (ag rfl (bj rfl) (af 1 rfl (aB (br ?_))))))))
      intro au aq
      refine⟨_,?jq,⟨i+1,sk,iz,_,_,_,(bh.trans hle2),rfl,aq.su rfl,ct.pick [0,1,2,3,4] [_,_,_,_,_] (by decide) ⟨rfl,rfl,rfl,rfl,rfl,trivial⟩,?fI,?fY,?lW,?qZ,?Ay⟩⟩
      case fI=>(have:=hcm.len;replace this:sc.od.length<=sk.od.length:=this;omega)
      case fY=>(obtain rfl:k=4:=(by omega);rw[eH,<-nN,if_pos (by omega)];unfold tA;rw[hcn,Int.toNat_natCast,hsk])
      case lW=>exact oO
      case qZ=>exact gq
      case Ay=>(have:=Ba;omega)
      case jq=>omega
   ·refine aV (bC [0,4,5,6,7,8,9] rfl (iZ 9 (.int .i64 (kF (ga d.ae c))) rfl (int_eq (by unfold kF;first|(rw[if_pos (by assumption)])|(rw[if_neg (by simp[*])]))) ?_))
    refine aH (ag rfl (az rfl gT rfl jP jO) (ag rfl (aw rfl dm (S9.bc 1 rfl rfl)) (af 1 rfl (aj rfl (eQ (C:=aQ) (l:=[_]) rfl rfl rfl rfl bt rfl rfl rfl rfl S9 ?_)))))
    intro Hi DR ki;clear S9
    refine aj rfl (gw (C:=aQ) (i:=1) (q:=0) (kF (ga d.ae c)) rfl rfl rfl rfl rfl rfl rfl rfl bt ki rfl rfl rfl (by show(_+1)*8<=_;first|omega|(simp only[ls];omega)) ?_)
    intro ah8 sY jH;clear ki
    have lq:=jH.pick [1,2,3,4,5] [_,_,_,_,_] (by decide) ⟨rfl,rfl,rfl,rfl,rfl,trivial⟩;clear jH
    refine ag rfl (az rfl gT rfl jP jO) (aj rfl (gJ (i:=1) (us:=[_]) (l':=[_,_]) (H':=[_,_,_,_,_]) rfl rfl lq rfl rfl rfl (lq.nS (i:=0) rfl) vz rfl (iq (lq.one (i:=0) rfl) rfl) rfl rfl ?_))
    intro vN wA;clear lq
    refine bL [0,4,5,6,7,8] rfl (af 1 rfl (aB (bK (bg ?_))))
    refine ck (fun aZ au aR=>∃(k:Nat) (sk:Cf) (iz:List (Int×Int)) (jx:Value) (mK:Value) (M5:Hp),M1.le M5/\aZ=4-k/\Env 88 [(0,.pointer (some ⟨cI,0,none⟩)),(4,.pointer (some ⟨aP,0,none⟩)),(5,.map (some iH)),(6,.pointer (some ⟨dE,0,none⟩)),(7,.int .i64 (i:Int)),(8,.int .i64 (c:Int)),(47,.int .i64 (k:Int))] au/\SH aR M5 X [Rs.row aQ mK sk.co,Rs.box dE 110 [jx,mK],Rs.row aQ jx sk.od,Rs.mp (Value.int .i64) (Value.int .i64) iH iz,Rs.box aP 110 [.slice none 0 0,.slice none 0 0]]/\k<=4/\sk=cfK d c ⟨sc.nu,sc.od,sc.co++[kF (ga d.ae c)]⟩ k/\wB d.ae.length iz sk.nu/\pn d st sk/\mb (⟨sc.nu,sc.od,sc.co++[kF (ga d.ae c)]⟩:Cf) sk/\sk.co.length<=9*i+1+2*k) rfl ?_ ?_
    ·intro au aq
     refine⟨_,⟨0,(⟨sc.nu,sc.od,sc.co++[kF (ga d.ae c)]⟩:Cf),es,_,_,_,Hp.le_refl _,rfl,aq.su rfl,wA.pick [0,1,2,3,4] [_,_,_,_,_] (by decide) ⟨rfl,rfl,rfl,rfl,rfl,trivial⟩,?iB,?iW,?px,?tU,?Fv,?Nv⟩⟩
     case iB=>omega
     case iW=>rfl
     case px=>exact hes
     case tU=>exact⟨hci.nl,hci.od,hci.nu,hci.pc,hci.sn,hci.ps⟩
     case Fv=>exact mb.refl _
     case Nv=>(rw[List.length_append];show _+1<=_;omega)
    ·rintro m4 a3 BM ⟨k,sk,iz,jx,mK,M5,cH,rfl,fB,iJ,hk,hsk,oO,gq,hcm,Ba⟩
     clear wA
     refine cy fB ?_
     clear fB a3
     replace bI:=bI.mono (Hp.aD cH iJ.mx)
     replace hsc:=hsc.mono (Hp.aD cH iJ.mx)
     replace hsi:=hsi.mono (Hp.aD cH iJ.mx)
     replace bq:=bq.mono (Hp.aD cH iJ.mx)
     have Nt:=gq.le
     have hnb:=fun(h:k<4)=>vk hab hcl h
     have O1:=fun h=>oO (bB d c k) h
     have Bb:=gq.nl
     refine ar (af 1 rfl (aB (di ?_)))
     refine bp rfl (fun hb48=>?_) (fun hb48=>?_)
     ·refine aV (bC [0,4,5,6,7,8,47] rfl (bg (ar (af 2 rfl (bL [0,4,5,6,7,8,47,10] rfl (af 3 rfl (ag rfl (run_build (l:=[_,_]) rfl rfl Fi rfl rfl) (aj rfl (dU rfl rfl rfl rfl rfl rfl rfl Pk iJ (Mc d c k (bI.mono iJ.bn) (hsc.mono iJ.bn) (hsi.mono iJ.bn) (bq.mono iJ.bn) (by first|assumption|omega) hab (by omega) (by omega) iJ.aT) ?_)))))))))
      rintro _ BL jc rfl;clear iJ
      refine dz 54 (.agg [.int .i64 (bB d c k:Int),.int .i64 (gW d c k:Int)].toArray) rfl rfl ?_
      have ur:=hnb (by omega)
      have ry:=O1 ur
      refine aj rfl (bW (l:=[_,_]) rfl rfl rfl qX rfl jc ?_)
      intro Ph PJ oJ;clear jc
      refine aj rfl (bH 0 [_,_] [_,_] [_,_,_,_,_,_] rfl oJ rfl rfl gX rfl rfl ?_)
      intro zt iU;clear oJ
      refine bL [0,4,5,6,7,8,47,11] rfl (af 1 rfl (ag rfl (az rfl dX rfl aY aX) (ag rfl (aw rfl aG (iU.bc 0 rfl rfl)) (ag rfl (KY (kc:=Value.int .i64) (vc:=Value.int .i64) (es:=iz) (k:=(bB d c k:Int)) (zv:=0) (i:=4) rfl rfl rfl nT mr BK iU rfl) (af 5 rfl (bM [0,4,5,6,7,8,47,11,12,13] rfl (ar (af 2 rfl ?_))))))))
      refine ax [0,4,5,6,7,8,47,11,12,63] rfl ?_
      refine gB rfl (fun n9=>?_) (fun n9=>?_)
      ·simp only[Bool.and_eq_true,Bool.or_eq_true,Bool.and_eq_false_iff,Bool.or_eq_false_iff,decide_eq_true_eq,decide_eq_false_iff_not,Bool.not_eq_true',Bool.not_eq_false']at n9
       have hS:ga sk.nu (bB d c k)<0:=by(rcases Int.lt_or_le (ga sk.nu (bB d c k)) 0 with h9|h9;exact h9;rw[if_neg (by omega)]at ry;rw[ry]at n9;simp at n9)
       replace hS:eP d c sk k=⟨sk.nu.set (bB d c k) (sk.od.length:Int),sk.od++[(bB d c k:Int)],sk.co++[(sk.od.length:Int),(gW d c k:Int)]⟩:=by unfold eP;rw[if_pos hS]
       refine ar (ag rfl (az rfl gT rfl jP jO) (ag rfl (aw rfl dm (iU.bc 2 rfl rfl)) (ag rfl (kZ (i:=3) rfl bt iU rfl) (af 1 rfl (bL [0,4,5,6,7,8,47,11,12] rfl (af 1 rfl (ag rfl (az rfl dX rfl aY aX) (ag rfl (aw rfl aG (iU.bc 0 rfl rfl)) ?_))))))))
       refine af 1 rfl (aj rfl (ou (kc:=Value.int .i64) (vc:=Value.int .i64) (es:=iz) (k:=(bB d c k:Int)) (e:=(sk.od.length:Int)) (i:=4) (H':=[_,_,_,_,_,_]) (.inl rfl) rfl iU rfl rfl rfl rfl nT mr rfl ?_))
       intro xR nQ;clear iU
       refine ax [0,4,5,6,7,8,47,11,12] rfl (aH (ag rfl (az rfl gT rfl jP jO) (ag rfl (aw rfl dm (nQ.bc 2 rfl rfl)) (ag rfl (az rfl dX rfl aY aX) (ag rfl (aw rfl aG (nQ.bc 0 rfl rfl)) (aj rfl (eQ (C:=aQ) (l:=[_]) rfl rfl rfl rfl bt rfl rfl rfl rfl nQ ?_)))))))
       intro vF GL kL;clear nQ
       refine aj rfl (gw (C:=aQ) (i:=4) (q:=0) (bB d c k:Int) rfl rfl rfl rfl rfl rfl rfl rfl bt kL rfl rfl rfl (by show(_+1)*8<=_;first|omega|(simp only[ls];omega)) ?_)
       intro jx zr jV;clear kL
       have ma:=jV.pick [1,2,3,4,5,6] [_,_,_,_,_,_] (by decide) ⟨rfl,rfl,rfl,rfl,rfl,rfl,trivial⟩;clear jV
       refine ag rfl (az rfl gT rfl jP jO) (aj rfl (gJ (i:=2) (us:=[_]) (l':=[_,_]) (H':=[_,_,_,_,_,_]) rfl rfl ma rfl rfl rfl (ma.nS (i:=3) rfl) vz rfl (iq (ma.one (i:=3) rfl) rfl) rfl rfl ?_))
       intro GK tH;clear ma
       refine ax [0,4,5,6,7,8,47,11,12] rfl (aH (ag rfl (az rfl gT rfl jP jO) (ag rfl (aw rfl dm (tH.bc 2 rfl rfl)) (af 1 rfl (ag rfl (az rfl dX rfl aY aX) (ag rfl (aw rfl aG (tH.bc 0 rfl rfl)) (aj rfl (uH (C:=aQ) (l:=[_,_]) (pl:=[(0,1),(1,1)]) rfl rfl rfl rfl bt rfl rfl rfl rfl rfl tH ?_))))))))
       intro Yf GJ jG;clear tH
       have jF:=jG.qi (C:=aQ) [(sk.od.length:Int),(gW d c k:Int)] (i:=0) (H':=[_,_,_,_,_,_,_]) rfl rfl (by simp) rfl;clear jG
       obtain⟨M6,eW,kK,⟨_,_,eE,hr3⟩⟩:=jF.gP (i:=0) (H':=[_,_,_,_,_,_,_]) rfl rfl (by show 2*_<=_;decide);clear jF;injection eE with qf _ qd;subst qf;subst qd
       replace bI:=bI.mono (Hp.aD eW kK.mx)
       replace hsc:=hsc.mono (Hp.aD eW kK.mx)
       replace hsi:=hsi.mono (Hp.aD eW kK.mx)
       replace bq:=bq.mono (Hp.aD eW kK.mx)
       refine aj rfl (sX (C:=aQ) (i:=2) rfl rfl rfl rfl rfl rfl rfl rfl bt kK rfl hr3 kK.m (by show(_+_)*8<=_;first|omega|(simp only[ls];omega)) ?_)
       intro Og DN lR;clear kK
       change SH _ _ _ [_,_,Rs.row aQ Og (sk.co++([(sk.od.length:Int),(gW d c k:Int)])),_,_,_,_]at lR
       refine ag rfl (az rfl gT rfl jP jO) (aj rfl (gJ (i:=3) (us:=[_]) (l':=[_,_]) (H':=[_,_,_,_,_,_,_]) rfl rfl lR rfl rfl rfl (lR.nS (i:=2) rfl) vz rfl (iq (lR.one (i:=2) rfl) rfl) rfl rfl ?_))
       intro GI ll;clear lR
       refine aB (bE (aW [0,4,5,6,7,8,47] rfl ?_))
       have FN:sk.od++[(bB d c k:Int)]=(eP d c sk k).od:=by rw[hS]
       rw[FN]at ll;clear FN
       have FM:sk.co++([(sk.od.length:Int),(gW d c k:Int)])=(eP d c sk k).co:=by rw[hS]
       rw[FM]at ll;clear FM
       refine aH (ag rfl (bj rfl) (af 1 rfl (aB (br ?_))))
       intro au aq
       refine⟨_,?mO,⟨k+1,(eP d c sk k),mp (bB d c k:Int) (sk.od.length:Int) iz,_,_,_,(cH.trans eW),rfl,aq.su rfl,ll.pick [2,3,4,5,6] [_,_,_,_,_] (by decide) ⟨rfl,rfl,rfl,rfl,rfl,trivial⟩,?jN,?jM,?tT,?Aw,?Nu,?agP⟩⟩
       case jN=>omega
       case jM=>(rw[hsk];rfl)
       case tT=>(rw[hS];first|exact oO.put Bb ur (by omega)|exact oO)
       case Aw=>exact(kx hab gq hcl kH (by omega)).1
       case Nu=>exact hcm.trans (kx hab gq hcl kH (by omega)).2.1
       case agP=>(rw[(kx hab gq hcl kH (by omega)).2.2.2];omega)
       case mO=>omega
      ·simp only[Bool.and_eq_true,Bool.or_eq_true,Bool.and_eq_false_iff,Bool.or_eq_false_iff,decide_eq_true_eq,decide_eq_false_iff_not,Bool.not_eq_true',Bool.not_eq_false']at n9
       have hS:¬ga sk.nu (bB d c k)<0:=by intro h9;rw[if_pos h9]at ry;rw[ry]at n9;simp at n9
       rw[if_neg hS]at ry
       have nr:=gq.nu _ ur
       replace hS:eP d c sk k=⟨sk.nu,sk.od,sk.co++[ga sk.nu (bB d c k),(gW d c k:Int)]⟩:=by unfold eP;rw[if_neg hS]
       refine aV (aW [0,4,5,6,7,8,47,11,12] rfl (iZ 12 (.int .i64 (ga sk.nu (bB d c k))) rfl (int_eq (by rw[ry];rfl)) ?_))
       refine aH (ag rfl (az rfl gT rfl jP jO) (ag rfl (aw rfl dm (iU.bc 2 rfl rfl)) (af 1 rfl (ag rfl (az rfl dX rfl aY aX) (ag rfl (aw rfl aG (iU.bc 0 rfl rfl)) (aj rfl (uH (C:=aQ) (l:=[_,_]) (pl:=[(0,1),(1,1)]) rfl rfl rfl rfl bt rfl rfl rfl rfl rfl iU ?_)))))))
       intro ajR xQ qT;clear iU
       have tG:=qT.qi (C:=aQ) [ga sk.nu (bB d c k),(gW d c k:Int)] (i:=0) (H':=[_,_,_,_,_,_,_]) rfl rfl (by simp) rfl;clear qT
       obtain⟨M7,iN,mG,⟨_,_,eE,hr4⟩⟩:=tG.gP (i:=0) (H':=[_,_,_,_,_,_,_]) rfl rfl (by show 2*_<=_;decide);clear tG;injection eE with qf _ qd;subst qf;subst qd
       replace bI:=bI.mono (Hp.aD iN mG.mx)
       replace hsc:=hsc.mono (Hp.aD iN mG.mx)
       replace hsi:=hsi.mono (Hp.aD iN mG.mx)
       replace bq:=bq.mono (Hp.aD iN mG.mx)
       refine aj rfl (sX (C:=aQ) (i:=2) rfl rfl rfl rfl rfl rfl rfl rfl bt mG rfl hr4 mG.m (by show(_+_)*8<=_;first|omega|(simp only[ls];omega)) ?_)
       intro Oe PI kV;clear mG
       change SH _ _ _ [_,_,Rs.row aQ Oe (sk.co++([ga sk.nu (bB d c k),(gW d c k:Int)])),_,_,_,_]at kV
       refine ag rfl (az rfl gT rfl jP jO) (aj rfl (gJ (i:=3) (us:=[_]) (l':=[_,_]) (H':=[_,_,_,_,_,_,_]) rfl rfl kV rfl rfl rfl (kV.nS (i:=2) rfl) vz rfl (iq (kV.one (i:=2) rfl) rfl) rfl rfl ?_))
       intro xP nz;clear kV
       refine aB (bE (aW [0,4,5,6,7,8,47] rfl ?_))
       have FL:sk.od=(eP d c sk k).od:=by rw[hS]
       rw[FL]at nz;clear FL
       have FK:sk.co++([ga sk.nu (bB d c k),(gW d c k:Int)])=(eP d c sk k).co:=by rw[hS]
       rw[FK]at nz;clear FK
       refine aH (ag rfl (bj rfl) (af 1 rfl (aB (br ?_))))
       intro au aq
       refine⟨_,?lZ,⟨k+1,(eP d c sk k),iz,_,_,_,(cH.trans iN),rfl,aq.su rfl,nz.pick [2,3,4,5,6] [_,_,_,_,_] (by decide) ⟨rfl,rfl,rfl,rfl,rfl,trivial⟩,?jL,?jK,?tS,?Fu,?Fs,?agO⟩⟩
       case jL=>omega
       case jK=>(rw[hsk];rfl)
       case tS=>(rw[hS];first|exact oO.put Bb ur (by omega)|exact oO)
       case Fu=>exact(kx hab gq hcl kH (by omega)).1
       case Fs=>exact hcm.trans (kx hab gq hcl kH (by omega)).2.1
       case agO=>(rw[(kx hab gq hcl kH (by omega)).2.2.2];omega)
       case lZ=>omega
     ·refine bX rfl (bE (aW [0,4,5,6,7] rfl (aH (af 1 rfl (ag rfl (bj rfl) (af 1 rfl (aB (br ?_))))))))
      intro au aq
      refine⟨_,?n7,⟨i+1,sk,iz,_,_,_,(bh.trans cH),rfl,aq.su rfl,iJ.pick [0,1,2,3,4] [_,_,_,_,_] (by decide) ⟨rfl,rfl,rfl,rfl,rfl,trivial⟩,?lU,?lT,?tQ,?Fq,?Fp⟩⟩
      case lU=>(have:=hcm.len;replace this:sc.od.length<=sk.od.length:=this;omega)
      case lT=>(obtain rfl:k=4:=(by omega);rw[eH,<-nN,if_pos (by omega)];unfold tA;rw[hcn,Int.toNat_natCast,hsk])
      case tQ=>exact oO
      case Fq=>exact gq
      case Fp=>(have:=Ba;omega)
      case n7=>omega
  ·refine bX rfl (cP [4,6] rfl (ag rfl (aU [_,_] rfl gT nU (S9.bs 1 rfl rfl)) (aj rfl (gJ (i:=4) (us:=[_,_]) (l':=[_,_]) (H':=[_,_,_,_,_]) rfl rfl S9 rfl rfl rfl rfl nU rfl (iq (S9.one (i:=2) rfl) (iq (S9.one (i:=0) rfl) rfl)) rfl rfl ?_))))
   intro GH pd;clear S9
   refine ax [4] rfl ?_
   obtain⟨M8,uu,nP,⟨A1,c1,e1,ja⟩⟩:=pd.gP (i:=2) (H':=[_,_,_,_,_]) rfl rfl (by show _*8<=_;first|omega|(simp only[ls];omega))
   clear pd;subst e1
   replace bI:=bI.mono (Hp.aD uu nP.mx)
   replace hsc:=hsc.mono (Hp.aD uu nP.mx)
   replace hsi:=hsi.mono (Hp.aD uu nP.mx)
   replace bq:=bq.mono (Hp.aD uu nP.mx)
   obtain⟨M9,gU,ny,⟨A2,c2,e2,p8⟩⟩:=nP.gP (i:=0) (H':=[_,_,_,_,_]) rfl rfl (by show _*8<=_;first|omega|(simp only[ls];omega))
   clear nP;subst e2
   replace bI:=bI.mono (Hp.aD gU ny.mx)
   replace hsc:=hsc.mono (Hp.aD gU ny.mx)
   replace hsi:=hsi.mono (Hp.aD gU ny.mx)
   replace bq:=bq.mono (Hp.aD gU ny.mx)
   replace ja:=ja.mono gU
   refine dI hC [_] rfl rfl ⟨⟨_,rfl,dK (us:=[_,_]) gT rfl nU (ny.bs 4 rfl rfl)⟩,trivial⟩ ?_
   refine⟨_,rfl,_,(bh.trans uu).trans gU,(ny.pick [] [] (by decide) trivial),?_⟩
   have e9:fF d st=sc:=by unfold fF;rw[nN];rw[nN]at OC;exact U1 (by rw[<-nN];omega) _ (by rw[nN]at hi;omega)
   rw[e9]
   exact⟨_,_,_,_,rfl,ja,p8⟩
noncomputable def Z5f:=Tryz.f65.body.getD .skip
set_option maxRecDepth 10000 in
theorem RU{w:World}{M:Hp}{X:Fr}(d:Dg){bz:Option Addr}{bw:Nat}(c k:Nat)(aC:aJ bu (M.un X.h) bz bw d.ae)(hab:aO d=true)(hc:c<d.ae.length)(hk:k<4)(S:SH w M X []):Cq Tryz.prog 65 [.agg [.slice bz d.ae.length bw,.int .i64 d.loops].toArray,.agg [.int .i64 (c:Int),.int .i64 (k:Int)].toArray] w M X (fun u=>u=.agg [.int .i64 ((bB d c k:Nat):Int),.int .i64 ((gW d c k:Nat):Int)].toArray):=by
 unfold Cq
 have iL:d.ae.length*40<=140737488355328:=aC.room
 have Pb:=ey hab hc hk
 refine cw (b:=Z5f) Tryz.func65 rfl Tryz.ntmps65 rfl (fun C hC=>(cB [0,1] rfl (ar (aj rfl (dx (l:=[_,_]) rfl rfl rfl rfl rfl S ?_)))))
 intro aP w1 S1;clear S
 refine aj rfl (dx (l:=[_,_]) rfl rfl rfl rfl rfl S1 ?_)
 intro bJ w2 S2;clear S1
 refine aj rfl (bW (l:=[_,_]) rfl rfl rfl pF rfl S2 ?_)
 intro dE w3 S3;clear S2
 refine bM [2,3,4] rfl (dH S3 9 ?_)
 clear S3
 refine ay 0 rfl (fun ah Sz=>aU [_,_] rfl aM aN (Sz.suf.bs 2 rfl rfl)) (ay 1 rfl (fun ah Sz=>aU [_,_] rfl aM aN (Sz.suf.bs 2 rfl rfl)) (ay 2 rfl (fun ah Sz=>aU [_,_] rfl dR iM (Sz.suf.bs 1 rfl rfl)) (dQ 3 rfl (fun ah Sz=>dZ rfl rfl rfl rfl rfl ux Sz (uB d c k ((aC.mono (Hp.aD ah Sz.mx)).mono Sz.bn) (by omega) (by omega) Sz.aT)) ?_)))
 refine ay 4 rfl (fun ah Sz=>aU [_,_] rfl aM aN (Sz.suf.bs 2 rfl rfl)) (ay 5 rfl (fun ah Sz=>aU [_,_] rfl dR iM (Sz.suf.bs 1 rfl rfl)) (dQ 6 rfl (fun ah Sz=>dZ rfl rfl rfl rfl rfl Pp Sz (Mg d c k ((aC.mono (Hp.aD ah Sz.mx)).mono Sz.bn) (by omega) (by omega) Sz.aT)) ?_))
 refine dQ 7 rfl (fun ah Sz=>dZ rfl rfl rfl rfl rfl sJ Sz (sN d (aL d c k) (bO d c k) ((aC.mono (Hp.aD ah Sz.mx)).mono Sz.bn) Sz.aT)) (cm 8 rfl (fun ng cF=>((bH 0 [_,_] [_,_] [_,_,_] rfl cF rfl rfl iM rfl rfl ?_))))
 intro lH ct;clear cF
 refine ij ct ?_;clear ct
 change WA _ _ _ _ _ _ _ _ _ _ _ _ [_,_,_]
 refine cD (fun ow cS=>(aW [4] rfl (dI hC [_] rfl rfl ⟨⟨_,rfl,dK (us:=[_,_]) dR rfl iM (cS.bs 0 rfl rfl)⟩,trivial⟩ ?_)))
 exact⟨_,rfl,(cS.pick [] [] (by decide) trivial),rfl⟩
noncomputable def Z5g:=Tryz.f38.body.getD .skip
set_option maxHeartbeats 4000000 in
set_option maxRecDepth 10000 in
theorem aa5{w:World}{M:Hp}{X:Fr}(d:Dg){bz:Option Addr}{bw:Nat}(st:Nat)(aC:aJ bu (M.un X.h) bz bw d.ae)(hn:d.ae.length<=16)(hab:aO d=true)(hst:st<d.ae.length)(S:SH w M X []):Ct Tryz.prog 38 [.agg [.slice bz d.ae.length bw,.int .i64 d.loops].toArray,.int .i64 (st:Int)] w M X (fun u N=>∃A c B e,u=.tuple [.slice A (fF d st).co.length c,.slice B (fF d st).od.length e].toArray/\aJ aQ N A c (fF d st).co/\aJ aQ N B e (fF d st).od):=by
 unfold Ct
 have iL:d.ae.length*40<=140737488355328:=aC.room
 refine cw (b:=Z5g) Tryz.func38 rfl Tryz.ntmps38 rfl (fun C hC=>(cB [0,1] rfl (ar (aj rfl (dx (l:=[_,_]) rfl rfl rfl rfl rfl S ?_)))))
 intro aP w1 S1;clear S
 refine af 2 rfl (bL [1,2] rfl (ag rfl (az rfl aM rfl dN dM) (ag rfl (aw rfl cE (S1.bc 0 rfl rfl)) (ag rfl (cK rfl cE) (aj rfl (sP (C:=aQ) d.ae.length rfl rfl rfl rfl rfl bt (by first|rfl|omega) (by show _*8<=_;first|omega|(simp only[ls];omega)) S1 ?_))))))
 intro s6 w2 S2;clear S1
 refine af 1 rfl (bM [1,2,6] rfl (ar (af 1 rfl (aB (bK (bg ?_))))))
 refine ck (fun aZ au aR=>∃(j0:Nat) (nm:List Int) (kB:Value),aZ=d.ae.length-j0/\Env 92 [(1,.int .i64 (st:Int)),(2,.pointer (some ⟨aP,0,none⟩)),(6,kB),(7,.int .i64 (j0:Int))] au/\SH aR M X [Rs.row aQ kB nm,Rs.box aP 24 [.slice bz d.ae.length bw,.int .i64 d.loops]]/\j0<=d.ae.length/\nm.length=d.ae.length/\(∀x,x<j0->ga nm x=-1)) rfl ?_ ?_
 ·intro au aq
  refine⟨_,⟨0,_,_,rfl,aq.su rfl,S2.pick [0,1] [_,_] (by decide) ⟨rfl,rfl,trivial⟩,?dh,?dC,?jm⟩⟩
  case dh=>omega
  case dC=>(rw[List.length_replicate])
  case jm=>(intro x hx;omega)
 ·rintro m1 a1 w3 ⟨j0,nm,kB,rfl,bN,S3,hj0,hnl,hnm⟩
  clear S2
  refine cy bN ?_
  clear bN a1
  refine cJ (ar (af 2 rfl (ag rfl (kZ (i:=0) rfl bt S3 rfl) (af 1 rfl (ax [1,2,6,7,21] rfl ?_)))))
  refine bp rfl (fun rB=>?_) (fun rB=>?_)
  ·refine aV (bC [1,2,6,7] rfl (bg (aH (af 2 rfl (ag rfl (bS (i:=0) j0 rfl bt S3 rfl) (aj rfl (iE (C:=aQ) (i:=0) (e:=j0) (j:=0) (us:=[_]) (H':=[_,_]) (-1) rfl rfl S3 rfl (by first|omega|(simp only[ls];omega)) rfl rfl rfl gp rfl rfl rfl rfl ?_)))))))
   intro w4 S4;clear S3
   refine aB (bE (aW [1,2,6,7] rfl (aH (af 1 rfl (ag rfl (bj rfl) (af 1 rfl (aB (br ?_))))))))
   intro au aq
   refine⟨_,?fK,⟨j0+1,_,_,rfl,aq.su rfl,S4.pick [0,1] [_,_] (by decide) ⟨rfl,rfl,trivial⟩,?dv,?dL,?jl⟩⟩
   case dv=>omega
   case dL=>simpa using hnl
   case jl=>(intro x hx;rw[eX _ _ _ _ (by omega)];split;rfl;exact hnm x (by omega))
   case fK=>omega
  ·refine bX rfl (bC [1,2,6] rfl ?_)
   have nZ:nm=(List.replicate d.ae.length (-1)):=Ag (by rw[hnl,List.length_replicate]) fun x hx=>by rw[hnm x (by omega),rZ _ _ _ (by omega)]
   rw[nZ]at S3;clear nZ
   refine aH (af 2 rfl (ag rfl (bS (i:=0) st rfl bt S3 rfl) (aj rfl (iE (C:=aQ) (i:=0) (e:=st) (j:=0) (us:=[_]) (H':=[_,_]) 0 rfl rfl S3 rfl (by first|omega|(simp only[ls];omega)) rfl rfl rfl gp rfl rfl rfl rfl ?_))))
   intro w5 S5;clear S3
   refine bL [1,2,6] rfl (af 1 rfl (aj rfl (eQ (C:=aQ) (l:=[_]) rfl rfl rfl rfl bt rfl rfl rfl rfl S5 ?_)))
   intro bJ w6 S6;clear S5
   refine af 1 rfl (bL [2,6,8] rfl (af 1 rfl (aB (di (ar (af 1 rfl (aB (bK ?_))))))))
   refine bg ?_
   have S7:=S6.qi (C:=aQ) [(st:Int)] (i:=0) (H':=[_,_,_]) rfl rfl (by simp) rfl;clear S6
   obtain⟨vQ,Hj⟩:∃v,v=Value.slice (some ⟨bJ,0,none⟩) ([(st:Int)]).length ([(st:Int)]).length:=⟨_,rfl⟩
   rw[<-Hj]at S7
   refine iZ 8 (vQ) rfl Hj.symm ?_
   have S8:=S7.jI aQ;clear S7
   refine ck (fun aZ au aR=>∃(i:Nat) (sc:Cf) (Ob:Value) (eV:Value) (BQ:Value) (M1:Hp),M.le M1/\aZ=d.ae.length-i/\Env 92 [(2,.pointer (some ⟨aP,0,none⟩)),(6,Ob),(8,eV),(9,BQ),(10,.int .i64 (i:Int))] au/\SH aR M1 X [Rs.row aQ BQ sc.co,Rs.row aQ eV sc.od,Rs.row aQ Ob sc.nu,Rs.box aP 24 [.slice bz d.ae.length bw,.int .i64 d.loops]]/\i<=sc.od.length/\sc=eH d st i/\pn d st sc/\sc.co.length<=9*i) rfl ?_ ?_
   ·intro au aq
    refine⟨_,⟨0,(zL d st),_,_,_,_,Hp.le_refl _,rfl,aq.su rfl,S8.pick [0,1,2,3] [_,_,_,_] (by decide) ⟨rfl,rfl,rfl,rfl,trivial⟩,?fg,?fR,?ko,?mI⟩⟩
    case fg=>(show 0<=1;omega)
    case fR=>rfl
    case ko=>exact MU hst
    case mI=>exact Nat.le_refl _
   ·rintro m2 a2 w7 ⟨i,sc,Ob,eV,BQ,M1,hle2,rfl,cU,S9,hi,nN,hci,ajq⟩
    clear S8
    refine cy cU ?_
    clear cU a2
    replace aC:=aC.mono (Hp.aD hle2 S9.mx)
    have OC:=hci.le
    have GZ:=fun h=>hci.od i h
    refine cJ (ar (af 2 rfl (ag rfl (kZ (i:=1) rfl bt S9 rfl) (af 1 rfl (ax [2,6,8,9,10,35] rfl ?_)))))
    refine bp rfl (fun mQ=>?_) (fun mQ=>?_)
    ·refine aV (bC [2,6,8,9,10] rfl (bg (ar (af 2 rfl (ag rfl (bS (i:=1) i rfl bt S9 rfl) (ag rfl (aw rfl aG (S9.dS (i:=1) (e:=i) (j:=0) rfl (by first|omega|(simp only[ls];omega)) rfl rfl)) ?_))))))
     refine af 1 rfl (bM [2,6,8,9,10,11] rfl (cJ ?_))
     obtain⟨uT,vX,Ci⟩:=GZ (by omega)
     obtain⟨c,hcn⟩:∃c:Nat,ga sc.od i=(c:Int):=⟨(ga sc.od i).toNat,(Int.toNat_of_nonneg uT).symm⟩
     have hcl:c<d.ae.length:=by rw[hcn,Int.toNat_natCast]at vX;exact vX
     have kH:cg d c=cg d st:=by rw[hcn,Int.toNat_natCast]at Ci;exact hci.pc c hcl (by rw[Ci];omega)
     rw[hcn,Int.toNat_natCast]at Ci
     clear GZ vX uT
     refine iZ 11 (.int .i64 (c:Int)) rfl (int_eq hcn) (aH (ag rfl (az rfl aM rfl dN dM) (ag rfl (aw rfl cE (S9.bc 3 rfl rfl)) (af 1 rfl (ag rfl (cN c rfl fX aC) (ag rfl (az rfl b6 rfl lM lJ) (ag rfl (aw rfl gY (aC.cell S9.um (i:=c) (by first|omega|(simp only[ls];omega)) 4 rfl rfl)) ?_)))))))
     refine ax [2,6,8,9,10,11,47] rfl ?_
     refine gB rfl (fun Bh=>?_) (fun Bh=>?_)
     ·refine aH (af 1 rfl (aj rfl (eQ (C:=aQ) (l:=[_]) rfl rfl rfl rfl bt rfl rfl rfl rfl S9 ?_)))
      intro dE w8 bQ;clear S9
      refine aj rfl (gw (C:=aQ) (i:=1) (q:=0) 1 rfl rfl rfl rfl rfl rfl rfl rfl bt bQ rfl rfl rfl (by show(_+1)*8<=_;first|omega|(simp only[ls];omega)) ?_)
      intro ah9 w9 cz;clear bQ
      have cO:=cz.pick [1,2,3,4] [_,_,_,_] (by decide) ⟨rfl,rfl,rfl,rfl,trivial⟩;clear cz
      refine af 1 rfl (bM [2,6,8,9,10,11] rfl ?_)
      have za:sc.co++[1]=(sc.co++[kF (ga d.ae c)]):=by unfold kF;first|(rw[if_pos (by assumption)])|(rw[if_neg (by simp[*])])
      rw[za]at cO;clear za
      refine aH (af 1 rfl (aB (bK (bg ?_))))
      refine ck (fun aZ au aR=>∃(k:Nat) (sk:Cf) (AV:Value) (jx:Value) (mK:Value) (M2:Hp),M1.le M2/\aZ=4-k/\Env 92 [(2,.pointer (some ⟨aP,0,none⟩)),(6,AV),(8,jx),(9,mK),(10,.int .i64 (i:Int)),(11,.int .i64 (c:Int)),(12,.int .i64 (k:Int))] au/\SH aR M2 X [Rs.row aQ mK sk.co,Rs.row aQ jx sk.od,Rs.row aQ AV sk.nu,Rs.box aP 24 [.slice bz d.ae.length bw,.int .i64 d.loops]]/\k<=4/\sk=cfK d c ⟨sc.nu,sc.od,sc.co++[kF (ga d.ae c)]⟩ k/\pn d st sk/\mb (⟨sc.nu,sc.od,sc.co++[kF (ga d.ae c)]⟩:Cf) sk/\sk.co.length<=9*i+1+2*k) rfl ?_ ?_
      ·intro au aq
       refine⟨_,⟨0,(⟨sc.nu,sc.od,sc.co++[kF (ga d.ae c)]⟩:Cf),_,_,_,_,Hp.le_refl _,rfl,aq.su rfl,cO.pick [0,1,2,3] [_,_,_,_] (by decide) ⟨rfl,rfl,rfl,rfl,trivial⟩,?fJ,?fZ,?lX,?nV,?tV⟩⟩
       case fJ=>omega
       case fZ=>rfl
       case lX=>exact⟨hci.nl,hci.od,hci.nu,hci.pc,hci.sn,hci.ps⟩
       case nV=>exact mb.refl _
       case tV=>(rw[List.length_append];show _+1<=_;omega)
      ·rintro m3 a3 ld ⟨k,sk,AV,jx,mK,M2,bZ,rfl,fB,cF,hk,hsk,gq,hcm,Ba⟩
       clear cO
       refine cy fB ?_
       clear fB a3
       replace aC:=aC.mono (Hp.aD bZ cF.mx)
       have Nt:=gq.le
       have hnb:=fun(h:k<4)=>vk hab hcl h
       have Bb:=gq.nl
       refine cJ (ar (af 2 rfl (ax [2,6,8,9,10,11,12,55] rfl ?_)))
       refine bp rfl (fun Bf=>?_) (fun Bf=>?_)
       ·refine aV (bC [2,6,8,9,10,11,12] rfl (bg (ar (ag rfl (aU [_,_] rfl aM aN (cF.bs 3 rfl rfl)) (af 2 rfl (ag rfl (run_build (l:=[_,_]) rfl rfl rq rfl rfl) (aj rfl (dU rfl rfl rfl rfl rfl rfl rfl Yk cF (RU d c k (aC.mono cF.bn) (hab) (hcl) ((by omega)) cF.aT) ?_))))))))
        rintro _ lI ct rfl;clear cF
        refine aj rfl (bW (l:=[_,_]) rfl rfl rfl pF rfl ct ?_)
        intro lK nL cS;clear ct
        refine aj rfl (bH 0 [_,_] [_,_] [_,_,_,_,_] rfl cS rfl rfl iM rfl rfl ?_)
        intro ng cC;clear cS
        refine bM [2,6,8,9,10,11,12,13] rfl (ar (af 1 rfl (ag rfl (az rfl dR rfl aY aX) (ag rfl (aw rfl aG (cC.bc 0 rfl rfl)) ?_))))
        have ur:=hnb (by omega)
        refine ag rfl (bS (i:=3) (bB d c k) rfl bt cC rfl) (ag rfl (aw rfl aG (cC.dS (i:=3) (e:=bB d c k) (j:=0) rfl (by first|omega|(simp only[ls];omega)) rfl rfl)) ?_)
        refine af 1 rfl (ax [2,6,8,9,10,11,12,13,68] rfl ?_)
        refine bp rfl (fun Be=>?_) (fun Be=>?_)
        ·have hS:eP d c sk k=⟨sk.nu.set (bB d c k) (sk.od.length:Int),sk.od++[(bB d c k:Int)],sk.co++[(sk.od.length:Int),(gW d c k:Int)]⟩:=by unfold eP;rw[if_pos Be]
         refine ar (af 1 rfl (ag rfl (az rfl dR rfl aY aX) (ag rfl (aw rfl aG (cC.bc 0 rfl rfl)) (af 1 rfl (ag rfl (kZ (i:=2) rfl bt cC rfl) (ag rfl (bS (i:=3) (bB d c k) rfl bt cC rfl) (aj rfl (iE (C:=aQ) (i:=3) (e:=bB d c k) (j:=0) (us:=[_]) (H':=[_,_,_,_,_]) (sk.od.length:Int) rfl rfl cC rfl (by first|omega|(simp only[ls];omega)) rfl rfl rfl gp rfl rfl rfl rfl ?_))))))))
         intro lH bY;clear cC
         refine ax [2,6,8,9,10,11,12,13] rfl (aH (af 1 rfl (ag rfl (az rfl dR rfl aY aX) (ag rfl (aw rfl aG (bY.bc 0 rfl rfl)) (aj rfl (eQ (C:=aQ) (l:=[_]) rfl rfl rfl rfl bt rfl rfl rfl rfl bY ?_))))))
         intro iI ow dW;clear bY
         refine aj rfl (gw (C:=aQ) (i:=3) (q:=0) (bB d c k:Int) rfl rfl rfl rfl rfl rfl rfl rfl bt dW rfl rfl rfl (by show(_+1)*8<=_;first|omega|(simp only[ls];omega)) ?_)
         intro AU oU ek;clear dW
         have fM:=ek.pick [1,2,3,4,5] [_,_,_,_,_] (by decide) ⟨rfl,rfl,rfl,rfl,rfl,trivial⟩;clear ek
         refine af 1 rfl (ax [2,6,8,9,10,11,12,13] rfl (dH fM 11 ?_))
         clear fM
         refine aK 9 [0,1] rfl (aS 2 rfl (az rfl dR rfl aY aX) (ay 3 rfl (fun ah Sz=>aw rfl aG (Sz.suf.bc 0 rfl rfl)) (ay 4 rfl (fun ah Sz=>bS (i:=3) (bB d c k) rfl bt Sz.suf rfl) (ay 5 rfl (fun ah Sz=>aw rfl aG (Sz.suf.dS (i:=3) (e:=bB d c k) (j:=0) rfl (by first|omega|(simp only[ls];omega)) rfl rfl)) ?_))))
         refine aS 6 rfl (az rfl dR rfl aY aX) (ay 7 rfl (fun ah Sz=>aw rfl aG (Sz.suf.bc 0 rfl rfl)) (cm 8 rfl (fun xS kj=>((uH (C:=aQ) (l:=[_,_]) (pl:=[(0,1),(1,1)]) rfl rfl rfl rfl bt rfl rfl rfl rfl rfl kj ?_)))))
         intro rS sY pj;clear kj
         refine dB [_] [_,_,_,_,_,_] rfl pj ?_;clear pj
         refine cm 9 rfl (fun BM gu=>?_)
         have jH:=gu.qi (C:=aQ) [ga (sk.nu.set (bB d c k) (sk.od.length:Int)) (bB d c k),(gW d c k:Int)] (i:=0) (H':=[_,_,_,_,_,_]) rfl rfl (by simp) rfl;clear gu
         obtain⟨M13,WH,ki,⟨_,_,eE,hr1⟩⟩:=jH.gP (i:=0) (H':=[_,_,_,_,_,_]) rfl rfl (by show 2*_<=_;decide);clear jH;injection eE with qf _ qd;subst qf;subst qd
         replace aC:=aC.mono (Hp.aD WH ki.mx)
         refine(sX (C:=aQ) (i:=2) rfl rfl rfl rfl rfl rfl rfl rfl bt ki rfl hr1 ki.m (by show(_+_)*8<=_;first|omega|(simp only[ls];omega)) ?_)
         intro mK BL lq;clear ki
         change SH _ _ _ [_,_,Rs.row aQ mK (sk.co++([ga (sk.nu.set (bB d c k) (sk.od.length:Int)) (bB d c k),(gW d c k:Int)])),_,_,_]at lq
         refine ij lq ?_;clear lq
         change WA _ _ _ _ _ _ _ _ _ _ _ _ [_,_,_,_,_,_]
         refine aK 0 [10] rfl (cD (fun zt iJ=>(bE (aW [2,6,8,9,10,11,12] rfl ?_))))
         have y9:sk.co++([ga (sk.nu.set (bB d c k) (sk.od.length:Int)) (bB d c k),(gW d c k:Int)])=(eP d c sk k).co:=by first|(rw[hS];done)|(rw[hS,eX _ _ _ _ (by omega),if_pos rfl])
         rw[y9]at iJ;clear y9
         have vC:sk.od++[(bB d c k:Int)]=(eP d c sk k).od:=by rw[hS]
         rw[vC]at iJ;clear vC
         have FN:sk.nu.set (bB d c k) (sk.od.length:Int)=(eP d c sk k).nu:=by rw[hS]
         rw[FN]at iJ;clear FN
         refine aH (af 1 rfl (ag rfl (bj rfl) (af 1 rfl (aB (br ?_)))))
         intro au aq
         refine⟨_,?jq,⟨k+1,(eP d c sk k),_,_,_,_,(bZ.trans WH),rfl,aq.su rfl,iJ.pick [2,3,4,5] [_,_,_,_] (by decide) ⟨rfl,rfl,rfl,rfl,trivial⟩,?fI,?fY,?lW,?qZ,?Ay⟩⟩
         case fI=>omega
         case fY=>(rw[hsk];rfl)
         case lW=>exact(kx hab gq hcl kH (by omega)).1
         case qZ=>exact hcm.trans (kx hab gq hcl kH (by omega)).2.1
         case Ay=>(rw[(kx hab gq hcl kH (by omega)).2.2.2];omega)
         case jq=>omega
        ·have hS:eP d c sk k=⟨sk.nu,sk.od,sk.co++[ga sk.nu (bB d c k),(gW d c k:Int)]⟩:=by unfold eP;rw[if_neg Be]
         refine aV (aW [2,6,8,9,10,11,12,13] rfl (dH cC 11 ?_))
         clear cC
         refine aK 9 [0,1] rfl (aS 2 rfl (az rfl dR rfl aY aX) (ay 3 rfl (fun ah Sz=>aw rfl aG (Sz.suf.bc 0 rfl rfl)) (ay 4 rfl (fun ah Sz=>bS (i:=3) (bB d c k) rfl bt Sz.suf rfl) (ay 5 rfl (fun ah Sz=>aw rfl aG (Sz.suf.dS (i:=3) (e:=bB d c k) (j:=0) rfl (by first|omega|(simp only[ls];omega)) rfl rfl)) ?_))))
         refine aS 6 rfl (az rfl dR rfl aY aX) (ay 7 rfl (fun ah Sz=>aw rfl aG (Sz.suf.bc 0 rfl rfl)) (cm 8 rfl (fun xQ jG=>((uH (C:=aQ) (l:=[_,_]) (pl:=[(0,1),(1,1)]) rfl rfl rfl rfl bt rfl rfl rfl rfl rfl jG ?_)))))
         intro uY xP jF;clear jG
         refine dB [_] [_,_,_,_,_,_] rfl jF ?_;clear jF
         refine cm 9 rfl (fun PH ll=>?_)
         have qT:=ll.qi (C:=aQ) [ga sk.nu (bB d c k),(gW d c k:Int)] (i:=0) (H':=[_,_,_,_,_,_]) rfl rfl (by simp) rfl;clear ll
         obtain⟨M25,wS,lQ,⟨_,_,eE,hr2⟩⟩:=qT.gP (i:=0) (H':=[_,_,_,_,_,_]) rfl rfl (by show 2*_<=_;decide);clear qT;injection eE with qf _ qd;subst qf;subst qd
         replace aC:=aC.mono (Hp.aD wS lQ.mx)
         refine(sX (C:=aQ) (i:=2) rfl rfl rfl rfl rfl rfl rfl rfl bt lQ rfl hr2 lQ.m (by show(_+_)*8<=_;first|omega|(simp only[ls];omega)) ?_)
         intro Oh Ki mG;clear lQ
         change SH _ _ _ [_,_,Rs.row aQ Oh (sk.co++([ga sk.nu (bB d c k),(gW d c k:Int)])),_,_,_]at mG
         refine ij mG ?_;clear mG
         change WA _ _ _ _ _ _ _ _ _ _ _ _ [_,_,_,_,_,_]
         refine aK 0 [10] rfl (cD (fun PF kV=>(bE (aW [2,6,8,9,10,11,12] rfl ?_))))
         have FM:sk.co++([ga sk.nu (bB d c k),(gW d c k:Int)])=(eP d c sk k).co:=by first|(rw[hS];done)|(rw[hS,eX _ _ _ _ (by omega),if_pos rfl])
         rw[FM]at kV;clear FM
         have FL:sk.od=(eP d c sk k).od:=by rw[hS]
         rw[FL]at kV;clear FL
         have FK:sk.nu=(eP d c sk k).nu:=by rw[hS]
         rw[FK]at kV;clear FK
         refine aH (af 1 rfl (ag rfl (bj rfl) (af 1 rfl (aB (br ?_)))))
         intro au aq
         refine⟨_,?kq,⟨k+1,(eP d c sk k),_,_,_,_,(bZ.trans wS),rfl,aq.su rfl,kV.pick [2,3,4,5] [_,_,_,_] (by decide) ⟨rfl,rfl,rfl,rfl,trivial⟩,?iB,?iW,?px,?tU,?Fv⟩⟩
         case iB=>omega
         case iW=>(rw[hsk];rfl)
         case px=>exact(kx hab gq hcl kH (by omega)).1
         case tU=>exact hcm.trans (kx hab gq hcl kH (by omega)).2.1
         case Fv=>(rw[(kx hab gq hcl kH (by omega)).2.2.2];omega)
         case kq=>omega
       ·refine bX rfl (bE (aW [2,6,8,9,10] rfl (aH (af 1 rfl (ag rfl (bj rfl) (af 1 rfl (aB (br ?_))))))))
        intro au aq
        refine⟨_,?mO,⟨i+1,sk,_,_,_,_,(hle2.trans bZ),rfl,aq.su rfl,cF.pick [0,1,2,3] [_,_,_,_] (by decide) ⟨rfl,rfl,rfl,rfl,trivial⟩,?jN,?jM,?tT,?Aw⟩⟩
        case jN=>(have:=hcm.len;replace this:sc.od.length<=sk.od.length:=this;omega)
        case jM=>(obtain rfl:k=4:=(by omega);rw[eH,<-nN,if_pos (by omega)];unfold tA;rw[hcn,Int.toNat_natCast,hsk])
        case tT=>exact gq
        case Aw=>(have:=Ba;omega)
        case mO=>omega
     ·refine aH (af 1 rfl (aj rfl (eQ (C:=aQ) (l:=[_]) rfl rfl rfl rfl bt rfl rfl rfl rfl S9 ?_)))
      intro wm PE nz;clear S9
      refine aj rfl (gw (C:=aQ) (i:=1) (q:=0) 0 rfl rfl rfl rfl rfl rfl rfl rfl bt nz rfl rfl rfl (by show(_+1)*8<=_;first|omega|(simp only[ls];omega)) ?_)
      intro ah8 Kh pd;clear nz
      have nP:=pd.pick [1,2,3,4] [_,_,_,_] (by decide) ⟨rfl,rfl,rfl,rfl,trivial⟩;clear pd
      refine af 1 rfl (bM [2,6,8,9,10,11] rfl ?_)
      have Xx:sc.co++[0]=(sc.co++[kF (ga d.ae c)]):=by unfold kF;first|(rw[if_pos (by assumption)])|(rw[if_neg (by simp[*])])
      rw[Xx]at nP;clear Xx
      refine aH (af 1 rfl (aB (bK (bg ?_))))
      refine ck (fun aZ au aR=>∃(k:Nat) (sk:Cf) (AV:Value) (jx:Value) (mK:Value) (Rq:Hp),M1.le Rq/\aZ=4-k/\Env 92 [(2,.pointer (some ⟨aP,0,none⟩)),(6,AV),(8,jx),(9,mK),(10,.int .i64 (i:Int)),(11,.int .i64 (c:Int)),(12,.int .i64 (k:Int))] au/\SH aR Rq X [Rs.row aQ mK sk.co,Rs.row aQ jx sk.od,Rs.row aQ AV sk.nu,Rs.box aP 24 [.slice bz d.ae.length bw,.int .i64 d.loops]]/\k<=4/\sk=cfK d c ⟨sc.nu,sc.od,sc.co++[kF (ga d.ae c)]⟩ k/\pn d st sk/\mb (⟨sc.nu,sc.od,sc.co++[kF (ga d.ae c)]⟩:Cf) sk/\sk.co.length<=9*i+1+2*k) rfl ?_ ?_
      ·intro au aq
       refine⟨_,⟨0,(⟨sc.nu,sc.od,sc.co++[kF (ga d.ae c)]⟩:Cf),_,_,_,_,Hp.le_refl _,rfl,aq.su rfl,nP.pick [0,1,2,3] [_,_,_,_] (by decide) ⟨rfl,rfl,rfl,rfl,trivial⟩,?jL,?jK,?tS,?Fu,?Fs⟩⟩
       case jL=>omega
       case jK=>rfl
       case tS=>exact⟨hci.nl,hci.od,hci.nu,hci.pc,hci.sn,hci.ps⟩
       case Fu=>exact mb.refl _
       case Fs=>(rw[List.length_append];show _+1<=_;omega)
      ·rintro m4 a4 w53 ⟨k,sk,AV,jx,mK,Rq,q8,rfl,iT,ny,hk,hsk,gq,hcm,Ba⟩
       clear nP
       refine cy iT ?_
       clear iT a4
       replace aC:=aC.mono (Hp.aD q8 ny.mx)
       have Nt:=gq.le
       have hnb:=fun(h:k<4)=>vk hab hcl h
       have Bb:=gq.nl
       refine cJ (ar (af 2 rfl (ax [2,6,8,9,10,11,12,55] rfl ?_)))
       refine bp rfl (fun Bf=>?_) (fun Bf=>?_)
       ·refine aV (bC [2,6,8,9,10,11,12] rfl (bg (ar (ag rfl (aU [_,_] rfl aM aN (ny.bs 3 rfl rfl)) (af 2 rfl (ag rfl (run_build (l:=[_,_]) rfl rfl rq rfl rfl) (aj rfl (dU rfl rfl rfl rfl rfl rfl rfl Yk ny (RU d c k (aC.mono ny.bn) (hab) (hcl) ((by omega)) ny.aT) ?_))))))))
        rintro _ w54 mE rfl;clear ny
        refine aj rfl (bW (l:=[_,_]) rfl rfl rfl pF rfl mE ?_)
        intro Hi w55 S64;clear mE
        refine aj rfl (bH 0 [_,_] [_,_] [_,_,_,_,_] rfl S64 rfl rfl iM rfl rfl ?_)
        intro w56 qh;clear S64
        refine bM [2,6,8,9,10,11,12,13] rfl (ar (af 1 rfl (ag rfl (az rfl dR rfl aY aX) (ag rfl (aw rfl aG (qh.bc 0 rfl rfl)) ?_))))
        have ur:=hnb (by omega)
        refine ag rfl (bS (i:=3) (bB d c k) rfl bt qh rfl) (ag rfl (aw rfl aG (qh.dS (i:=3) (e:=bB d c k) (j:=0) rfl (by first|omega|(simp only[ls];omega)) rfl rfl)) ?_)
        refine af 1 rfl (ax [2,6,8,9,10,11,12,13,68] rfl ?_)
        refine bp rfl (fun Be=>?_) (fun Be=>?_)
        ·have hS:eP d c sk k=⟨sk.nu.set (bB d c k) (sk.od.length:Int),sk.od++[(bB d c k:Int)],sk.co++[(sk.od.length:Int),(gW d c k:Int)]⟩:=by unfold eP;rw[if_pos Be]
         refine ar (af 1 rfl (ag rfl (az rfl dR rfl aY aX) (ag rfl (aw rfl aG (qh.bc 0 rfl rfl)) (af 1 rfl (ag rfl (kZ (i:=2) rfl bt qh rfl) (ag rfl (bS (i:=3) (bB d c k) rfl bt qh rfl) (aj rfl (iE (C:=aQ) (i:=3) (e:=bB d c k) (j:=0) (us:=[_]) (H':=[_,_,_,_,_]) (sk.od.length:Int) rfl rfl qh rfl (by first|omega|(simp only[ls];omega)) rfl rfl rfl gp rfl rfl rfl rfl ?_))))))))
         intro w57 tF;clear qh
         refine ax [2,6,8,9,10,11,12,13] rfl (aH (af 1 rfl (ag rfl (az rfl dR rfl aY aX) (ag rfl (aw rfl aG (tF.bc 0 rfl rfl)) (aj rfl (eQ (C:=aQ) (l:=[_]) rfl rfl rfl rfl bt rfl rfl rfl rfl tF ?_))))))
         intro Ph GG o9;clear tF
         refine aj rfl (gw (C:=aQ) (i:=3) (q:=0) (bB d c k:Int) rfl rfl rfl rfl rfl rfl rfl rfl bt o9 rfl rfl rfl (by show(_+1)*8<=_;first|omega|(simp only[ls];omega)) ?_)
         intro jx PD o8;clear o9
         have jb:=o8.pick [1,2,3,4,5] [_,_,_,_,_] (by decide) ⟨rfl,rfl,rfl,rfl,rfl,trivial⟩;clear o8
         refine af 1 rfl (ax [2,6,8,9,10,11,12,13] rfl (dH jb 11 ?_))
         clear jb
         refine aK 9 [0,1] rfl (aS 2 rfl (az rfl dR rfl aY aX) (ay 3 rfl (fun ah Sz=>aw rfl aG (Sz.suf.bc 0 rfl rfl)) (ay 4 rfl (fun ah Sz=>bS (i:=3) (bB d c k) rfl bt Sz.suf rfl) (ay 5 rfl (fun ah Sz=>aw rfl aG (Sz.suf.dS (i:=3) (e:=bB d c k) (j:=0) rfl (by first|omega|(simp only[ls];omega)) rfl rfl)) ?_))))
         refine aS 6 rfl (az rfl dR rfl aY aX) (ay 7 rfl (fun ah Sz=>aw rfl aG (Sz.suf.bc 0 rfl rfl)) (cm 8 rfl (fun Kg KT=>((uH (C:=aQ) (l:=[_,_]) (pl:=[(0,1),(1,1)]) rfl rfl rfl rfl bt rfl rfl rfl rfl rfl KT ?_)))))
         intro vF PB Hv;clear KT
         refine dB [_] [_,_,_,_,_,_] rfl Hv ?_;clear Hv
         refine cm 9 rfl (fun w73 Cv=>?_)
         have Hu:=Cv.qi (C:=aQ) [ga (sk.nu.set (bB d c k) (sk.od.length:Int)) (bB d c k),(gW d c k:Int)] (i:=0) (H':=[_,_,_,_,_,_]) rfl rfl (by simp) rfl;clear Cv
         obtain⟨M38,WE,rW,⟨_,_,eE,hr3⟩⟩:=Hu.gP (i:=0) (H':=[_,_,_,_,_,_]) rfl rfl (by show 2*_<=_;decide);clear Hu;injection eE with qf _ qd;subst qf;subst qd
         replace aC:=aC.mono (Hp.aD WE rW.mx)
         refine(sX (C:=aQ) (i:=2) rfl rfl rfl rfl rfl rfl rfl rfl bt rW rfl hr3 rW.m (by show(_+_)*8<=_;first|omega|(simp only[ls];omega)) ?_)
         intro Og w74 yn;clear rW
         change SH _ _ _ [_,_,Rs.row aQ Og (sk.co++([ga (sk.nu.set (bB d c k) (sk.od.length:Int)) (bB d c k),(gW d c k:Int)])),_,_,_]at yn
         refine ij yn ?_;clear yn
         change WA _ _ _ _ _ _ _ _ _ _ _ _ [_,_,_,_,_,_]
         refine aK 0 [10] rfl (cD (fun ZY rV=>(bE (aW [2,6,8,9,10,11,12] rfl ?_))))
         have WB:sk.co++([ga (sk.nu.set (bB d c k) (sk.od.length:Int)) (bB d c k),(gW d c k:Int)])=(eP d c sk k).co:=by first|(rw[hS];done)|(rw[hS,eX _ _ _ _ (by omega),if_pos rfl])
         rw[WB]at rV;clear WB
         have Wz:sk.od++[(bB d c k:Int)]=(eP d c sk k).od:=by rw[hS]
         rw[Wz]at rV;clear Wz
         have Wy:sk.nu.set (bB d c k) (sk.od.length:Int)=(eP d c sk k).nu:=by rw[hS]
         rw[Wy]at rV;clear Wy
         refine aH (af 1 rfl (ag rfl (bj rfl) (af 1 rfl (aB (br ?_)))))
         intro au aq
         refine⟨_,?n7,⟨k+1,(eP d c sk k),_,_,_,_,(q8.trans WE),rfl,aq.su rfl,rV.pick [2,3,4,5] [_,_,_,_] (by decide) ⟨rfl,rfl,rfl,rfl,trivial⟩,?lU,?lT,?tQ,?Fq,?Fp⟩⟩
         case lU=>omega
         case lT=>(rw[hsk];rfl)
         case tQ=>exact(kx hab gq hcl kH (by omega)).1
         case Fq=>exact hcm.trans (kx hab gq hcl kH (by omega)).2.1
         case Fp=>(rw[(kx hab gq hcl kH (by omega)).2.2.2];omega)
         case n7=>omega
        ·have hS:eP d c sk k=⟨sk.nu,sk.od,sk.co++[ga sk.nu (bB d c k),(gW d c k:Int)]⟩:=by unfold eP;rw[if_neg Be]
         refine aV (aW [2,6,8,9,10,11,12,13] rfl (dH qh 11 ?_))
         clear qh
         refine aK 9 [0,1] rfl (aS 2 rfl (az rfl dR rfl aY aX) (ay 3 rfl (fun ah Sz=>aw rfl aG (Sz.suf.bc 0 rfl rfl)) (ay 4 rfl (fun ah Sz=>bS (i:=3) (bB d c k) rfl bt Sz.suf rfl) (ay 5 rfl (fun ah Sz=>aw rfl aG (Sz.suf.dS (i:=3) (e:=bB d c k) (j:=0) rfl (by first|omega|(simp only[ls];omega)) rfl rfl)) ?_))))
         refine aS 6 rfl (az rfl dR rfl aY aX) (ay 7 rfl (fun ah Sz=>aw rfl aG (Sz.suf.bc 0 rfl rfl)) (cm 8 rfl (fun ZV rU=>((uH (C:=aQ) (l:=[_,_]) (pl:=[(0,1),(1,1)]) rfl rfl rfl rfl bt rfl rfl rfl rfl rfl rU ?_)))))
         intro Yf w88 xC;clear rU
         refine dB [_] [_,_,_,_,_,_] rfl xC ?_;clear xC
         refine cm 9 rfl (fun w90 zf=>?_)
         have GA:=zf.qi (C:=aQ) [ga sk.nu (bB d c k),(gW d c k:Int)] (i:=0) (H':=[_,_,_,_,_,_]) rfl rfl (by simp) rfl;clear zf
         obtain⟨M50,WD,xB,⟨_,_,eE,hr4⟩⟩:=GA.gP (i:=0) (H':=[_,_,_,_,_,_]) rfl rfl (by show 2*_<=_;decide);clear GA;injection eE with qf _ qd;subst qf;subst qd
         replace aC:=aC.mono (Hp.aD WD xB.mx)
         refine(sX (C:=aQ) (i:=2) rfl rfl rfl rfl rfl rfl rfl rfl bt xB rfl hr4 xB.m (by show(_+_)*8<=_;first|omega|(simp only[ls];omega)) ?_)
         intro Oe w91 uA;clear xB
         change SH _ _ _ [_,_,Rs.row aQ Oe (sk.co++([ga sk.nu (bB d c k),(gW d c k:Int)])),_,_,_]at uA
         refine ij uA ?_;clear uA
         change WA _ _ _ _ _ _ _ _ _ _ _ _ [_,_,_,_,_,_]
         refine aK 0 [10] rfl (cD (fun w93 Ka=>(bE (aW [2,6,8,9,10,11,12] rfl ?_))))
         have Wx:sk.co++([ga sk.nu (bB d c k),(gW d c k:Int)])=(eP d c sk k).co:=by first|(rw[hS];done)|(rw[hS,eX _ _ _ _ (by omega),if_pos rfl])
         rw[Wx]at Ka;clear Wx
         have Ww:sk.od=(eP d c sk k).od:=by rw[hS]
         rw[Ww]at Ka;clear Ww
         have Wv:sk.nu=(eP d c sk k).nu:=by rw[hS]
         rw[Wv]at Ka;clear Wv
         refine aH (af 1 rfl (ag rfl (bj rfl) (af 1 rfl (aB (br ?_)))))
         intro au aq
         refine⟨_,?wQ,⟨k+1,(eP d c sk k),_,_,_,_,(q8.trans WD),rfl,aq.su rfl,Ka.pick [2,3,4,5] [_,_,_,_] (by decide) ⟨rfl,rfl,rfl,rfl,trivial⟩,?qW,?qV,?wK,?MK,?afo⟩⟩
         case qW=>omega
         case qV=>(rw[hsk];rfl)
         case wK=>exact(kx hab gq hcl kH (by omega)).1
         case MK=>exact hcm.trans (kx hab gq hcl kH (by omega)).2.1
         case afo=>(rw[(kx hab gq hcl kH (by omega)).2.2.2];omega)
         case wQ=>omega
       ·refine bX rfl (bE (aW [2,6,8,9,10] rfl (aH (af 1 rfl (ag rfl (bj rfl) (af 1 rfl (aB (br ?_))))))))
        intro au aq
        refine⟨_,?AF,⟨i+1,sk,_,_,_,_,(hle2.trans q8),rfl,aq.su rfl,ny.pick [0,1,2,3] [_,_,_,_] (by decide) ⟨rfl,rfl,rfl,rfl,trivial⟩,?wJ,?wI,?EZ,?MJ⟩⟩
        case wJ=>(have:=hcm.len;replace this:sc.od.length<=sk.od.length:=this;omega)
        case wI=>(obtain rfl:k=4:=(by omega);rw[eH,<-nN,if_pos (by omega)];unfold tA;rw[hcn,Int.toNat_natCast,hsk])
        case EZ=>exact gq
        case MJ=>(have:=Ba;omega)
        case AF=>omega
    ·refine bX rfl (cP [8,9] rfl (af 4 rfl (ax [4,5] rfl ?_)))
     obtain⟨M52,WC,PA,⟨A1,c1,e1,ja⟩⟩:=S9.gP (i:=0) (H':=[_,_,_,_]) rfl rfl (by show _*8<=_;first|omega|(simp only[ls];omega))
     clear S9;subst e1
     replace aC:=aC.mono (Hp.aD WC PA.mx)
     obtain⟨M53,NI,Gz,⟨A2,c2,e2,p8⟩⟩:=PA.gP (i:=1) (H':=[_,_,_,_]) rfl rfl (by show _*8<=_;first|omega|(simp only[ls];omega))
     clear PA;subst e2
     replace aC:=aC.mono (Hp.aD NI Gz.mx)
     replace ja:=ja.mono NI
     refine bU hC rfl ?_
     refine⟨_,rfl,_,(hle2.trans WC).trans NI,(Gz.pick [] [] (by decide) trivial),?_⟩
     have e9:fF d st=sc:=by unfold fF;rw[nN];rw[nN]at OC;exact U1 (by rw[<-nN];omega) _ (by rw[nN]at hi;omega)
     rw[e9]
     exact⟨_,_,_,_,rfl,ja,p8⟩
end Go.Proofs.YtcohmplpgcddiaaGreatDoor
namespace Go.Proofs.YtcohmplpgcddiaaGreatDoor
open Go.ChangeShapes Go.WideShapes Go.ChangeAt Go.RowKit
noncomputable def Z5h:=Tryz.f113.body.getD .skip
set_option maxRecDepth 10000 in
theorem UJ{w:World}{M:Hp}{X:Fr}(x:Int)(S:SH w M X []):Cq Tryz.prog 113 [.int .i64 x] w M X (fun u=>u=.bool false):=by
 unfold Cq
 refine cw (b:=Z5h) Tryz.func113 rfl Tryz.ntmps113 rfl (fun C hC=>(cB [0] rfl (ar (af 1 rfl (bL [0] rfl (af 4 rfl (ax [2] rfl (bU hC rfl ?_))))))))
 exact⟨_,rfl,(S.pick [] [] (by decide) trivial),(by show Value.bool _=_;simp)⟩
def Bt(x y:Int):Int:=if x<y then -1 else if y<x then 1 else 0
noncomputable def Z5i:=Tryz.f84.body.getD .skip
set_option maxRecDepth 10000 in
theorem abb{w:World}{M:Hp}{X:Fr}(x:Int)(y:Int)(S:SH w M X []):Cq Tryz.prog 84 [.int .i64 x,.int .i64 y] w M X (fun u=>u=.int .i64 (Bt x y)):=by
 unfold Cq
 refine cw (b:=Z5i) Tryz.func84 rfl Tryz.ntmps84 rfl (fun C hC=>(cB [0,1] rfl (ar (af 1 rfl (bL [0,1] rfl (af 1 rfl (aj rfl (dU rfl rfl rfl rfl rfl rfl rfl W5 S (UJ x S.aT) ?_))))))))
 rintro _ w1 S1 rfl;clear S
 refine af 1 rfl (bL [0,1,5] rfl (af 1 rfl (aj rfl (dU rfl rfl rfl rfl rfl rfl rfl W5 S1 (UJ y S1.aT) ?_))))
 rintro _ w2 S2 rfl;clear S1
 refine af 1 rfl (bM [0,1,5,6] rfl (ar (af 1 rfl (ax [0,1,6,11] rfl (sD (aV (bC [0,1,6] rfl (ar ?_))))))))
 refine af 1 rfl (ax [0,1,13] rfl (sD (aV (bC [0,1] rfl (ar (af 3 rfl (ax [0,1,16] rfl ?_)))))))
 refine bp rfl (fun uv=>?_) (fun uv=>?_)
 ·refine ar (af 1 rfl (ax [4] rfl (bU hC rfl ?_)))
  exact⟨_,rfl,(S2.pick [] [] (by decide) trivial),(by show Value.int _ _=_;unfold Bt;first|(rw[if_pos (by omega)])|(rw[if_neg (by omega),if_pos (by omega)])|(rw[if_neg (by omega),if_neg (by omega)]))⟩
 ·refine aV (bC [0,1] rfl (ar (af 3 rfl (ax [19] rfl ?_))))
  refine bp rfl (fun l5=>?_) (fun l5=>?_)
  ·refine ar (af 1 rfl (ax [4] rfl (bU hC rfl ?_)))
   exact⟨_,rfl,(S2.pick [] [] (by decide) trivial),(by show Value.int _ _=_;unfold Bt;first|(rw[if_pos (by omega)])|(rw[if_neg (by omega),if_pos (by omega)])|(rw[if_neg (by omega),if_neg (by omega)]))⟩
  ·refine aV (cP [] rfl (af 1 rfl (aB (bK (bU hC rfl ?_)))))
   exact⟨_,rfl,(S2.pick [] [] (by decide) trivial),(by show Value.int _ _=_;unfold Bt;first|(rw[if_pos (by omega)])|(rw[if_neg (by omega),if_pos (by omega)])|(rw[if_neg (by omega),if_neg (by omega)]))⟩
noncomputable def Z5j:=Tryz.f54.body.getD .skip
set_option maxRecDepth 10000 in
theorem R8{w:World}{M:Hp}{X:Fr}(a:List Int){aA:Option Addr}{ac:Nat}(b:List Int){bA:Option Addr}{bc:Nat}(ha:aJ aQ (M.un X.h) aA ac a)(hb:aJ aQ (M.un X.h) bA bc b)(S:SH w M X []):Cq Tryz.prog 54 [.slice aA a.length ac,.slice bA b.length bc] w M X (fun u=>u=.int .i64 (cmpL a b)):=by
 unfold Cq
 have aio:a.length*8<=140737488355328:=ha.room
 have ain:b.length*8<=140737488355328:=hb.room
 refine cw (b:=Z5j) Tryz.func54 rfl Tryz.ntmps54 rfl (fun C hC=>(cB [0,1] rfl (ar (af 1 rfl (bM [0,1] rfl (ar (af 1 rfl (ag rfl (cK rfl dm) (af 1 rfl ?_)))))))))
 refine aB (bK (bg ?_))
 refine ck (fun aZ au aR=>∃(i:Nat),aZ=a.length-i/\Env 36 [(0,.slice aA a.length ac),(1,.slice bA b.length bc),(9,.slice aA a.length ac),(10,.int .i64 (a.length:Int)),(11,.int .i64 (i:Int))] au/\SH aR M X []/\i<=a.length/\cmpL a b=cmpL (a.drop i) (b.drop i)) rfl ?_ ?_
 ·intro au aq
  refine⟨_,⟨0,rfl,aq.su rfl,S.pick [] [] (by decide) trivial,?dh,?dC⟩⟩
  case dh=>omega
  case dC=>simp
 ·rintro m1 a1 w1 ⟨i,rfl,bN,S1,hi,hcm⟩
  clear S
  refine cy bN ?_
  clear bN a1
  refine ar (af 1 rfl (aB (di ?_)))
  refine bp rfl (fun vE=>?_) (fun vE=>?_)
  ·refine aV (bC [0,1,9,10,11] rfl (bg (ar (af 1 rfl (ag rfl (cN i rfl bt ha) (ag rfl (aw rfl aG (ha.cell S1.um (i:=i) (by first|omega|(simp only[ls];omega)) 0 rfl rfl)) ?_))))))
   refine af 2 rfl (bM [0,1,9,10,11,5,6] rfl (ar (af 2 rfl (ag rfl (cK rfl dm) (af 1 rfl (ax [0,1,9,10,11,5,6,19] rfl ?_))))))
   refine bp rfl (fun l5=>?_) (fun l5=>?_)
   ·refine ar (af 1 rfl (ax [4] rfl (bU hC rfl ?_)))
    exact⟨_,rfl,(S1.pick [] [] (by decide) trivial),(by show Value.int _ _=_;rw[hcm,aaH (by omega) (by omega)])⟩
   ·refine aV (cP [0,1,9,10,11,5,6] rfl (af 2 rfl (ag rfl (cN i rfl bt hb) (ag rfl (aw rfl aG (hb.cell S1.um (i:=i) (by first|omega|(simp only[ls];omega)) 0 rfl rfl)) ?_))))
    refine af 1 rfl (bL [0,1,9,10,11,6,7] rfl (af 2 rfl (aj rfl (dU rfl rfl rfl rfl rfl rfl rfl ajZ S1 (abb (ga a i) (ga b i) S1.aT) ?_))))
    rintro _ w2 S2 rfl;clear S1
    refine af 1 rfl (bL [0,1,9,10,11,8] rfl (af 2 rfl (ax [0,1,9,10,11,8,28] rfl ?_)))
    refine bp rfl (fun mR=>?_) (fun mR=>?_)
    ·refine ar (af 2 rfl (ax [4] rfl (bU hC rfl ?_)))
     exact⟨_,rfl,(S2.pick [] [] (by decide) trivial),(by show Value.int _ _=_;rw[hcm,HQ (by omega) (by omega)];unfold Bt at*;split;rfl;split;rfl;(exfalso;apply mR;rw[if_neg (by assumption),if_neg (by assumption)]))⟩
    ·refine aV (bE (aW [0,1,9,10,11] rfl (aH (ag rfl (bj rfl) (af 1 rfl (aB (br ?_)))))))
     intro au aq
     refine⟨_,?fK,⟨i+1,rfl,aq.su rfl,S2.pick [] [] (by decide) trivial,?dv,?dL⟩⟩
     case dv=>omega
     case dL=>(rw[hcm,HQ (by omega) (by omega),if_neg (by unfold Bt at mR;split at mR;omega;omega),if_neg (by unfold Bt at mR;split at mR;omega;split at mR;omega;omega)])
     case fK=>omega
  ·refine bX rfl (bC [0,1] rfl (ar (af 1 rfl (ag rfl (cK rfl dm) (af 1 rfl (ag rfl (cK rfl dm) (af 1 rfl (ax [35] rfl ?_))))))))
   refine bp rfl (fun mQ=>?_) (fun mQ=>?_)
   ·refine ar (af 1 rfl (ax [4] rfl (bU hC rfl ?_)))
    exact⟨_,rfl,(S1.pick [] [] (by decide) trivial),(by show Value.int _ _=_;rw[hcm,K3 (by omega),if_pos (by omega)])⟩
   ·refine aV (cP [] rfl (af 1 rfl (aB (bK (bU hC rfl ?_)))))
    exact⟨_,rfl,(S1.pick [] [] (by decide) trivial),(by show Value.int _ _=_;rw[hcm,K3 (by omega),if_neg (by omega)])⟩
noncomputable def Z5k:=Tryz.f39.body.getD .skip
set_option maxRecDepth 10000 in
theorem RX{w:World}{M:Hp}{X:Fr}(a:List Int){aA:Option Addr}{ac:Nat}(b:List Int){bA:Option Addr}{bc:Nat}(ha:aJ aQ (M.un X.h) aA ac a)(hb:aJ aQ (M.un X.h) bA bc b)(S:SH w M X []):Cq Tryz.prog 39 [.slice aA a.length ac,.slice bA b.length bc] w M X (fun u=>u=.bool (gV a b)):=by
 unfold Cq
 have aio:a.length*8<=140737488355328:=ha.room
 have ain:b.length*8<=140737488355328:=hb.room
 refine cw (b:=Z5k) Tryz.func39 rfl Tryz.ntmps39 rfl (fun C hC=>(cB [0,1] rfl (ar (af 1 rfl (bM [0,1] rfl (ar (af 1 rfl (ag rfl (cK rfl dm) (af 1 rfl ?_)))))))))
 refine ag rfl (cK rfl dm) (af 1 rfl (ax [0,1,10] rfl ?_))
 refine bp rfl (fun Ga=>?_) (fun Ga=>?_)
 ·refine ar (af 1 rfl (ag rfl (cK rfl dm) (af 1 rfl (ag rfl (cK rfl dm) (af 2 rfl (ax [4] rfl (bU hC rfl ?_)))))))
  exact⟨_,rfl,(S.pick [] [] (by decide) trivial),(by show Value.bool _=_;unfold gV;rw[if_neg (by omega)];refine congrArg Value.bool (decide_eq_decide.2 ?_);omega)⟩
 ·refine aV (bC [0,1] rfl (ar (af 1 rfl (aB (bK (bg ?_))))))
  refine ck (fun aZ au aR=>∃(i:Nat),aZ=a.length-i/\Env 40 [(0,.slice aA a.length ac),(1,.slice bA b.length bc),(5,.int .i64 (i:Int))] au/\SH aR M X []/\i<=a.length/\cmpL a b=cmpL (a.drop i) (b.drop i)) rfl ?_ ?_
  ·intro au aq
   refine⟨_,⟨0,rfl,aq.su rfl,S.pick [] [] (by decide) trivial,?dh,?dC⟩⟩
   case dh=>omega
   case dC=>simp
  ·rintro m1 a1 w1 ⟨i,rfl,bN,S1,hi,hcm⟩
   clear S
   refine cy bN ?_
   clear bN a1
   refine cJ (ar (af 2 rfl (ag rfl (cK rfl dm) (af 1 rfl (ax [0,1,5,19] rfl ?_)))))
   refine bp rfl (fun l5=>?_) (fun l5=>?_)
   ·refine aV (bC [0,1,5] rfl (bg (cJ (dH S1 9 ?_))))
    clear S1
    refine aK 7 [0,1] rfl (ay 2 rfl (fun ah Sz=>cN i rfl bt (ha.mono (Hp.aD ah Sz.mx))) (ay 3 rfl (fun ah Sz=>aw rfl aG ((ha.mono (Hp.aD ah Sz.mx)).cell Sz.um (i:=i) (by first|omega|(simp only[ls];omega)) 0 rfl rfl)) ?_))
    refine aK 3 [4,5] rfl (ay 6 rfl (fun ah Sz=>cN i rfl bt (hb.mono (Hp.aD ah Sz.mx))) (ay 7 rfl (fun ah Sz=>aw rfl aG ((hb.mono (Hp.aD ah Sz.mx)).cell Sz.um (i:=i) (by first|omega|(simp only[ls];omega)) 0 rfl rfl)) ?_))
    refine aK 0 [8] rfl (cD (fun lI cz=>(aW [0,1,5,30] rfl ?_)))
    refine bp rfl (fun xu=>?_) (fun xu=>?_)
    ·refine cJ (dH cz 10 ?_)
     clear cz
     refine aK 8 [0,1] rfl (ay 2 rfl (fun ah Sz=>cN i rfl bt (ha.mono (Hp.aD ah Sz.mx))) (ay 3 rfl (fun ah Sz=>aw rfl aG ((ha.mono (Hp.aD ah Sz.mx)).cell Sz.um (i:=i) (by first|omega|(simp only[ls];omega)) 0 rfl rfl)) ?_))
     refine aK 4 [4,5] rfl (ay 6 rfl (fun ah Sz=>cN i rfl bt (hb.mono (Hp.aD ah Sz.mx))) (ay 7 rfl (fun ah Sz=>aw rfl aG ((hb.mono (Hp.aD ah Sz.mx)).cell Sz.um (i:=i) (by first|omega|(simp only[ls];omega)) 0 rfl rfl)) ?_))
     refine aK 0 [8,9] rfl (cD (fun xU fx=>(aW [4] rfl (bU hC rfl ?_))))
     exact⟨_,rfl,(fx.pick [] [] (by decide) trivial),(by show Value.bool _=_;rw[LB (by omega),hcm,HQ (by omega) (by omega)];refine congrArg Value.bool (decide_eq_decide.2 ?_);split;omega;split;omega;omega)⟩
    ·refine aV (bE (aW [0,1,5] rfl (aH (af 1 rfl (ag rfl (bj rfl) (af 1 rfl (aB (br ?_))))))))
     intro au aq
     refine⟨_,?fK,⟨i+1,rfl,aq.su rfl,cz.pick [] [] (by decide) trivial,?dv,?dL⟩⟩
     case dv=>omega
     case dL=>(rw[hcm,HQ (by omega) (by omega),if_neg (by omega),if_neg (by omega)])
     case fK=>omega
   ·refine bX rfl (cP [] rfl (af 1 rfl (aB (bK (bU hC rfl ?_)))))
    exact⟨_,rfl,(S1.pick [] [] (by decide) trivial),(by show Value.bool _=_;rw[LB (by omega),hcm,K3 (by omega),if_neg (by omega)];rfl)⟩
def orL:List Int->Int
 |[]=>0
 |x::xs=>if x≠0 then x else orL xs
def Gh(ao ac bo bc:List Int):Int:=if(ao.length:Int) -(bo.length:Int)≠0 then(ao.length:Int) -(bo.length:Int)else cmpL ac bc
theorem aeb(ao ac bo bc:List Int):orL [(ao.length:Int) -(bo.length:Int),cmpL ac bc]=Gh ao ac bo bc:=by
 unfold Gh
 rw[orL]
 split
 ·rfl
 ·rw[orL,orL];split
  ·rfl
  ·omega
theorem abL{ao ac bo bc:List Int}(h1:ac.length=9*ao.length)(h2:bc.length=9*bo.length):Gh ao ac bo bc<0<->gV ac bc=true:=by
 unfold Gh gV
 by_cases e:ao.length=bo.length
 ·rw[if_neg (by omega),if_pos (by omega),decide_eq_true_iff]
 ·rw[if_pos (by omega),if_neg (by omega),decide_eq_true_iff];omega
noncomputable def Z5l:=Tryz.f57.body.getD .skip
set_option maxRecDepth 10000 in
theorem akC{w:World}{M:Hp}{X:Fr}(s:List Int){sA:Option Addr}{sc:Nat}(hs:aJ aQ (M.un X.h) sA sc s)(S:SH w M X []):Cq Tryz.prog 57 [.slice sA s.length sc] w M X (fun u=>u=.int .i64 (orL s)):=by
 unfold Cq
 have Df:s.length*8<=140737488355328:=hs.room
 refine cw (b:=Z5l) Tryz.func57 rfl Tryz.ntmps57 rfl (fun C hC=>(cB [0] rfl (ar (af 1 rfl (bL [0] rfl (af 1 rfl (aB (di (ar ?_)))))))))
 refine af 1 rfl (ag rfl (cK rfl dm) (af 1 rfl (ax [3,6,7,8] rfl (bg ?_))))
 refine ck (fun aZ au aR=>∃(i:Nat),aZ=s.length-i/\Env 18 [(3,.int .i64 0),(6,.slice sA s.length sc),(7,.int .i64 (s.length:Int)),(8,.int .i64 (i:Int))] au/\SH aR M X []/\i<=s.length/\orL s=orL (s.drop i)) rfl ?_ ?_
 ·intro au aq
  refine⟨_,⟨0,rfl,aq.su rfl,S.pick [] [] (by decide) trivial,?dh,?dC⟩⟩
  case dh=>omega
  case dC=>simp
 ·rintro m1 a1 w1 ⟨i,rfl,bN,S1,hi,Qh⟩
  clear S
  refine cy bN ?_
  clear bN a1
  refine ar (af 1 rfl (aB (di ?_)))
  refine bp rfl (fun oH=>?_) (fun oH=>?_)
  ·refine aV (bC [3,6,7,8] rfl (bg (ar (ag rfl (cN i rfl bt hs) (ag rfl (aw rfl aG (hs.cell S1.um (i:=i) (by first|omega|(simp only[ls];omega)) 0 rfl rfl)) ?_)))))
   refine af 1 rfl (bL [3,6,7,8,5] rfl (af 3 rfl (ax [3,6,7,8,5,14] rfl ?_)))
   refine bp rfl (fun jf=>?_) (fun jf=>?_)
   ·refine ar (af 2 rfl (ax [2] rfl (bU hC rfl ?_)))
    exact⟨_,rfl,(S1.pick [] [] (by decide) trivial),(by show Value.int _ _=_;rw[Qh,List.drop_eq_getElem_cons (show i<s.length by omega),orL,<-cZ (by omega),if_pos (by omega)])⟩
   ·refine aV (bE (aW [3,6,7,8] rfl (aH (ag rfl (bj rfl) (af 1 rfl (aB (br ?_)))))))
    intro au aq
    refine⟨_,?fK,⟨i+1,rfl,aq.su rfl,S1.pick [] [] (by decide) trivial,?dv,?dL⟩⟩
    case dv=>omega
    case dL=>(rw[Qh,List.drop_eq_getElem_cons (show i<s.length by omega),orL,<-cZ (by omega),if_neg (by omega)])
    case fK=>omega
  ·refine bX rfl (cP [3] rfl (af 2 rfl (ax [2] rfl (bU hC rfl ?_))))
   exact⟨_,rfl,(S1.pick [] [] (by decide) trivial),(by show Value.int _ _=_;rw[Qh,List.drop_eq_nil_of_le (by omega)];rfl)⟩
noncomputable def Z5m:=Tryz.f56.body.getD .skip
set_option maxRecDepth 10000 in
theorem afO{w:World}{M:Hp}{X:Fr}(ao:List Int){aoA:Option Addr}{aoc:Nat}(ak:List Int){akA:Option Addr}{akc:Nat}(bo:List Int){boA:Option Addr}{boc:Nat}(bk:List Int){bkA:Option Addr}{bkc:Nat}(hao:aJ aQ (M.un X.h) aoA aoc ao)(hak:aJ aQ (M.un X.h) akA akc ak)(D5:aJ aQ (M.un X.h) boA boc bo)(hbk:aJ aQ (M.un X.h) bkA bkc bk)(S:SH w M X []):Cq Tryz.prog 56 [.agg [.slice aoA ao.length aoc,.slice akA ak.length akc].toArray,.agg [.slice boA bo.length boc,.slice bkA bk.length bkc].toArray] w M X (fun u=>u=.int .i64 (Gh ao ak bo bk)):=by
 unfold Cq
 have ak9:ao.length*8<=140737488355328:=hao.room
 have ala:ak.length*8<=140737488355328:=hak.room
 have ak7:bo.length*8<=140737488355328:=D5.room
 have ak8:bk.length*8<=140737488355328:=hbk.room
 refine cw (b:=Z5m) Tryz.func56 rfl Tryz.ntmps56 rfl (fun C hC=>(cB [0,1] rfl (ar (aj rfl (dx (l:=[_,_]) rfl rfl rfl rfl rfl S ?_)))))
 intro aP w1 S1;clear S
 refine aj rfl (dx (l:=[_,_]) rfl rfl rfl rfl rfl S1 ?_)
 intro bJ w2 S2;clear S1
 refine af 1 rfl (bM [2,3] rfl (dH S2 15 ?_))
 clear S2
 refine aS 0 rfl (az rfl gT rfl jP jO) (ay 1 rfl (fun ah Sz=>aw rfl dm (Sz.suf.bc 1 rfl rfl)) (ay 2 rfl (fun ah Sz=>cK rfl dm) (aS 3 rfl (az rfl gT rfl jP jO) (ay 4 rfl (fun ah Sz=>aw rfl dm (Sz.suf.bc 0 rfl rfl)) (ay 5 rfl (fun ah Sz=>cK rfl dm) (aS 6 rfl (zU rfl rfl rfl (by first|omega|(simp only[ls];omega))) ?_))))))
 refine aS 7 rfl (az rfl gT rfl jP jO) (ay 8 rfl (fun ah Sz=>aw rfl dm (Sz.suf.bc 1 rfl rfl)) (aS 9 rfl (az rfl gT rfl jP jO) (ay 10 rfl (fun ah Sz=>aw rfl dm (Sz.suf.bc 0 rfl rfl)) (dQ 11 rfl (fun ah Sz=>dZ rfl rfl rfl rfl rfl Ym Sz (R8 ak bk ((hak.mono (Hp.aD ah Sz.mx)).mono Sz.bn) ((hbk.mono (Hp.aD ah Sz.mx)).mono Sz.bn) Sz.aT)) (cm 12 rfl (fun oU cC=>((uH (C:=aQ) (l:=[_,_]) (pl:=[(0,1),(1,1)]) rfl rfl rfl rfl bt rfl rfl rfl rfl rfl cC ?_))))))))
 intro dE vP dW;clear cC
 refine dB [_] [_,_,_] rfl dW ?_;clear dW
 refine cm 13 rfl (fun zu fM=>?_)
 have hr1:=fM.H8 (C:=aQ) (zs:=[(ao.length:Int) -(bo.length:Int),cmpL ak bk]) (i:=0) rfl rfl (by show 2*_<=_;decide)
 have pq:=akC ([(ao.length:Int) -(bo.length:Int),cmpL ak bk]) hr1 fM.aT
 refine(dU rfl rfl rfl rfl rfl rfl rfl aj8 fM (pq) ?_)
 rintro _ vO eF rfl;clear fM
 refine dB [_] [_,_,_] rfl eF ?_;clear eF
 refine aK 0 [14] rfl (cD (fun DS jw=>(aW [4] rfl (bU hC rfl ?_))))
 exact⟨_,rfl,(jw.pick [] [] (by decide) trivial),(by show Value.int _ _=_;rw[aeb])⟩
instance :DecidableEq Cr:=fun a b=>decidable_of_iff (a.a=b.a/\a.b=b.b/\a.c=b.c/\a.d=b.d/\a.plus=b.plus) (by cases a;cases b;simp)
end Go.Proofs.YtcohmplpgcddiaaGreatDoor
namespace Go.Proofs.YtcohmplpgcddiaaGreatDoor
open Go.ChangeShapes Go.WideShapes Go.ChangeAt Go.RowKit
structure Vw where
 o:ei
 k:ei
instance :Inhabited Vw:=⟨⟨default,default⟩⟩
def mj:Cd Vw:=⟨fun x=>[.slice x.o.A x.o.n x.o.c,.slice x.k.A x.k.n x.k.c],2,48,110,⟨⟨none,0,0⟩,⟨none,0,0⟩⟩,fun _=>rfl,by
 intro x u hu;simp at hu;rcases hu with rfl|rfl<;>rfl⟩
theorem tP:jt Tryz.prog 108 mj:=⟨.agg [.slice none 0 0,.slice none 0 0].toArray,agl,by kernel_rfl,rfl,by decide,by decide⟩
abbrev OK:=List Int×List Int
def l6(N:Hp)(vs:List Vw)(ks:List OK):Prop:=vs.length=ks.length/\∀i,i<ks.length->(ga vs i).o.n=(ga ks i).1.length/\aJ aQ N (ga vs i).o.A (ga vs i).o.c (ga ks i).1/\(ga vs i).k.n=(ga ks i).2.length/\aJ aQ N (ga vs i).k.A (ga vs i).k.c (ga ks i).2
theorem l6.mono{N N':Hp}{vs:List Vw}{ks:List OK}(h:l6 N vs ks)(k:N.le N'):l6 N' vs ks:=⟨h.1,fun i hi=>⟨(h.2 i hi).1,(h.2 i hi).2.1.mono k,(h.2 i hi).2.2.1,(h.2 i hi).2.2.2.mono k⟩⟩
theorem l6.eO{N:Hp}:l6 N [] []:=⟨rfl,fun i hi=>absurd hi (Nat.not_lt_zero _)⟩
theorem l6.snoc{N:Hp}{vs:List Vw}{ks:List OK}(h:l6 N vs ks){A B:Option Addr}{a b:Nat}{xs ys:List Int}(hx:aJ aQ N A a xs)(hy:aJ aQ N B b ys):l6 N (vs++[⟨⟨A,xs.length,a⟩,⟨B,ys.length,b⟩⟩]) (ks++[(xs,ys)]):=by
 refine⟨by simp[h.1],fun i hi=>?_⟩
 rw[List.length_append,List.length_singleton]at hi
 have hl:=h.1
 by_cases e:i<ks.length
 ·rw[lS _ _ _ e,lS _ _ _ (by omega)];exact h.2 i e
 ·obtain rfl:i=ks.length:=by omega
  rw[nC _ _ _ (Nat.le_refl _),nC _ _ _ (by omega),hl,Nat.sub_self]
  exact⟨rfl,hx,rfl,hy⟩
theorem l6.FI{N:Hp}{vs:List Vw}{ks:List OK}(h:l6 N vs ks)(e:Nat)(he:e<ks.length){A B:Option Addr}{a b:Nat}{xs ys:List Int}(hx:aJ aQ N A a xs)(hy:aJ aQ N B b ys):l6 N (vs.set e ⟨⟨A,xs.length,a⟩,⟨B,ys.length,b⟩⟩) (ks.set e (xs,ys)):=by
 have hl:=h.1
 refine⟨by simp[h.1],fun i hi=>?_⟩
 rw[List.length_set]at hi
 rw[eX _ _ _ _ he,eX _ _ _ _ (by omega)]
 by_cases e2:e=i
 ·rw[if_pos e2,if_pos e2];exact⟨rfl,hx,rfl,hy⟩
 ·rw[if_neg e2,if_neg e2];exact h.2 i hi
def kO(ks:List OK)(i:Nat):List Int:=(ga ks i).2
def uN(i m:Nat):List Nat:=List.range' i (m-i)
theorem acp{i m:Nat}(h:i<m):uN i m=i::uN (i+1) m:=by
 unfold uN
 rw[show m-i=(m-(i+1))+1 by omega,List.range'_succ]
theorem adq{i m:Nat}(h:m<=i):uN i m=[]:=by unfold uN;rw[show m-i=0 by omega];rfl
theorem abD(ks:List OK):ks=List.map (ga ks) (List.range (min 1 ks.length)++uN (min 1 ks.length) ks.length):=by
 have e:List.range (min 1 ks.length)++uN (min 1 ks.length) ks.length=List.range ks.length:=by
  rcases Nat.eq_zero_or_pos ks.length with h|h
  ·rw[h];rfl
  ·rw[Nat.min_eq_left h,List.range_eq_range',List.range_eq_range']
   unfold uN
   rw[List.range'_append_1 (s:=0) (m:=1) (n:=ks.length-1),show 1+(ks.length-1)=ks.length by omega]
 rw[e]
 exact Ag (by simp) fun i hi=>by rw[om _ _ _ (by simpa using hi),cZ (show i<(List.range ks.length).length by simpa using hi),List.getElem_range]
theorem Jm{α:Type}[Inhabited α]{p:List α}{j:Nat}(h:p.length=j+1):p=p.dropLast++[ga p j]:=by
 have hne:p≠[]:=fun e=>by rw[e]at h;cases h
 have e:=List.dropLast_concat_getLast hne
 rw[List.getLast_eq_getElem]at e
 rw[cZ (by omega)]
 have e2:p.length-1=j:=by omega
 simp only[e2]at e
 exact e.symm
theorem TJ{ks:List OK}{p q r:List Nat}{i j:Nat}{kz:List OK}(hk:kz=List.map (ga ks) (p++i::(q++r)))(hp:p.length=j+1):
  (kz.set (j+1) ((ga kz j).1,(ga kz j).2)).set j ((ga kz (j+1)).1,(ga kz (j+1)).2)=List.map (ga ks) (p.dropLast++i::((ga p j::q)++r))/\
  (kz.set j ((ga kz (j+1)).1,(ga kz (j+1)).2)).set (j+1) ((ga kz j).1,(ga kz j).2)=List.map (ga ks) (p.dropLast++i::((ga p j::q)++r)):=by
 have e:=Jm hp
 generalize ga p j=y at e
 generalize hq:p.dropLast=p' at e ⊢
 have hl:p'.length=j:=by rw[<-hq,List.length_dropLast];omega
 have e2:kz=List.map (ga ks) p'++(ga ks y::ga ks i::List.map (ga ks) (q++r)):=by rw[hk,e];simp
 have l1:(List.map (ga ks) p').length=j:=by simp[hl]
 have g1:ga kz j=ga ks y:=by rw[e2,nC _ _ _ (by omega),l1,Nat.sub_self];rfl
 have g2:ga kz (j+1)=ga ks i:=by rw[e2,nC _ _ _ (by omega),l1,show j+1-j=1 by omega];rfl
 rw[g1,g2,e2]
 constructor
 ·rw[List.set_append_right _ _ (by omega),l1,show j+1-j=1 by omega,List.set_cons_succ,List.set_cons_zero,List.set_append_right _ _ (by omega),l1,Nat.sub_self,List.set_cons_zero];simp
 ·rw[List.set_append_right _ _ (by omega),l1,Nat.sub_self,List.set_cons_zero,List.set_append_right _ _ (by omega),l1,show j+1-j=1 by omega,List.set_cons_succ,List.set_cons_zero];simp
theorem ae7{ks:List OK}{p q r:List Nat}{i j:Nat}{kz:List OK}(hk:kz=List.map (ga ks) (p++i::(q++r)))(hp:p.length=j+1):ga kz j=ga ks (ga p j)/\ga kz (j+1)=ga ks i:=by
 rw[hk,List.map_append]
 refine⟨by rw[lS _ _ _ (by simp;omega),om _ _ _ (by omega)],by rw[nC _ _ _ (by simp;omega),List.length_map,hp,Nat.sub_self];rfl⟩
theorem TK{K:Nat->List Int}{p q:List Nat}{i j:Nat}(hp:p.length=j+1)(h:(p++q).Pairwise (jD K))(hq:∀x,x∈q->jD K i x)(hl:gV (K i) (K (ga p j))=true):
  (p.dropLast++(ga p j::q)).Pairwise (jD K)/\∀x,x∈ga p j::q->jD K i x:=by
 have e:=Jm hp
 refine⟨by rw[e]at h;simpa using h,fun x hx=>?_⟩
 rcases List.mem_cons.1 hx with rfl|hx
 ·exact .inl hl
 ·exact hq x hx
theorem acF{p q:List Nat}{i j:Nat}(hp:p.length=j+1)(h:(p++q).Perm (List.range i)):(p.dropLast++(ga p j::q)).Perm (List.range i):=by
 have e:=Jm hp
 rw[e]at h;simpa using h
theorem Ia{K:Nat->List Int}{p q:List Nat}{i:Nat}(oD:(p++q).Perm (List.range i))(h:(p++q).Pairwise (jD K))(hq:∀x,x∈q->jD K i x)(hl:∀j,p.length=j+1->gV (K i) (K (ga p j))=false):
  (p++i::q).Perm (List.range (i+1))/\(p++i::q).Pairwise (jD K):=by
 have h2:=List.pairwise_append.1 h
 have hpi:∀x,x∈p->jD K x i:=fun x hx=>by
  rcases hj:p.length with _|j
  ·have:=List.length_eq_zero_iff.1 hj;rw[this]at hx;cases hx
  ·have e:=Jm hj
   have hyi:ga p j<i:=List.mem_range.1 (oD.subset (List.mem_append_left _ (cY (by omega))))
   have hb:jD K (ga p j) i:=.inr ⟨hl j hj,hyi⟩
   rw[e]at hx
   rcases List.mem_append.1 hx with hx|hx
   ·have h3:=h2.1
    rw[e]at h3
    exact SX ((List.pairwise_append.1 h3).2.2 x hx _ (List.mem_singleton.2 rfl)) hb
   ·rw[List.mem_singleton]at hx;rw[hx];exact hb
 refine⟨?_,?_⟩
 ·rw[List.range_succ]
  exact(List.perm_middle.trans (List.Perm.cons i oD)).trans (List.perm_append_singleton i _).symm
 ·refine List.pairwise_append.2 ⟨h2.1,List.pairwise_cons.2 ⟨hq,h2.2.1⟩,fun x hx y hy=>?_⟩
  rcases List.mem_cons.1 hy with rfl|hy
  ·exact hpi x hx
  ·exact h2.2.2 x hx y hy
noncomputable def Z5n:=Tryz.f114.body.getD .skip
set_option maxRecDepth 10000 in
theorem abE{w:World}{M:Hp}{X:Fr}(ni:Value)(vs:List Vw)(ks:List OK)(m:Nat)(hz:l6 M vs ks)(G5:ks.length=m)(JL:m<=16)(h9:∀i,i<m->(ga ks i).2.length=9*(ga ks i).1.length)(S:SH w M X [Rs.row mj ni vs]):C1 Tryz.prog 114 [ni,.int .i64 0,.int .i64 (m:Int),.func (.func 56) #[] #[]] w M X (fun u M' r'=>u=tup []/\M'=M/\∃zo σ,l6 M zo (List.map (ga ks) σ)/\q9 (kO ks) m σ/\r'=Rs.row mj ni zo):=by
 unfold C1
 refine cw (b:=Z5n) Tryz.func114 rfl Tryz.ntmps114 rfl (fun C hC=>(cB [0,1,2,3] rfl (ar (af 1 rfl (ag rfl (bj rfl) (af 1 rfl (ax [0,1,2,3,8] rfl (bg ?_))))))))
 refine ck (fun aZ au aR=>∃(i:Nat) (ws:List Vw) (kz:List OK) (σ:List Nat) (JD:Value),aZ=m-i/\Env 53 [(0,JD),(1,.int .i64 0),(2,.int .i64 (m:Int)),(3,.func (.func 56) #[] #[]),(8,.int .i64 (i:Int))] au/\SH aR M X [Rs.row mj JD ws]/\JD=ni/\1<=i/\(m=0\/i<=m\/i=1)/\kz=List.map (ga ks) (σ++uN (min i m) m)/\σ.Perm (List.range (min i m))/\σ.Pairwise (jD (kO ks))/\l6 M ws kz) rfl ?_ ?_
 ·intro au aq
  refine⟨_,⟨1,_,ks,(List.range (min 1 m)),_,rfl,aq.su rfl,S.pick [0] [_] (by decide) ⟨rfl,trivial⟩,?dh,?dC,?jm,?q7,?AB,?NB,?NA⟩⟩
  case dh=>rfl
  case dC=>omega
  case jm=>omega
  case q7=>(have:=abD ks;rw[G5]at this;exact this)
  case AB=>exact List.Perm.refl _
  case NB=>(rcases Nat.eq_zero_or_pos m with h|h;(rw[h];exact List.Pairwise.nil);(rw[Nat.min_eq_left h];exact List.pairwise_singleton _ _))
  case NA=>exact hz
 ·rintro m1 a1 w1 ⟨i,ws,kz,σ,JD,rfl,bN,S1,hvv,hi1,him,zC,oD,hpw,hz1⟩
  clear S
  refine cy bN ?_
  clear bN a1
  have hzl:=hz1.1
  refine cJ (ar (af 3 rfl (ax [0,1,2,3,8,14] rfl ?_)))
  refine bp rfl (fun jf=>?_) (fun jf=>?_)
  ·refine aV (bC [0,1,2,3,8] rfl (bg (ar (af 2 rfl (ax [0,1,2,3,8,9] rfl (bg ?_))))))
   refine ck (fun aZ au aR=>∃(j:Nat) (iF:List Vw) (jU:List OK) (p:List Nat) (q:List Nat) (JC:Value),aZ=2*j/\Env 53 [(0,JC),(1,.int .i64 0),(2,.int .i64 (m:Int)),(3,.func (.func 56) #[] #[]),(8,.int .i64 (i:Int)),(9,.int .i64 (j:Int))] au/\SH aR M X [Rs.row mj JC iF]/\JC=ni/\p.length=j/\jU=List.map (ga ks) (p++i::(q++uN (i+1) m))/\(p++q).Perm (List.range i)/\(p++q).Pairwise (jD (kO ks))/\(∀x,x∈q->jD (kO ks) i x)/\l6 M iF jU) rfl ?_ ?_
   ·intro au aq
    refine⟨_,⟨i,_,kz,σ,[],_,rfl,aq.su rfl,S1.pick [0] [_] (by decide) ⟨rfl,trivial⟩,?dv,?dL,?jl,?py,?wP,?AA,?Nz⟩⟩
    case dv=>assumption
    case dL=>(have:=oD.length_eq;rw[List.length_range,Nat.min_eq_left (by omega)]at this;exact this)
    case jl=>(rw[zC,Nat.min_eq_left (by omega),acp (show i<m by omega)];rfl)
    case py=>(rw[List.append_nil];rw[Nat.min_eq_left (by omega)]at oD;exact oD)
    case wP=>(rw[List.append_nil];exact hpw)
    case AA=>(intro x hx;cases hx)
    case Nz=>exact hz1
   ·rintro m2 a2 w2 ⟨j,iF,jU,p,q,JC,rfl,cU,S2,am6,hpl,hk2,AY,Dj,hq2,hz2⟩
    clear S1
    refine cy cU ?_
    clear cU a2
    have aiG:=AY.length_eq
    rw[List.length_append,List.length_range]at aiG
    have ans:jU.length=m:=by rw[hk2,List.length_map,List.length_append,List.length_cons,List.length_append];unfold uN;rw[List.length_range'];omega
    have am5:=hz2.1
    refine cJ (cJ (dH S2 17 ?_))
    clear S2
    refine aK 13 [0,1,2,3] rfl ?_
    refine xG (t:=21) rfl (fun ajj=>?_) (fun ajj=>?_)
    ·obtain⟨j1,rfl⟩:∃j1,j=j1+1:=⟨j-1,by omega⟩
     obtain⟨hg1,hg2⟩:=ae7 hk2 hpl
     have hy1:ga p j1<i:=List.mem_range.1 (AY.subset (List.mem_append_left _ (cY (by omega))))
     have hcv:=@abL (ga ks i).1 (ga ks i).2 (ga ks (ga p j1)).1 (ga ks (ga p j1)).2 (h9 i (by omega)) (h9 (ga p j1) (by omega))
     refine aK 10 [4,5,6] rfl (ay 7 rfl (fun ah Sz=>bS (i:=0) (j1+1) rfl tP Sz.suf rfl) ?_)
     obtain⟨kG,hr1,mv,hr2⟩:=hz2.2 (j1+1) (by first|omega|(simp only[ls];omega))
     have Nq:((ga jU (j1+1)).1).length*8<=140737488355328:=hr1.room
     have Aq:((ga jU (j1+1)).2).length*8<=140737488355328:=hr2.room
     refine ay 8 rfl (fun ah Sz=>aU [_,_] rfl gT nU (Sz.suf.qY (i:=0) (e:=j1+1) (j:=0) rfl (by first|omega|(simp only[ls];omega)) ⟨congrArg (fun n=>some (Value.slice _ n _)) kG,congrArg (fun n=>some (Value.slice _ n _)) mv,trivial⟩)) ?_
     refine aK 6 [9,10] rfl (aS 11 rfl (zU rfl rfl rfl (by first|omega|(simp only[ls];omega))) ?_)
     refine ay 12 rfl (fun ah Sz=>bS (i:=0) j1 rfl tP Sz.suf rfl) ?_
     obtain⟨yg,hr3,Qk,hr4⟩:=hz2.2 j1 (by first|omega|(simp only[ls];omega))
     have Wh:((ga jU j1).1).length*8<=140737488355328:=hr3.room
     have Fj:((ga jU j1).2).length*8<=140737488355328:=hr4.room
     refine ay 13 rfl (fun ah Sz=>aU [_,_] rfl gT nU (Sz.suf.qY (i:=0) (e:=j1) (j:=0) rfl (by first|omega|(simp only[ls];omega)) ⟨congrArg (fun n=>some (Value.slice _ n _)) yg,congrArg (fun n=>some (Value.slice _ n _)) Qk,trivial⟩)) ?_
     refine dQ 14 rfl (fun ah Sz=>dZ rfl rfl rfl rfl rfl aj9 Sz (afO ((ga jU (j1+1)).1) ((ga jU (j1+1)).2) ((ga jU j1).1) ((ga jU j1).2) ((hr1.mono ah).mono (Hp.cM _ _)) ((hr2.mono ah).mono (Hp.cM _ _)) ((hr3.mono ah).mono (Hp.cM _ _)) ((hr4.mono ah).mono (Hp.cM _ _)) Sz.aT)) (aK 0 [15,16] rfl (cD (fun zu fM=>(aW [0,1,2,3,8,9,34] rfl ?_))))
     refine bp rfl (fun xq=>?_) (fun xq=>?_)
     ·rw[hg1,hg2]at xq
      have hls:gV (kO ks i) (kO ks (ga p j1))=true:=hcv.1 xq
      refine aV (bC [0,1,2,3,8,9] rfl (bg (dH fM 18 ?_)))
      clear fM
      refine aK 14 [0,1,2,3] rfl (aS 4 rfl (zU rfl rfl rfl (by first|omega|(simp only[ls];omega))) ?_)
      refine aK 11 [5,6] rfl (aS 7 rfl (zU rfl rfl rfl (by first|omega|(simp only[ls];omega))) ?_)
      refine ay 8 rfl (fun ah Sz=>bS (i:=0) j1 rfl tP Sz.suf rfl) ?_
      obtain⟨hn5,ja,hn6,p8⟩:=hz2.2 j1 (by first|omega|(simp only[ls];omega))
      have agA:((ga jU j1).1).length*8<=140737488355328:=ja.room
      have ak4:((ga jU j1).2).length*8<=140737488355328:=p8.room
      refine ay 9 rfl (fun ah Sz=>aU [_,_] rfl gT nU (Sz.suf.qY (i:=0) (e:=j1) (j:=0) rfl (by first|omega|(simp only[ls];omega)) ⟨congrArg (fun n=>some (Value.slice _ n _)) hn5,congrArg (fun n=>some (Value.slice _ n _)) hn6,trivial⟩)) ?_
      refine aK 6 [10,11] rfl (ay 12 rfl (fun ah Sz=>bS (i:=0) (j1+1) rfl tP Sz.suf rfl) ?_)
      obtain⟨hn7,tq,Qj,vW⟩:=hz2.2 (j1+1) (by first|omega|(simp only[ls];omega))
      have ak3:((ga jU (j1+1)).1).length*8<=140737488355328:=tq.room
      have agz:((ga jU (j1+1)).2).length*8<=140737488355328:=vW.room
      refine ay 13 rfl (fun ah Sz=>aU [_,_] rfl gT nU (Sz.suf.qY (i:=0) (e:=j1+1) (j:=0) rfl (by first|omega|(simp only[ls];omega)) ⟨congrArg (fun n=>some (Value.slice _ n _)) hn7,congrArg (fun n=>some (Value.slice _ n _)) Qj,trivial⟩)) ?_
      refine ay 14 rfl (fun ah Sz=>bS (i:=0) (j1+1) rfl tP Sz.suf rfl) (cm 15 rfl (fun GK lq=>((iE (C:=mj) (i:=0) (e:=j1+1) (j:=0) (us:=[_,_]) (H':=[_]) (⟨(⟨(ga iF j1).o.A,((ga jU j1).1).length,(ga iF j1).o.c⟩:ei),(⟨(ga iF j1).k.A,((ga jU j1).2).length,(ga iF j1).k.c⟩:ei)⟩:Vw) rfl rfl lq rfl (by first|omega|(simp only[ls];omega)) rfl rfl rfl nU rfl rfl rfl rfl ?_))))
      intro w38 wA;clear lq
      have hz1:=hz2.FI (j1+1) (by first|omega|(simp only[ls];omega)) ja p8
      refine ij wA ?_;clear wA
      change WA _ _ _ _ _ _ _ _ _ _ _ _ [_]
      refine ay 16 rfl (fun ah Sz=>bS (i:=0) j1 rfl tP Sz.suf rfl) (cm 17 rfl (fun GI oJ=>((iE (C:=mj) (i:=0) (e:=j1) (j:=0) (us:=[_,_]) (H':=[_]) (⟨(⟨(ga iF (j1+1)).o.A,((ga jU (j1+1)).1).length,(ga iF (j1+1)).o.c⟩:ei),(⟨(ga iF (j1+1)).k.A,((ga jU (j1+1)).2).length,(ga iF (j1+1)).k.c⟩:ei)⟩:Vw) rfl rfl oJ rfl (by first|omega|(simp only[ls];omega)) rfl rfl rfl nU rfl rfl rfl rfl ?_))))
      intro DM iU;clear oJ
      have hz2:=hz1.FI j1 (by first|omega|(simp only[ls];omega)) tq vW
      refine ij iU ?_;clear iU
      change WA _ _ _ _ _ _ _ _ _ _ _ _ [_]
      refine cD (fun xQ nQ=>(bE (aW [0,1,2,3,8,9] rfl (aH (af 1 rfl (ag rfl (zU rfl rfl rfl (by first|omega|(simp only[ls];omega))) ?_))))))
      refine dz 36 (.int .i64 (j1:Int)) rfl (int_eq (by omega)) ?_
      refine af 1 rfl (aB (br ?_))
      intro au aq
      refine⟨_,?kr,⟨j1,_,((jU.set (j1+1) ((ga jU j1).1,(ga jU j1).2)).set j1 ((ga jU (j1+1)).1,(ga jU (j1+1)).2)),p.dropLast,(ga p j1::q),_,rfl,aq.su rfl,nQ.pick [0] [_] (by decide) ⟨rfl,trivial⟩,?fg,?fR,?ko,?mI,?wO,?Az,?agR⟩⟩
      case fg=>assumption
      case fR=>(rw[List.length_dropLast];omega)
      case ko=>first|exact(TJ hk2 hpl).1|exact(TJ hk2 hpl).2
      case mI=>exact acF hpl AY
      case wO=>exact(TK hpl Dj hq2 hls).1
      case Az=>exact(TK hpl Dj hq2 hls).2
      case agR=>exact hz2
      case kr=>omega
     ·rw[hg1,hg2]at xq
      have hst:∀j,p.length=j+1->gV (kO ks i) (kO ks (ga p j))=false:=fun j hj=>by
       obtain rfl:j=j1:=by omega
       cases hbl:gV (kO ks i) (kO ks (ga p j))with
       |false=>rfl
       |true=>exact absurd (hcv.2 hbl) xq
      refine bX rfl (bE (aW [0,1,2,3,8] rfl (aH (af 1 rfl (ag rfl (bj rfl) (af 1 rfl (aB (br ?_))))))))
      intro au aq
      refine⟨_,?jr,⟨i+1,_,jU,(p++i::q),_,rfl,aq.su rfl,fM.pick [0] [_] (by decide) ⟨rfl,trivial⟩,?fJ,?fZ,?lX,?nV,?tV,?wN,?Ny⟩⟩
      case fJ=>assumption
      case fZ=>omega
      case lX=>omega
      case nV=>(rw[Nat.min_eq_left (by omega),hk2];simp)
      case tV=>(rw[Nat.min_eq_left (by omega)];exact(Ia AY Dj hq2 hst).1)
      case wN=>exact(Ia AY Dj hq2 hst).2
      case Ny=>exact hz2
      case jr=>omega
    ·have hst:∀j,p.length=j+1->gV (kO ks i) (kO ks (ga p j))=false:=fun j hj=>by omega
     refine aK 7 [4,5,6,7,8,9] rfl (aK 1 [10,11,12,13,14,15] rfl (aK 0 [16] rfl (cD (fun xP jV=>(aW [0,1,2,3,8,9,34] rfl (sD (bX rfl (bE (aW [0,1,2,3,8] rfl ?_)))))))))
     refine aH (af 1 rfl (ag rfl (bj rfl) (af 1 rfl (aB (br ?_)))))
     intro au aq
     refine⟨_,?jq,⟨i+1,_,jU,(p++i::q),_,rfl,aq.su rfl,jV.pick [0] [_] (by decide) ⟨rfl,trivial⟩,?fI,?fY,?lW,?qZ,?Ay,?Nx,?Nw⟩⟩
     case fI=>assumption
     case fY=>omega
     case lW=>omega
     case qZ=>(rw[Nat.min_eq_left (by omega),hk2];simp)
     case Ay=>(rw[Nat.min_eq_left (by omega)];exact(Ia AY Dj hq2 hst).1)
     case Nx=>exact(Ia AY Dj hq2 hst).2
     case Nw=>exact hz2
     case jq=>omega
  ·have qL:min i m=m:=by omega
   rw[qL]at zC oD
   rw[adq (Nat.le_refl m),List.append_nil]at zC
   refine bX rfl (l8 hC [] rfl trivial ?_)
   exact⟨_,rfl,_,_,Hp.le_refl _,S1.pick [0] [_] (by decide) ⟨rfl,trivial⟩,rfl,rfl,ws,σ,by rw[<-zC];exact hz1,⟨oD,hpw⟩,by rw[hvv]⟩
noncomputable def Z5o:=Tryz.f85.body.getD .skip
set_option maxRecDepth 10000 in
theorem ab7{w:World}{M:Hp}{X:Fr}(ni:Value)(vs:List Vw)(ks:List OK)(m:Nat)(hz:l6 M vs ks)(G5:ks.length=m)(JL:m<=16)(h9:∀i,i<m->(ga ks i).2.length=9*(ga ks i).1.length)(S:SH w M X [Rs.row mj ni vs]):C1 Tryz.prog 85 [ni,.int .i64 (m:Int),.func (.func 56) #[] #[]] w M X (fun u M' r'=>u=tup []/\M'=M/\∃zo σ,l6 M zo (List.map (ga ks) σ)/\q9 (kO ks) m σ/\r'=Rs.row mj ni zo):=by
 unfold C1
 refine cw (b:=Z5o) Tryz.func85 rfl Tryz.ntmps85 rfl (fun C hC=>(cB [0,1,2] rfl (ar (af 1 rfl (aB (sw (af 3 rfl (bM [0,1,2,6,7,8] rfl (bg ?_)))))))))
 refine ck (fun aZ au aR=>aZ=0/\Env 63 [(0,ni),(1,.int .i64 (m:Int)),(2,.func (.func 56) #[] #[]),(6,.int .i64 20),(7,.int .i64 0),(8,.int .i64 20)] au/\SH aR M X [Rs.row mj ni vs]) rfl ?_ ?_
 ·intro au aq
  refine⟨_,⟨rfl,aq.su rfl,S.pick [0] [_] (by decide) ⟨rfl,trivial⟩⟩⟩
 ·rintro m1 a1 w1 ⟨rfl,bN,S1⟩
  clear S
  refine cy bN ?_
  clear bN a1
  refine cJ (ar (af 3 rfl (ax [0,1,2,6,7,8,13] rfl ?_)))
  refine bp rfl (fun uw=>?_) (fun uw=>?_)
  ·exfalso;omega
  ·refine bX rfl (cP [0,1,2,6,7] rfl (af 4 rfl (aj rfl (r9 rfl rfl rfl rfl rfl rfl rfl ahG S1 (i:=0) rfl (abE ni vs ks m hz G5 JL h9 (S1.mH (i:=0) rfl)) ?_))))
   rintro sZ w2 _ _-S2 ⟨rfl,qx,xO,GN,hz1,Di,rfl⟩;clear S1
   change SH _ _ _ [_]at S2
   rw[qx]at S2;clear qx
   refine ax [0,1,2,6] rfl (bg ?_)
   refine ck (fun aZ au aR=>aZ=0/\Env 63 [(0,ni),(1,.int .i64 (m:Int)),(2,.func (.func 56) #[] #[]),(6,.int .i64 20)] au/\SH aR M X [Rs.row mj ni xO]) rfl ?_ ?_
   ·intro au aq
    refine⟨_,⟨rfl,aq.su rfl,S2.pick [0] [_] (by decide) ⟨rfl,trivial⟩⟩⟩
   ·rintro m2 a2 w3 ⟨rfl,cU,S3⟩
    clear S2
    refine cy cU ?_
    clear cU a2
    refine cJ (ar (af 3 rfl (ax [0,1,2,6,30] rfl ?_)))
    refine bp rfl (fun xu=>?_) (fun xu=>?_)
    ·exfalso;omega
    ·refine bX rfl (l8 hC [] rfl trivial ?_)
     exact⟨_,rfl,_,_,Hp.le_refl _,S3.pick [0] [_] (by decide) ⟨rfl,trivial⟩,rfl,rfl,_,GN,hz1,Di,rfl⟩
noncomputable def Z5p:=Tryz.f55.body.getD .skip
set_option maxRecDepth 10000 in
theorem acY{w:World}{M:Hp}{X:Fr}(ni:Value)(vs:List Vw)(ks:List OK)(hz:l6 M vs ks)(m:Nat)(G5:ks.length=m)(JL:m<=16)(h9:∀i,i<m->(ga ks i).2.length=9*(ga ks i).1.length)(S:SH w M X [Rs.row mj ni vs]):C1 Tryz.prog 55 [ni,.func (.func 56) #[] #[]] w M X (fun u M' r'=>u=tup []/\M'=M/\∃zo σ,l6 M zo (List.map (ga ks) σ)/\q9 (kO ks) m σ/\r'=Rs.row mj ni zo):=by
 unfold C1
 have hvl:=hz.1
 refine cw (b:=Z5p) Tryz.func55 rfl Tryz.ntmps55 rfl (fun C hC=>(cB [0,1] rfl (aH (af 2 rfl (ag rfl (kZ (i:=0) rfl tP S rfl) (af 1 rfl (dz 6 (.int .i64 (m:Int)) rfl (int_eq (by omega)) ?_)))))))
 refine aj rfl (r9 rfl rfl rfl rfl rfl rfl rfl ajY S (i:=0) rfl (ab7 ni vs ks m hz G5 JL h9 (S.mH (i:=0) rfl)) ?_)
 rintro vw1 w1 _ _-S1 ⟨rfl,qx,xO,GN,hz1,Di,rfl⟩;clear S
 change SH _ _ _ [_]at S1
 rw[qx]at S1;clear qx
 refine aB (l8 hC [] rfl trivial ?_)
 exact⟨_,rfl,_,_,Hp.le_refl _,S1.pick [0] [_] (by decide) ⟨rfl,trivial⟩,rfl,rfl,_,GN,hz1,Di,rfl⟩
end Go.Proofs.YtcohmplpgcddiaaGreatDoor
