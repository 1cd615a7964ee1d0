/- Part 12 of the proof of the law TableSeeks: the walks through its functions and the plain laws that they need. -/
import Derived.Test.YtcohmplpgcddiaaGreatDoorSmZ11
set_option linter.unusedSimpArgs false
set_option linter.unusedVariables false
noncomputable section
namespace Go.Proofs.YtcohmplpgcddiaaGreatDoor
open Go.ChangeShapes Go.WideShapes Go.ChangeAt Go.RowKit
def kD(d:Dg)(x:Nat):List Int:=(fF d x).co
def pZ(d:Dg)(i:Nat):List Nat:=(ga (bD d) i).map Int.toNat
def ue(d:Dg)(i:Nat):Nat:=(rT (kD d) (pZ d i)).getD 0
def eD(d:Dg):List OK:=(List.range (bD d).length).map fun i=>((fF d (ue d i)).od,(fF d (ue d i)).co)
theorem vI(d:Dg):(eD d).length=(bD d).length:=by simp[eD]
theorem Ab(d:Dg){i:Nat}(h:i<(bD d).length):ga (eD d) i=((fF d (ue d i)).od,(fF d (ue d i)).co):=by
 unfold eD
 rw[om _ _ _ (by simpa using h),cZ (by simpa using h),List.getElem_range]
theorem wG{d:Dg}(h:aO d=true){i:Nat}(hi:i<(bD d).length){y:Int}(hy:y∈ga (bD d) i):0<=y/\y.toNat<d.ae.length/\cg d y.toNat=i:=by
 obtain⟨_,c0,_,_,h2⟩:=(oY h).el i hi
 obtain⟨z,rfl,hz,_⟩:=h2 y hy
 rw[Int.toNat_natCast]
 exact⟨by omega,hz,(tL h hi hy).2⟩
theorem Mr{d:Dg}(h:aO d=true){i:Nat}(hi:i<(bD d).length):0<(ga (bD d) i).length:=by
 obtain⟨_,c0,_,hm,_⟩:=(oY h).el i hi
 exact List.length_pos_of_mem hm
theorem Ex(d:Dg)(i:Nat):(pZ d i).length=(ga (bD d) i).length:=by simp[pZ]
theorem Ms(d:Dg)(i:Nat){j:Nat}(h:j<(ga (bD d) i).length):ga (pZ d i) j=(ga (ga (bD d) i) j).toNat:=om _ _ _ h
theorem CB{d:Dg}(h:aO d=true){i:Nat}(hi:i<(bD d).length):rT (kD d) (pZ d i)=some (ue d i)/\ue d i<d.ae.length/\cg d (ue d i)=i:=by
 have hp:=Mr h hi
 obtain⟨b,h1,h2⟩:=aeg (K:=kD d) ((ga (bD d) i).length-1) (l:=pZ d i) (by rw[Ex];omega)
 have e:ue d i=b:=by unfold ue;rw[h1];rfl
 obtain⟨y,hy,rfl⟩:=List.mem_map.1 h2
 obtain⟨_,q2,q3⟩:=wG h hi hy
 rw[e]
 exact⟨h1,q2,q3⟩
theorem ks9{d:Dg}(h:aO d=true){i:Nat}(hi:i<(bD d).length):(ga (eD d) i).2.length=9*(ga (eD d) i).1.length:=by
 obtain⟨_,q2,_⟩:=CB h hi
 rw[Ab d hi]
 exact(CK h q2).2.1
theorem TY{K:Nat->List Int}{l:List Nat}{b x:Nat}(h:rT K l=some b)(hl:(K x).length=(K b).length):rT K (l++[x])=some (if cmpL (K x) (K b)<0 then x else b):=by
 rw[Es,h]
 unfold Du
 dsimp only
 rw[LB hl]
 by_cases e:cmpL (K x) (K b)<0
 ·rw[if_pos (decide_eq_true e),if_pos e]
 ·rw[if_neg (by rw[decide_eq_true_iff];exact e),if_neg e]
theorem ae5{d:Dg}(h:aO d=true){x y:Nat}(hx:x<d.ae.length)(hy:y<d.ae.length)(e:cg d x=cg d y):(kD d x).length=(kD d y).length:=by
 obtain⟨a1,a2,_⟩:=CK h hx
 obtain⟨b1,b2,_⟩:=CK h hy
 unfold kD
 rw[a2,b2,a1,b1,e]
def jB(s:List Int×Int)(a:Int):List Int×Int:=if ga s.1 a.toNat=0 then(s.1.set a.toNat s.2,s.2+1)else s
def dt(d:Dg)(c:Nat)(s:List Int×Int):Nat->List Int×Int
 |0=>s
 |k+1=>jB (dt d c s k) (aL d c k)
def KN(d:Dg)(c:Nat)(nm:List Int):Cr:=⟨ga nm (ga d.ae c).a.toNat,ga nm (ga d.ae c).b.toNat,ga nm (ga d.ae c).c.toNat,ga nm (ga d.ae c).d.toNat,(ga d.ae c).plus⟩
structure Rn where
 nm:List Int
 nx:Int
 cs:List Cr
def kE(d:Dg)(s:Rn)(c:Int):Rn:=⟨(dt d c.toNat (s.nm,s.nx) 4).1,(dt d c.toNat (s.nm,s.nx) 4).2,s.cs++[KN d c.toNat (dt d c.toNat (s.nm,s.nx) 4).1]⟩
def gS(d:Dg)(seq:List Int):Rn:=seq.foldl (kE d) ⟨List.replicate (2*d.ae.length+1) 0,1,[]⟩
theorem Lu(d:Dg)(l:List Int)(x:Int):gS d (l++[x])=kE d (gS d l) x:=by unfold gS;rw[List.foldl_append];rfl
def ui(d:Dg)(σ:List Nat):List Int:=σ.flatMap fun i=>(ga (eD d) i).1
noncomputable def gF(d:Dg):Dg:=⟨(gS d (ui d (sK (kO (eD d)) (bD d).length))).cs,d.loops⟩
structure qU(d:Dg)(s:List Int×Int):Prop where
 len:s.1.length=2*d.ae.length+1
 pos:1<=s.2
theorem IQ{d:Dg}{s:List Int×Int}(h:qU d s){a:Int}(ha:1<=a/\a<=2*(d.ae.length:Int)):qU d (jB s a)/\(∀x,ga s.1 x≠0->ga (jB s a).1 x=ga s.1 x)/\ga (jB s a).1 a.toNat≠0/\(jB s a).2<=s.2+1/\s.2<=(jB s a).2:=by
 have hl:=h.len
 have hp:=h.pos
 unfold jB
 split
 ·rename_i h0
  refine⟨⟨by simp[h.len],by show 1<=s.2+1;omega⟩,fun x hx=>?_,?_,Int.le_refl _,by show s.2<=s.2+1;omega⟩
  ·show ga (s.1.set _ _) x=_
   rw[eX _ _ _ _ (by omega),if_neg (fun e=>by subst e;exact hx h0)]
  ·show ga (s.1.set _ _) _≠0
   rw[eX _ _ _ _ (by omega),if_pos rfl];omega
 ·rename_i h0
  exact⟨h,fun _ _=>rfl,h0,by omega,Int.le_refl _⟩
theorem Aa{d:Dg}(hab:aO d=true){c:Nat}(hc:c<d.ae.length){s:List Int×Int}(h:qU d s)(k:Nat)(hk:k<=4):
  qU d (dt d c s k)/\(∀x,ga s.1 x≠0->ga (dt d c s k).1 x=ga s.1 x)/\(∀j,j<k->ga (dt d c s k).1 (aL d c j).toNat≠0/\ga (dt d c s (j+1)).1 (aL d c j).toNat=ga (dt d c s k).1 (aL d c j).toNat)/\(dt d c s k).2<=s.2+k/\s.2<=(dt d c s k).2:=by
 induction k with
 |zero=>exact⟨h,fun _ _=>rfl,fun j hj=>by omega,by show s.2<=_;omega,Int.le_refl _⟩
 |succ k ih=>
  obtain⟨i1,i2,i3,i4,i5⟩:=ih (by omega)
  obtain⟨j1,j2,j3,j4,j5⟩:=IQ i1 (ey hab hc (show k<4 by omega))
  refine⟨j1,fun x hx=>?_,fun j hj=>?_,?_,?_⟩
  ·show ga (jB (dt d c s k) (aL d c k)).1 x=_
   rw[j2 x (by rw[i2 x hx];exact hx),i2 x hx]
  ·by_cases e:j=k
   ·subst e;exact⟨j3,rfl⟩
   ·obtain⟨q1,q2⟩:=i3 j (by omega)
    have:=j2 _ q1
    refine⟨?_,?_⟩
    ·show ga (jB (dt d c s k) (aL d c k)).1 _≠0
     rw[this];exact q1
    ·show _=ga (jB (dt d c s k) (aL d c k)).1 _
     rw[this,q2]
  ·show(jB (dt d c s k) (aL d c k)).2<=_;omega
  ·show _<=(jB (dt d c s k) (aL d c k)).2;omega
theorem IP{d:Dg}(hab:aO d=true){l:List Int}(hl:∀x,x∈l->x.toNat<d.ae.length):qU d ((gS d l).nm,(gS d l).nx)/\(gS d l).nx<=1+4*(l.length:Int)/\(gS d l).cs.length=l.length:=by
 have key:∀(l:List Int) (s:Rn),(∀x,x∈l->x.toNat<d.ae.length)->qU d (s.nm,s.nx)->qU d ((l.foldl (kE d) s).nm,(l.foldl (kE d) s).nx)/\(l.foldl (kE d) s).nx<=s.nx+4*(l.length:Int)/\(l.foldl (kE d) s).cs.length=s.cs.length+l.length:=by
  intro l
  induction l with
  |nil=>intro s _ h;exact⟨h,by show s.nx<=s.nx+4*0;omega,by simp⟩
  |cons x l ih=>
   intro s hm h
   obtain⟨q1,_,_,q4,_⟩:=Aa hab (hm x (List.mem_cons_self ..)) h 4 (Nat.le_refl _)
   obtain⟨r1,r2,r3⟩:=ih (kE d s x) (fun y hy=>hm y (List.mem_cons_of_mem _ hy)) q1
   refine⟨r1,?_,?_⟩
   ·have e:(kE d s x).nx<=s.nx+4:=q4
    show(List.foldl (kE d) (kE d s x) l).nx<=_
    rw[List.length_cons];omega
   ·show(List.foldl (kE d) (kE d s x) l).cs.length=_
    rw[r3]
    have e:(kE d s x).cs.length=s.cs.length+1:=by unfold kE;simp
    rw[e,List.length_cons];omega
 obtain⟨r1,r2,r3⟩:=key l ⟨List.replicate (2*d.ae.length+1) 0,1,[]⟩ hl ⟨by simp,Int.le_refl _⟩
 exact⟨r1,r2,by rw[show(gS d l).cs.length=_ from r3];simp⟩
theorem wD{d:Dg}(hab:aO d=true){i:Nat}(hi:i<(bD d).length){x:Int}(hx:x∈(ga (eD d) i).1):x.toNat<d.ae.length/\0<=x/\cg d x.toNat=i:=by
 obtain⟨_,q2,q3⟩:=CB hab hi
 rw[Ab d hi]at hx
 replace hx:x∈(eH d (ue d i) d.ae.length).od:=hx
 obtain⟨h,_,_⟩:=I5 hab q2 d.ae.length
 obtain⟨j,hj,rfl⟩:=List.mem_iff_getElem.1 hx
 obtain⟨o1,o2,o3⟩:=h.od j hj
 rw[cZ hj]at o1 o2 o3
 exact⟨o2,o1,by rw[h.pc _ o2 (by rw[o3];omega)];exact q3⟩
theorem Mz{d:Dg}(hab:aO d=true){i:Nat}(hi:i<(bD d).length):(ga (eD d) i).1.length<=d.ae.length:=by
 obtain⟨_,q2,q3⟩:=CB hab hi
 rw[Ab d hi]
 exact(CK hab q2).2.2
end Go.Proofs.YtcohmplpgcddiaaGreatDoor
namespace Go.Proofs.YtcohmplpgcddiaaGreatDoor
open Go.ChangeShapes Go.WideShapes Go.ChangeAt Go.RowKit
def nB(d:Dg)(es:List (Int×Int))(s:List Int×Int):Prop:=(∀x:Nat,x<2*d.ae.length+1->mg (x:Int) es=if ga s.1 x=0 then none else some (ga s.1 x))/\(es.length:Int)+1=s.2
theorem nB.start(d:Dg):nB d [] (List.replicate (2*d.ae.length+1) 0,1):=⟨fun x hx=>by show _=if ga (List.replicate (2*d.ae.length+1) (0:Int)) x=0 then _ else _;rw[rZ _ _ _ hx];rfl,rfl⟩
theorem nB.put{d:Dg}{es:List (Int×Int)}{s:List Int×Int}(h:nB d es s)(hs:qU d s){a:Nat}(ha:a<2*d.ae.length+1)(h0:ga s.1 a=0):nB d (mp (a:Int) ((es.length:Int)+1) es) (s.1.set a s.2,s.2+1):=by
 have hl:=hs.len
 have hp:=hs.pos
 refine⟨fun x hx=>?_,?_⟩
 ·show _=if ga (s.1.set a s.2) x=0 then none else some (ga (s.1.set a s.2) x)
  rw[yJ,eX _ _ _ _ (by omega),h.2]
  by_cases e:x=a
  ·subst e;rw[if_pos rfl,if_pos rfl,if_neg (by omega)]
  ·rw[if_neg (show¬(x:Int)=(a:Int) by omega)]
   simp only[if_neg (show¬a=x from fun e2=>e e2.symm)]
   exact h.1 x hx
 ·show((mp (a:Int) ((es.length:Int)+1) es).length:Int)+1=s.2+1
  rw[Vs _ _ _ (by rw[h.1 a ha,if_pos h0])]
  have:=h.2
  omega
noncomputable def Z5q:=Tryz.f58.body.getD .skip
set_option maxHeartbeats 1000000 in
set_option maxRecDepth 10000 in
theorem afP{w:World}{M:Hp}{X:Fr}(a:Nat)(d:Dg){vF gm:Nat}(es:List (Int×Int))(s:List Int×Int)(hmr:nB d es s)(p7:qU d s)(ha:1<=a/\a<=2*d.ae.length)(hs2:s.2<=2000)(S:SH w M X [Rs.cV [Rs.box vF 103 [.map (some gm)],Rs.mp (Value.int .i64) (Value.int .i64) gm es]]):C1 Tryz.prog 58 [.int .i64 (a:Int),.pointer (some ⟨vF,0,none⟩)] w M X (fun u M' r'=>M'=M/\∃es',u=.int .i64 (ga (jB s (a:Int)).1 a)/\nB d es' (jB s (a:Int))/\r'=Rs.cV [Rs.box vF 103 [.map (some gm)],Rs.mp (Value.int .i64) (Value.int .i64) gm es']):=by
 unfold C1
 replace S:=S.se
 have Kw:=hmr.1 a (by omega)
 have anv:=hmr.2
 refine cw (b:=Z5q) Tryz.func58 rfl Tryz.ntmps58 rfl (fun C hC=>(cB [0,1] rfl (ar (af 1 rfl (bM [0,1] rfl (ar (ag rfl (aw rfl nT (S.bc 0 rfl rfl)) (af 1 rfl (ag rfl (KY (kc:=Value.int .i64) (vc:=Value.int .i64) (es:=es) (k:=(a:Int)) (zv:=0) (i:=1) rfl rfl rfl nT mr BK S rfl) ?_)))))))))
 refine af 5 rfl (bL [0,1,5] rfl (af 2 rfl (ax [0,1,13] rfl ?_)))
 refine gB rfl (fun uw=>?_) (fun uw=>?_)
 ·simp only[Bool.and_eq_true,Bool.or_eq_true,Bool.and_eq_false_iff,Bool.or_eq_false_iff,decide_eq_true_eq,decide_eq_false_iff_not,Bool.not_eq_true',Bool.not_eq_false']at uw
  have h0:ga s.1 a=0:=by(by_cases h9:ga s.1 a=0;exact h9;rw[if_neg h9]at Kw;rw[Kw]at uw;simp at uw)
  have hS:jB s (a:Int)=(s.1.set a s.2,s.2+1):=by unfold jB;rw[Int.toNat_natCast,if_pos h0]
  refine aH (ag rfl (aw rfl nT (S.bc 0 rfl rfl)) (af 1 rfl (ag rfl (aw rfl nT (S.bc 0 rfl rfl)) (ag rfl (RP (i:=1) rfl rfl rfl rfl rfl rfl nT S rfl) (ag rfl (bj rfl) (aj rfl (ou (kc:=Value.int .i64) (vc:=Value.int .i64) (es:=es) (k:=(a:Int)) (e:=((es.length:Int)+1)) (i:=1) (H':=[_,_]) (.inl rfl) rfl S rfl rfl rfl rfl nT mr rfl ?_)))))))
  intro w1 S1;clear S
  refine bL [0,1] rfl (ag rfl (aw rfl nT (S1.bc 0 rfl rfl)) (af 1 rfl (ag rfl (zn (kc:=Value.int .i64) (vc:=Value.int .i64) (es:=(mp (a:Int) ((es.length:Int)+1) es)) (k:=(a:Int)) (zv:=0) (i:=1) rfl rfl rfl nT mr BK S1 rfl) (af 1 rfl (ax [3] rfl (bU hC rfl ?_))))))
  refine⟨_,rfl,_,_,Hp.le_refl _,(S1.pick [0,1] [_,_] (by decide) ⟨rfl,rfl,trivial⟩).cV,?_⟩
  have hl:=p7.len
  have G0:nB d (mp (a:Int) ((es.length:Int)+1) es) (jB s (a:Int)):=by rw[hS];exact hmr.put p7 (by omega) h0
  have rN:=(IQ p7 (a:=(a:Int)) (by omega)).2.2.1
  rw[Int.toNat_natCast]at rN
  have hv:=G0.1 a (by omega)
  rw[if_neg rN]at hv
  refine⟨rfl,_,?_,G0,rfl⟩
  show Value.int _ _=_
  rw[hv];rfl
 ·simp only[Bool.and_eq_true,Bool.or_eq_true,Bool.and_eq_false_iff,Bool.or_eq_false_iff,decide_eq_true_eq,decide_eq_false_iff_not,Bool.not_eq_true',Bool.not_eq_false']at uw
  have h0:¬ga s.1 a=0:=by intro h9;rw[if_pos h9]at Kw;rw[Kw]at uw;simp at uw
  have hS:jB s (a:Int)=s:=by unfold jB;rw[Int.toNat_natCast,if_neg h0]
  refine aV (cP [0,1] rfl (ag rfl (aw rfl nT (S.bc 0 rfl rfl)) (af 1 rfl (ag rfl (zn (kc:=Value.int .i64) (vc:=Value.int .i64) (es:=es) (k:=(a:Int)) (zv:=0) (i:=1) rfl rfl rfl nT mr BK S rfl) (af 1 rfl (ax [3] rfl (bU hC rfl ?_)))))))
  refine⟨_,rfl,_,_,Hp.le_refl _,(S.pick [0,1] [_,_] (by decide) ⟨rfl,rfl,trivial⟩).cV,?_⟩
  have hl:=p7.len
  have G0:nB d es (jB s (a:Int)):=by rw[hS];exact hmr
  have rN:=(IQ p7 (a:=(a:Int)) (by omega)).2.2.1
  rw[Int.toNat_natCast]at rN
  have hv:=G0.1 a (by omega)
  rw[if_neg rN]at hv
  refine⟨rfl,_,?_,G0,rfl⟩
  show Value.int _ _=_
  rw[hv];rfl
theorem Jb{w:World}{M:Hp}{X:Fr}(a:Int)(d:Dg){vF gm:Nat}(es:List (Int×Int))(s:List Int×Int)(hmr:nB d es s)(p7:qU d s)(ha:1<=a/\a<=2*(d.ae.length:Int))(hs2:s.2<=2000)(S:SH w M X [Rs.cV [Rs.box vF 103 [.map (some gm)],Rs.mp (Value.int .i64) (Value.int .i64) gm es]]):
  C1 Tryz.prog 58 [.int .i64 a,.pointer (some ⟨vF,0,none⟩)] w M X (fun u M' r'=>M'=M/\∃es',u=.int .i64 (ga (jB s a).1 a.toNat)/\nB d es' (jB s a)/\r'=Rs.cV [Rs.box vF 103 [.map (some gm)],Rs.mp (Value.int .i64) (Value.int .i64) gm es']):=by
 obtain⟨n,rfl⟩:∃n:Nat,a=(n:Int):=⟨a.toNat,by omega⟩
 exact afP n d es s hmr p7 (by omega) hs2 S
end Go.Proofs.YtcohmplpgcddiaaGreatDoor
namespace Go.Proofs.YtcohmplpgcddiaaGreatDoor
open Go.ChangeShapes Go.WideShapes Go.ChangeAt Go.RowKit
theorem adS{d:Dg}(hab:aO d=true){i b:Nat}(hi:i<(bD d).length)(hb:rT (kD d) ((pZ d i).take ((ga (bD d) i).length-1+1))=some b):(eD d).take i++[((fF d b).od,(fF d b).co)]=(eD d).take (i+1):=by
 have hp:=Mr hab hi
 rw[List.take_of_length_le (by rw[Ex];omega)]at hb
 rw[(CB hab hi).1]at hb
 injection hb with hb
 rw[na _ i (by rw[vI];exact hi),Ab d hi,hb]
theorem abR{d:Dg}{i:Nat}(hp:0<(ga (bD d) i).length):rT (kD d) ((pZ d i).take (0+1))=some (ga (ga (bD d) i) 0).toNat:=by
 rw[na _ 0 (by rw[Ex];exact hp),Ms d i hp];rfl
theorem Tx{K:Nat->List Int}{m:Nat}{σ:List Nat}(h:q9 K m σ):σ.length=m:=by have:=h.1.length_eq;simpa using this
theorem adb{K:Nat->List Int}{m:Nat}{σ:List Nat}(h:q9 K m σ){i:Nat}(hi:i<m):ga σ i<m:=List.mem_range.1 (h.1.subset (cY (by rw[Tx h];exact hi)))
theorem adR{d:Dg}(hab:aO d=true){σ:List Nat}(h:q9 (kO (eD d)) (bD d).length σ){kσ:List OK}(hk:kσ=List.map (ga (eD d)) σ):kσ.length=(bD d).length/\∀i,i<(bD d).length->(ga kσ i).1.length<=d.ae.length/\∀x,x∈(ga kσ i).1->x.toNat<d.ae.length/\0<=x:=by
 have hl:=Tx h
 refine⟨by rw[hk,List.length_map,hl],fun i hi=>?_⟩
 have e:ga kσ i=ga (eD d) (ga σ i):=by rw[hk,om _ _ _ (by omega)]
 have h2:=adb h hi
 rw[e]
 exact⟨Mz hab h2,fun x hx=>⟨(wD hab h2 hx).1,(wD hab h2 hx).2.1⟩⟩
theorem SN{kσ:List OK}{n m:Nat}(hl:kσ.length=m)(h:∀i,i<m->(ga kσ i).1.length<=n)(i:Nat)(hi:i<=m):((kσ.take i).flatMap Prod.fst).length<=n*i:=by
 induction i with
 |zero=>simp
 |succ i ih=>
  rw[na _ i (by omega),List.flatMap_append,List.length_append,Nat.mul_succ]
  have h1:=ih (by omega)
  have h2:=h i (by omega)
  simp only[List.flatMap_cons,List.flatMap_nil,List.append_nil]
  omega
theorem acK{kσ:List OK}{n m:Nat}(hl:kσ.length=m)(h:∀i,i<m->∀x,x∈(ga kσ i).1->x.toNat<n/\0<=x)(i:Nat)(hi:i<=m){x:Int}(hx:x∈(kσ.take i).flatMap Prod.fst):x.toNat<n:=by
 obtain⟨y,hy,hx⟩:=List.mem_flatMap.1 hx
 have hy:=List.mem_of_mem_take hy
 obtain⟨j,hj,rfl⟩:=List.mem_iff_getElem.1 hy
 have:=h j (by omega) x (by rw[cZ hj];exact hx)
 exact this.1
noncomputable def Z5r:=Tryz.f25.body.getD .skip
set_option maxHeartbeats 4000000 in
set_option maxRecDepth 10000 in
theorem afN{w:World}{M:Hp}{X:Fr}(d:Dg){cI:Nat}{cA iA oA:Option Addr}{cc ic oc:Nat}(bI:fW (M.un X.h) cI 66 [.slice cA d.ae.length cc,.int .i64 d.loops,.slice iA (aI d false (4*d.ae.length)).length ic,.slice oA (aI d true (4*d.ae.length)).length oc])(hsc:aJ bu (M.un X.h) cA cc d.ae)(hsi:aJ cQ (M.un X.h) iA ic (aI d false (4*d.ae.length)))(bq:aJ cQ (M.un X.h) oA oc (aI d true (4*d.ae.length)))(hn:d.ae.length<=16)(hab:aO d=true)(oD:(bD d).length<=16)(S:SH w M X []):Ct Tryz.prog 25 [.pointer (some ⟨cI,0,none⟩)] w M X (fun u N=>∃A c,u=.agg [.slice A (gF d).ae.length c,.int .i64 (gF d).loops].toArray/\aJ bu N A c (gF d).ae):=by
 unfold Ct
 refine cw (b:=Z5r) Tryz.func25 rfl Tryz.ntmps25 rfl (fun C hC=>(cB [0] rfl (ar (aj rfl (bW (l:=[_,_]) rfl rfl rfl jo rfl S ?_)))))
 intro aP w1 S1;clear S
 refine aB (sw (af 1 rfl (aB (di (ar (af 1 rfl (aj rfl (eo rfl rfl rfl rfl rfl rfl rfl Yo S1 (T8 d (bI.mono S1.bn) (hsc.mono S1.bn) (hsi.mono S1.bn) (bq.mono S1.bn) hn hab S1.aT) ?_))))))))
 intro sZ w2 M1 bh S2 kY;clear S1
 replace bI:=bI.mono (Hp.aD bh S2.mx)
 replace hsc:=hsc.mono (Hp.aD bh S2.mx)
 replace hsi:=hsi.mono (Hp.aD bh S2.mx)
 replace bq:=bq.mono (Hp.aD bh S2.mx)
 obtain⟨A1,c1,vs1,rfl,hr1,hd1⟩:=kY
 have TN:=hd1.1
 refine ag rfl (cK rfl FF) (af 1 rfl (ax [0,2,3,19,20,21] rfl (bg ?_)))
 have S3:=S2.jI mj;clear S2
 refine ck (fun aZ au aR=>∃(i:Nat) (ws:List Vw) (kz:List OK) (oW:Value) (M2:Hp),M1.le M2/\aZ=(bD d).length-i/\Env 111 [(0,.pointer (some ⟨cI,0,none⟩)),(2,.pointer (some ⟨aP,0,none⟩)),(3,oW),(19,.slice A1 vs1.length c1),(20,.int .i64 (vs1.length:Int)),(21,.int .i64 (i:Int))] au/\SH aR M2 X [Rs.row mj oW ws,Rs.box aP 24 [.slice none 0 0,.int .i64 0]]/\i<=(bD d).length/\kz=(eD d).take i/\l6 M2 ws kz) rfl ?_ ?_
 ·intro au aq
  refine⟨_,⟨0,_,([]),_,_,Hp.le_refl _,rfl,aq.su rfl,S3.pick [0,1] [_,_] (by decide) ⟨rfl,rfl,trivial⟩,?dh,?dC,?jm⟩⟩
  case dh=>omega
  case dC=>rfl
  case jm=>exact l6.eO
 ·rintro m1 a1 w3 ⟨i,ws,kz,oW,M2,hle2,rfl,bN,S4,hi,zC,hz1⟩
  clear S3
  refine cy bN ?_
  clear bN a1
  replace bI:=bI.mono (Hp.aD hle2 S4.mx)
  replace hsc:=hsc.mono (Hp.aD hle2 S4.mx)
  replace hsi:=hsi.mono (Hp.aD hle2 S4.mx)
  replace bq:=bq.mono (Hp.aD hle2 S4.mx)
  replace hr1:=hr1.mono hle2
  replace hd1:=hd1.mono hle2
  have hzl:=hz1.1
  have hkl:kz.length=i:=by rw[zC,List.length_take,vI];omega
  refine ar (af 1 rfl (aB (di ?_)))
  refine bp rfl (fun Bn=>?_) (fun Bn=>?_)
  ·refine aV (bC [0,2,3,19,20,21] rfl (bg (ar (ag rfl (cN i rfl oM hr1) ?_))))
   obtain⟨kG,hr2⟩:=hd1.2 i (by first|omega|(simp only[ls];omega))
   have Aq:(ga (bD d) i).length*8<=140737488355328:=hr2.room
   refine ag rfl (aw rfl dm (hr1.cell S4.m (i:=i) (by first|omega|(simp only[ls];omega)) 0 rfl (congrArg (fun n=>some (Value.slice _ n _)) kG))) ?_
   refine af 1 rfl (bM [0,2,3,19,20,21,5] rfl ?_)
   have hpl:=Mr hab (show i<(bD d).length by omega)
   refine aH (af 2 rfl (ag rfl (cN 0 rfl bt hr2) (ag rfl (aw rfl aG (hr2.cell S4.m (i:=0) (by first|omega|(simp only[ls];omega)) 0 rfl rfl)) ?_)))
   obtain⟨hx1,hx2,hx3⟩:=wG hab (show i<(bD d).length by omega) (cY hpl)
   obtain⟨x0,hx0⟩:∃x0:Nat,ga (ga (bD d) i) 0=(x0:Int):=⟨(ga (ga (bD d) i) 0).toNat,by omega⟩
   have Xt:(ga (ga (bD d) i) 0).toNat=x0:=by omega
   have aiz:x0<d.ae.length:=by omega
   have aiy:cg d x0=i:=by rw[<-Xt];exact hx3
   refine dz 28 (.int .i64 (x0:Int)) rfl (int_eq hx0) (aj rfl (eo rfl rfl rfl rfl rfl rfl rfl Yn S4 (Wd d x0 (bI.mono S4.bn) (hsc.mono S4.bn) (hsi.mono S4.bn) (bq.mono S4.bn) hn hab (by omega) S4.aT) ?_))
   intro vw4 w4 M3 bZ S5 Pc;clear S4
   replace bI:=bI.mono (Hp.aD bZ S5.mx)
   replace hsc:=hsc.mono (Hp.aD bZ S5.mx)
   replace hsi:=hsi.mono (Hp.aD bZ S5.mx)
   replace bq:=bq.mono (Hp.aD bZ S5.mx)
   replace hr1:=hr1.mono bZ
   replace hd1:=hd1.mono bZ
   replace hz1:=hz1.mono bZ
   replace hr2:=hr2.mono bZ
   obtain⟨A2,c2,B1,e1,rfl,hr3,hr4⟩:=Pc
   refine aj rfl (bW (l:=[_,_]) rfl rfl rfl Fa rfl S5 ?_)
   intro bJ w5 S6;clear S5
   refine aj rfl (bH 0 [_,_] [_,_] [_,_,_] rfl S6 rfl rfl nU rfl rfl ?_)
   intro w6 S7;clear S6
   refine bM [0,2,3,19,20,21,5,6] rfl (ar (af 1 rfl (aj rfl (abf (C:=aQ) 1 rfl rfl rfl rfl rfl bt (by first|rfl|omega) (by first|omega|(simp only[ls];omega)) hr2 ?_))))
   intro A3 c3 ja
   refine ag rfl (cK rfl dm) (af 1 rfl (ax [0,2,3,19,20,21,6,31,32,33] rfl (bg ?_)))
   refine ck (fun aZ au aR=>∃(j:Nat) (b:Nat) (pA:Option Addr) (Kq:Nat) (qA:Option Addr) (qc:Nat) (M4:Hp),M3.le M4/\aZ=(ga (bD d) i).length-1-j/\Env 111 [(0,.pointer (some ⟨cI,0,none⟩)),(2,.pointer (some ⟨aP,0,none⟩)),(3,oW),(19,.slice A1 vs1.length c1),(20,.int .i64 (vs1.length:Int)),(21,.int .i64 (i:Int)),(6,.pointer (some ⟨bJ,0,none⟩)),(31,.slice A3 ((ga (bD d) i).drop 1).length c3),(32,.int .i64 (((ga (bD d) i).drop 1).length:Int)),(33,.int .i64 (j:Int))] au/\SH aR M4 X [Rs.box bJ 110 [.slice pA ((fF d b).od).length Kq,.slice qA ((fF d b).co).length qc],Rs.row mj oW ws,Rs.box aP 24 [.slice none 0 0,.int .i64 0]]/\j<=(ga (bD d) i).length-1/\rT (kD d) ((pZ d i).take (j+1))=some b/\b<d.ae.length/\cg d b=i/\aJ aQ M4 pA Kq (fF d b).od/\aJ aQ M4 qA qc (fF d b).co) rfl ?_ ?_
   ·intro au aq
    refine⟨_,⟨0,x0,_,_,_,_,_,Hp.le_refl _,rfl,aq.su rfl,S7.pick [0,1,2] [_,_,_] (by decide) ⟨rfl,rfl,rfl,trivial⟩,?dv,?dL,?jl,?py,?wP,?AA⟩⟩
    case dv=>omega
    case dL=>(rw[<-Xt];exact abR hpl)
    case jl=>exact aiz
    case py=>exact aiy
    case wP=>exact hr3
    case AA=>exact hr4
   ·rintro m2 a2 w7 ⟨j,b,pA,Kq,qA,qc,M4,b7,rfl,cU,S8,hj,hbb,hbl,hbp,D5,hbk⟩
    clear S7
    refine cy cU ?_
    clear cU a2
    replace bI:=bI.mono (Hp.aD b7 S8.mx)
    replace hsc:=hsc.mono (Hp.aD b7 S8.mx)
    replace hsi:=hsi.mono (Hp.aD b7 S8.mx)
    replace bq:=bq.mono (Hp.aD b7 S8.mx)
    replace hr1:=hr1.mono b7
    replace hd1:=hd1.mono b7
    replace hz1:=hz1.mono b7
    replace hr2:=hr2.mono b7
    replace hr3:=hr3.mono b7
    replace hr4:=hr4.mono b7
    replace ja:=ja.mono b7
    have hdl:(List.drop 1 (ga (bD d) i)).length=(ga (bD d) i).length-1:=List.length_drop ..
    refine ar (af 1 rfl (aB (di ?_)))
    refine bp rfl (fun xq=>?_) (fun xq=>?_)
    ·refine aV (bC [0,2,3,19,20,21,6,31,32,33] rfl (bg (ar (ag rfl (cN j rfl bt ja) (ag rfl (aw rfl aG (ja.cell S8.m (i:=j) (by first|omega|(simp only[ls];omega)) 0 rfl rfl)) ?_)))))
     refine af 1 rfl (bM [0,2,3,19,20,21,6,31,32,33,8] rfl ?_)
     have hgd:ga (List.drop 1 (ga (bD d) i)) j=ga (ga (bD d) i) (j+1):=by rw[adX,Nat.add_comm]
     obtain⟨hy1,hy2,hy3⟩:=wG hab (show i<(bD d).length by omega) (cY (show j+1<(ga (bD d) i).length by omega))
     obtain⟨x,hx⟩:∃x:Nat,ga (ga (bD d) i) (j+1)=(x:Int):=⟨(ga (ga (bD d) i) (j+1)).toNat,by omega⟩
     have Qa:(ga (ga (bD d) i) (j+1)).toNat=x:=by omega
     have hxl:x<d.ae.length:=by omega
     have hxp:cg d x=i:=by rw[<-Qa];exact hy3
     have XI:(kD d x).length=(kD d b).length:=ae5 hab hxl hbl (by rw[hxp,hbp])
     refine iZ 8 (.int .i64 (x:Int)) rfl (int_eq (by rw[hgd,hx])) ?_
     refine aH (af 2 rfl (aj rfl (eo rfl rfl rfl rfl rfl rfl rfl Yn S8 (Wd d x (bI.mono S8.bn) (hsc.mono S8.bn) (hsi.mono S8.bn) (bq.mono S8.bn) hn hab (by omega) S8.aT) ?_)))
     intro PL w8 M5 cH S9 Bo;clear S8
     replace bI:=bI.mono (Hp.aD cH S9.mx)
     replace hsc:=hsc.mono (Hp.aD cH S9.mx)
     replace hsi:=hsi.mono (Hp.aD cH S9.mx)
     replace bq:=bq.mono (Hp.aD cH S9.mx)
     replace hr1:=hr1.mono cH
     replace hd1:=hd1.mono cH
     replace hz1:=hz1.mono cH
     replace hr2:=hr2.mono cH
     replace hr3:=hr3.mono cH
     replace hr4:=hr4.mono cH
     replace ja:=ja.mono cH
     replace D5:=D5.mono cH
     replace hbk:=hbk.mono cH
     obtain⟨A4,c4,B2,e2,rfl,p8,tq⟩:=Bo
     refine aj rfl (bW (l:=[_,_]) rfl rfl rfl Fa rfl S9 ?_)
     intro dE w9 bQ;clear S9
     refine aj rfl (bH 0 [_,_] [_,_] [_,_,_,_] rfl bQ rfl rfl nU rfl rfl ?_)
     intro ld cz;clear bQ
     refine bL [0,2,3,19,20,21,6,31,32,33,9] rfl (ag rfl (az rfl gT rfl jP jO) (ag rfl (aw rfl dm (cz.bc 0 rfl rfl)) (ag rfl (az rfl gT rfl jP jO) (ag rfl (aw rfl dm (cz.bc 1 rfl rfl)) (aj rfl (dU rfl rfl rfl rfl rfl rfl rfl Ym cz (R8 ((fF d x).co) ((fF d b).co) (tq.mono (Hp.cM _ _)) (hbk.mono (Hp.cM _ _)) cz.aT) ?_))))))
     rintro _ lI cO rfl;clear cz
     refine af 1 rfl (ax [0,2,3,19,20,21,6,31,32,33,9,45] rfl ?_)
     refine bp rfl (fun Bi=>?_) (fun Bi=>?_)
     ·refine aH (ag rfl (aU [_,_] rfl gT nU (cO.bs 0 rfl rfl)) (aj rfl (bH 1 [_,_] [_,_] [_,_,_,_] rfl cO rfl rfl nU rfl rfl ?_)))
      intro nL cF;clear cO
      refine aB (bE (aW [0,2,3,19,20,21,6,31,32,33] rfl (aH (ag rfl (bj rfl) (af 1 rfl (aB (br ?_)))))))
      intro au aq
      refine⟨_,?kr,⟨j+1,x,_,_,_,_,_,(b7.trans cH),rfl,aq.su rfl,cF.pick [1,2,3] [_,_,_] (by decide) ⟨rfl,rfl,rfl,trivial⟩,?fg,?fR,?ko,?mI,?wO,?Az⟩⟩
      case fg=>omega
      case fR=>(rw[na _ (j+1) (by rw[Ex];omega),Ms d i (by omega),Qa,TY hbb XI];first|rw[if_pos (show cmpL (kD d x) (kD d b)<0 from Bi)]|rw[if_neg (show¬cmpL (kD d x) (kD d b)<0 from Bi)])
      case ko=>assumption
      case mI=>assumption
      case wO=>exact p8
      case Az=>exact tq
      case kr=>omega
     ·refine aV (bE (aW [0,2,3,19,20,21,6,31,32,33] rfl (aH (ag rfl (bj rfl) (af 1 rfl (aB (br ?_)))))))
      intro au aq
      refine⟨_,?jr,⟨j+1,b,_,_,_,_,_,(b7.trans cH),rfl,aq.su rfl,cO.pick [1,2,3] [_,_,_] (by decide) ⟨rfl,rfl,rfl,trivial⟩,?fJ,?fZ,?lX,?nV,?tV,?wN⟩⟩
      case fJ=>omega
      case fZ=>(rw[na _ (j+1) (by rw[Ex];omega),Ms d i (by omega),Qa,TY hbb XI];first|rw[if_pos (show cmpL (kD d x) (kD d b)<0 from Bi)]|rw[if_neg (show¬cmpL (kD d x) (kD d b)<0 from Bi)])
      case lX=>assumption
      case nV=>assumption
      case tV=>exact D5
      case wN=>exact hbk
      case jr=>omega
    ·refine bX rfl (aW [0,2,3,19,20,21,6] rfl (aH (af 1 rfl (ag rfl (aU [_,_] rfl gT nU (S8.bs 0 rfl rfl)) (aj rfl (eQ (C:=mj) (l:=[_,_]) rfl rfl rfl rfl tP rfl rfl rfl rfl S8 ?_))))))
     intro lK ng ct;clear S8
     refine aj rfl (gw (C:=mj) (i:=2) (q:=0) (⟨(⟨pA,((fF d b).od).length,Kq⟩:ei),(⟨qA,((fF d b).co).length,qc⟩:ei)⟩:Vw) rfl rfl rfl rfl rfl rfl rfl rfl tP ct rfl rfl rfl (by show(_+1)*48<=_;first|omega|(simp only[ls];omega)) ?_)
     intro amF lH cS;clear ct
     have cC:=cS.pick [1,2,3] [_,_,_] (by decide) ⟨rfl,rfl,rfl,trivial⟩;clear cS
     have hz1:=hz1.snoc D5 hbk
     refine af 1 rfl (aB (bE (aW [0,2,3,19,20,21] rfl (aH (ag rfl (bj rfl) (af 1 rfl (aB (br ?_))))))))
     intro au aq
     refine⟨_,?jq,⟨i+1,_,(kz++[((fF d b).od,(fF d b).co)]),_,_,((hle2.trans bZ).trans b7),rfl,aq.su rfl,cC.pick [1,2] [_,_] (by decide) ⟨rfl,rfl,trivial⟩,?fI,?fY,?lW⟩⟩
     case fI=>omega
     case fY=>(rw[zC];obtain rfl:j=(ga (bD d) i).length-1:=(by omega);exact adS hab (by omega) hbb)
     case lW=>exact hz1
     case jq=>omega
  ·refine bX rfl (bC [0,2,3] rfl ?_)
   obtain rfl:i=(bD d).length:=by omega
   have ai0:kz=eD d:=by rw[zC,List.take_of_length_le (by rw[vI];exact Nat.le_refl _)]
   rw[ai0]at hz1
   refine aH (af 1 rfl (aj rfl (r9 rfl rfl rfl rfl rfl rfl rfl aka S4 (i:=0) rfl (acY oW ws (eD d) hz1 (bD d).length (vI d) (by omega) (fun i hi=>ks9 hab hi) (S4.mH (i:=0) rfl)) ?_)))
   rintro N8 ow _ _-bY ⟨rfl,qx,xO,GN,hz2,Di,rfl⟩;clear S4
   change SH _ _ _ [_,_]at bY
   rw[qx]at bY;clear qx
   refine bM [0,2,3] rfl ?_
   obtain⟨kσ,OJ⟩:∃kσ,kσ=(List.map (ga (eD d)) GN):=⟨_,rfl⟩
   rw[<-OJ]at hz2
   obtain⟨Xp,Ox⟩:=adR hab Di OJ
   have hfl:=SN Xp (fun i hi=>(Ox i hi).1)
   have zD:=fun i hi x hx=>acK Xp (fun i hi=>(Ox i hi).2) i hi (x:=x) hx
   have am4:=hz2.1
   refine aH (af 2 rfl (ag rfl (az rfl jy rfl jZ jX) (ag rfl (az rfl aM rfl aY aX) (ag rfl (aw rfl aG (bI.cell bY.um rfl)) (ag rfl (run_build (l:=[_,_]) rfl rfl iC rfl rfl) (aj rfl (bW (l:=[_,_]) rfl rfl rfl jo rfl bY ?_)))))))
   intro iI oU dW;clear bY
   refine aj rfl (bH 0 [_,_] [_,_] [_,_,_] rfl dW rfl rfl aN rfl rfl ?_)
   intro pU ek;clear dW
   refine bL [0,2,3,10] rfl (aj rfl (xJ Int Int (Value.int .i64) (Value.int .i64) rfl rfl rfl ek ?_))
   intro KL vP fM;clear ek
   refine aj rfl (bW (l:=[_]) rfl rfl rfl afX rfl fM ?_)
   intro rS BO eF;clear fM
   refine aj rfl (bH 0 [_] [_] [_,_,_,_,_] rfl eF rfl rfl agp rfl rfl ?_)
   intro zu fx;clear eF
   refine bL [0,2,3,10,11] rfl (ag rfl (GD (vs:=[_]) rfl rfl rfl rfl) (af 1 rfl (bM [0,2,3,10,12] rfl (ar (af 1 rfl (ag rfl (kZ (i:=3) rfl tP fx rfl) (af 1 rfl (ax [0,2,10,12,63,64,65] rfl ?_))))))))
   refine bg ?_
   have jw:=fx.jI bu;clear fx
   refine ck (fun aZ au aR=>∃(i4:Nat) (rn:Rn) (es:List (Int×Int)) (eV:Value) (M6:Hp),M2.le M6/\aZ=(bD d).length-i4/\Env 111 [(0,.pointer (some ⟨cI,0,none⟩)),(2,.pointer (some ⟨aP,0,none⟩)),(10,.pointer (some ⟨iI,0,none⟩)),(12,.func (.func 58) #[] [.pointer (some ⟨rS,0,none⟩)].toArray),(63,oW),(64,.int .i64 (xO.length:Int)),(65,.int .i64 (i4:Int))] au/\SH aR M6 X [Rs.row bu eV rn.cs,Rs.box rS 103 [.map (some KL)],Rs.mp (Value.int .i64) (Value.int .i64) KL es,Rs.box iI 24 [eV,.int .i64 d.loops],Rs.row mj oW xO,Rs.box aP 24 [.slice none 0 0,.int .i64 0]]/\i4<=(bD d).length/\rn=gS d ((kσ.take i4).flatMap Prod.fst)/\nB d es (rn.nm,rn.nx)) rfl ?_ ?_
   ·intro au aq
    refine⟨_,⟨0,(gS d []),[],_,_,Hp.le_refl _,rfl,aq.su rfl,jw.pick [0,1,2,3,4,5] [_,_,_,_,_,_] (by decide) ⟨rfl,rfl,rfl,rfl,rfl,rfl,trivial⟩,?iB,?iW,?px⟩⟩
    case iB=>omega
    case iW=>rfl
    case px=>exact nB.start d
   ·rintro m4 a3 vO ⟨i4,rn,es,eV,M6,eW,rfl,fB,gN,hi4,rN,hmr⟩
    clear jw
    refine cy fB ?_
    clear fB a3
    replace bI:=bI.mono (Hp.aD eW gN.mx)
    replace hsc:=hsc.mono (Hp.aD eW gN.mx)
    replace hsi:=hsi.mono (Hp.aD eW gN.mx)
    replace bq:=bq.mono (Hp.aD eW gN.mx)
    replace hr1:=hr1.mono eW
    replace hd1:=hd1.mono eW
    replace hz1:=hz1.mono eW
    replace hz2:=hz2.mono eW
    have XQ:=hfl i4 hi4
    have agM:=fun h=>Ox i4 h
    have anz:rn.cs.length<=256:=by
     rw[rN,(IP hab fun x hx=>zD i4 hi4 x hx).2.2]
     exact Nat.le_trans XQ (Nat.mul_le_mul (by omega:d.ae.length<=16) (by omega:i4<=16))
    refine ar (af 1 rfl (aB (di ?_)))
    refine bp rfl (fun F6=>?_) (fun F6=>?_)
    ·have Wu:=agM (by omega)
     refine aV (bC [0,2,10,12,63,64,65] rfl (bg (ar (ag rfl (bS (i:=4) i4 rfl tP gN rfl) ?_))))
     obtain⟨mv,vW,yg,GY⟩:=hz2.2 i4 (by first|omega|(simp only[ls];omega))
     have agz:((ga kσ i4).1).length*8<=140737488355328:=vW.room
     have ak2:((ga kσ i4).2).length*8<=140737488355328:=GY.room
     refine ag rfl (aU [_,_] rfl gT nU (gN.qY (i:=4) (e:=i4) (j:=0) rfl (by first|omega|(simp only[ls];omega)) ⟨congrArg (fun n=>some (Value.slice _ n _)) mv,congrArg (fun n=>some (Value.slice _ n _)) yg,trivial⟩)) ?_
     refine aj rfl (bW (l:=[_,_]) rfl rfl rfl Fa rfl gN ?_)
     intro uY xU gI;clear gN
     refine aj rfl (bH 0 [_,_] [_,_] [_,_,_,_,_,_,_] rfl gI rfl rfl nU rfl rfl ?_)
     intro DS kM;clear gI
     refine bL [0,2,10,12,63,64,65,14] rfl (ag rfl (az rfl gT rfl jP jO) (ag rfl (aw rfl dm (kM.bc 0 rfl rfl)) (ag rfl (cK rfl dm) (af 1 rfl (ax [0,2,10,12,63,64,65,70,71,72] rfl (bg ?_))))))
     refine ck (fun aZ au aR=>∃(k:Nat) (bF:Rn) (iz:List (Int×Int)) (jx:Value) (M7:Hp),M6.le M7/\aZ=(ga kσ i4).1.length-k/\Env 111 [(0,.pointer (some ⟨cI,0,none⟩)),(2,.pointer (some ⟨aP,0,none⟩)),(10,.pointer (some ⟨iI,0,none⟩)),(12,.func (.func 58) #[] [.pointer (some ⟨rS,0,none⟩)].toArray),(63,oW),(64,.int .i64 (xO.length:Int)),(65,.int .i64 (i4:Int)),(70,.slice ((ga xO i4).o.A) ((ga kσ i4).1).length ((ga xO i4).o.c)),(71,.int .i64 (((ga kσ i4).1).length:Int)),(72,.int .i64 (k:Int))] au/\SH aR M7 X [Rs.row bu jx bF.cs,Rs.box rS 103 [.map (some KL)],Rs.mp (Value.int .i64) (Value.int .i64) KL iz,Rs.box iI 24 [jx,.int .i64 d.loops],Rs.row mj oW xO,Rs.box aP 24 [.slice none 0 0,.int .i64 0]]/\k<=(ga kσ i4).1.length/\bF=gS d ((kσ.take i4).flatMap Prod.fst++(ga kσ i4).1.take k)/\nB d iz (bF.nm,bF.nx)) rfl ?_ ?_
     ·intro au aq
      refine⟨_,⟨0,rn,es,_,_,Hp.le_refl _,rfl,aq.su rfl,kM.pick [1,2,3,4,5,6] [_,_,_,_,_,_] (by decide) ⟨rfl,rfl,rfl,rfl,rfl,rfl,trivial⟩,?jN,?jM,?tT⟩⟩
      case jN=>omega
      case jM=>(rw[List.take_zero,List.append_nil];exact rN)
      case tT=>exact hmr
     ·rintro m5 a4 Kj ⟨k,bF,iz,jx,M7,iN,rfl,iT,fU,hk,AX,XE⟩
      clear kM
      refine cy iT ?_
      clear iT a4
      replace bI:=bI.mono (Hp.aD iN fU.mx)
      replace hsc:=hsc.mono (Hp.aD iN fU.mx)
      replace hsi:=hsi.mono (Hp.aD iN fU.mx)
      replace bq:=bq.mono (Hp.aD iN fU.mx)
      replace hr1:=hr1.mono iN
      replace hd1:=hd1.mono iN
      replace hz1:=hz1.mono iN
      replace hz2:=hz2.mono iN
      replace vW:=vW.mono iN
      replace GY:=GY.mono iN
      obtain⟨p7,hnx,hcs⟩:qU d (bF.nm,bF.nx)/\bF.nx<=1+4*(((kσ.take i4).flatMap Prod.fst++(ga kσ i4).1.take k).length:Int)/\bF.cs.length=((kσ.take i4).flatMap Prod.fst++(ga kσ i4).1.take k).length:=by
       rw[AX]
       exact IP hab fun x hx=>by
        rcases List.mem_append.1 hx with hx|hx
        ·exact zD i4 hi4 x hx
        ·exact(Wu.2 x (List.mem_of_mem_take hx)).1
      rw[List.length_append,List.length_take]at hnx hcs
      have h16:d.ae.length*i4<=16*16:=Nat.mul_le_mul (by omega) (by omega)
      refine ar (af 1 rfl (aB (di ?_)))
      refine bp rfl (fun F5=>?_) (fun F5=>?_)
      ·refine aV (bC [0,2,10,12,63,64,65,70,71,72] rfl (bg (ar (ag rfl (cN k rfl bt vW) (ag rfl (aw rfl aG (vW.cell fU.m (i:=k) (by first|omega|(simp only[ls];omega)) 0 rfl rfl)) ?_)))))
       refine af 1 rfl (bM [0,2,10,12,63,64,65,70,71,72,16] rfl ?_)
       obtain⟨hc1,hc2⟩:=Wu.2 _ (cY (show k<(ga kσ i4).1.length by omega))
       obtain⟨c,hcn⟩:∃c:Nat,ga (ga kσ i4).1 k=(c:Int):=⟨(ga (ga kσ i4).1 k).toNat,by omega⟩
       have hcl:c<d.ae.length:=by omega
       clear hc1 hc2
       refine iZ 16 (.int .i64 (c:Int)) rfl (int_eq hcn) (aH (af 2 rfl (ag rfl (az rfl jy rfl jZ jX) (ag rfl (az rfl aM rfl dN dM) (ag rfl (aw rfl cE (bI.cell fU.um rfl)) (af 1 rfl (ag rfl (cN c rfl fX hsc) (ag rfl (aU [_,_,_,_,_] rfl b6 fN (hsc.j6 fU.um (e:=c) (by first|omega|(simp only[ls];omega)) (j:=0) ⟨rfl,rfl,rfl,rfl,rfl,trivial⟩)) ?_))))))))
       refine aj rfl (bW (l:=[_,_,_,_,_]) rfl rfl rfl vt rfl fU ?_)
       intro wm BN fG;clear fU
       refine aj rfl (bH 0 [_,_,_,_,_] [_,_,_,_,_] [_,_,_,_,_,_,_] rfl fG rfl rfl fN rfl rfl ?_)
       intro xS gH;clear fG
       refine ax [0,2,10,12,63,64,65,70,71,72,17] rfl ?_
       have x7:=fun k h=>Aa hab hcl p7 k h
       have OB:1<=(ga d.ae c).a/\(ga d.ae c).a<=2*(d.ae.length:Int):=ey hab hcl (k:=0) (by omega)
       have OA:1<=(ga d.ae c).b/\(ga d.ae c).b<=2*(d.ae.length:Int):=ey hab hcl (k:=1) (by omega)
       have Oz:1<=(ga d.ae c).c/\(ga d.ae c).c<=2*(d.ae.length:Int):=ey hab hcl (k:=2) (by omega)
       have Oy:1<=(ga d.ae c).d/\(ga d.ae c).d<=2*(d.ae.length:Int):=ey hab hcl (k:=3) (by omega)
       have hq0:=(x7 0 (by omega)).2.2.2.1
       have hq1:=(x7 1 (by omega)).2.2.2.1
       have hq2:=(x7 2 (by omega)).2.2.2.1
       have Cg:=(x7 3 (by omega)).2.2.2.1
       dsimp only at hq0 hq1 hq2 Cg
       have kj:=gH.pick [2,3,0,1,4,5,6] [_,_,_,_,_,_,_] (by decide) ⟨rfl,rfl,rfl,rfl,rfl,rfl,rfl,trivial⟩;clear gH
       refine zP [_,_] [_,_,_,_,_] rfl (by kernel_rfl) kj 25 rfl ?_
       clear kj
       change WA _ _ _ _ _ _ _ _ _ _ _ _ [_,_,_,_,_,_,_]
       refine aS 0 rfl (az rfl aM rfl dN dM) (ay 1 rfl (fun ah Sz=>aw rfl cE (Sz.suf.bc 2 rfl rfl)) (aK 22 [2] rfl (aS 3 rfl (az rfl b6 rfl aY aX) (ay 4 rfl (fun ah Sz=>aw rfl aG (Sz.suf.bc 0 rfl rfl)) (aK 19 [6] rfl (aS 7 rfl (az rfl b6 rfl aY aX) (ay 8 rfl (fun ah Sz=>aw rfl aG (Sz.suf.bc 0 rfl rfl)) (aK 16 [10] rfl ?_))))))))
       refine aS 11 rfl (az rfl b6 rfl aY aX) (ay 12 rfl (fun ah Sz=>aw rfl aG (Sz.suf.bc 0 rfl rfl)) (aK 13 [14] rfl (aS 15 rfl (az rfl b6 rfl aY aX) (ay 16 rfl (fun ah Sz=>aw rfl aG (Sz.suf.bc 0 rfl rfl)) (aS 18 rfl (az rfl b6 rfl lM lJ) (ay 19 rfl (fun ah Sz=>aw rfl gY (Sz.suf.bc 0 rfl rfl)) (cm 5 rfl (fun w55 nz=>?_))))))))
       have pd:=nz.pick [0,1,2,3,4,5,6] [_,_,_,_,_,_,_] (by decide) ⟨rfl,rfl,rfl,rfl,rfl,rfl,rfl,trivial⟩;clear nz
       have nP:SH _ _ _ (Rs.cV [_,_]::[_,_,_,_,_]):=SH.qy (A:=[_,_]) (B:=[_,_,_,_,_]) pd;clear pd
       have ny:SH _ _ _ [_,_,_,_,_,_]:=nP.less (i:=0) rfl
       have pq:=Jb (ga d.ae c).a d iz (dt d c (bF.nm,bF.nx) 0) XE (x7 0 (by omega)).1 OB (by omega) (nP.mH (i:=0) rfl);clear ny
       refine(IC (i:=0) rfl rfl rfl rfl rfl rfl rfl JZ nP rfl pq ?_)
       intro amo w56 M36 amT alf mE uW;clear nP
       obtain⟨JU,uW⟩:=uW
       rw[JU]at mE
       obtain⟨W4,rfl,VA,rfl⟩:=uW
       replace mE:SH _ _ _ (Rs.cV [_,_]::[_,_,_,_,_]):=mE
       have S64:SH _ _ _ [_,_,_,_,_,_,_]:=SH.rX (A:=[_,_]) (B:=[_,_,_,_,_]) mE;clear mE
       have aiV:nB d W4 (dt d c (bF.nm,bF.nx) 1):=VA
       clear VA
       refine dB [_,_] [_,_,_,_,_,_,_] rfl S64 ?_;clear S64
       refine cm 9 rfl (fun GG tF=>?_)
       have o9:=tF.pick [0,1,2,3,4,5,6] [_,_,_,_,_,_,_] (by decide) ⟨rfl,rfl,rfl,rfl,rfl,rfl,rfl,trivial⟩;clear tF
       have o8:SH _ _ _ (Rs.cV [_,_]::[_,_,_,_,_]):=SH.qy (A:=[_,_]) (B:=[_,_,_,_,_]) o9;clear o9
       have jb:SH _ _ _ [_,_,_,_,_,_]:=o8.less (i:=0) rfl
       have tM:=Jb (ga d.ae c).b d W4 (dt d c (bF.nm,bF.nx) 1) aiV (x7 1 (by omega)).1 OA (by omega) (o8.mH (i:=0) rfl);clear jb
       refine(IC (i:=0) rfl rfl rfl rfl rfl rfl rfl JZ o8 rfl tM ?_)
       intro amn PD M38 amS ale zN Ck;clear o8
       obtain⟨JT,Ck⟩:=Ck
       rw[JT]at zN
       obtain⟨WZ,rfl,Vz,rfl⟩:=Ck
       replace zN:SH _ _ _ (Rs.cV [_,_]::[_,_,_,_,_]):=zN
       have wz:SH _ _ _ [_,_,_,_,_,_,_]:=SH.rX (A:=[_,_]) (B:=[_,_,_,_,_]) zN;clear zN
       have aiU:nB d WZ (dt d c (bF.nm,bF.nx) 2):=Vz
       clear Vz
       refine dB [_,_] [_,_,_,_,_,_,_] rfl wz ?_;clear wz
       refine cm 13 rfl (fun w61 tD=>?_)
       have qR:=tD.pick [0,1,2,3,4,5,6] [_,_,_,_,_,_,_] (by decide) ⟨rfl,rfl,rfl,rfl,rfl,rfl,rfl,trivial⟩;clear tD
       have wy:SH _ _ _ (Rs.cV [_,_]::[_,_,_,_,_]):=SH.qy (A:=[_,_]) (B:=[_,_,_,_,_]) qR;clear qR
       have Cw:SH _ _ _ [_,_,_,_,_,_]:=wy.less (i:=0) rfl
       have E4:=Jb (ga d.ae c).c d WZ (dt d c (bF.nm,bF.nx) 2) aiU (x7 2 (by omega)).1 Oz (by omega) (wy.mH (i:=0) rfl);clear Cw
       refine(IC (i:=0) rfl rfl rfl rfl rfl rfl rfl JZ wy rfl E4 ?_)
       intro amm w62 M40 amR AH vg He;clear wy
       obtain⟨JS,He⟩:=He
       rw[JS]at vg
       obtain⟨WY,rfl,Vy,rfl⟩:=He
       replace vg:SH _ _ _ (Rs.cV [_,_]::[_,_,_,_,_]):=vg
       have Hw:SH _ _ _ [_,_,_,_,_,_,_]:=SH.rX (A:=[_,_]) (B:=[_,_,_,_,_]) vg;clear vg
       have aiT:nB d WY (dt d c (bF.nm,bF.nx) 3):=Vy
       clear Vy
       refine dB [_,_] [_,_,_,_,_,_,_] rfl Hw ?_;clear Hw
       refine cm 17 rfl (fun w64 S80=>?_)
       have Hv:=S80.pick [0,1,2,3,4,5,6] [_,_,_,_,_,_,_] (by decide) ⟨rfl,rfl,rfl,rfl,rfl,rfl,rfl,trivial⟩;clear S80
       have KS:SH _ _ _ (Rs.cV [_,_]::[_,_,_,_,_]):=SH.qy (A:=[_,_]) (B:=[_,_,_,_,_]) Hv;clear Hv
       have Cv:SH _ _ _ [_,_,_,_,_,_]:=KS.less (i:=0) rfl
       have MN:=Jb (ga d.ae c).d d WY (dt d c (bF.nm,bF.nx) 3) aiT (x7 3 (by omega)).1 Oy (by omega) (KS.mH (i:=0) rfl);clear Cv
       refine(IC (i:=0) rfl rfl rfl rfl rfl rfl rfl JZ KS rfl MN ?_)
       intro aml w65 M42 amQ ald rW Hd;clear KS
       obtain⟨ajQ,Hd⟩:=Hd
       rw[ajQ]at rW
       obtain⟨NV,rfl,Vx,rfl⟩:=Hd
       replace rW:SH _ _ _ (Rs.cV [_,_]::[_,_,_,_,_]):=rW
       have Hu:SH _ _ _ [_,_,_,_,_,_,_]:=SH.rX (A:=[_,_]) (B:=[_,_,_,_,_]) rW;clear rW
       have aiS:nB d NV (dt d c (bF.nm,bF.nx) 4):=Vx
       clear Vx
       refine dB [_,_] [_,_,_,_,_,_,_] rfl Hu ?_;clear Hu
       refine ay 20 rfl (fun ah Sz=>run_build (l:=[_,_,_,_,_]) rfl rfl JH rfl rfl) (cm 21 rfl (fun w68 rV=>((eQ (C:=bu) (l:=[_,_,_,_,_]) rfl rfl rfl rfl fX rfl rfl rfl rfl rV ?_))))
       intro Hi Kg zM;clear rV
       refine dB [_,_,_] [_,_,_,_,_,_,_,_] rfl zM ?_;clear zM
       refine cm 22 rfl (fun PB wu=>((gw (C:=bu) (i:=4) (q:=0) (⟨ga (dt d c (bF.nm,bF.nx) 1).1 (ga d.ae c).a.toNat,ga (dt d c (bF.nm,bF.nx) 2).1 (ga d.ae c).b.toNat,ga (dt d c (bF.nm,bF.nx) 3).1 (ga d.ae c).c.toNat,ga (dt d c (bF.nm,bF.nx) 4).1 (ga d.ae c).d.toNat,(ga d.ae c).plus⟩:Cr) rfl rfl rfl rfl rfl rfl rfl rfl fX wu rfl rfl rfl (by show(_+1)*40<=_;first|omega|(simp only[ls];omega)) ?_)))
       intro AU w72 Hr;clear wu
       have Hq:=Hr.pick [1,2,3,4,5,6,7] [_,_,_,_,_,_,_] (by decide) ⟨rfl,rfl,rfl,rfl,rfl,rfl,rfl,trivial⟩;clear Hr
       refine ij Hq ?_;clear Hq
       change WA _ _ _ _ _ _ _ _ _ _ _ _ [_,_,_,_,_,_,_]
       refine aS 23 rfl (az rfl aM rfl dN dM) (cm 24 rfl (fun ZZ Ec=>((gJ (i:=4) (us:=[_]) (l':=[_,_]) (H':=[_,_,_,_,_,_,_]) rfl rfl Ec rfl rfl rfl (Ec.nS (i:=3) rfl) Dc rfl (iq (Ec.one (i:=3) rfl) rfl) rfl rfl ?_))))
       intro ZY Hn;clear Ec
       refine ij Hn ?_;clear Hn
       change WA _ _ _ _ _ _ _ _ _ _ _ _ [_,_,_,_,_,_,_]
       refine cD (fun w77 rU=>(bE (aW [0,2,10,12,63,64,65,70,71,72] rfl ?_)))
       have rQ:=(x7 4 (by omega)).2.2.1
       have hj0:ga (dt d c (bF.nm,bF.nx) 1).1 (ga d.ae c).a.toNat=ga (dt d c (bF.nm,bF.nx) 4).1 (ga d.ae c).a.toNat:=(rQ 0 (by omega)).2
       have hj1:ga (dt d c (bF.nm,bF.nx) 2).1 (ga d.ae c).b.toNat=ga (dt d c (bF.nm,bF.nx) 4).1 (ga d.ae c).b.toNat:=(rQ 1 (by omega)).2
       have hj2:ga (dt d c (bF.nm,bF.nx) 3).1 (ga d.ae c).c.toNat=ga (dt d c (bF.nm,bF.nx) 4).1 (ga d.ae c).c.toNat:=(rQ 2 (by omega)).2
       have nZ:bF.cs++[(⟨ga (dt d c (bF.nm,bF.nx) 1).1 (ga d.ae c).a.toNat,ga (dt d c (bF.nm,bF.nx) 2).1 (ga d.ae c).b.toNat,ga (dt d c (bF.nm,bF.nx) 3).1 (ga d.ae c).c.toNat,ga (dt d c (bF.nm,bF.nx) 4).1 (ga d.ae c).d.toNat,(ga d.ae c).plus⟩:Cr)]=(kE d bF (c:Int)).cs:=by(rw[hj0,hj1,hj2];unfold kE KN;rw[Int.toNat_natCast])
       rw[nZ]at rU;clear nZ
       have anq:nB d NV ((kE d bF (c:Int)).nm,(kE d bF (c:Int)).nx):=aiS
       refine aH (ag rfl (bj rfl) (af 1 rfl (aB (br ?_))))
       intro au aq
       refine⟨_,?lZ,⟨k+1,(kE d bF (c:Int)),NV,_,_,(iN),rfl,aq.su rfl,rU.pick [3,0,1,4,5,6] [_,_,_,_,_,_] (by decide) ⟨rfl,rfl,rfl,rfl,rfl,rfl,trivial⟩,?jL,?jK,?tS⟩⟩
       case jL=>omega
       case jK=>(rw[na _ k (by omega),hcn,<-List.append_assoc,Lu,<-AX])
       case tS=>assumption
       case lZ=>omega
      ·refine bX rfl (bE (aW [0,2,10,12,63,64,65] rfl (aH (ag rfl (bj rfl) (af 1 rfl (aB (br ?_)))))))
       intro au aq
       refine⟨_,?n7,⟨i4+1,bF,iz,_,_,(eW.trans iN),rfl,aq.su rfl,fU.pick [0,1,2,3,4,5] [_,_,_,_,_,_] (by decide) ⟨rfl,rfl,rfl,rfl,rfl,rfl,trivial⟩,?lU,?lT,?tQ⟩⟩
       case lU=>omega
       case lT=>(obtain rfl:k=(ga kσ i4).1.length:=(by omega);rw[AX,List.take_length,na kσ i4 (by omega),List.flatMap_append];simp)
       case tQ=>exact XE
       case n7=>omega
    ·refine bX rfl (cP [2,10] rfl (ag rfl (aU [_,_] rfl aM aN (gN.bs 3 rfl rfl)) (aj rfl (gJ (i:=5) (us:=[_,_]) (l':=[_,_]) (H':=[_,_,_,_,_,_]) rfl rfl gN rfl rfl rfl rfl aN rfl (iq (gN.one (i:=0) rfl) (iq rfl rfl)) rfl rfl ?_))))
     intro ZX Hm;clear gN
     refine ax [2] rfl ?_
     obtain⟨M48,wR,xC,⟨A5,c5,e3,aiE⟩⟩:=Hm.gP (i:=0) (H':=[_,_,_,_,_,_]) rfl rfl (by show _*40<=_;first|omega|(simp only[ls];omega))
     clear Hm;subst e3
     replace bI:=bI.mono (Hp.aD wR xC.mx)
     replace hsc:=hsc.mono (Hp.aD wR xC.mx)
     replace hsi:=hsi.mono (Hp.aD wR xC.mx)
     replace bq:=bq.mono (Hp.aD wR xC.mx)
     replace hr1:=hr1.mono wR
     replace hd1:=hd1.mono wR
     replace hz1:=hz1.mono wR
     replace hz2:=hz2.mono wR
     refine dI hC [_] rfl rfl ⟨⟨_,rfl,dK (us:=[_,_]) aM rfl aN (xC.bs 5 rfl rfl)⟩,trivial⟩ ?_
     refine⟨_,rfl,_,((bh.trans hle2).trans eW).trans wR,(xC.pick [] [] (by decide) trivial),?_⟩
     obtain rfl:i4=(bD d).length:=by omega
     have e9:(gF d).ae=rn.cs:=by unfold gF ui;rw[Nn Di,rN,List.take_of_length_le (by omega),OJ,List.flatMap_map]
     rw[e9]
     exact⟨_,_,rfl,aiE⟩
end Go.Proofs.YtcohmplpgcddiaaGreatDoor
namespace Go.Proofs.YtcohmplpgcddiaaGreatDoor
open Go.ChangeShapes Go.WideShapes Go.ChangeAt Go.RowKit
def pK(d:Dg)(x:Nat):Bool:=decide (ga (fC d) x=(x:Int))
def kC(d:Dg)(c:Nat):Nat:=cn (pK d) c
theorem Lx{d:Dg}(c e:Nat)(h:c<=e):(dV d c).2.length<=(dV d e).2.length/\∀i,i<(dV d c).2.length->ga (dV d e).2 i=ga (dV d c).2 i:=by
 induction e with
 |zero=>obtain rfl:c=0:=(by omega);exact⟨Nat.le_refl _,fun _ _=>rfl⟩
 |succ e ih=>
  by_cases e1:c=e+1
  ·subst e1;exact⟨Nat.le_refl _,fun _ _=>rfl⟩
  ·obtain⟨i1,i2⟩:=ih (by omega)
   cases hg:ga (dV d e).1 e with
   |true=>rw[DF rfl hg];exact⟨i1,i2⟩
   |false=>
    rw[Cz rfl hg rfl]
    refine⟨by rw[List.length_append];omega,fun i hi=>?_⟩
    rw[<-i2 i hi]
    exact lS _ _ _ (by omega)
theorem LR{d:Dg}(hab:aO d=true){c:Nat}(hc:c<=d.ae.length):Rp d c (dV d c)/\(dV d c).2.length=kC d c/\∀i,i<(dV d c).2.length->∃z:Nat,z<c/\(z:Int)∈ga (dV d c).2 i:=by
 have I:=LQ hab (IX hab) c hc
 refine⟨I,?_⟩
 induction c with
 |zero=>exact⟨rfl,fun i hi=>absurd hi (Nat.not_lt_zero _)⟩
 |succ c ih=>
  have I0:=LQ hab (IX hab) c (by omega)
  obtain⟨i1,i2⟩:=ih (by omega) I0
  have hpre:=Lx (d:=d) c d.ae.length (by omega)
  have hat:∀i z,i<(dV d c).2.length->(z:Int)∈ga (dV d c).2 i->∀z':Nat,z=z'->cg d z'=i:=fun i z hi hz z' e=>by
   subst e
   have hi2:i<(bD d).length:=Nat.lt_of_lt_of_le hi hpre.1
   exact(tL hab hi2 (by show(z':Int)∈ga (dV d d.ae.length).2 i;rw[hpre.2 i hi];exact hz)).2
  obtain⟨z,z1,z2,z3,z4⟩:=zQ hab c (by omega)
  have hcn:cn (pK d) (c+1)=cn (pK d) c+(if pK d c=true then 1 else 0):=rfl
  cases hg:ga (dV d c).1 c with
  |true=>
   rw[DF rfl hg]
   obtain⟨i,hi,hm⟩:=(I0.see c (by omega)).1 hg
   obtain⟨y,hy,P9⟩:=i2 i hi
   have e1:=hat i _ hi hm c rfl
   have e2:=hat i _ hi P9 y rfl
   have hzy:=z4 y (by omega) (by rw[e1,e2])
   have hnr:pK d c=false:=by unfold pK;rw[z2,decide_eq_false_iff_not];omega
   refine⟨?_,fun i hi=>by obtain⟨y,h1,h2⟩:=i2 i hi;exact⟨y,by omega,h2⟩⟩
   show _=cn (pK d) (c+1)
   rw[hcn,hnr,i1];rfl
  |false=>
   have hrt:pK d c=true:=by
    unfold pK
    rw[z2,decide_eq_true_iff]
    by_cases e:z=c
    ·rw[e]
    ·exfalso
     have Ks:=z4 c (by omega) rfl
     have hsz:=I0.D8 z (by omega)
     obtain⟨i,hi,hm⟩:=(I0.see z z1).1 hsz
     have e1:=hat i _ hi hm z rfl
     obtain⟨_,q2,_⟩:=mZ hab (x:=c) (by omega)
     rw[<-z3,e1]at q2
     have q3:(c:Int)∈ga (dV d c).2 i:=by rw[<-hpre.2 i hi];exact q2
     rw[(I0.see c (by omega)).2 ⟨i,hi,q3⟩]at hg
     cases hg
   have I1:=I
   rw[Cz rfl hg rfl]at I1 ⊢
   have hl:((dV d c).2++[iy (bfsN d d.ae.length 0 ((dV d c).1.set c true,[(c:Int)])).2]).length=(dV d c).2.length+1:=by simp
   refine⟨?_,fun i hi=>?_⟩
   ·show((dV d c).2++[_]).length=cn (pK d) (c+1)
    rw[hcn,hrt,hl,i1];rfl
   ·by_cases e:i<(dV d c).2.length
    ·obtain⟨y,h1,h2⟩:=i2 i e
     exact⟨y,by omega,by show _∈ga ((dV d c).2++[_]) i;rw[lS _ _ _ e];exact h2⟩
    ·obtain⟨i',hi',hm⟩:=(I1.see c (by omega)).1 (I1.D8 c (by omega))
     have e2:¬i'<(dV d c).2.length:=fun e2=>by
      have hm':(c:Int)∈ga ((dV d c).2++[iy (bfsN d d.ae.length 0 ((dV d c).1.set c true,[(c:Int)])).2]) i':=hm
      rw[lS _ _ _ e2]at hm'
      rw[(I0.see c (by omega)).2 ⟨i',e2,hm'⟩]at hg
      cases hg
     have h9:i<((dV d c).2++[iy (bfsN d d.ae.length 0 ((dV d c).1.set c true,[(c:Int)])).2]).length:=hi
     have h8:i'<((dV d c).2++[iy (bfsN d d.ae.length 0 ((dV d c).1.set c true,[(c:Int)])).2]).length:=hi'
     obtain rfl:i=i':=by omega
     exact⟨c,by omega,hm⟩
theorem Uq{d:Dg}(hab:aO d=true):kC d d.ae.length=(bD d).length:=(LR hab (Nat.le_refl _)).2.1.symm
theorem Ur{d:Dg}(hab:aO d=true){p:Nat}(hp:p<d.ae.length)(hr:ga (fC d) p=(p:Int)):cg d p=kC d p/\kC d (p+1)=kC d p+1/\kC d p<(bD d).length:=by
 have hrt:pK d p=true:=by unfold pK;rw[decide_eq_true_iff];exact hr
 have e1:kC d (p+1)=kC d p+1:=by unfold kC;rw[cn,if_pos hrt]
 obtain⟨I1,l1,_⟩:=LR hab (c:=p+1) (by omega)
 obtain⟨I0,l0,w0⟩:=LR hab (c:=p) (by omega)
 have hpre:=Lx (d:=d) (p+1) d.ae.length (by omega)
 have agT:=Lx (d:=d) p (p+1) (by omega)
 obtain⟨i,hi,hm⟩:=(I1.see p hp).1 (I1.D8 p (by omega))
 have hi2:i<(bD d).length:=Nat.lt_of_lt_of_le hi hpre.1
 have e:=(tL hab hi2 (by show _∈ga (dV d d.ae.length).2 i;rw[hpre.2 i hi];exact hm)).2
 refine⟨?_,e1,?_⟩
 ·rw[e]
  by_cases e2:i<(dV d p).2.length
  ·exfalso
   obtain⟨y,hy,P9⟩:=w0 i e2
   have hi0:i<(bD d).length:=hi2
   have e3:=(tL hab hi0 (x:=y) (by show _∈ga (dV d d.ae.length).2 i;rw[hpre.2 i hi,agT.2 i e2];exact P9)).2
   obtain⟨z,z1,z2,z3,z4⟩:=zQ hab p hp
   have:=z4 y (by omega) (by rw[e3,e])
   rw[hr]at z2
   omega
  ·omega
 ·rw[<-l0]
  have:=hpre.1
  have h2:(bD d).length=(dV d d.ae.length).2.length:=rfl
  omega
theorem H3{d:Dg}{p:Nat}(hr:¬ga (fC d) p=(p:Int)):kC d (p+1)=kC d p:=by
 unfold kC;rw[cn,if_neg (by unfold pK;rw[decide_eq_true_iff];exact hr)];rfl
def uZ(d:Dg)(p n:Nat):List Nat:=(List.range n).filter fun x=>decide (ga (fC d) x=(p:Int))
theorem Ib(d:Dg)(p n:Nat):uZ d p (n+1)=if ga (fC d) n=(p:Int)then uZ d p n++[n]else uZ d p n:=by
 unfold uZ
 rw[List.range_succ,List.filter_append]
 by_cases e:ga (fC d) n=(p:Int)
 ·rw[if_pos e,List.filter_cons_of_pos (by simpa using e)];rfl
 ·rw[if_neg e,List.filter_cons_of_neg (by simpa using e),List.filter_nil,List.append_nil]
theorem VN{i j:Nat}:jD (fun _=>[]) i j<->i<j:=by
 unfold jD
 rw[abz]
 constructor
 ·rintro(h|⟨_,h⟩)
  ·cases h
  ·exact h
 ·exact fun h=>.inr ⟨rfl,h⟩
theorem adN{σ τ:List Nat}(h:σ.Perm τ)(h1:σ.Pairwise (·<·))(h2:τ.Pairwise (·<·)):σ=τ:=Lb (K:=fun _=>[]) h (h1.imp fun h=>VN.2 h) (h2.imp fun h=>VN.2 h)
theorem ae8{l:List Int}(h:l.Pairwise (fun a b=>a<=b))(hn:l.Nodup):l.Pairwise (fun a b=>a<b):=by
 rw[List.nodup_iff_pairwise_ne]at hn
 exact(h.and hn).imp fun⟨h1,h2⟩=>by omega
theorem aeF(xs:List Int):(iy xs).Pairwise (fun a b=>a<=b):=by
 have:=List.pairwise_mergeSort (le:=fun x y:Int=>decide (x<=y)) (fun a b c h1 h2=>by simp at*;omega) (fun a b=>by simp;omega) xs
 exact this.imp fun h=>by simpa using h
theorem adx{d:Dg}:∀c,∀l∈(dV d c).2,∃l',l=iy l':=by
 intro c
 induction c with
 |zero=>intro l h;cases h
 |succ c ih=>
  intro l h
  cases hg:ga (dV d c).1 c with
  |true=>rw[DF rfl hg]at h;exact ih l h
  |false=>
   rw[Cz rfl hg rfl]at h
   have h':l∈(dV d c).2++[iy (bfsN d d.ae.length 0 ((dV d c).1.set c true,[(c:Int)])).2]:=h
   rcases List.mem_append.1 h' with h'|h'
   ·exact ih l h'
   ·rw[List.mem_singleton]at h';exact⟨_,h'⟩
theorem adz{d:Dg}(hab:aO d=true){p:Nat}(hp:p<d.ae.length)(hr:ga (fC d) p=(p:Int)):uZ d p d.ae.length=pZ d (kC d p):=by
 obtain⟨r1,r2,r3⟩:=Ur hab hp hr
 obtain⟨q1,c0,_,_,q2⟩:=(oY hab).el _ r3
 have hmem:∀x:Nat,x∈uZ d p d.ae.length<->x∈pZ d (kC d p):=fun x=>by
  unfold uZ pZ
  rw[List.mem_filter,List.mem_range,decide_eq_true_iff]
  constructor
  ·rintro⟨h1,h2⟩
   have e:=(Ii hab hp hr h1).1 h2
   obtain⟨_,g2,_⟩:=mZ hab h1
   rw[e,r1]at g2
   exact List.mem_map.2 ⟨_,g2,Int.toNat_natCast x⟩
  ·intro h
   obtain⟨y,hy,rfl⟩:=List.mem_map.1 h
   obtain⟨y1,y2,y3⟩:=wG hab r3 hy
   exact⟨y2,(Ii hab hp hr y2).2 (by rw[y3,r1])⟩
 have hs1:(uZ d p d.ae.length).Pairwise (·<·):=List.Pairwise.sublist List.filter_sublist List.pairwise_lt_range
 have hs2:(pZ d (kC d p)).Pairwise (·<·):=by
  obtain⟨l',e⟩:=adx d.ae.length (ga (bD d) (kC d p)) (cY r3)
  have hi:(ga (bD d) (kC d p)).Pairwise (fun a b=>a<b):=ae8 (by rw[e];exact aeF l') q1
  unfold pZ
  rw[List.pairwise_map]
  refine List.Pairwise.imp_of_mem (fun{a b} ha hb hab'=>?_) hi
  have ha:=(wG hab r3 ha).1
  have hb:=(wG hab r3 hb).1
  omega
 have n1:(uZ d p d.ae.length).Nodup:=by rw[List.nodup_iff_pairwise_ne];exact hs1.imp fun h=>by omega
 have n2:(pZ d (kC d p)).Nodup:=by rw[List.nodup_iff_pairwise_ne];exact hs2.imp fun h=>by omega
 exact adN ((List.perm_ext_iff_of_nodup n1 n2).2 hmem) hs1 hs2
structure ve(K:Nat->List Int)(m:Nat)(κ:List Nat):Prop where
 lt:∀x,x∈κ->x<m
 td:κ.Nodup
 pw:κ.Pairwise (jD K)
 rest:∀x,x∈κ->∀y,y<m->y∉κ->jD K x y
theorem ve.nil{K:Nat->List Int}{m:Nat}:ve K m []:=⟨fun x h=>(by cases h),List.nodup_nil,List.Pairwise.nil,fun x h=>(by cases h)⟩
theorem ve.snoc{K:Nat->List Int}{m:Nat}{κ:List Nat}(h:ve K m κ){k:Nat}(hk:k<m)(hn:k∉κ)(hb:∀y,y<m->y∉κ->y≠k->jD K k y):ve K m (κ++[k]):=by
 refine⟨fun x hx=>?_,?_,?_,fun x hx y hy hyn=>?_⟩
 ·rcases List.mem_append.1 hx with hx|hx
  ·exact h.lt x hx
  ·rw[List.mem_singleton]at hx;rw[hx];exact hk
 ·rw[List.nodup_append]
  exact⟨h.td,by simp,fun a ha b hb e=>by rw[List.mem_singleton]at hb;subst hb;subst e;exact hn ha⟩
 ·exact List.pairwise_append.2 ⟨h.pw,List.pairwise_singleton _ _,fun x hx y hy=>by rw[List.mem_singleton]at hy;subst hy;exact h.rest x hx _ hk hn⟩
 ·have hy1:y∉κ:=fun e=>hyn (List.mem_append_left _ e)
  have hy2:y≠k:=fun e=>hyn (by rw[e];exact List.mem_append_right _ (List.mem_singleton.2 rfl))
  rcases List.mem_append.1 hx with hx|hx
  ·exact h.rest x hx y hy hy1
  ·rw[List.mem_singleton]at hx;subst hx;exact hb y hy hy1 hy2
theorem ve.sort{K:Nat->List Int}{m:Nat}{κ:List Nat}(h:ve K m κ)(hl:κ.length=m):q9 K m κ:=by
 refine⟨?_,h.pw⟩
 refine(List.perm_ext_iff_of_nodup h.td List.nodup_range).2 fun x=>?_
 rw[List.mem_range]
 refine⟨h.lt x,fun hx=>?_⟩
 by_cases e:x∈κ
 ·exact e
 ·exfalso
  have:=nK (xs:=x::κ) (ys:=List.range m) (List.nodup_cons.2 ⟨e,h.td⟩) (fun y hy=>by
   rcases List.mem_cons.1 hy with rfl|hy
   ·exact List.mem_range.2 hx
   ·exact List.mem_range.2 (h.lt y hy))
  rw[List.length_cons,List.length_range]at this
  omega
theorem TA{m:Nat}{κ:List Nat}(hn:κ.Nodup)(hl:κ.length<m):∃x,x<m/\x∉κ:=by
 apply Classical.byContradiction
 intro h
 have:=nK (xs:=List.range m) (ys:=κ) List.nodup_range (fun y hy=>by
  apply Classical.byContradiction
  intro e
  exact h ⟨y,List.mem_range.1 hy,e⟩)
 rw[List.length_range]at this
 omega
end Go.Proofs.YtcohmplpgcddiaaGreatDoor
namespace Go.Proofs.YtcohmplpgcddiaaGreatDoor
open Go.ChangeShapes Go.WideShapes Go.ChangeAt Go.RowKit
def qB(K:Nat->List Int)(κ:List Nat)(i:Nat)(kk:Int):Prop:=(kk=-1/\∀j,j<i->j∈κ)\/∃k:Nat,kk=(k:Int)/\k<i/\k∉κ/\∀j,j<i->j∉κ->j≠k->jD K k j
theorem qB.skip{K:Nat->List Int}{κ:List Nat}{i:Nat}{kk:Int}(h:qB K κ i kk)(hi:i∈κ):qB K κ (i+1) kk:=by
 rcases h with⟨h1,h2⟩|⟨k,h1,h2,h3,h4⟩
 ·exact .inl ⟨h1,fun j hj=>by by_cases e:j=i;(subst e;exact hi);exact h2 j (by omega)⟩
 ·exact .inr ⟨k,h1,by omega,h3,fun j hj hjn hjk=>h4 j (by by_cases e:j=i;(subst e;exact absurd hi hjn);omega) hjn hjk⟩
theorem qB.first{K:Nat->List Int}{κ:List Nat}{i:Nat}{kk:Int}(h:qB K κ i kk)(hk:kk<0)(hi:i∉κ):qB K κ (i+1) (i:Int):=by
 rcases h with⟨_,h2⟩|⟨k,h1,_⟩
 ·exact .inr ⟨i,rfl,by omega,hi,fun j hj hjn hji=>absurd (h2 j (by omega)) hjn⟩
 ·omega
theorem qB.take{K:Nat->List Int}{κ:List Nat}{i k:Nat}(h:qB K κ i (k:Int))(hi:i∉κ)(hl:gV (K i) (K k)=true):qB K κ (i+1) (i:Int):=by
 rcases h with⟨h1,_⟩|⟨k',h1,h2,h3,h4⟩
 ·omega
 ·obtain rfl:k=k':=by omega
  refine .inr ⟨i,rfl,by omega,hi,fun j hj hjn hji=>?_⟩
  by_cases e:j=k
  ·subst e;exact .inl hl
  ·exact SX (.inl hl) (h4 j (by omega) hjn e)
theorem qB.stay{K:Nat->List Int}{κ:List Nat}{i k:Nat}(h:qB K κ i (k:Int))(hl:gV (K i) (K k)=false):qB K κ (i+1) (k:Int):=by
 rcases h with⟨h1,_⟩|⟨k',h1,h2,h3,h4⟩
 ·omega
 ·obtain rfl:k=k':=by omega
  refine .inr ⟨k,rfl,by omega,h3,fun j hj hjn hjk=>?_⟩
  by_cases e:j=i
  ·subst e;exact .inr ⟨hl,h2⟩
  ·exact h4 j (by omega) hjn hjk
def mo(d:Dg)(p i:Nat)(cx ox:List Int):Prop:=(rT (kD d) (uZ d p i)=none/\cx=[]/\ox=[])\/∃b,rT (kD d) (uZ d p i)=some b/\b<d.ae.length/\cx=(fF d b).co/\ox=(fF d b).od
theorem afA{d:Dg}(hab:aO d=true){b:Nat}(hb:b<d.ae.length):0<(fF d b).co.length:=by
 obtain⟨_,h2,_⟩:=CK hab hb
 have h3:=(I5 hab hb d.ae.length).1.ps
 have h4:0<(fF d b).od.length:=h3
 omega
theorem mo.skip{d:Dg}{p i:Nat}{cx ox:List Int}(h:mo d p i cx ox)(hn:¬ga (fC d) i=(p:Int)):mo d p (i+1) cx ox:=by
 unfold mo;rw[Ib,if_neg hn];exact h
theorem mo.first{d:Dg}{p i:Nat}{cx ox:List Int}(hab:aO d=true)(h:mo d p i cx ox)(hy:ga (fC d) i=(p:Int))(hi:i<d.ae.length)(h0:cx.length=0):mo d p (i+1) (fF d i).co (fF d i).od:=by
 unfold mo;rw[Ib,if_pos hy,Es]
 rcases h with⟨h1,_⟩|⟨b,h1,h2,h3,_⟩
 ·rw[h1];exact .inr ⟨i,rfl,hi,rfl,rfl⟩
 ·have:=afA hab h2;rw[h3]at h0;omega
theorem mo.less{d:Dg}{p i:Nat}{cx ox:List Int}(h:mo d p i cx ox)(hy:ga (fC d) i=(p:Int))(hi:i<d.ae.length)(h0:¬cx.length=0)(hl:gV (fF d i).co cx=true):mo d p (i+1) (fF d i).co (fF d i).od:=by
 unfold mo;rw[Ib,if_pos hy,Es]
 rcases h with⟨_,h2,_⟩|⟨b,h1,h2,h3,_⟩
 ·rw[h2]at h0;exact absurd rfl h0
 ·rw[h1];unfold Du;dsimp only
  rw[if_pos (show gV (kD d i) (kD d b)=true by rw[h3]at hl;exact hl)]
  exact .inr ⟨i,rfl,hi,rfl,rfl⟩
theorem mo.stay{d:Dg}{p i:Nat}{cx ox:List Int}(h:mo d p i cx ox)(hy:ga (fC d) i=(p:Int))(h0:¬cx.length=0)(hl:gV (fF d i).co cx=false):mo d p (i+1) cx ox:=by
 unfold mo;rw[Ib,if_pos hy,Es]
 rcases h with⟨_,h2,_⟩|⟨b,h1,h2,h3,h4⟩
 ·rw[h2]at h0;exact absurd rfl h0
 ·rw[h1];unfold Du;dsimp only
  rw[if_neg (show¬gV (kD d i) (kD d b)=true by rw[h3]at hl;unfold kD;rw[hl];decide)]
  exact .inr ⟨b,rfl,h2,h3,h4⟩
theorem mo.fin{d:Dg}(hab:aO d=true){p:Nat}(hp:p<d.ae.length)(hr:ga (fC d) p=(p:Int)){cx ox:List Int}(h:mo d p d.ae.length cx ox):(eD d).take (kC d p)++[(ox,cx)]=(eD d).take (kC d (p+1)):=by
 obtain⟨r1,r2,r3⟩:=Ur hab hp hr
 obtain⟨b1,b2,_⟩:=CB hab r3
 unfold mo at h
 rw[adz hab hp hr,b1]at h
 rcases h with⟨h,_⟩|⟨b,h1,_,h3,h4⟩
 ·cases h
 ·injection h1 with h1
  rw[r2,na _ _ (by rw[vI];exact r3),Ab d r3,h1,h3,h4]
noncomputable def Z5s:=Tryz.f18.body.getD .skip
set_option maxHeartbeats 4000000 in
set_option maxRecDepth 10000 in
theorem RL{w:World}{M:Hp}{X:Fr}(d:Dg){bz:Option Addr}{bw:Nat}(aC:aJ bu (M.un X.h) bz bw d.ae)(hn:d.ae.length<=16)(hab:aO d=true)(S:SH w M X []):Ct Tryz.prog 18 [.agg [.slice bz d.ae.length bw,.int .i64 d.loops].toArray] w M X (fun u N=>∃A c,u=.agg [.slice A (gF d).ae.length c,.int .i64 (gF d).loops].toArray/\aJ bu N A c (gF d).ae):=by
 unfold Ct
 have iL:d.ae.length*40<=140737488355328:=aC.room
 have DY:(fC d).length=d.ae.length:=Eg d _
 refine cw (b:=Z5s) Tryz.func18 rfl Tryz.ntmps18 rfl (fun C hC=>(cB [0] rfl (ar (aj rfl (dx (l:=[_,_]) rfl rfl rfl rfl rfl S ?_)))))
 intro aP w1 S1;clear S
 refine aj rfl (bW (l:=[_,_]) rfl rfl rfl jo rfl S1 ?_)
 intro bJ w2 S2;clear S1
 refine bL [1,2] rfl (ag rfl (aU [_,_] rfl aM aN (S2.bs 1 rfl rfl)) (aj rfl (eo rfl rfl rfl rfl rfl rfl rfl Yw S2 (R7 d (aC.mono S2.bn) (hn) (hab) S2.aT) ?_)))
 intro xV w3 M1 bh S3 mV;clear S2
 replace aC:=aC.mono (Hp.aD bh S3.mx)
 obtain⟨A1,c1,rfl,hr1⟩:=mV
 refine af 1 rfl (bL [1,2,3] rfl (af 2 rfl (aB (di (ar (af 1 rfl (aB (bK ?_))))))))
 refine bg ?_
 have S4:=S3.jI (eZ 83);clear S3
 have S5:=S4.jI (eZ 83);clear S4
 refine ck (fun aZ au aR=>∃(p:Nat) (cv:List ei) (wq:List (List Int)) (ov:List ei) (nj:List (List Int)) (rh:Value) (rf:Value) (M2:Hp),M1.le M2/\aZ=d.ae.length-p/\Env 187 [(1,.pointer (some ⟨aP,0,none⟩)),(2,.pointer (some ⟨bJ,0,none⟩)),(3,.slice A1 (fC d).length c1),(4,rh),(5,rf),(6,.int .i64 (p:Int))] au/\SH aR M2 X [Rs.row (eZ 83) rf ov,Rs.row (eZ 83) rh cv,Rs.box bJ 24 [.slice none 0 0,.int .i64 0],Rs.box aP 24 [.slice bz d.ae.length bw,.int .i64 d.loops]]/\p<=d.ae.length/\wq=List.map Prod.snd ((eD d).take (kC d p))/\nj=List.map Prod.fst ((eD d).take (kC d p))/\ia aQ M2 cv wq/\ia aQ M2 ov nj) rfl ?_ ?_
 ·intro au aq
  refine⟨_,⟨0,_,([]),_,([]),_,_,_,Hp.le_refl _,rfl,aq.su rfl,S5.pick [0,1,2,3] [_,_,_,_] (by decide) ⟨rfl,rfl,rfl,rfl,trivial⟩,?dh,?dC,?jm,?q7,?AB⟩⟩
  case dh=>omega
  case dC=>rfl
  case jm=>rfl
  case q7=>exact ia.eO
  case AB=>exact ia.eO
 ·rintro m1 a1 w4 ⟨p,cv,wq,ov,nj,rh,rf,M2,hle2,rfl,bN,S6,hp,yl,yf,hcv,hov⟩
  clear S5
  refine cy bN ?_
  clear bN a1
  replace aC:=aC.mono (Hp.aD hle2 S6.mx)
  replace hr1:=hr1.mono hle2
  have anx:=hcv.1
  have ani:=hov.1
  have hrc:kC d p<=p:=yQ _ _
  have anw:wq.length<=p:=by rw[yl,List.length_map,List.length_take];omega
  have anh:nj.length<=p:=by rw[yf,List.length_map,List.length_take];omega
  refine cJ (ar (af 2 rfl (ag rfl (cK rfl dm) (af 1 rfl (ax [1,2,3,4,5,6,28] rfl ?_)))))
  refine bp rfl (fun mR=>?_) (fun mR=>?_)
  ·refine aV (bC [1,2,3,4,5,6] rfl (bg (cJ (ar (af 2 rfl (ag rfl (cN p rfl bt hr1) (ag rfl (aw rfl aG (hr1.cell S6.m (i:=p) (by first|omega|(simp only[ls];omega)) 0 rfl rfl)) ?_)))))))
   refine af 2 rfl (ax [1,2,3,4,5,6,36] rfl ?_)
   refine bp rfl (fun oa=>?_) (fun oa=>?_)
   ·refine bX rfl (aW [1,2,3,4,5,6] rfl (aH (af 1 rfl (ag rfl (bj rfl) (af 1 rfl (aB (br ?_)))))))
    intro au aq
    refine⟨_,?fK,⟨p+1,_,wq,_,nj,_,_,_,(hle2),rfl,aq.su rfl,S6.pick [0,1,2,3] [_,_,_,_] (by decide) ⟨rfl,rfl,rfl,rfl,trivial⟩,?dv,?dL,?jl,?py,?wP⟩⟩
    case dv=>omega
    case dL=>first|(rw[H3 oa];exact yl)|(obtain rfl:i=d.ae.length:=(by omega);rw[<-kI.fin hab (by omega) Jr,List.map_append,<-yl];rfl)
    case jl=>first|(rw[H3 oa];exact yf)|(obtain rfl:i=d.ae.length:=(by omega);rw[<-kI.fin hab (by omega) Jr,List.map_append,<-yf];rfl)
    case py=>exact hcv
    case wP=>exact hov
    case fK=>omega
   ·have Jr:=Classical.not_not.1 oa
    refine aV (cP [1,2,3,4,5,6] rfl (af 2 rfl (aB (di (ar (af 1 rfl (aB (bK ?_))))))))
    refine bg ?_
    refine ck (fun aZ au aR=>∃(i:Nat) (cA:Option Addr) (cx:List Int) (cc:Nat) (DV:Option Addr) (ox:List Int) (BW:Nat) (M3:Hp),M2.le M3/\aZ=d.ae.length-i/\Env 187 [(1,.pointer (some ⟨aP,0,none⟩)),(2,.pointer (some ⟨bJ,0,none⟩)),(3,.slice A1 (fC d).length c1),(4,rh),(5,rf),(6,.int .i64 (p:Int)),(7,.slice cA cx.length cc),(8,.slice DV ox.length BW),(9,.int .i64 (i:Int))] au/\SH aR M3 X [Rs.row (eZ 83) rf ov,Rs.row (eZ 83) rh cv,Rs.box bJ 24 [.slice none 0 0,.int .i64 0],Rs.box aP 24 [.slice bz d.ae.length bw,.int .i64 d.loops]]/\i<=d.ae.length/\aJ aQ M3 cA cc cx/\aJ aQ M3 DV BW ox/\mo d p i cx ox) rfl ?_ ?_
    ·intro au aq
     refine⟨_,⟨0,none,[],0,none,[],0,_,Hp.le_refl _,rfl,aq.su rfl,S6.pick [0,1,2,3] [_,_,_,_] (by decide) ⟨rfl,rfl,rfl,rfl,trivial⟩,?fg,?fR,?ko,?mI⟩⟩
     case fg=>omega
     case fR=>exact aJ.eO
     case ko=>exact aJ.eO
     case mI=>exact .inl ⟨rfl,rfl,rfl⟩
    ·rintro m2 a2 w5 ⟨i,cA,cx,cc,DV,ox,BW,M3,bZ,rfl,cU,S7,hi,A8,Dk,kI⟩
     clear S6
     refine cy cU ?_
     clear cU a2
     replace aC:=aC.mono (Hp.aD bZ S7.mx)
     replace hr1:=hr1.mono bZ
     replace hcv:=hcv.mono bZ
     replace hov:=hov.mono bZ
     have amY:=A8.room
     have amW:=Dk.room
     refine cJ (ar (af 2 rfl (ag rfl (cK rfl dm) (af 1 rfl (ax [1,2,3,4,5,6,7,8,9,40] rfl ?_)))))
     refine bp rfl (fun pM=>?_) (fun pM=>?_)
     ·refine aV (bC [1,2,3,4,5,6,7,8,9] rfl (bg (ar (af 2 rfl (ag rfl (cN i rfl bt hr1) (ag rfl (aw rfl aG (hr1.cell S7.m (i:=i) (by first|omega|(simp only[ls];omega)) 0 rfl rfl)) ?_))))))
      refine af 2 rfl (ax [1,2,3,4,5,6,7,8,9,48] rfl ?_)
      refine bp rfl (fun hb48=>?_) (fun hb48=>?_)
      ·refine ar (ag rfl (aU [_,_] rfl aM aN (S7.bs 3 rfl rfl)) (af 1 rfl (aj rfl (eo rfl rfl rfl rfl rfl rfl rfl ake S7 (aa5 d i (aC.mono S7.bn) (hn) (hab) ((by omega)) S7.aT) ?_))))
       intro PN w6 M4 b7 S8 Bp;clear S7
       replace aC:=aC.mono (Hp.aD b7 S8.mx)
       replace hr1:=hr1.mono b7
       replace hcv:=hcv.mono b7
       replace hov:=hov.mono b7
       replace A8:=A8.mono b7
       replace Dk:=Dk.mono b7
       obtain⟨A2,c2,B1,e1,rfl,hr2,hr3⟩:=Bp
       refine af 5 rfl (bL [1,2,3,4,5,6,7,8,9,10,11] rfl (af 1 rfl (ag rfl (cK rfl dm) (af 2 rfl ?_))))
       refine eN (t:=58) rfl (fun ajb=>?_) (fun ajb=>?_)
       ·refine af 4 rfl (ax [1,2,3,4,5,6,7,8,9,10,11,62] rfl (kP (aH (af 4 rfl (aB (bE (aW [1,2,3,4,5,6,7,8,9] rfl (aH ?_))))))))
        refine af 1 rfl (ag rfl (bj rfl) (af 1 rfl (aB (br ?_))))
        intro au aq
        refine⟨_,?jr,⟨i+1,A2,((fF d i).co),c2,B1,((fF d i).od),e1,_,(bZ.trans b7),rfl,aq.su rfl,S8.pick [0,1,2,3] [_,_,_,_] (by decide) ⟨rfl,rfl,rfl,rfl,trivial⟩,?fJ,?fZ,?lX,?nV⟩⟩
        case fJ=>omega
        case fZ=>exact hr2
        case lX=>exact hr3
        case nV=>first|exact kI.skip hb48|exact kI.first hab hb48 (by omega) (by omega)|exact kI.less hb48 (by omega) (by omega) je|exact kI.stay hb48 (by omega) (by simpa using je)
        case jr=>omega
       ·refine af 2 rfl (zq 6 7 rfl rfl rfl rfl rfl rfl rfl rfl (dU rfl rfl rfl rfl rfl rfl rfl Yv S8 (RX ((fF d i).co) cx (hr2.mono (Hp.cM _ _)) (A8.mono (Hp.cM _ _)) S8.aT) ?_))
        rintro _ w7 S9 rfl;clear S8
        refine af 1 rfl (ax [1,2,3,4,5,6,7,8,9,10,11,62] rfl ?_)
        refine gB rfl (fun je=>?_) (fun je=>?_)
        ·refine aH (af 4 rfl (aB (bE (aW [1,2,3,4,5,6,7,8,9] rfl (aH (af 1 rfl (ag rfl (bj rfl) (af 1 rfl ?_))))))))
         refine aB (br ?_)
         intro au aq
         refine⟨_,?jq,⟨i+1,A2,((fF d i).co),c2,B1,((fF d i).od),e1,_,(bZ.trans b7),rfl,aq.su rfl,S9.pick [0,1,2,3] [_,_,_,_] (by decide) ⟨rfl,rfl,rfl,rfl,trivial⟩,?fI,?fY,?lW,?qZ⟩⟩
         case fI=>omega
         case fY=>exact hr2
         case lW=>exact hr3
         case qZ=>first|exact kI.skip hb48|exact kI.first hab hb48 (by omega) (by omega)|exact kI.less hb48 (by omega) (by omega) je|exact kI.stay hb48 (by omega) (by simpa using je)
         case jq=>omega
        ·refine aV (bE (aW [1,2,3,4,5,6,7,8,9] rfl (aH (af 1 rfl (ag rfl (bj rfl) (af 1 rfl (aB (br ?_))))))))
         intro au aq
         refine⟨_,?kq,⟨i+1,cA,cx,cc,DV,ox,BW,_,(bZ.trans b7),rfl,aq.su rfl,S9.pick [0,1,2,3] [_,_,_,_] (by decide) ⟨rfl,rfl,rfl,rfl,trivial⟩,?iB,?iW,?px,?tU⟩⟩
         case iB=>omega
         case iW=>exact A8
         case px=>exact Dk
         case tU=>first|exact kI.skip hb48|exact kI.first hab hb48 (by omega) (by omega)|exact kI.less hb48 (by omega) (by omega) je|exact kI.stay hb48 (by omega) (by simpa using je)
         case kq=>omega
      ·refine aV (bE (aW [1,2,3,4,5,6,7,8,9] rfl (aH (af 1 rfl (ag rfl (bj rfl) (af 1 rfl (aB (br ?_))))))))
       intro au aq
       refine⟨_,?mO,⟨i+1,cA,cx,cc,DV,ox,BW,_,(bZ),rfl,aq.su rfl,S7.pick [0,1,2,3] [_,_,_,_] (by decide) ⟨rfl,rfl,rfl,rfl,trivial⟩,?jN,?jM,?tT,?Aw⟩⟩
       case jN=>omega
       case jM=>exact A8
       case tT=>exact Dk
       case Aw=>first|exact kI.skip hb48|exact kI.first hab hb48 (by omega) (by omega)|exact kI.less hb48 (by omega) (by omega) je|exact kI.stay hb48 (by omega) (by simpa using je)
       case mO=>omega
     ·refine bX rfl (cP [1,2,3,4,5,6,7,8] rfl (af 2 rfl (aj rfl (eQ (C:=(eZ 83)) (l:=[_]) rfl rfl rfl rfl oM rfl rfl rfl rfl S7 ?_))))
      intro dE w8 bQ;clear S7
      refine aj rfl (gw (C:=(eZ 83)) (i:=2) (q:=0) (⟨cA,cx.length,cc⟩:ei) rfl rfl rfl rfl rfl rfl rfl rfl oM bQ rfl rfl rfl (by show(_+1)*24<=_;first|omega|(simp only[ls];omega)) ?_)
      intro akU w9 cz;clear bQ
      have cO:=cz.pick [1,2,3,4] [_,_,_,_] (by decide) ⟨rfl,rfl,rfl,rfl,trivial⟩;clear cz
      have hd1:=hcv.snoc (c:=cc) A8
      refine af 1 rfl (ax [1,2,3,4,5,6,8] rfl (aH (af 2 rfl (aj rfl (eQ (C:=(eZ 83)) (l:=[_]) rfl rfl rfl rfl oM rfl rfl rfl rfl cO ?_)))))
      intro lK ld cF;clear cO
      refine aj rfl (gw (C:=(eZ 83)) (i:=1) (q:=0) (⟨DV,ox.length,BW⟩:ei) rfl rfl rfl rfl rfl rfl rfl rfl oM cF rfl rfl rfl (by show(_+1)*24<=_;first|omega|(simp only[ls];omega)) ?_)
      intro akT lI ct;clear cF
      have cS:=ct.pick [1,2,3,4] [_,_,_,_] (by decide) ⟨rfl,rfl,rfl,rfl,trivial⟩;clear ct
      have hd2:=hov.snoc (c:=BW) Dk
      refine af 1 rfl (aB (bE (aW [1,2,3,4,5,6] rfl (aH (af 1 rfl (ag rfl (bj rfl) (af 1 rfl (aB ?_))))))))
      refine br ?_
      intro au aq
      refine⟨_,?lZ,⟨p+1,_,(wq++[cx]),_,(nj++[ox]),_,_,_,(hle2.trans bZ),rfl,aq.su rfl,cS.pick [0,1,2,3] [_,_,_,_] (by decide) ⟨rfl,rfl,rfl,rfl,trivial⟩,?jL,?jK,?tS,?Fu,?Fs⟩⟩
      case jL=>omega
      case jK=>first|(rw[H3 oa];exact yl)|(obtain rfl:i=d.ae.length:=(by omega);rw[<-kI.fin hab (by omega) Jr,List.map_append,<-yl];rfl)
      case tS=>first|(rw[H3 oa];exact yf)|(obtain rfl:i=d.ae.length:=(by omega);rw[<-kI.fin hab (by omega) Jr,List.map_append,<-yf];rfl)
      case Fu=>exact hd1
      case Fs=>exact hd2
      case lZ=>omega
  ·refine bX rfl (cP [1,2,3,4,5] rfl (ag rfl (az rfl aM rfl aY aX) (ag rfl (aw rfl aG (S6.bc 3 rfl rfl)) (ag rfl (run_build (l:=[_,_]) rfl rfl iC rfl rfl) (aj rfl (bW (l:=[_,_]) rfl rfl rfl jo rfl S6 ?_))))))
   intro iI nL cC;clear S6
   refine aj rfl (bH 0 [_,_] [_,_] [_,_,_,_,_] rfl cC rfl rfl aN rfl rfl ?_)
   intro ng bY;clear cC
   refine bM [1,2,3,4,5,12] rfl ?_
   obtain rfl:p=d.ae.length:=by omega
   have Xv:=Uq hab
   rw[Xv,List.take_of_length_le (by rw[vI];exact Nat.le_refl _)]at yl yf
   have hcl:wq.length=(bD d).length:=by rw[yl,List.length_map,vI]
   have hol:nj.length=(bD d).length:=by rw[yf,List.length_map,vI]
   have oD:(bD d).length<=16:=by rw[<-Xv];have:=yQ (pK d) d.ae.length;unfold kC;omega
   have G9:∀i,i<(bD d).length->ga wq i=kO (eD d) i:=fun i hi=>by rw[yl,om _ _ _ (by rw[vI];exact hi)];rfl
   have hog:∀i,i<(bD d).length->ga nj i=(ga (eD d) i).1:=fun i hi=>by rw[yf,om _ _ _ (by rw[vI];exact hi)]
   clear yl yf
   refine aH (af 1 rfl (ag rfl (cK rfl dm) (ag rfl (zV rfl rfl rfl (by first|omega|(simp only[ls];omega))) ?_)))
   refine ag rfl (bj rfl) (aj rfl (sP (C:=aQ) ((2*((fC d).length:Int)).toNat+1) rfl rfl rfl rfl rfl bt (by first|rfl|omega) (by show _*8<=_;first|omega|(simp only[ls];omega)) bY ?_))
   intro Km lH dW;clear bY
   refine af 1 rfl (bM [1,2,4,5,12,13] rfl ?_)
   have nZ:List.replicate ((2*((fC d).length:Int)).toNat+1) aQ.z=(gS d []).nm:=by(show List.replicate _ (0:Int)=List.replicate _ (0:Int);refine congrArg (fun n=>List.replicate n (0:Int)) ?_;omega)
   rw[nZ]at dW;clear nZ
   refine aH (af 1 rfl (aB (sw (af 1 rfl (ag rfl (kZ (i:=3) rfl oM dW rfl) (aj rfl (sP (C:=lF) cv.length rfl rfl rfl rfl rfl pI (by first|rfl|omega) (by show _*1<=_;first|omega|(simp only[ls];omega)) dW ?_)))))))
   intro vr4 ow ek;clear dW
   refine af 1 rfl (bM [1,2,4,5,12,13,14,15] rfl (ar (af 1 rfl (ag rfl (kZ (i:=4) rfl oM ek rfl) (af 1 rfl (ax [1,2,4,5,12,13,14,15,85,86] rfl (bg ?_)))))))
   have fM:=ek.jI bu;clear ek
   refine ck (fun aZ au aR=>∃(t:Nat) (κ:List Nat) (us:List Bool) (rn:Rn) (FD:Value) (wY:Value) (eV:Value) (M5:Hp),M2.le M5/\aZ=(bD d).length-t/\Env 187 [(1,.pointer (some ⟨aP,0,none⟩)),(2,.pointer (some ⟨bJ,0,none⟩)),(4,rh),(5,rf),(12,.pointer (some ⟨iI,0,none⟩)),(13,FD),(14,.int .i64 rn.nx),(15,wY),(85,.int .i64 (cv.length:Int)),(86,.int .i64 (t:Int))] au/\SH aR M5 X [Rs.row bu eV rn.cs,Rs.row lF wY us,Rs.row aQ FD rn.nm,Rs.box iI 24 [eV,.int .i64 d.loops],Rs.row (eZ 83) rf ov,Rs.row (eZ 83) rh cv,Rs.box bJ 24 [.slice none 0 0,.int .i64 0],Rs.box aP 24 [.slice bz d.ae.length bw,.int .i64 d.loops]]/\t<=(bD d).length/\κ.length=t/\us.length=(bD d).length/\(∀x,x<(bD d).length->ga us x=decide (x∈κ))/\ve (kO (eD d)) (bD d).length κ/\rn=gS d ((List.map (ga (eD d)) κ).flatMap Prod.fst)) rfl ?_ ?_
   ·intro au aq
    refine⟨_,⟨0,[],_,(gS d []),_,_,_,_,Hp.le_refl _,rfl,aq.su rfl,fM.pick [0,1,2,3,4,5,6,7] [_,_,_,_,_,_,_,_] (by decide) ⟨rfl,rfl,rfl,rfl,rfl,rfl,rfl,rfl,trivial⟩,?lU,?lT,?tQ,?Fq,?Fp,?agN⟩⟩
    case lU=>omega
    case lT=>rfl
    case tQ=>(rw[List.length_replicate];omega)
    case Fq=>(intro x hx;rw[rZ _ _ _ (by omega)];rfl)
    case Fp=>exact ve.nil
    case agN=>rfl
   ·rintro m3 a3 oU ⟨t,κ,us,rn,FD,wY,eV,M5,cH,rfl,fB,eF,ht,Xq,Qd,hus,hsel,rN⟩
    clear fM
    refine cy fB ?_
    clear fB a3
    replace aC:=aC.mono (Hp.aD cH eF.mx)
    replace hr1:=hr1.mono cH
    replace hcv:=hcv.mono cH
    replace hov:=hov.mono cH
    have XQ:((List.map (ga (eD d)) κ).flatMap Prod.fst).length<=16*16:=by
     have h9:=SN (kσ:=List.map (ga (eD d)) κ) (n:=16) (m:=κ.length) (by simp) (fun i hi=>by rw[om _ _ _ hi];exact Nat.le_trans (Mz hab (hsel.lt _ (cY hi))) hn) κ.length (Nat.le_refl _)
     rw[List.take_of_length_le (by simp)]at h9
     exact Nat.le_trans h9 (Nat.mul_le_mul (Nat.le_refl 16) (by omega:κ.length<=16))
    have XP:∀x,x∈(List.map (ga (eD d)) κ).flatMap Prod.fst->x.toNat<d.ae.length:=fun x hx=>by
     obtain⟨y,hy,hx⟩:=List.mem_flatMap.1 hx
     obtain⟨z,hz,rfl⟩:=List.mem_map.1 hy
     exact(wD hab (hsel.lt z hz) hx).1
    obtain⟨anc,anl,anA⟩:qU d (rn.nm,rn.nx)/\rn.nx<=1+4*(((List.map (ga (eD d)) κ).flatMap Prod.fst).length:Int)/\rn.cs.length=((List.map (ga (eD d)) κ).flatMap Prod.fst).length:=by rw[rN];exact IP hab XP
    refine ar (af 1 rfl (aB (di ?_)))
    refine bp rfl (fun xm=>?_) (fun xm=>?_)
    ·refine aV (bC [1,2,4,5,12,13,14,15,85,86] rfl (bg (ar (af 1 rfl (aB (di (ar (af 1 rfl ?_))))))))
     refine aB (bK (bg ?_))
     refine ck (fun aZ au aR=>∃(i:Nat) (kk:Int),aZ=(bD d).length-i/\Env 187 [(1,.pointer (some ⟨aP,0,none⟩)),(2,.pointer (some ⟨bJ,0,none⟩)),(4,rh),(5,rf),(12,.pointer (some ⟨iI,0,none⟩)),(13,FD),(14,.int .i64 rn.nx),(15,wY),(85,.int .i64 (cv.length:Int)),(86,.int .i64 (t:Int)),(16,.int .i64 kk),(17,.int .i64 (i:Int))] au/\SH aR M5 X [Rs.row bu eV rn.cs,Rs.row lF wY us,Rs.row aQ FD rn.nm,Rs.box iI 24 [eV,.int .i64 d.loops],Rs.row (eZ 83) rf ov,Rs.row (eZ 83) rh cv,Rs.box bJ 24 [.slice none 0 0,.int .i64 0],Rs.box aP 24 [.slice bz d.ae.length bw,.int .i64 d.loops]]/\i<=(bD d).length/\qB (kO (eD d)) κ i kk) rfl ?_ ?_
     ·intro au aq
      refine⟨_,⟨0,(-1),rfl,aq.su rfl,eF.pick [0,1,2,3,4,5,6,7] [_,_,_,_,_,_,_,_] (by decide) ⟨rfl,rfl,rfl,rfl,rfl,rfl,rfl,rfl,trivial⟩,?qW,?qV⟩⟩
      case qW=>omega
      case qV=>exact .inl ⟨rfl,fun j hj=>by omega⟩
     ·rintro m4 a4 pU ⟨i,kk,rfl,iT,fx,hi,jv⟩
      clear eF
      refine cy iT ?_
      clear iT a4
      have Xu:=fun h=>hus i h
      have ajt:=fun h=>G9 i h
      refine cJ (ar (af 2 rfl (ag rfl (kZ (i:=5) rfl oM fx rfl) (af 1 rfl (ax [1,2,4,5,12,13,14,15,85,86,16,17,91] rfl ?_)))))
      refine bp rfl (fun ajv=>?_) (fun ajv=>?_)
      ·refine aV (bC [1,2,4,5,12,13,14,15,85,86,16,17] rfl (bg (cJ (dH fx 20 ?_))))
       clear fx
       refine aK 18 [0,1] rfl (ay 2 rfl (fun ah Sz=>bS (i:=1) i rfl pI Sz.suf rfl) (ay 3 rfl (fun ah Sz=>aw rfl gY (Sz.suf.dS (i:=1) (e:=i) (j:=0) rfl (by first|omega|(simp only[ls];omega)) rfl rfl)) ?_))
       refine aK 14 [4,5] rfl ?_
       refine Ls (t:=99) rfl (fun xg=>?_) (fun xg=>?_)
       ·simp only[Bool.and_eq_true,Bool.or_eq_true,Bool.and_eq_false_iff,Bool.or_eq_false_iff,decide_eq_true_eq,decide_eq_false_iff_not,Bool.not_eq_true',Bool.not_eq_false']at xg
        have hik:i∉κ:=by have:=Xu (by omega);rw[this]at xg;simpa using xg
        refine aK 11 [6,7,8] rfl ?_
        refine xG (t:=102) rfl (fun ag3=>?_) (fun ag3=>?_)
        ·refine aK 5 [9,10,11,12,13,14] rfl (aK 0 [15,16,17,18,19] rfl (cD (fun vN gu=>(aW [1,2,4,5,12,13,14,15,85,86,16,17,113] rfl (kP (aH (af 2 rfl (aB (bE ?_)))))))))
         refine aW [1,2,4,5,12,13,14,15,85,86,16,17] rfl (aH (af 1 rfl (ag rfl (bj rfl) (af 1 rfl (aB (br ?_))))))
         intro au aq
         refine⟨_,?AF,⟨i+1,(i:Int),rfl,aq.su rfl,gu.pick [0,1,2,3,4,5,6,7] [_,_,_,_,_,_,_,_] (by decide) ⟨rfl,rfl,rfl,rfl,rfl,rfl,rfl,rfl,trivial⟩,?wJ,?wI⟩⟩
         case wJ=>omega
         case wI=>first|exact jv.skip hik|exact jv.first (by omega) hik|exact jv.take hik hls|exact jv.stay hls
         case AF=>omega
        ·obtain⟨k0,rfl,anu,ant⟩:∃k:Nat,kk=(k:Int)/\k<i/\k∉κ:=by
          rcases jv with⟨h1,_⟩|⟨k,h1,h2,h3,_⟩
          ·omega
          ·exact⟨k,h1,h2,h3⟩
         have XW:=G9 k0 (by omega)
         have WR:=ajt (by omega)
         refine aK 9 [9,10] rfl (ay 11 rfl (fun ah Sz=>bS (i:=5) i rfl oM Sz.suf rfl) ?_)
         obtain⟨kG,hr4⟩:=hcv.2 i (by first|omega|(simp only[ls];omega))
         refine ay 12 rfl (fun ah Sz=>aw rfl dm (Sz.suf.dS (i:=5) (e:=i) (j:=0) rfl (by first|omega|(simp only[ls];omega)) rfl (congrArg (fun n=>some (Value.slice _ n _)) kG))) ?_
         refine aK 5 [13,14] rfl (ay 15 rfl (fun ah Sz=>bS (i:=5) k0 rfl oM Sz.suf rfl) ?_)
         obtain⟨mv,ja⟩:=hcv.2 k0 (by first|omega|(simp only[ls];omega))
         refine ay 16 rfl (fun ah Sz=>aw rfl dm (Sz.suf.dS (i:=5) (e:=k0) (j:=0) rfl (by first|omega|(simp only[ls];omega)) rfl (congrArg (fun n=>some (Value.slice _ n _)) mv))) ?_
         refine dQ 17 rfl (fun ah Sz=>dZ rfl rfl rfl rfl rfl Yv Sz (RX (ga wq i) (ga wq k0) ((hr4.mono ah).mono (Hp.cM _ _)) ((ja.mono ah).mono (Hp.cM _ _)) Sz.aT)) (aK 0 [18,19] rfl (cD (fun GI ma=>(aW [1,2,4,5,12,13,14,15,85,86,16,17,113] rfl ?_))))
         refine gB rfl (fun NN=>?_) (fun NN=>?_)
         ·have hls:gV (kO (eD d) i) (kO (eD d) k0)=true:=by rw[<-XW,<-WR];exact NN
          refine aH (af 2 rfl (aB (bE (aW [1,2,4,5,12,13,14,15,85,86,16,17] rfl (aH (af 1 rfl (ag rfl (bj rfl) (af 1 rfl ?_))))))))
          refine aB (br ?_)
          intro au aq
          refine⟨_,?Fy,⟨i+1,(i:Int),rfl,aq.su rfl,ma.pick [0,1,2,3,4,5,6,7] [_,_,_,_,_,_,_,_] (by decide) ⟨rfl,rfl,rfl,rfl,rfl,rfl,rfl,rfl,trivial⟩,?Af,?Ae⟩⟩
          case Af=>omega
          case Ae=>first|exact jv.skip hik|exact jv.first (by omega) hik|exact jv.take hik hls|exact jv.stay hls
          case Fy=>omega
         ·have hls:gV (kO (eD d) i) (kO (eD d) k0)=false:=by rw[<-XW,<-WR];simpa using NN
          refine aV (bE (aW [1,2,4,5,12,13,14,15,85,86,16,17] rfl (aH (af 1 rfl (ag rfl (bj rfl) (af 1 rfl (aB (br ?_))))))))
          intro au aq
          refine⟨_,?AE,⟨i+1,(k0:Int),rfl,aq.su rfl,ma.pick [0,1,2,3,4,5,6,7] [_,_,_,_,_,_,_,_] (by decide) ⟨rfl,rfl,rfl,rfl,rfl,rfl,rfl,rfl,trivial⟩,?Ad,?Ac⟩⟩
          case Ad=>omega
          case Ac=>first|exact jv.skip hik|exact jv.first (by omega) hik|exact jv.take hik hls|exact jv.stay hls
          case AE=>omega
       ·simp only[Bool.and_eq_true,Bool.or_eq_true,Bool.and_eq_false_iff,Bool.or_eq_false_iff,decide_eq_true_eq,decide_eq_false_iff_not,Bool.not_eq_true',Bool.not_eq_false']at xg
        have hik:i∈κ:=by have:=Xu (by omega);rw[this]at xg;simpa using xg
        refine aK 8 [6,7,8,9,10,11] rfl (aK 2 [12,13,14,15,16,17] rfl (aK 0 [18,19] rfl (cD (fun xQ pg=>(aW [1,2,4,5,12,13,14,15,85,86,16,17,113] rfl (sD (aV (bE (aW [1,2,4,5,12,13,14,15,85,86,16,17] rfl ?_)))))))))
        refine aH (af 1 rfl (ag rfl (bj rfl) (af 1 rfl (aB (br ?_)))))
        intro au aq
        refine⟨_,?NG,⟨i+1,kk,rfl,aq.su rfl,pg.pick [0,1,2,3,4,5,6,7] [_,_,_,_,_,_,_,_] (by decide) ⟨rfl,rfl,rfl,rfl,rfl,rfl,rfl,rfl,trivial⟩,?EY,?EX⟩⟩
        case EY=>omega
        case EX=>first|exact jv.skip hik|exact jv.first (by omega) hik|exact jv.take hik hls|exact jv.stay hls
        case NG=>omega
      ·refine bX rfl (bC [1,2,4,5,12,13,14,15,85,86,16] rfl ?_)
       obtain rfl:i=(bD d).length:=by omega
       obtain⟨k1,rfl,Dl,ai1,ai2⟩:∃k:Nat,kk=(k:Int)/\k<(bD d).length/\k∉κ/\∀y,y<(bD d).length->y∉κ->y≠k->jD (kO (eD d)) k y:=by
        rcases jv with⟨_,h2⟩|⟨k,h1,h2,h3,h4⟩
        ·obtain⟨x,hx,Qb⟩:=TA (m:=(bD d).length) hsel.td (by omega)
         exact absurd (h2 x hx) Qb
        ·exact⟨k,h1,h2,h3,h4⟩
       have XC:=hog k1 Dl
       have anj:(ga nj k1).length<=d.ae.length:=by rw[XC];exact Mz hab Dl
       have XB:∀x,x∈ga nj k1->x.toNat<d.ae.length/\0<=x:=fun x hx=>by rw[XC]at hx;exact⟨(wD hab Dl hx).1,(wD hab Dl hx).2.1⟩
       refine aH (af 2 rfl (ag rfl (bS (i:=1) k1 rfl pI fx rfl) (aj rfl (iE (C:=lF) (i:=1) (e:=k1) (j:=0) (us:=[_]) (H':=[_,_,_,_,_,_,_,_]) true rfl rfl fx rfl (by first|omega|(simp only[ls];omega)) rfl rfl rfl BR rfl rfl rfl rfl ?_))))
       intro PI jG;clear fx
       refine bL [1,2,4,5,12,13,14,15,85,86,16] rfl (af 1 rfl (aB (bK (bg ?_))))
       refine ck (fun aZ au aR=>∃(q:Nat) (bF:Rn) (Nb:Value) (jx:Value) (KU:Hp),M5.le KU/\aZ=(ga nj k1).length-q/\Env 187 [(1,.pointer (some ⟨aP,0,none⟩)),(2,.pointer (some ⟨bJ,0,none⟩)),(4,rh),(5,rf),(12,.pointer (some ⟨iI,0,none⟩)),(13,Nb),(14,.int .i64 bF.nx),(15,wY),(85,.int .i64 (cv.length:Int)),(86,.int .i64 (t:Int)),(16,.int .i64 (k1:Int)),(18,.int .i64 (q:Int))] au/\SH aR KU X [Rs.row bu jx bF.cs,Rs.row lF wY (us.set k1 true),Rs.row aQ Nb bF.nm,Rs.box iI 24 [jx,.int .i64 d.loops],Rs.row (eZ 83) rf ov,Rs.row (eZ 83) rh cv,Rs.box bJ 24 [.slice none 0 0,.int .i64 0],Rs.box aP 24 [.slice bz d.ae.length bw,.int .i64 d.loops]]/\q<=(ga nj k1).length/\bF=gS d ((List.map (ga (eD d)) κ).flatMap Prod.fst++(ga nj k1).take q)) rfl ?_ ?_
       ·intro au aq
        refine⟨_,⟨0,rn,_,_,_,Hp.le_refl _,rfl,aq.su rfl,jG.pick [0,1,2,3,4,5,6,7] [_,_,_,_,_,_,_,_] (by decide) ⟨rfl,rfl,rfl,rfl,rfl,rfl,rfl,rfl,trivial⟩,?EW,?EU⟩⟩
        case EW=>omega
        case EU=>(rw[List.take_zero,List.append_nil];exact rN)
       ·rintro m5 a5 xP ⟨q,bF,Nb,jx,KU,CX,rfl,uU,kK,hq,AX⟩
        clear jG
        refine cy uU ?_
        clear uU a5
        replace aC:=aC.mono (Hp.aD CX kK.mx)
        replace hr1:=hr1.mono CX
        replace hcv:=hcv.mono CX
        replace hov:=hov.mono CX
        obtain⟨p7,hnx,hcs⟩:qU d (bF.nm,bF.nx)/\bF.nx<=1+4*(((List.map (ga (eD d)) κ).flatMap Prod.fst++(ga nj k1).take q).length:Int)/\bF.cs.length=((List.map (ga (eD d)) κ).flatMap Prod.fst++(ga nj k1).take q).length:=by
         rw[AX]
         exact IP hab fun x hx=>by
          rcases List.mem_append.1 hx with hx|hx
          ·exact XP x hx
          ·exact(XB x (List.mem_of_mem_take hx)).1
        rw[List.length_append,List.length_take]at hnx hcs
        have hrl:=p7.len
        dsimp only at hrl
        refine cJ (ar (af 3 rfl (ag rfl (bS (i:=4) k1 rfl oM kK rfl) ?_)))
        obtain⟨yg,p8⟩:=hov.2 k1 (by first|omega|(simp only[ls];omega))
        refine ag rfl (aw rfl dm (kK.dS (i:=4) (e:=k1) (j:=0) rfl (by first|omega|(simp only[ls];omega)) rfl (congrArg (fun n=>some (Value.slice _ n _)) yg))) ?_
        refine ag rfl (cK rfl dm) (af 1 rfl (ax [1,2,4,5,12,13,14,15,85,86,16,18,124] rfl ?_))
        refine bp rfl (fun FC=>?_) (fun FC=>?_)
        ·refine aV (bC [1,2,4,5,12,13,14,15,85,86,16,18] rfl (bg (ar (af 2 rfl (ag rfl (bS (i:=4) k1 rfl oM kK rfl) ?_)))))
         obtain⟨Qk,tq⟩:=hov.2 k1 (by first|omega|(simp only[ls];omega))
         refine ag rfl (aw rfl dm (kK.dS (i:=4) (e:=k1) (j:=0) rfl (by first|omega|(simp only[ls];omega)) rfl (congrArg (fun n=>some (Value.slice _ n _)) Qk))) ?_
         refine af 1 rfl (ag rfl (cN q rfl bt tq) (ag rfl (aw rfl aG (tq.cell kK.m (i:=q) (by first|omega|(simp only[ls];omega)) 0 rfl rfl)) ?_))
         refine af 1 rfl (bM [1,2,4,5,12,13,14,15,85,86,16,18,19] rfl ?_)
         obtain⟨hc1,hc2⟩:=XB _ (cY (show q<(ga nj k1).length by omega))
         obtain⟨c,hcn⟩:∃c:Nat,ga (ga nj k1) q=(c:Int):=⟨(ga (ga nj k1) q).toNat,by omega⟩
         have hcl:c<d.ae.length:=by omega
         clear hc1 hc2
         refine iZ 19 (.int .i64 (c:Int)) rfl (int_eq hcn) (aH (af 1 rfl (bM [1,2,4,5,12,13,14,15,85,86,16,18,19,20] rfl (ar (af 1 rfl (aB (bK (bg ?_))))))))
         have jF:=kK.jI aQ;clear kK
         refine ck (fun aZ au aR=>∃(a5:Nat) (av:List Int) (Na:Value) (Oj:Value),aZ=4-a5/\Env 187 [(1,.pointer (some ⟨aP,0,none⟩)),(2,.pointer (some ⟨bJ,0,none⟩)),(4,rh),(5,rf),(12,.pointer (some ⟨iI,0,none⟩)),(13,Na),(14,.int .i64 ((dt d c (bF.nm,bF.nx) a5).2)),(15,wY),(85,.int .i64 (cv.length:Int)),(86,.int .i64 (t:Int)),(16,.int .i64 (k1:Int)),(18,.int .i64 (q:Int)),(19,.int .i64 (c:Int)),(20,Oj),(21,.int .i64 (a5:Int))] au/\SH aR KU X [Rs.row aQ Oj av,Rs.row bu jx bF.cs,Rs.row lF wY (us.set k1 true),Rs.row aQ Na ((dt d c (bF.nm,bF.nx) a5).1),Rs.box iI 24 [jx,.int .i64 d.loops],Rs.row (eZ 83) rf ov,Rs.row (eZ 83) rh cv,Rs.box bJ 24 [.slice none 0 0,.int .i64 0],Rs.box aP 24 [.slice bz d.ae.length bw,.int .i64 d.loops]]/\a5<=4/\av.length=a5/\(∀j,j<a5->ga av j=ga (dt d c (bF.nm,bF.nx) (j+1)).1 (aL d c j).toNat)) rfl ?_ ?_
         ·intro au aq
          refine⟨_,⟨0,_,_,_,rfl,aq.su rfl,jF.pick [0,1,2,3,4,5,6,7,8] [_,_,_,_,_,_,_,_,_] (by decide) ⟨rfl,rfl,rfl,rfl,rfl,rfl,rfl,rfl,rfl,trivial⟩,?ET,?ES,?ER⟩⟩
          case ET=>omega
          case ES=>rfl
          case ER=>(intro j hj;omega)
         ·rintro m6 a6 GH ⟨a5,av,Na,Oj,rfl,zE,lR,ha5,KI,Dn⟩
          clear jF
          refine cy zE ?_
          clear zE a6
          obtain⟨nZ,_,_,vC,_⟩:=Aa hab hcl p7 a5 ha5
          have aiD:=nZ.len
          dsimp only at vC aiD
          have haa:=fun h=>ey hab hcl (k:=a5) h
          have ane:=nZ.pos
          refine cJ (ar (af 2 rfl (ax [1,2,4,5,12,13,14,15,85,86,16,18,19,20,21,135] rfl ?_)))
          refine bp rfl (fun ag7=>?_) (fun ag7=>?_)
          ·have anH:=haa (by omega)
           refine aV (bC [1,2,4,5,12,13,14,15,85,86,16,18,19,20,21] rfl (bg (ar (ag rfl (aU [_,_] rfl aM aN (lR.bs 8 rfl rfl)) (af 2 rfl (ag rfl (run_build (l:=[_,_]) rfl rfl rq rfl rfl) (aj rfl (dU rfl rfl rfl rfl rfl rfl rfl ux lR (uB d c a5 (aC.mono lR.bn) (by omega) (by omega) lR.aT) ?_))))))))
           rintro _ PH ll rfl;clear lR
           refine af 1 rfl (bM [1,2,4,5,12,13,14,15,85,86,16,18,19,20,21,22] rfl (ar (af 2 rfl (ag rfl (bS (i:=3) ((aL d c a5).toNat) rfl bt ll rfl) (ag rfl (aw rfl aG (ll.dS (i:=3) (e:=(aL d c a5).toNat) (j:=0) rfl (by first|omega|(simp only[ls];omega)) rfl rfl)) ?_)))))
           refine af 1 rfl (ax [1,2,4,5,12,13,14,15,85,86,16,18,19,20,21,22,147] rfl ?_)
           refine bp rfl (fun AJ=>?_) (fun AJ=>?_)
           ·have hS:dt d c (bF.nm,bF.nx) (a5+1)=((dt d c (bF.nm,bF.nx) a5).1.set (aL d c a5).toNat (dt d c (bF.nm,bF.nx) a5).2,(dt d c (bF.nm,bF.nx) a5).2+1):=by show jB (dt d c (bF.nm,bF.nx) a5) (aL d c a5)=_;unfold jB;rw[if_pos AJ]
            refine ar (af 3 rfl (ag rfl (bS (i:=3) ((aL d c a5).toNat) rfl bt ll rfl) (aj rfl (iE (C:=aQ) (i:=3) (e:=(aL d c a5).toNat) (j:=0) (us:=[_]) (H':=[_,_,_,_,_,_,_,_,_]) ((dt d c (bF.nm,bF.nx) a5).2) rfl rfl ll rfl (by first|omega|(simp only[ls];omega)) rfl rfl rfl gp rfl rfl rfl rfl ?_))))
            intro Ki lQ;clear ll
            refine ax [1,2,4,5,12,13,14,15,85,86,16,18,19,20,21,22] rfl (aH (af 1 rfl (ag rfl (Il rfl rfl rfl (by omega)) ?_)))
            refine af 1 rfl (ax [1,2,4,5,12,13,14,15,85,86,16,18,19,20,21,22] rfl ?_)
            have za:((dt d c (bF.nm,bF.nx) a5).1).set ((aL d c a5).toNat) ((dt d c (bF.nm,bF.nx) a5).2)=(dt d c (bF.nm,bF.nx) (a5+1)).1:=by rw[hS]
            rw[za]at lQ;clear za
            refine iZ 14 (.int .i64 ((dt d c (bF.nm,bF.nx) (a5+1)).2)) rfl (int_eq (by rw[hS])) ?_
            have OG:(dt d c (bF.nm,bF.nx) (a5+1)).1=(dt d c (bF.nm,bF.nx) (a5+1)).1:=rfl
            have oF:(dt d c (bF.nm,bF.nx) (a5+1)).1.length=2*d.ae.length+1:=(Aa hab hcl p7 (a5+1) (by omega)).1.len
            refine aH (af 3 rfl (ag rfl (bS (i:=3) ((aL d c a5).toNat) rfl bt lQ rfl) (ag rfl (aw rfl aG (lQ.dS (i:=3) (e:=(aL d c a5).toNat) (j:=0) rfl (by first|omega|(simp only[ls];omega)) rfl rfl)) ?_)))
            refine aj rfl (eQ (C:=aQ) (l:=[_]) rfl rfl rfl rfl bt rfl rfl rfl rfl lQ ?_)
            intro rS PG qT;clear lQ
            refine aj rfl (gw (C:=aQ) (i:=1) (q:=0) (ga ((dt d c (bF.nm,bF.nx) (a5+1)).1) ((aL d c a5).toNat)) rfl rfl rfl rfl rfl rfl rfl rfl bt qT rfl rfl rfl (by show(_+1)*8<=_;first|omega|(simp only[ls];omega)) ?_)
            intro akW PF mG;clear qT
            have tG:=mG.pick [1,2,3,4,5,6,7,8,9] [_,_,_,_,_,_,_,_,_] (by decide) ⟨rfl,rfl,rfl,rfl,rfl,rfl,rfl,rfl,rfl,trivial⟩;clear mG
            refine af 1 rfl (aB (bE (aW [1,2,4,5,12,13,14,15,85,86,16,18,19,20,21] rfl (aH (af 1 rfl (ag rfl (bj rfl) (af 1 rfl (aB ?_))))))))
            refine br ?_
            intro au aq
            refine⟨_,?Fx,⟨a5+1,_,_,_,rfl,aq.su rfl,tG.pick [0,1,2,3,4,5,6,7,8] [_,_,_,_,_,_,_,_,_] (by decide) ⟨rfl,rfl,rfl,rfl,rfl,rfl,rfl,rfl,rfl,trivial⟩,?EP,?EO,?EN⟩⟩
            case EP=>omega
            case EO=>(rw[List.length_append,KI];rfl)
            case EN=>(intro j hj;by_cases e:j<a5;(rw[lS _ _ _ (by omega)];exact Dn j e);(obtain rfl:j=a5:=(by omega);rw[nC _ _ _ (by omega),KI,Nat.sub_self,<-OG];rfl))
            case Fx=>omega
           ·have hS:dt d c (bF.nm,bF.nx) (a5+1)=(dt d c (bF.nm,bF.nx) a5):=by show jB (dt d c (bF.nm,bF.nx) a5) (aL d c a5)=_;unfold jB;rw[if_neg AJ]
            refine aV (aW [1,2,4,5,12,13,14,15,85,86,16,18,19,20,21,22] rfl ?_)
            have y9:(dt d c (bF.nm,bF.nx) a5).1=(dt d c (bF.nm,bF.nx) (a5+1)).1:=by rw[hS]
            rw[y9]at ll;clear y9
            refine iZ 14 (.int .i64 ((dt d c (bF.nm,bF.nx) (a5+1)).2)) rfl (int_eq (by rw[hS])) ?_
            have OG:(dt d c (bF.nm,bF.nx) (a5+1)).1=(dt d c (bF.nm,bF.nx) (a5+1)).1:=rfl
            have oF:(dt d c (bF.nm,bF.nx) (a5+1)).1.length=2*d.ae.length+1:=(Aa hab hcl p7 (a5+1) (by omega)).1.len
            refine aH (af 3 rfl (ag rfl (bS (i:=3) ((aL d c a5).toNat) rfl bt ll rfl) (ag rfl (aw rfl aG (ll.dS (i:=3) (e:=(aL d c a5).toNat) (j:=0) rfl (by first|omega|(simp only[ls];omega)) rfl rfl)) ?_)))
            refine aj rfl (eQ (C:=aQ) (l:=[_]) rfl rfl rfl rfl bt rfl rfl rfl rfl ll ?_)
            intro uY PE kV;clear ll
            refine aj rfl (gw (C:=aQ) (i:=1) (q:=0) (ga ((dt d c (bF.nm,bF.nx) (a5+1)).1) ((aL d c a5).toNat)) rfl rfl rfl rfl rfl rfl rfl rfl bt kV rfl rfl rfl (by show(_+1)*8<=_;first|omega|(simp only[ls];omega)) ?_)
            intro akV Kh nz;clear kV
            have pd:=nz.pick [1,2,3,4,5,6,7,8,9] [_,_,_,_,_,_,_,_,_] (by decide) ⟨rfl,rfl,rfl,rfl,rfl,rfl,rfl,rfl,rfl,trivial⟩;clear nz
            refine af 1 rfl (aB (bE (aW [1,2,4,5,12,13,14,15,85,86,16,18,19,20,21] rfl (aH (af 1 rfl (ag rfl (bj rfl) (af 1 rfl (aB ?_))))))))
            refine br ?_
            intro au aq
            refine⟨_,?ND,⟨a5+1,_,_,_,rfl,aq.su rfl,pd.pick [0,1,2,3,4,5,6,7,8] [_,_,_,_,_,_,_,_,_] (by decide) ⟨rfl,rfl,rfl,rfl,rfl,rfl,rfl,rfl,rfl,trivial⟩,?EM,?EL,?MF⟩⟩
            case EM=>omega
            case EL=>(rw[List.length_append,KI];rfl)
            case MF=>(intro j hj;by_cases e:j<a5;(rw[lS _ _ _ (by omega)];exact Dn j e);(obtain rfl:j=a5:=(by omega);rw[nC _ _ _ (by omega),KI,Nat.sub_self,<-OG];rfl))
            case ND=>omega
          ·refine bX rfl (aW [1,2,4,5,12,13,14,15,85,86,16,18,19,20] rfl ?_)
           obtain rfl:a5=4:=by omega
           have rQ:=(Aa hab hcl p7 4 (Nat.le_refl _)).2.2.1
           have hv0:ga av 0=ga (dt d c (bF.nm,bF.nx) 4).1 (ga d.ae c).a.toNat:=(Dn 0 (by omega)).trans (rQ 0 (by omega)).2
           have hv1:ga av 1=ga (dt d c (bF.nm,bF.nx) 4).1 (ga d.ae c).b.toNat:=(Dn 1 (by omega)).trans (rQ 1 (by omega)).2
           have hv2:ga av 2=ga (dt d c (bF.nm,bF.nx) 4).1 (ga d.ae c).c.toNat:=(Dn 2 (by omega)).trans (rQ 2 (by omega)).2
           have hv3:ga av 3=ga (dt d c (bF.nm,bF.nx) 4).1 (ga d.ae c).d.toNat:=(Dn 3 (by omega)).trans (rQ 3 (by omega)).2
           refine dH lR 25 ?_
           clear lR
           refine aS 0 rfl (az rfl aM rfl dN dM) (ay 1 rfl (fun ah Sz=>aw rfl cE (Sz.suf.bc 4 rfl rfl)) (aK 22 [2] rfl (ay 3 rfl (fun ah Sz=>bS (i:=0) 0 rfl bt Sz.suf rfl) (ay 4 rfl (fun ah Sz=>aw rfl aG (Sz.suf.dS (i:=0) (e:=0) (j:=0) rfl (by first|omega|(simp only[ls];omega)) rfl rfl)) ?_))))
           refine aK 19 [5] rfl (ay 6 rfl (fun ah Sz=>bS (i:=0) 1 rfl bt Sz.suf rfl) (ay 7 rfl (fun ah Sz=>aw rfl aG (Sz.suf.dS (i:=0) (e:=1) (j:=0) rfl (by first|omega|(simp only[ls];omega)) rfl rfl)) ?_))
           refine aK 16 [8] rfl (ay 9 rfl (fun ah Sz=>bS (i:=0) 2 rfl bt Sz.suf rfl) (ay 10 rfl (fun ah Sz=>aw rfl aG (Sz.suf.dS (i:=0) (e:=2) (j:=0) rfl (by first|omega|(simp only[ls];omega)) rfl rfl)) ?_))
           refine aK 13 [11] rfl (ay 12 rfl (fun ah Sz=>bS (i:=0) 3 rfl bt Sz.suf rfl) (ay 13 rfl (fun ah Sz=>aw rfl aG (Sz.suf.dS (i:=0) (e:=3) (j:=0) rfl (by first|omega|(simp only[ls];omega)) rfl rfl)) ?_))
           refine aS 14 rfl (az rfl aM rfl dN dM) (ay 15 rfl (fun ah Sz=>aw rfl cE (Sz.suf.bc 8 rfl rfl)) (aK 8 [16] rfl (ay 17 rfl (fun ah Sz=>cN c rfl fX (aC.mono (Hp.aD ah Sz.mx))) (aS 18 rfl (az rfl b6 rfl lM lJ) (ay 19 rfl (fun ah Sz=>aw rfl gY ((aC.mono (Hp.aD ah Sz.mx)).cell Sz.um (i:=c) (by first|omega|(simp only[ls];omega)) 4 rfl rfl)) ?_)))))
           refine ay 20 rfl (fun ah Sz=>run_build (l:=[_,_,_,_,_]) rfl rfl JH rfl rfl) (cm 21 rfl (fun ZZ Cv=>((eQ (C:=bu) (l:=[_,_,_,_,_]) rfl rfl rfl rfl fX rfl rfl rfl rfl Cv ?_))))
           intro wm ZY rW;clear Cv
           refine dB [_] [_,_,_,_,_,_,_,_,_,_] rfl rW ?_;clear rW
           refine cm 22 rfl (fun ZX yn=>((gw (C:=bu) (i:=2) (q:=0) (⟨ga av 0,ga av 1,ga av 2,ga av 3,(ga d.ae c).plus⟩:Cr) rfl rfl rfl rfl rfl rfl rfl rfl fX yn rfl rfl rfl (by(show(_+1)*40<=_;omega)) ?_)))
           intro AU w79 Ht;clear yn
           have rV:=Ht.pick [1,2,3,4,5,6,7,8,9] [_,_,_,_,_,_,_,_,_] (by decide) ⟨rfl,rfl,rfl,rfl,rfl,rfl,rfl,rfl,rfl,trivial⟩;clear Ht
           refine ij rV ?_;clear rV
           change WA _ _ _ _ _ _ _ _ _ _ _ _ [_,_,_,_,_,_,_,_,_]
           refine aS 23 rfl (az rfl aM rfl dN dM) (cm 24 rfl (fun w82 wu=>((gJ (i:=4) (us:=[_]) (l':=[_,_]) (H':=[_,_,_,_,_,_,_,_,_]) rfl rfl wu rfl rfl rfl (wu.nS (i:=1) rfl) Dc rfl (iq (wu.one (i:=1) rfl) rfl) rfl rfl ?_))))
           intro w83 Hr;clear wu
           refine ij Hr ?_;clear Hr
           change WA _ _ _ _ _ _ _ _ _ _ _ _ [_,_,_,_,_,_,_,_,_]
           refine cD (fun w84 Hq=>(bE (aW [1,2,4,5,12,13,14,15,85,86,16,18] rfl ?_)))
           have vC:bF.cs++[(⟨ga av 0,ga av 1,ga av 2,ga av 3,(ga d.ae c).plus⟩:Cr)]=(kE d bF (c:Int)).cs:=by(rw[hv0,hv1,hv2,hv3];unfold kE KN;rw[Int.toNat_natCast])
           rw[vC]at Hq;clear vC
           refine aH (af 1 rfl (ag rfl (bj rfl) (af 1 rfl (aB (br ?_)))))
           intro au aq
           refine⟨_,?NC,⟨q+1,(kE d bF (c:Int)),_,_,_,(CX),rfl,aq.su rfl,Hq.pick [1,2,3,4,5,6,7,8] [_,_,_,_,_,_,_,_] (by decide) ⟨rfl,rfl,rfl,rfl,rfl,rfl,rfl,rfl,trivial⟩,?EK,?EJ⟩⟩
           case EK=>omega
           case EJ=>(rw[na _ q (by omega),hcn,<-List.append_assoc,Lu,<-AX])
           case NC=>omega
        ·refine bX rfl (bE (aW [1,2,4,5,12,13,14,15,85,86] rfl (aH (ag rfl (bj rfl) (af 1 rfl (aB (br ?_)))))))
         intro au aq
         refine⟨_,?Fw,⟨t+1,(κ++[k1]),_,bF,_,_,_,_,(cH.trans CX),rfl,aq.su rfl,kK.pick [0,1,2,3,4,5,6,7] [_,_,_,_,_,_,_,_] (by decide) ⟨rfl,rfl,rfl,rfl,rfl,rfl,rfl,rfl,trivial⟩,?EI,?EH,?afk,?afj,?afi,?afh⟩⟩
         case EI=>omega
         case EH=>simp[Xq]
         case afk=>simpa using Qd
         case afj=>(intro x hx;rw[eX _ _ _ _ (by omega)];by_cases e:k1=x;(rw[if_pos e];simp[e]);(rw[if_neg e,hus x hx];have e2:¬x=k1:=(fun h=>e h.symm);simp[e2]))
         case afi=>exact hsel.snoc Dl ai1 ai2
         case afh=>(obtain rfl:q=(ga nj k1).length:=(by omega);rw[AX,List.take_length,hog k1 Dl];simp)
         case Fw=>omega
    ·refine bX rfl (cP [2,12] rfl (ag rfl (aU [_,_] rfl aM aN (eF.bs 3 rfl rfl)) (aj rfl (gJ (i:=6) (us:=[_,_]) (l':=[_,_]) (H':=[_,_,_,_,_,_,_,_]) rfl rfl eF rfl rfl rfl rfl aN rfl (iq (eF.one (i:=0) rfl) (iq rfl rfl)) rfl rfl ?_))))
     intro ZW Cu;clear eF
     refine ax [2] rfl ?_
     obtain⟨M55,Fz,Ed,⟨A3,c3,e2,vW⟩⟩:=Cu.gP (i:=0) (H':=[_,_,_,_,_,_,_,_]) rfl rfl (by show _*40<=_;first|omega|(simp only[ls];omega))
     clear Cu;subst e2
     replace aC:=aC.mono (Hp.aD Fz Ed.mx)
     replace hr1:=hr1.mono Fz
     replace hcv:=hcv.mono Fz
     replace hov:=hov.mono Fz
     refine dI hC [_] rfl rfl ⟨⟨_,rfl,dK (us:=[_,_]) aM rfl aN (Ed.bs 6 rfl rfl)⟩,trivial⟩ ?_
     refine⟨_,rfl,_,((bh.trans hle2).trans cH).trans Fz,(Ed.pick [] [] (by decide) trivial),?_⟩
     obtain rfl:t=(bD d).length:=by omega
     have e9:(gF d).ae=rn.cs:=by unfold gF ui;rw[Nn (hsel.sort Xq),rN,List.flatMap_map]
     rw[e9]
     exact⟨_,_,rfl,vW⟩
end Go.Proofs.YtcohmplpgcddiaaGreatDoor
namespace Go.Proofs.YtcohmplpgcddiaaGreatDoor
open Go.ChangeShapes Go.WideShapes Go.ChangeAt Go.RowKit
def akG(d:Dg)(v:Value)(N:Hp):Prop:=
 (fp d=false/\v=.tuple [.agg [.slice none 0 0,.int .i64 0].toArray,.int .i64 7].toArray)\/
 (fp d=true/\∃A c,v=.tuple [.agg [.slice A (gF d).ae.length c,.int .i64 (gF d).loops].toArray,.int .i64 0].toArray/\aJ bu N A c (gF d).ae)
theorem ady{d:Dg}(hab:aO d=true)(hn:d.ae.length<=16):(bD d).length<=16:=by
 rw[<-Uq hab];have:=yQ (pK d) d.ae.length;unfold kC;omega
noncomputable def Z5t:=Tryz.f12.body.getD .skip
set_option maxRecDepth 10000 in
theorem aeu{w:World}{M:Hp}{X:Fr}(d:Dg){bz:Option Addr}{bw:Nat}(aC:aJ bu (M.un X.h) bz bw d.ae)(S:SH w M X []):Ct Tryz.prog 12 [.agg [.slice bz d.ae.length bw,.int .i64 d.loops].toArray] w M X (akG d):=by
 unfold Ct
 have iL:d.ae.length*40<=140737488355328:=aC.room
 refine cw (b:=Z5t) Tryz.func12 rfl Tryz.ntmps12 rfl (fun C hC=>(cB [0] rfl (ar (aj rfl (dx (l:=[_,_]) rfl rfl rfl rfl rfl S ?_)))))
 intro aP w1 S1;clear S
 refine aj rfl (bW (l:=[_,_]) rfl rfl rfl jo rfl S1 ?_)
 intro bJ w2 S2;clear S1
 refine af 1 rfl (bL [1,2] rfl (ag rfl (aU [_,_] rfl aM aN (S2.bs 1 rfl rfl)) (aj rfl (eo rfl rfl rfl rfl rfl rfl rfl Gi S2 (Jz d (aC.mono S2.bn) S2.aT) ?_))))
 intro xV w3 M1 bh S3 mV;clear S2
 replace aC:=aC.mono (Hp.aD bh S3.mx)
 rcases mV with⟨kN,rfl⟩|⟨kN,g1,cA8,iA8,oA8,cc8,ic8,oc8,rfl,uq,uo,uk,uj⟩
 ·refine af 5 rfl (bM [2,4,5] rfl (ar (af 2 rfl (ax [2,4,12] rfl (kP (ar (ag rfl (run_build (l:=[_,_]) rfl rfl iC rfl rfl) (aj rfl (bH 0 [_,_] [_,_] [_,_] rfl S3 rfl rfl aN rfl rfl ?_)))))))))
  intro w4 S4;clear S3
  refine af 1 rfl (ax [2,3] rfl (dI hC [_,_] rfl rfl ⟨⟨_,rfl,dK (us:=[_,_]) aM rfl aN (S4.bs 0 rfl rfl)⟩,rfl,trivial⟩ ?_))
  refine⟨_,rfl,_,bh,(S4.pick [] [] (by decide) trivial),?_⟩
  exact .inl ⟨kN,rfl⟩
 ·obtain⟨hn,hab,hlo0,hlo1⟩:=qq kN
  refine af 5 rfl (bM [2,4,5] rfl (ar (af 2 rfl (ax [2,4,12] rfl (sD (aV (cP [2,4] rfl (af 1 rfl ?_))))))))
  refine aj rfl (eo rfl rfl rfl rfl rfl rfl rfl akh S3 (afN d (uq.mono (Hp.cM _ _)) (uo.mono (Hp.cM _ _)) (uk.mono (Hp.cM _ _)) (uj.mono (Hp.cM _ _)) hn hab (ady hab hn) S3.aT) ?_)
  intro PO w5 M2 hle2 S5 Br;clear S3
  replace aC:=aC.mono (Hp.aD hle2 S5.mx)
  replace uq:=uq.mono hle2
  replace uo:=uo.mono hle2
  replace uk:=uk.mono hle2
  replace uj:=uj.mono hle2
  obtain⟨A1,c1,rfl,hr1⟩:=Br
  refine aj rfl (bH 0 [_,_] [_,_] [_,_] rfl S5 rfl rfl aN rfl rfl ?_)
  intro w6 S6;clear S5
  refine af 1 rfl (ax [2,3] rfl (dI hC [_,_] rfl rfl ⟨⟨_,rfl,dK (us:=[_,_]) aM rfl aN (S6.bs 0 rfl rfl)⟩,rfl,trivial⟩ ?_))
  refine⟨_,rfl,_,bh.trans hle2,(S6.pick [] [] (by decide) trivial),?_⟩
  exact .inr ⟨kN,_,_,rfl,hr1⟩
end Go.Proofs.YtcohmplpgcddiaaGreatDoor
namespace Go.Proofs.YtcohmplpgcddiaaGreatDoor
open Go.ChangeShapes Go.WideShapes Go.ChangeAt Go.RowKit
structure tJ where
 s:ei
 l:Int
instance :Inhabited tJ:=⟨⟨default,0⟩⟩
instance :Inhabited Dg:=⟨⟨[],0⟩⟩
def pO:Cd tJ:=⟨fun x=>[.slice x.s.A x.s.n x.s.c,.int .i64 x.l],2,32,24,⟨⟨none,0,0⟩,0⟩,fun _=>rfl,by
 intro x u hu;simp at hu;rcases hu with rfl|rfl<;>rfl⟩
def rI(N:Hp)(vs:List tJ)(ks:List Dg):Prop:=vs.length=ks.length/\∀i,i<ks.length->(ga vs i).s.n=(ga ks i).ae.length/\aJ bu N (ga vs i).s.A (ga vs i).s.c (ga ks i).ae/\(ga vs i).l=(ga ks i).loops
theorem rI.mono{N N':Hp}{vs:List tJ}{ks:List Dg}(h:rI N vs ks)(k:N.le N'):rI N' vs ks:=⟨h.1,fun i hi=>⟨(h.2 i hi).1,(h.2 i hi).2.1.mono k,(h.2 i hi).2.2⟩⟩
theorem rI.eO{N:Hp}:rI N [] []:=⟨rfl,fun i hi=>absurd hi (Nat.not_lt_zero _)⟩
theorem rI.snoc{N:Hp}{vs:List tJ}{ks:List Dg}(h:rI N vs ks)(D:Dg){A:Option Addr}{a:Nat}(hx:aJ bu N A a D.ae):rI N (vs++[⟨⟨A,D.ae.length,a⟩,D.loops⟩]) (ks++[D]):=by
 refine⟨by simp[h.1],fun i hi=>?_⟩
 rw[List.length_append,List.length_singleton]at hi
 have hl:=h.1
 by_cases e:i<ks.length
 ·rw[lS _ _ _ e,lS _ _ _ (by omega)];exact h.2 i e
 ·obtain rfl:i=ks.length:=by omega
  rw[nC _ _ _ (Nat.le_refl _),nC _ _ _ (by omega),hl,Nat.sub_self]
  exact⟨rfl,hx,rfl⟩
structure qQ where
 s:ei
 l:Int
 m:ei
instance :Inhabited qQ:=⟨⟨default,0,default⟩⟩
def oP:Cd qQ:=⟨fun x=>[.slice x.s.A x.s.n x.s.c,.int .i64 x.l,.slice x.m.A x.m.n x.m.c],3,56,44,⟨⟨none,0,0⟩,0,⟨none,0,0⟩⟩,fun _=>rfl,by
 intro x u hu;simp at hu;rcases hu with rfl|rfl|rfl<;>rfl⟩
abbrev jE:=Dg×List Mv
def mX(N:Hp)(vs:List qQ)(ks:List jE):Prop:=vs.length=ks.length/\∀i,i<ks.length->(ga vs i).s.n=(ga ks i).1.ae.length/\aJ bu N (ga vs i).s.A (ga vs i).s.c (ga ks i).1.ae/\(ga vs i).l=(ga ks i).1.loops/\(ga vs i).m.n=(ga ks i).2.length/\aJ gh N (ga vs i).m.A (ga vs i).m.c (ga ks i).2
theorem mX.mono{N N':Hp}{vs:List qQ}{ks:List jE}(h:mX N vs ks)(k:N.le N'):mX N' vs ks:=⟨h.1,fun i hi=>⟨(h.2 i hi).1,(h.2 i hi).2.1.mono k,(h.2 i hi).2.2.1,(h.2 i hi).2.2.2.1,(h.2 i hi).2.2.2.2.mono k⟩⟩
theorem mX.eO{N:Hp}:mX N [] []:=⟨rfl,fun i hi=>absurd hi (Nat.not_lt_zero _)⟩
theorem mX.app{N:Hp}{vs us:List qQ}{ks ls:List jE}(h:mX N vs ks)(k:mX N us ls):mX N (vs++us) (ks++ls):=by
 have hl:=h.1
 have hm:=k.1
 refine⟨by simp[hl,hm],fun i hi=>?_⟩
 rw[List.length_append]at hi
 by_cases e:i<ks.length
 ·rw[lS _ _ _ e,lS _ _ _ (by omega)];exact h.2 i e
 ·rw[nC _ _ _ (by omega),nC _ _ _ (by omega),hl]
  exact k.2 _ (by omega)
theorem mX.snoc{N:Hp}{vs:List qQ}{ks:List jE}(h:mX N vs ks)(D:Dg)(l:List Mv){A B:Option Addr}{a b:Nat}(hx:aJ bu N A a D.ae)(hy:aJ gh N B b l):mX N (vs++[⟨⟨A,D.ae.length,a⟩,D.loops,⟨B,l.length,b⟩⟩]) (ks++[(D,l)]):=by
 refine h.app ⟨rfl,fun i hi=>?_⟩
 obtain rfl:i=0:=by simp at hi;omega
 exact⟨rfl,hx,rfl,rfl,hy⟩
def mU(i:Nat):Mv:=⟨2,i,0,0,false,0,false,false⟩
def mP(i j:Nat):Mv:=⟨4,i,j,0,false,0,false,false⟩
def mS(i:Nat):Mv:=⟨5,i,0,0,false,0,false,false⟩
def skJ(d:Dg)(i:Nat):Nat->List Mv
 |0=>[]
 |k+1=>skJ d i k++(if(ai d).any (kR d i ((i+1+k:Nat):Int))=true then[mP i (i+1+k)]else[])
def qH(d:Dg):Nat->List Mv
 |0=>[]
 |i+1=>qH d i++(if curlN (ga d.ae i) 4=true then[mU i]else[])++skJ d i (d.ae.length-(i+1))
def qI(d:Dg):Nat->List Mv
 |0=>[]
 |i+1=>qI d i++(if(ga (ai d) i).length=3 then[mS i]else[])
def dJ(d:Dg):List Mv:=qH d d.ae.length++qI d (ai d).length
theorem Uh(d:Dg)(i k:Nat):(skJ d i k).length<=k:=by
 induction k with
 |zero=>exact Nat.le_refl _
 |succ k ih=>rw[skJ,List.length_append];split<;>simp<;>omega
theorem LO(d:Dg)(i:Nat):(qH d i).length<=i*(d.ae.length+1):=by
 induction i with
 |zero=>exact Nat.zero_le _
 |succ i ih=>
  rw[qH,List.length_append,List.length_append,Nat.succ_mul]
  have:=Uh d i (d.ae.length-(i+1))
  split<;>simp<;>omega
theorem Uj(d:Dg)(i:Nat):(qI d i).length<=i:=by
 induction i with
 |zero=>exact Nat.le_refl _
 |succ k ih=>rw[qI,List.length_append];split<;>simp<;>omega
theorem yV:jt Tryz.prog 45 oP:=⟨.agg [.slice none 0 0,.int .i64 0,.slice none 0 0].toArray,aih,by kernel_rfl,rfl,by decide,by decide⟩
theorem De:jt Tryz.prog 54 pO:=⟨.agg [.slice none 0 0,.int .i64 0].toArray,aif,by kernel_rfl,rfl,by decide,by decide⟩
end Go.Proofs.YtcohmplpgcddiaaGreatDoor
