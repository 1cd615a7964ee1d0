/- Part 3 of the proof of the law KhovanovTells: the walks through its functions and the plain laws that they need. -/
import Derived.Test.YthppkofceancjaaGreatKhX2
import Derived.Laws.Cover3
import Derived.Laws.Pointers
import Derived.Laws.StructEq
import Derived.MapKept
import Derived.Carry
import Derived.RangeFuncNested
import Derived.RangeFuncBound
import Derived.RangeFuncCalls
import Derived.RangeFuncLeaves
import Derived.LoopNIn
import Derived.Sort.OwnSortedInts
import Derived.Shelf.Sort.Plain
import Derived.Shelf.Slices.In.SortNone
import Derived.Maps.RangeRun
set_option linter.unusedSimpArgs false
set_option linter.unusedVariables false
noncomputable section
namespace Go.Proofs.YthppkofceancjaaGreat
open Go.ChangeShapes Go.WideShapes Go.ChangeAt Go.RowKit
section
variable {P : Program} {o : Oper} {L : List (Nat × Value)} {w w' : World} {x y z : Operand} {t t' T E : TypeId} {a b : Int} {v u : Value} {n d : Nat} {Kt : List (Nat × Value) → World → Prop} {M M' : Hp} {X : Fr} {H H' : List Rs} {i g off : Nat} {l : List Value}
theorem Eb{f:FuncId}{ys:List Operand}{vs:List Value}{fa ca:Array Operand}(hop:o.op=.makeFunc (.func f) fa ca)(hf:fa=#[])(hc:ca=ys.toArray)(hv:oevs L ys=some vs):Run P o L w (.func (.func f) #[] vs.toArray) w:=by
 intro n c he
 unfold execOp
 subst hf
 simp only[hop,hc,List.map_toArray,he.ny hv,Instr.makeFunc,Sem.run_bind,Sem.run_pure,Result.andThen_ok]
 rfl
theorem ui{f:FuncId}{vs cap:List Value}{ca:Call}{fo:Operand}{xs:List Operand}(hd:o.dst=some d)(hop:o.op=.call ca)(di:ca.callee=.value fo)(hfo:oev L fo=some (.func (.func f) #[] cap.toArray))
  (hxs:ca.args=xs.toArray)(hvs:oevs L xs=some vs)(hn:Nat.blt d n=true)(hen:∀args w,(callFunc f args).run P w=.ok (.enter f args) w)(S:SH w M X H)
  {R:Value->Prop}(hcall:Cq P f (vs++cap) w M (XH w X H) R)(h:∀v w',SH w' M X H->R v->Kt ((d,v)::L) w'):WO P n o L w Kt:=by
 intro a ha next Q hk
 have hr:(execOp a.eval o).run P w=.ok (.enter f (vs++cap).toArray) w:=by
  unfold execOp
  simp only[hop,resolve,di,ha.eval hfo,hxs,List.map_toArray,ha.ny hvs,Deferred.ofValue,Sem.run_bind,Sem.run_pure,Result.andThen_ok,invoke,Array.empty_append,List.append_toArray]
  exact hen _ _
 unfold Oper.wp
 rw[hr,Oper.upon_enter,hd]
 refine hcall.mono ?_
 rintro e w' ⟨v,rfl,h2,h4⟩
 exact hk _ _ _ (ha.put (by simpa using hn) v) (h v w' (S.back h2) h4)
theorem SH.JB{α:Type}{C:Cd α}{z:α}(S:SH w M X H)(hi:nth H i=some (Rs.box g E l))(hl:l=C.f z)(hr:C.u8<=140737488355328):aB C (M.un (XH w X H).h) (some ⟨g,0,none⟩) 1 [z]:=by
 have hmem:Rs.box g E l∈H:=by rw[dc]at hi;exact List.mem_of_getElem? hi
 refine⟨by simp,by simpa using hr,fun _=>⟨rfl,l.toArray,E,(0,0),?_,fun j u hu=>?_⟩⟩
 ·show(M.un (XH w X H).h) g=_
  have h1:=S.bl _ hmem g (by simp[Rs.box])
  have h2:hp w g=some (.cells l.toArray E (0,0)):=S.get hi
  have h3:(H.any fun r=>r.bl.contains g)=true:=pO.2 ⟨_,hmem,List.mem_singleton.2 rfl⟩
  simp only[Hp.un,h1.2.1,XH,h3,if_true,h2]
 ·rw[List.flatMap_cons,List.flatMap_nil,List.append_nil,<-hl]at hu
  simpa[pg]using hu
theorem SH.asU(S:SH w M X H)(hi:nth H i=some (Rs.box g E l)):bQ (M.un (XH w X H).h) g E l:=by
 have hmem:Rs.box g E l∈H:=by rw[dc]at hi;exact List.mem_of_getElem? hi
 have h1:=S.bl _ hmem g (by simp[Rs.box])
 have h2:hp w g=some (.cells l.toArray E (0,0)):=S.get hi
 unfold bQ
 have h3:(H.any fun r=>r.bl.contains g)=true:=pO.2 ⟨_,hmem,List.mem_singleton.2 rfl⟩
 simp only[Hp.un,h1.2.1,XH,h3,if_true,h2]
theorem ak8{ca:Call}{ops:List Operand}{ts:List TypeId}(hop:o.op=.call ca)(di:ca.callee=.builtin .max)(hxs:ca.args=ops.toArray)(hts:ca.argTypes=ts.toArray)(hx:oevs L ops=some [.int .i64 a,.int .i64 b]):Run P o L w (.int .i64 (max a b)) w:=by
 intro n c he
 have e:(if b>a then b else a)=max a b:=by
  by_cases h:b>a
  ·rw[if_pos h];omega
  ·rw[if_neg h];omega
 unfold execOp
 simp only[hop,resolve,di,hxs,hts,List.map_toArray,he.ny hx,Sem.run_bind,Sem.run_pure,Result.andThen_ok,invoke,builtin,Builtin.max_,List.foldlM_cons,List.foldlM_nil,Builtin.max2,e]
theorem aiF{A:Option Addr}{len cap lo hi size:Nat}{lx hx:Option Operand}{lv hv:Option Value}(hop:o.op=.slice T x lx hx none)(ry:oev L x=some (.slice A len cap))(hlo:lx.map (oev L)=lv.map some)(hhi:hx.map (oev L)=hv.map some)(hu:P.underlying T=some (.slice E))(hk:(P.info? E).map (·.size)=some size)
  (h1:(lv=none/\lo=0)\/lv=some (.int .i64 (lo:Int)))(h2:(hv=none/\hi=len)\/hv=some (.int .i64 (hi:Int)))(hle:lo<=hi)(hc:hi<=cap):
  Run P o L w (.slice (if cap=lo then A else A.map (·.add (lo*size))) (hi-lo) (cap-lo)) w:=by
 intro n c he
 have e1:lx.map c.eval=lv:=by
  cases lx<;>cases lv<;>simp at hlo ⊢
  exact he.eval hlo
 have e2:hx.map c.eval=hv:=by
  cases hx<;>cases hv<;>simp at hhi ⊢
  exact he.eval hhi
 have g1:(0:Int)<=(lo:Int)/\(lo:Int)<=(hi:Int):=by omega
 have g2:(0:Int)<=(hi:Int)/\(hi:Int)<=(cap:Int):=by omega
 unfold execOp
 rcases h1 with⟨rfl,rfl⟩|rfl<;>rcases h2 with⟨rfl,rfl⟩|rfl<;>
  simp only[hop,he.eval ry,e1,e2,Instr.sliceAt,Instr.slice,Instr.sliceBounds,Instr.sliceBound,asIntOf,Option.map_none,Sem.run_bind,Sem.run_pure,Result.andThen_ok,run_underlying hu,run_sizeOf hk,g1,g2,and_self,if_true,Int.toNat_natCast,Option.isSome_none,Bool.false_eq_true,if_false]
theorem adt{α:Type}{C:Cd α}{N:Hp}{A:Option Addr}{c:Nat}{xs:List α}{lx hx:Option Operand}{lv hv:Option Value}(lo hi:Nat)(hop:o.op=.slice T x lx hx none)(ry:oev L x=some (.slice A xs.length c))(hlo:lx.map (oev L)=lv.map some)(hhi:hx.map (oev L)=hv.map some)(hT:fN P T C)
  (h1:(lv=none/\lo=0)\/lv=some (.int .i64 (lo:Int)))(h2:(hv=none/\hi=xs.length)\/hv=some (.int .i64 (hi:Int)))(hle:lo<=hi)(hc:hi<=xs.length)(h:aB C N A c xs):
  ∃A' c',Run P o L w (.slice A' ((xs.take hi).drop lo).length c') w/\aB C N A' c' ((xs.take hi).drop lo):=by
 obtain⟨zv,hu,h2',h3,h4,h5⟩:=hT
 obtain⟨inf,oL,hz,hs,h8⟩:=info_parts h2'
 have hlen:((xs.take hi).drop lo).length=hi-lo:=by simp;omega
 refine⟨if c=lo then A else A.map (·.add (lo*C.k)),c-lo,?_,?_⟩
 ·rw[hlen]
  exact aiF (P:=P) (w:=w) (size:=C.k) hop ry hlo hhi hu (by rw[oL];simp[hs]) h1 h2 hle (by have:=h.1;omega)
 ·have hroom:=h.2.1
  refine⟨by rw[hlen];have:=h.1;omega,Nat.le_trans (Nat.mul_le_mul_right _ (by rw[hlen];omega)) hroom,fun h0=>?_⟩
  rw[hlen]at h0
  obtain⟨e,cs,T',fz,hcs,hat⟩:=h.2.2 (by omega)
  have hcl:¬c=lo:=by have:=h.1;omega
  rw[if_neg hcl,e]
  simp only[Option.map_some,Jk,adB,pg]
  refine⟨trivial,cs,T',fz,hcs,fun j u hu=>?_⟩
  have hj:j<(hi-lo)*C.k:=by
   have:=(List.getElem?_eq_some_iff.1 hu).1
   rwa [kK C.hf,hlen]at this
  have jl:j/C.k<hi-lo:=(Nat.div_lt_iff_lt_mul h4).2 hj
  have vp:j%C.k<C.k:=Nat.mod_lt _ h4
  have em:j/C.k*C.k+j%C.k=j:=by rw[Nat.mul_comm];exact Nat.div_add_mod j C.k
  have g1:=mv C.hf (xs:=xs) (i:=lo+j/C.k) (by omega) vp
  have g2:=mv C.hf (xs:=(xs.take hi).drop lo) (i:=j/C.k) (by rw[hlen];exact jl) vp
  rw[em]at g2
  rw[g2]at hu
  have e2:((xs.take hi).drop lo)[j/C.k]'(by rw[hlen];exact jl)=xs[lo+j/C.k]'(by omega):=by
   rw[List.getElem_drop,List.getElem_take]
  rw[e2,<-g1]at hu
  have:=hat _ u hu
  rw[show pg A+((lo+j/C.k)*C.k+j%C.k)=pg A+lo*C.k+j by rw[Nat.add_mul];omega]at this
  exact this
theorem aaE{α:Type}{C:Cd α}{N:Hp}{A:Option Addr}{c:Nat}{xs:List α}{hx:Operand}(k:Nat)(hop:o.op=.slice T x none (some hx) none)(hd:o.dst=some d)(hn:Nat.blt d n=true)(ry:oev L x=some (.slice A xs.length c))(hhi:oev L hx=some (.int .i64 a))(hT:fN P T C)(ha:a=(k:Int))(hk:k<=xs.length)(hr:aB C N A c xs)
  (h:∀A' c',aB C N A' c' (xs.take k)->Kt ((d,.slice A' (xs.take k).length c')::L) w):WO P n o L w Kt:=by
 subst ha
 obtain⟨A',c',h1,h2⟩:=adt (P:=P) (w:=w) 0 k hop ry (lv:=none) (hv:=some (.int .i64 (k:Int))) rfl (by simpa using hhi) hT (.inl ⟨rfl,rfl⟩) (.inr rfl) (Nat.zero_le _) hk hr
 exact U8 hd hn h1 (h _ _ h2)
theorem aaF{α:Type}{C:Cd α}{N:Hp}{A:Option Addr}{c:Nat}{xs:List α}{lx:Operand}(k:Nat)(hop:o.op=.slice T x (some lx) none none)(hd:o.dst=some d)(hn:Nat.blt d n=true)(ry:oev L x=some (.slice A xs.length c))(hlo:oev L lx=some (.int .i64 a))(hT:fN P T C)(ha:a=(k:Int))(hk:k<=xs.length)(hr:aB C N A c xs)
  (h:∀A' c',aB C N A' c' (xs.drop k)->Kt ((d,.slice A' (xs.drop k).length c')::L) w):WO P n o L w Kt:=by
 subst ha
 obtain⟨A',c',h1,h2⟩:=adt (P:=P) (w:=w) k xs.length hop ry (lv:=some (.int .i64 (k:Int))) (hv:=none) (by simpa using hlo) rfl hT (.inr rfl) (.inl ⟨rfl,rfl⟩) hk (Nat.le_refl _) hr
 rw[List.take_length]at h1 h2
 exact U8 hd hn h1 (h _ _ h2)
theorem aac{α:Type}{C:Cd α}{len:Nat}{pa:Array (Nat×Operand)}{ps:List (Nat×Operand)}{vs:List (Nat×Value)}{pl:List (Nat×Nat)}(hop:o.op=.buildSlice T len pa)(qj:pa=ps.toArray)(hd:o.dst=some d)(hn:Nat.blt d n=true)(hT:fN P T C)(hps:partL L ps=some vs)(hpl:plOk C.k 0 pl=true)
  (hl:fillL pl (List.flatten (List.replicate len (C.f C.z))) vs=some l)(hsm:Nat.ble (len*C.k) 16777216=true)(hlen:Nat.blt 0 len=true)(S:SH w M X H)
  (h:∀g w',SH w' M X (Rs.box g C.E l::H)->Kt ((d,.slice (some ⟨g,0,none⟩) len len)::L) w'):WO P n o L w Kt:=by
 obtain⟨zv,h1,h2,h3,h4,h5⟩:=hT
 obtain⟨inf,oL,hz,hs,h8⟩:=info_parts h2
 have Va:zv.cells.size=C.k:=by rw[<-C.hf C.z,<-h3];simp
 subst qj
 have hzl:((Array.range (len*C.k)).map (zv.cells[·%zv.cells.size]!)).toList=List.flatten (List.replicate len (C.f C.z)):=by
  have e0:List.flatten (List.replicate len (C.f C.z))=(List.replicate len C.z).flatMap C.f:=by
   rw[List.flatMap_def,List.map_replicate]
  rw[e0]
  apply List.ext_getElem?
  intro q
  by_cases hq:q<len*C.k
  ·have hi:q/C.k<(List.replicate len C.z).length:=by rw[List.length_replicate];exact(Nat.div_lt_iff_lt_mul h4).2 hq
   have hj:q%C.k<C.k:=Nat.mod_lt _ h4
   have e:=mv C.hf hi hj
   rw[show q/C.k*C.k+q%C.k=q by rw[Nat.mul_comm];exact Nat.div_add_mod q C.k]at e
   rw[e,List.getElem_replicate,<-h3]
   simp only[Va,Array.toList_map,Array.toList_range,List.getElem?_map,List.getElem?_range hq,Option.map_some]
   rw[Array.getElem!_eq_getD]
   simp[Va,hj]
  ·rw[List.getElem?_eq_none,List.getElem?_eq_none]
   ·rw[kK C.hf,List.length_replicate];omega
   ·simp;omega
 have hf:Instr.fill (fun i=>some (i*C.k,C.k)) ((Array.range (len*C.k)).map (zv.cells[·%zv.cells.size]!)) vs=some l.toArray:=
  Jd (pl:=pl) (fun i p hp=>by rw[IL hpl i p hp,Nat.zero_add]) vs _ l (by rw[hzl];exact hl)
 have hlen':0<len:=by simpa using hlen
 have hr:=run_buildSlice (P:=P) w T C.E len vs.toArray l.toArray inf zv h1 oL hz (by rw[hs];have:=Nat.le_of_ble_eq_true hsm;omega) (by rw[hs];have:=Nat.mul_pos hlen' h4;omega) (by rw[hs];exact hf)
 refine U8 (v:=.slice (some ⟨w.heap.size,0,none⟩) len len) (w':=w.alloc (.cells l.toArray C.E)) hd hn ?_ (h _ _ (S.Fp C.E l))
 intro n c he
 unfold execOp
 simp only[hop,List.map_toArray,EN he hps,hr,Sem.run_bind,Sem.run_pure,Result.andThen_ok]
end
section
variable {α : Type} {C : Cd α} {N : Hp} {vs : List eO} {xss : List (List α)}
end
end Go.Proofs.YthppkofceancjaaGreat
namespace Go.Proofs.YthppkofceancjaaGreat
open Go.ChangeShapes Go.WideShapes Go.ChangeAt Go.RowKit
section
variable {P : Program} {f : FuncId} {vs vs' : List Value} {w : World} {M : Hp} {X : Fr}
theorem Cq.cast{R:Value->Prop}(h:vs=vs')(c:Cq P f vs' w M X R):Cq P f vs w M X R:=h▸c
theorem iY.at_{α:Type}{C:Cd α}{ss:List eO}{xss:List (List α)}{H:List Rs}(_:SH w M X H)(h:iY C (M.un (XH w X H).h) ss xss):iY C (M.un (XH w X H).h) ss xss:=h
theorem SH.yD{α:Type}{C:Cd α}{z:α}{H H':List Rs}{i g:Nat}{E:TypeId}{l:List Value}(S:SH w M X H)(hi:nth H i=some (Rs.box g E l))(hH:H.set i Rs.emp=H')(hl:l=C.f z)(hr:C.u8<=140737488355328):∃M',M.le M'/\SH w M' X H'/\aB C M' (some ⟨g,0,none⟩) 1 [z]:=by
 obtain⟨h1,h2,h3⟩:=S.uZ hi hH
 refine⟨_,h1,h2,by simp,by simpa using hr,fun _=>⟨rfl,l.toArray,E,(0,0),?_,fun j u hu=>?_⟩⟩
 ·have h4:hp w g=some (.cells l.toArray E (0,0)):=S.get hi
  show(M.put w _) g=_
  rw[h3 g (by simp[Rs.box]),h4]
 ·rw[List.flatMap_cons,List.flatMap_nil,List.append_nil,<-hl]at hu
  simpa[pg]using hu
end
end Go.Proofs.YthppkofceancjaaGreat
namespace Go.Proofs.YthppkofceancjaaGreat
open Go.ChangeShapes Go.WideShapes Go.ChangeAt Go.RowKit
def eO.v(s:eO):Value:=.slice s.A s.n s.c
def yS(vs:List eO):List Nat:=vs.flatMap (fun s=>s.v.ownBlock.toList)
def yY{α:Type}(C:Cd α)(vs:List eO)(xss:List (List α))(h:Hp):Prop:=
 vs.length=xss.length/\(∀i,i<xss.length->eW C (ga vs i).v (ga xss i) h)/\∀i j,i<vs.length->j<vs.length->i≠j->∀b∈(ga vs i).v.ownBlock.toList,b∉(ga vs j).v.ownBlock.toList
theorem AO{vs:List eO}{b:Nat}:b∈yS vs<->∃i,i<vs.length/\b∈(ga vs i).v.ownBlock.toList:=by
 unfold yS
 rw[List.mem_flatMap]
 constructor
 ·rintro⟨s,hs,hb⟩
  obtain⟨i,hi,rfl⟩:=List.mem_iff_getElem.1 hs
  exact⟨i,hi,by rw[bV hi];exact hb⟩
 ·rintro⟨i,hi,hb⟩
  exact⟨ga vs i,nX hi,hb⟩
def Rs.tab{α:Type}(C:Cd α)(vs:List eO)(xss:List (List α)):Rs:=
 ⟨yS vs,yY C vs xss,fun h h' hb hk=>⟨hk.1,fun i hi=>(Rs.row C (ga vs i).v (ga xss i)).loc h h' (fun b hm=>hb b (AO.2 ⟨i,by rw[hk.1];exact hi,hm⟩)) (hk.2.1 i hi),hk.2.2⟩⟩
section
variable {α : Type} {C : Cd α} {xs zs : List α} {v : Value} {w w' : World} {M : Hp} {X : Fr} {H H' : List Rs} {i q g k : Nat} {T : TypeId} {l : List Value} {vs : List eO} {xss : List (List α)} {r s t : Rs}
theorem SH.ane(S:SH w M X H)(C:Cd α)(n:Nat):SH w M X (Rs.tab C (List.replicate n ⟨none,0,0⟩) (List.replicate n [])::H):=by
 have hb:yS (List.replicate n ⟨none,0,0⟩)=[]:=by
  unfold yS
  rw[List.flatMap_eq_nil_iff]
  intro x hx
  rw[List.eq_of_mem_replicate hx]
  rfl
 refine S.add ⟨by simp,fun i hi=>?_,fun i j hi hj _ b hb'=>?_⟩ hb
 ·rw[List.length_replicate]at hi
  rw[uk _ _ _ hi,uk _ _ _ hi]
  exact .inl ⟨rfl,rfl⟩
 ·rw[List.length_replicate]at hi
  rw[uk _ _ _ hi]at hb'
  cases hb'
theorem SH.alA(S:SH w M X H)(C:Cd α):SH w M X (Rs.tab C [] []::H):=S.ane C 0
theorem SH.merge(S:SH w M X H)(hi:nth H i=some r)(hq:nth H q=some s)(Vj:i≠q)(hok:t.ok (hp w))(hbl:∀b∈t.bl,b∈r.bl\/b∈s.bl)(hH:(H.set i t).set q Rs.emp=H'):SH w M X H':=by
 subst hH
 rw[dc]at hi hq
 have hget:∀j u,((H.set i t).set q Rs.emp)[j]? =some u->(j=q/\u=Rs.emp)\/(j≠q/\j=i/\u=t)\/(j≠q/\j≠i/\H[j]? =some u):=fun j u hu=>by
  rw[List.getElem?_set]at hu
  by_cases h1:q=j
  ·subst h1
   rw[if_pos rfl]at hu
   split at hu
   ·injection hu with hu;exact .inl ⟨rfl,hu.symm⟩
   ·cases hu
  ·rw[if_neg h1,List.getElem?_set]at hu
   by_cases h2:i=j
   ·subst h2
    rw[if_pos rfl]at hu
    split at hu
    ·injection hu with hu;exact .inr (.inl ⟨fun e=>h1 e.symm,rfl,hu.symm⟩)
    ·cases hu
   ·rw[if_neg h2]at hu
    exact .inr (.inr ⟨fun e=>h1 e.symm,fun e=>h2 e.symm,hu⟩)
 refine⟨S.m,S.x,S.mx,fun u hu=>?_,fun u hu b hb=>?_,fun j m u y hjm hu hy b hb=>?_,S.like⟩
 ·obtain⟨j,hj⟩:=List.mem_iff_getElem?.1 hu
  rcases hget j u hj with⟨_,rfl⟩|⟨_,_,rfl⟩|⟨_,_,h⟩
  ·trivial
  ·exact hok
  ·exact S.ok u (List.mem_of_getElem? h)
 ·obtain⟨j,hj⟩:=List.mem_iff_getElem?.1 hu
  rcases hget j u hj with⟨_,rfl⟩|⟨_,_,rfl⟩|⟨_,_,h⟩
  ·cases hb
  ·rcases hbl b hb with h|h
   ·exact S.bl r (List.mem_of_getElem? hi) b h
   ·exact S.bl s (List.mem_of_getElem? hq) b h
  ·exact S.bl u (List.mem_of_getElem? h) b hb
 ·rcases hget j u hu with⟨_,rfl⟩|⟨h1,rfl,rfl⟩|⟨h1,h2,h⟩
  ·cases hb
  ·rcases hget m y hy with⟨_,rfl⟩|⟨_,rfl,_⟩|⟨h3,h4,h⟩
   ·intro hc;cases hc
   ·exact absurd rfl hjm
   ·rcases hbl b hb with hb|hb
    ·exact S.ap j m r y hjm hi h b hb
    ·exact S.ap q m s y (fun e=>h3 e.symm) hq h b hb
  ·rcases hget m y hy with⟨_,rfl⟩|⟨h3,rfl,rfl⟩|⟨_,_,h'⟩
   ·intro hc;cases hc
   ·intro hc
    rcases hbl b hc with hc|hc
    ·exact S.ap j m u r hjm h hi b hb hc
    ·exact S.ap j q u s h1 h hq b hb hc
   ·exact S.ap j m u y hjm h h' b hb
theorem aa5{β:Type}[Inhabited β](xs:List β)(i j:Nat)(y:β)(h:i≠j):ga (xs.set i y) j=ga xs j:=by
 unfold ga
 rw[List.getD_eq_getElem?_getD,List.getD_eq_getElem?_getD,List.getElem?_set,if_neg h]
theorem SH.akX{A:Option Addr}{c:Nat}(S:SH w M X H)(hi:nth H i=some (Rs.tab C vs xss))(hq:nth H q=some (Rs.row C (.slice A zs.length c) zs))(Vj:i≠q)(hH:(H.set i (Rs.tab C (vs++[⟨A,zs.length,c⟩]) (xss++[zs]))).set q Rs.emp=H'):SH w M X H':=by
 have ht:yY C vs xss (hp w):=S.get hi
 have hr:eW C (.slice A zs.length c) zs (hp w):=S.get hq
 have hap:∀j,j<vs.length->∀b∈(ga vs j).v.ownBlock.toList,b∉(Value.slice A zs.length c).ownBlock.toList:=fun j hj b hb=>by
  rw[dc]at hi hq
  exact S.ap i q _ _ Vj hi hq b (AO.2 ⟨j,hj,hb⟩)
 have mU:∀j,j<vs.length+1->ga (vs++[(⟨A,zs.length,c⟩:eO)]) j=if j<vs.length then ga vs j else⟨A,zs.length,c⟩:=fun j hj=>by
  split
  ·rename_i h;exact pE _ _ _ h
  ·rw[tU _ _ _ (by omega),show j-vs.length=0 by omega];rfl
 refine S.merge (t:=Rs.tab C (vs++[⟨A,zs.length,c⟩]) (xss++[zs])) hi hq Vj ⟨by simp[ht.1],fun j hj=>?_,fun j m hj hm hjm b hb=>?_⟩ (fun b hb=>?_) hH
 ·rw[List.length_append,List.length_singleton]at hj
  rw[mU j (by rw[ht.1];exact hj)]
  by_cases h:j<vs.length
  ·rw[if_pos h,pE _ _ _ (by rw[<-ht.1];exact h)];exact ht.2.1 j (by rw[<-ht.1];exact h)
  ·rw[if_neg h,tU _ _ _ (by rw[<-ht.1];omega),show j-xss.length=0 by rw[<-ht.1];rw[<-ht.1]at hj;omega];exact hr
 ·rw[List.length_append,List.length_singleton]at hj hm
  rw[mU j hj]at hb
  rw[mU m hm]
  by_cases h1:j<vs.length
  ·rw[if_pos h1]at hb
   by_cases h2:m<vs.length
   ·rw[if_pos h2];exact ht.2.2 j m h1 h2 hjm b hb
   ·rw[if_neg h2];exact hap j h1 b hb
  ·rw[if_neg h1]at hb
   rw[if_pos (by omega)]
   exact fun hc=>hap m (by omega) b hc hb
 ·obtain⟨j,hj,hb⟩:=AO.1 hb
  rw[List.length_append,List.length_singleton]at hj
  rw[mU j hj]at hb
  by_cases h:j<vs.length
  ·rw[if_pos h]at hb;exact .inl (AO.2 ⟨j,h,hb⟩)
  ·rw[if_neg h]at hb;exact .inr hb
theorem SH.KM(S:SH w M X H)(zs:List α)(hi:nth H i=some (Rs.box g C.E l))(hl:l=zs.flatMap C.f)(hm:zs.length<=16777216)(hH:H.set i (Rs.row C (.slice (some ⟨g,0,none⟩) zs.length zs.length) zs)=H'):SH w M X H':=by
 have hb:hp w g=some (.cells l.toArray C.E (0,0)):=S.get hi
 refine S.step hi hH (gB.refl w) (fun _ _ _=>rfl) (.inr ⟨g,zs.length,l.toArray,rfl,hb,Nat.le_refl _,by unfold maxLen;omega,by rw[hl];simpa using kK C.hf zs,?_⟩) (fun b hb'=>⟨.inl ?_,?_⟩)
 ·rw[hl,List.take_of_length_le (by rw[List.toList_toArray,kK C.hf];exact Nat.le_refl _)]
 ·simpa[Rs.row,Value.ownBlock,Rs.box]using hb'
 ·simp[Rs.row,Value.ownBlock]at hb'
  subst hb'
  exact fU hb
theorem SH.ado(S:SH w M X H)(hi:nth H i=some (Rs.tab C vs xss))(hk:k<xss.length):(ga vs k).n=(ga xss k).length/\(0<(ga xss k).length->(ga vs k).A=some ⟨adB (ga vs k).A,0,none⟩)/\(ga xss k).length<=(ga vs k).c:=by
 rcases(S.get hi:yY C vs xss (hp w)).2.1 k hk with⟨h1,h2⟩|⟨g,cap,cur,h1,h2,h3,_⟩
 ·injection h1 with h1 h1' afO
  rw[h2]
  exact⟨h1',fun h=>absurd h (by simp),by simp⟩
 ·injection h1 with h1 h1' afO
  exact⟨h1',fun _=>by rw[h1];rfl,by rw[afO];exact h3⟩
theorem SH.amQ(S:SH w M X H)(hi:nth H i=some (Rs.tab C vs xss)):vs.length=xss.length:=(S.get hi:yY C vs xss (hp w)).1
theorem afd(s:eO):rb s.v=adB s.A:=by
 obtain⟨A,n,c⟩:=s
 cases A<;>rfl
theorem eW.cell [Inhabited α](h:eW C v xs (hp w)){e j:Nat}{u:Value}(he:e<xs.length)(hj:Nat.blt j C.k=true)(hu:nth (C.f (ga xs e)) j=some u):w.cell? ⟨rb v,e*C.k+j,none⟩=some u:=by
 rcases h with⟨_,h2⟩|⟨g,cap,cur,rfl,h2,h3,h4,h5,h6⟩
 ·rw[h2]at he;simp at he
 ·have hj':j<C.k:=by simpa using hj
  show w.cell? ⟨g,e*C.k+j,none⟩=some u
  rw[cell_of_row w g _ cur C.E (0,0) h2]
  have hlt:e*C.k+j<xs.length*C.k:=by
   have:=Nat.mul_le_mul_right C.k (show e+1<=xs.length by omega)
   rw[Nat.succ_mul]at this
   omega
  have h7:=mv C.hf (xs:=xs) he hj'
  rw[<-h6,List.getElem?_take,if_pos hlt,<-bV he,<-dc (C.f (ga xs e)),hu]at h7
  simpa using h7
theorem SH.Gc [Inhabited α](S:SH w M X H)(hi:nth H i=some (Rs.tab C vs xss))(hk:k<xss.length){e j:Nat}{u:Value}(he:e<(ga xss k).length)(hj:Nat.blt j C.k=true)(hu:nth (C.f (ga (ga xss k) e)) j=some u):w.cell? ⟨adB (ga vs k).A,e*C.k+j,none⟩=some u:=by
 have:=((S.get hi:yY C vs xss (hp w)).2.1 k hk).cell he hj hu
 rwa [afd]at this
theorem eW.rds(h:eW C v xs (hp w))(hr:xs.length*C.u8<=140737488355328){N:Hp}(hN:∀b∈v.ownBlock.toList,N b=hp w b):oh C N v xs:=by
 rcases h with⟨h1,h2⟩|⟨g,cap,cur,h1,h2,h3,h4,h5,h6⟩
 ·subst h1;subst h2
  exact oh.bN
 ·subst h1
  refine⟨_,cap,rfl,h3,hr,fun _=>⟨rfl,cur,C.E,(0,0),?_,fun j u hu=>?_⟩⟩
  ·show N g=_
   rw[hN g (by simp[Value.ownBlock])]
   exact h2
  ·show cur[0+j]? =some u
   rw[Nat.zero_add]
   rw[<-h6,List.getElem?_take]at hu
   split at hu
   ·simpa using hu
   ·cases hu
end
section
variable {P : Program} {o : Oper} {L : List (Nat × Value)} {w w' : World} {x y z : Operand} {t t' T E : TypeId} {a b : Int} {v u : Value} {n d : Nat} {Kt : List (Nat × Value) → World → Prop} {M M' : Hp} {X : Fr} {H H' : List Rs} {i k g off : Nat} {l : List Value}
theorem D7{α:Type}{C:Cd α}{vs:List eO}{xss:List (List α)}{m:Nat}(k e:Nat)(hop:o.op=.indexAddr T x y)(hx:oev L x=some (.slice (ga vs k).A m (ga vs k).c))(hm:m=(ga vs k).n)(hy:oev L y=some (.int .i64 a))(hT:fN P T C)(S:SH w M X H)(hi:nth H i=some (Rs.tab C vs xss))(hk:k<xss.length)
  (ha:a=(e:Int))(he:e<(ga xss k).length):Run P o L w (.pointer (some ⟨adB (ga vs k).A,e*C.k,none⟩)) w:=by
 obtain⟨h0,h1,_⟩:=S.ado hi hk
 obtain⟨z,hu,h2,_⟩:=hT
 obtain⟨inf,oL,_,hs,_⟩:=info_parts h2
 have:=Im (P:=P) (w:=w) hop hx hy hu (k:=C.k) (by rw[oL];simp[hs]) ha (by rw[hm,h0];exact he) (h1 (by omega))
 rwa [Nat.zero_add]at this
theorem abF{α:Type}{C:Cd α}{vs:List eO}{xss:List (List α)}{k m:Nat}{ca:Call}{ops:List Operand}{ts:List TypeId}(hop:o.op=.call ca)(di:ca.callee=.builtin .len)(hxs:ca.args=ops.toArray)(hts:ca.argTypes=ts.toArray)(hx:oevs L ops=some [.slice (ga vs k).A m (ga vs k).c])(hm:m=(ga vs k).n)(ht:nth ts 0=some t)(hT:fN P t C)(S:SH w M X H)(hi:nth H i=some (Rs.tab C vs xss))(hk:k<xss.length):Run P o L w (.int .i64 ((ga xss k).length:Int)) w:=by
 obtain⟨h0,_⟩:=S.ado hi hk
 obtain⟨z,h1,_⟩:=hT
 rw[<-h0,<-hm]
 exact Uv hop di hxs hts hx ht h1
theorem aiG{α:Type}[Inhabited α]{C:Cd α}{ys:List α}{us:List Value}{rv:Value}{e j:Nat}(y':α)(hok:eW C rv ys (hp w))(he:e<ys.length)(uC:j+us.length<=C.k)(hl':spl (C.f (ga ys e)) j us=C.f y'):
  ∃cur:Array Value,hp w (rb rv)=some (.cells cur C.E (0,0))/\rb rv∈rv.ownBlock.toList/\(∀b∈rv.ownBlock.toList,b=rb rv)/\e*C.k+j+us.length<=cur.size/\eW C rv (ys.set e y') (hp (w.setRow (rb rv) (cur.toList.take (e*C.k+j)++us++cur.toList.drop (e*C.k+j+us.length)).toArray)):=by
 rw[bV he]at hl'
 rcases hok with⟨_,h2⟩|⟨g,cap,cur,rfl,h2,h3,h4,h5,h6⟩
 ·subst h2;simp at he
 ·have Cw:e*C.k+j+us.length<=cur.size:=by
   have h7:e*C.k+C.k<=cap*C.k:=by rw[<-Nat.succ_mul];exact Nat.mul_le_mul_right _ (by omega)
   omega
  refine⟨cur,h2,by simp[rb,Value.ownBlock],fun b hb=>by simpa[rb,Value.ownBlock]using hb,Cw,?_⟩
  have BZ:e*C.k+j+us.length<=cur.toList.length:=by simpa using Cw
  rw[<-Fk us cur.toList (e*C.k+j) BZ]
  have hs:=setRow_heap w g cur (spl cur.toList (e*C.k+j) us).toArray C.E (0,0) h2
  refine .inr ⟨g,cap,(spl cur.toList (e*C.k+j) us).toArray,by rw[List.length_set],hs,by rw[List.length_set];exact h3,h4,by simp[Js,h5],?_⟩
  rw[List.length_set,<-abV ys e j us y' he uC hl',<-h6]
  apply List.ext_getElem?
  intro m
  have hle:e*C.k+C.k<=ys.length*C.k:=by rw[<-Nat.succ_mul];exact Nat.mul_le_mul_right _ he
  have hys:ys.length*C.k<=cur.size:=by rw[h5];exact Nat.mul_le_mul_right _ h3
  rw[List.getElem?_take,ub us _ _ _ BZ,ub us _ _ _ (by simp;omega),List.getElem?_take]
  by_cases hm:m<ys.length*C.k
  ·rw[if_pos hm,if_pos hm]
  ·rw[if_neg hm,if_neg hm,if_neg (by omega)]
theorem aiX{α:Type}[Inhabited α]{C:Cd α}{vs:List eO}{xss:List (List α)}{us:List Value}{k e j:Nat}(y':α)(hop:o.op=.store T x y)(hd:o.dst=none)(S:SH w M X H)(hi:nth H i=some (Rs.tab C vs xss))(hkk:k<xss.length)(he:e<(ga xss k).length)(hx:oev L x=some (.pointer (some ⟨adB (ga vs k).A,e*C.k+j,none⟩)))(hy:oev L y=some v)(hl:v.cells.toList=us)(hk:(P.info? T).map (·.size)=some us.length)
  (hfit:Nat.ble (j+us.length) C.k=true)(h1:ones us=true)(hl':spl (C.f (ga (ga xss k) e)) j us=C.f y')(hH:H.set i (Rs.tab C vs (xss.set k ((ga xss k).set e y')))=H')(h:∀w',SH w' M X H'->Kt L w'):WO P n o L w Kt:=by
 have uC:j+us.length<=C.k:=by simpa using hfit
 have ht:yY C vs xss (hp w):=S.get hi
 have xQ:k<vs.length:=by rw[ht.1];exact hkk
 obtain⟨cur,h2,h3,h4,h5,h6⟩:=aiG (w:=w) y' (ht.2.1 k hkk) he uC hl'
 rw[<-afd]at hx
 refine AJ hd (Ip hop hx hy hl hk h2 h5 (EB h1)) (h _ ?_)
 have hmem:rb (ga vs k).v∈yS vs:=AO.2 ⟨k,xQ,h3⟩
 refine S.step hi hH (Iw _ _ _) (fun b _ hb=>Eu _ _ _ b (fun e=>hb (by rw[e];exact hmem))) ⟨by simp[ht.1],fun m hm=>?_,ht.2.2⟩ (fun b hb=>⟨.inl hb,?_⟩)
 ·rw[List.length_set]at hm
  rw[bB _ _ _ _ hkk]
  by_cases zM:k=m
  ·subst zM
   rw[if_pos rfl];exact h6
  ·rw[if_neg zM]
   refine(Rs.row C (ga vs m).v (ga xss m)).loc _ _ (fun b hb=>Eu _ _ _ b (fun e=>?_)) (ht.2.1 m hm)
   subst e
   exact ht.2.2 k m xQ (by rw[ht.1];exact hm) zM _ h3 hb
 ·have hm:Rs.tab C vs xss∈H:=by rw[dc]at hi;exact List.mem_of_getElem? hi
  have:=S.bl _ hm b hb
  simpa using this.1
end
end Go.Proofs.YthppkofceancjaaGreat
namespace Go.Proofs.YthppkofceancjaaGreat
open Go.ChangeShapes Go.WideShapes Go.ChangeAt Go.RowKit
theorem ajy{P:Program}{n:Nat}{C:Ctx}{c:Code}{s:List K}{L:List (Nat×Value)}{w:World}{M:Hp}{X:Fr}(N Hb:List Rs)(hk:kind c=8)(hm:P.follows .mixedOrders=true)(S:SH w M X (N++Hb))(f:Nat)(hf:(rg c).size=f)(h:WA P n C c s X f (Array.replicate f false) L M Hb M (N++Hb)):WS P n C c s L w:=by
 intro a ha
 rw[IU hk]
 refine wp_region_any hm ?_
 rw[hf]
 exact gQ.any _ _ _ _ _ _ _ _ (S.kp ⟨rfl,rfl,rfl,Nat.le_refl _⟩ fun _ _=>rfl) (II _) (h ⟨Hp.le_refl _,N,rfl⟩ a ha)
def FE(P:Program)(f:Field)(p:Nat×Bool):Prop:=
 (f.name== "_")=false/\f.offset=p.1/\(match p.2 with|true=>P.underlying f.type=some .bool|false=>∃k,P.underlying f.type=some (.int k))
def sW(xs ys:List Value):List (Nat×Bool)->Prop->Prop
 |[],Q=>Q=True
 |[(o,false)],Q=>∃k x y,nth xs o=some (.int k x)/\nth ys o=some (.int k y)/\Q=(x=y)
 |[(o,true)],Q=>∃x y,nth xs o=some (.bool x)/\nth ys o=some (.bool y)/\Q=(x=y)
 |(o,false)::r,Q=>∃k x y Q',nth xs o=some (.int k x)/\nth ys o=some (.int k y)/\sW xs ys r Q'/\Q=(x=y/\Q')
 |(o,true)::r,Q=>∃x y Q',nth xs o=some (.bool x)/\nth ys o=some (.bool y)/\sW xs ys r Q'/\Q=(x=y/\Q')
def uR(P:Program)(T:TypeId)(pl:List (Nat×Bool)):Prop:=
 ∃fs:List Field,P.underlying T=some (.struct fs.toArray)/\Ah (FE P) fs pl/\P.stoodInHeld T=false/\P.eqGuardType P.depth T=false
section
variable {P : Program}
theorem acV{xs ys:List Value}{o:Nat}{b:Bool}:∀{r:List (Nat×Bool)}{Q:Prop},sW xs ys ((o,b)::r) Q->∃Q1 Q2,(match b with|false=>∃k x y,nth xs o=some (.int k x)/\nth ys o=some (.int k y)/\Q1=(x=y)|true=>∃x y,nth xs o=some (.bool x)/\nth ys o=some (.bool y)/\Q1=(x=y))/\sW xs ys r Q2/\(Q<->Q1/\Q2)
 |[],Q,h=>by
  cases b with
  |false=>obtain⟨k,x,y,h1,h2,rfl⟩:=h;exact⟨_,True,⟨k,x,y,h1,h2,rfl⟩,rfl,by simp⟩
  |true=>obtain⟨x,y,h1,h2,rfl⟩:=h;exact⟨_,True,⟨x,y,h1,h2,rfl⟩,rfl,by simp⟩
 |(_::_),Q,h=>by
  cases b with
  |false=>obtain⟨k,x,y,Q',h1,h2,h3,rfl⟩:=h;exact⟨_,Q',⟨k,x,y,h1,h2,rfl⟩,h3,Iff.rfl⟩
  |true=>obtain⟨x,y,Q',h1,h2,h3,rfl⟩:=h;exact⟨_,Q',⟨x,y,h1,h2,rfl⟩,h3,Iff.rfl⟩
theorem wJ{T:TypeId}{dd:TypeDesc}{cs:List Value}{o:Nat}{v:Value}{w:World}(hu:P.underlying T=some dd)(hd:wX dd=true)(hv:nth cs o=some v):(part T cs.toArray o).run P w=.ok v w:=by
 rw[dc]at hv
 simp only[part,Sem.run_bind,Ey hu,hd,Result.andThen_ok,Bool.not_true,Bool.false_eq_true,if_false,List.getElem?_toArray,hv,Sem.run_pure]
theorem aae{xs ys:List Value}{w:World}:∀{fs:List Field}{pl:List (Nat×Bool)}{Q:Prop},Ah (FE P) fs pl->sW xs ys pl Q->∃r:Bool,(Op.eqFields 9999 xs.toArray ys.toArray fs).run P w=.ok r w/\(r=true<->Q)
 |[],[],Q,_,h=>⟨true,rfl,by rw[show Q=True from h];simp⟩
 |f::fs,(o,b)::pl,Q,ha,h=>by
  obtain⟨⟨hn,ho,hu⟩,ha⟩:=ha
  obtain⟨Q1,Q2,h1,h2,arL⟩:=acV h
  obtain⟨r2,hr2,hi2⟩:=aae (w:=w) ha h2
  have hne:f.name≠ "_":=by simpa using hn
  simp only at ho
  have key:∃r1:Bool,∃u v,(part f.type xs.toArray f.offset).run P w=.ok u w/\(part f.type ys.toArray f.offset).run P w=.ok v w/\(Op.equalIn 9999 f.type u v).run P w=.ok r1 w/\(r1=true<->Q1):=by
   cases b with
   |false=>
    obtain⟨k,x,y,g1,g2,rfl⟩:=h1
    obtain⟨k',hu⟩:=hu
    exact⟨_,_,_,wJ hu rfl (by rw[ho];exact g1),wJ hu rfl (by rw[ho];exact g2),run_equalIn_int w 9998 _ _ _ _ _ hu,by simp⟩
   |true=>
    obtain⟨x,y,g1,g2,rfl⟩:=h1
    exact⟨_,_,_,wJ hu rfl (by rw[ho];exact g1),wJ hu rfl (by rw[ho];exact g2),run_equalIn_bool' w 9998 _ _ _ hu,by simp⟩
  obtain⟨r1,u,v,k1,k2,k3,k4⟩:=key
  refine⟨r1&&r2,?_,by rw[arL,<-k4,<-hi2];simp⟩
  rw[Op.eqFields,if_pos hne]
  simp only[Sem.run_bind,k1,k2,k3,Result.andThen_ok]
  cases r1<;>simp[hr2]
 |[],_::_,_,ha,_=>False.elim ha
 |_::_,[],_,ha,_=>False.elim ha
variable {o : Oper} {L : List (Nat × Value)} {w : World} {x y : Operand} {t t' : TypeId}
theorem aag{xs ys:List Value}{pl:List (Nat×Bool)}{Q:Prop}[Decidable Q](hT:uR P t pl)(he:sW xs ys pl Q):(Op.equalIn 10000 t (.agg xs.toArray) (.agg ys.toArray)).run P w=.ok (decide Q) w:=by
 obtain⟨fs,hu,ha,hs,_⟩:=hT
 have rz:P.fieldsOf t=fs.toArray:=by simp[Program.fieldsOf,hu]
 obtain⟨r,hr,hi⟩:=aae (w:=w) ha he
 rw[run_equalIn_struct w 9999 t _ _ (by rw[rz];exact hu) hs,rz]
 have:r=decide Q:=by
  by_cases h:Q
  ·rw[decide_eq_true h];exact hi.2 h
  ·rw[decide_eq_false h]
   cases r with
   |false=>rfl
   |true=>exact absurd (hi.1 rfl) h
 rw[<-this]
 exact hr
theorem abD{xs ys:List Value}{pl:List (Nat×Bool)}{Q:Prop}[Decidable Q](hop:o.op=.binOp .neq t x y t')(hx:oev L x=some (.agg xs.toArray))(hy:oev L y=some (.agg ys.toArray))(hT:uR P t pl)(he:sW xs ys pl Q):Run P o L w (.bool (decide (¬Q))) w:=by
 intro n c' he'
 have hg:=run_eqGuard_agg (P:=P) w .neq t x y xs.toArray ys.toArray hT.choose_spec.2.2.2
 unfold execOp
 simp only[hop,he'.eval hx,he'.eval hy,hg,Sem.run_bind,Sem.run_pure,Result.andThen_ok,run_neq_struct,aag hT he,decide_not]
end
end Go.Proofs.YthppkofceancjaaGreat
namespace Go.Proofs.YthppkofceancjaaGreat
open Go.ChangeShapes Go.WideShapes Go.ChangeAt Go.RowKit
theorem ana(xs:List Bool)(e:Nat)(h:e<xs.length):nth (xs.map Value.bool) e=some (.bool (ga xs e)):=by
 rw[dc,List.getElem?_map,acO h];rfl
def wr(x:Int):Int:=IntKind.i64.wrap x
theorem pP{x:Int}(h:-9223372036854775808<=x/\x<=9223372036854775807):wr x=x:=by unfold wr;rw[IntKind.wrap_i64];omega
theorem aea(x y:Int):wr (wr x+y)=wr (x+y):=by unfold wr;rw[IntKind.wrap_i64,IntKind.wrap_i64,IntKind.wrap_i64];omega
section
variable {P : Program} {o : Oper} {L : List (Nat × Value)} {w : World} {x y : Operand} {t t' E : TypeId} {a b : Int}
theorem vX(ho:o.op=.binOp .add t x y t')(hx:oev L x=some (.int .i64 a))(hy:oev L y=some (.int .i64 b)):Run P o L w (.int .i64 (wr (a+b))) w:=
 mq ho hx hy fun w=>by simp[binOp,Op.intArith,wr]
theorem I4(ho:o.op=.binOp .sub t x y t')(hx:oev L x=some (.int .i64 a))(hy:oev L y=some (.int .i64 b)):Run P o L w (.int .i64 (wr (a-b))) w:=
 mq ho hx hy fun w=>by simp[binOp,Op.intArith,wr]
theorem aim{d:Nat}{a0 a1 b0 b1:Int}{k:IntKind}(ht:P.underlying t=some (.array 2 E))(hE:P.underlying E=some (.int k))(hk:(P.info? E).map (·.size)=some 1):(Op.equalIn (d+1+1) t (.agg #[.int k a0,.int k a1]) (.agg #[.int k b0,.int k b1])).run P w=.ok (decide (a0=b0/\a1=b1)) w:=by
 have e:∀(l:List Value) (i:Nat) (u:Value),l[i]? =some u->(part E l.toArray i).run P w=.ok u w:=fun l i u h=>wJ hE rfl (by rw[dc];exact h)
 rw[Op.equalIn]
 simp only[Sem.run_bind,run_underlying ht,Result.andThen_ok,run_sizeOf hk]
 rw[show(forIn (m:=Sem) ([0:2]:Std.Legacy.Range))=forIn (m:=Sem) (List.range' 0 2)from by funext a f;simp[Std.Legacy.Range.forIn_eq_forIn_range']]
 have e0:=run_equalIn_int (P:=P) w d E k k a0 b0 hE
 have e1:=run_equalIn_int (P:=P) w d E k k a1 b1 hE
 by_cases h0:a0=b0
 ·subst h0
  by_cases h1:a1=b1
  ·subst h1
   simp[List.range',e [.int k a0,.int k a1] 0 _ rfl,e [.int k a0,.int k a1] 1 _ rfl,e0,e1]
  ·simp[List.range',e [.int k a0,.int k a1] 0 _ rfl,e [.int k a0,.int k a1] 1 _ rfl,e [.int k a0,.int k b1] 0 _ rfl,e [.int k a0,.int k b1] 1 _ rfl,e0,e1,h1]
 ·simp[List.range',e [.int k a0,.int k a1] 0 _ rfl,e [.int k b0,.int k b1] 0 _ rfl,e0,h0]
theorem aah{a0 a1 b0 b1:Int}{k:IntKind}(ht:P.underlying t=some (.array 2 E))(hE:P.underlying E=some (.int k))(hk:(P.info? E).map (·.size)=some 1):(Op.equalIn 10000 t (.agg #[.int k a0,.int k a1]) (.agg #[.int k b0,.int k b1])).run P w=.ok (decide (a0=b0/\a1=b1)) w:=aim (d:=9998) ht hE hk
def UD(P:Program)(T:TypeId):Prop:=∃E k,P.underlying T=some (.array 2 E)/\P.underlying E=some (.int k)/\k=.i64/\(P.info? E).map (·.size)=some 1/\P.eqGuardType P.depth T=false
theorem ajU{a0 a1 b0 b1:Int}(hop:o.op=.binOp .neq t x y t')(hx:oev L x=some (.agg [.int .i64 a0,.int .i64 a1].toArray))(hy:oev L y=some (.agg [.int .i64 b0,.int .i64 b1].toArray))(hT:UD P t):Run P o L w (.bool (decide (¬(a0=b0/\a1=b1)))) w:=by
 intro n c' he'
 obtain⟨E,k,h1,h2,rfl,h3,h4⟩:=hT
 have hg:=run_eqGuard_agg (P:=P) w .neq t x y #[.int .i64 a0,.int .i64 a1] #[.int .i64 b0,.int .i64 b1] h4
 unfold execOp
 simp only[hop,he'.eval hx,he'.eval hy,hg,Sem.run_bind,Sem.run_pure,Result.andThen_ok,run_neq_struct,aah h1 h2 h3,decide_not]
end
end Go.Proofs.YthppkofceancjaaGreat
namespace Go.Proofs.YthppkofceancjaaGreat
open Go.ChangeShapes Go.WideShapes Go.ChangeAt Go.RowKit
section
variable {κ ε : Type} [DecidableEq κ]
def mg(k:κ):List (κ×ε)->Option ε
 |[]=>none
 |p::r=>if k=p.1 then some p.2 else mg k r
def mp(k:κ)(v:ε):List (κ×ε)->List (κ×ε)
 |[]=>[(k,v)]
 |p::r=>if k=p.1 then(k,v)::r else p::mp k v r
def fk(k:κ):List (κ×ε)->Nat->Option (Nat×ε)
 |[],_=>none
 |p::r,i=>if k=p.1 then some (i,p.2)else fk k r (i+1)
theorem BP(k k':κ)(v:ε):∀es:List (κ×ε),mg k (mp k' v es)=if k=k' then some v else mg k es
 |[]=>by simp[mp,mg]
 |p::r=>by
  unfold mp
  by_cases h:k'=p.1
  ·rw[if_pos h]
   by_cases h2:k=k'
   ·simp[mg,h2]
   ·have h3:k≠p.1:=fun e=>h2 (e.trans h.symm)
    simp[mg,h2,h3]
  ·rw[if_neg h]
   have ih:=BP k k' v r
   by_cases h2:k=p.1
   ·have h3:k≠k':=fun e=>h (e.symm.trans h2)
    rw[if_neg h3]
    simp[mg,h2]
   ·simp only[mg,if_neg h2,ih]
theorem AZ{k:κ}:∀{es:List (κ×ε)}{i:Nat},fk k es i=none->mg k es=none/\∀v,mp k v es=es++[(k,v)]
 |[],_,_=>⟨rfl,fun _=>rfl⟩
 |p::r,i,h=>by
  unfold fk at h
  split at h
  ·cases h
  ·rename_i hne
   obtain⟨h1,h2⟩:=AZ h
   exact⟨by simp[mg,hne,h1],fun v=>by simp[mp,hne,h2 v]⟩
theorem AY{k:κ}:∀{es:List (κ×ε)}{i j:Nat}{v:ε},fk k es i=some (j,v)->mg k es=some v/\∃m,j=i+m/\∃p,es[m]? =some p/\p.1=k/\∀v',mp k v' es=es.set m (k,v')
 |p::r,i,j,v,h=>by
  unfold fk at h
  split at h
  ·rename_i he
   injection h with h
   injection h with h1 h2
   exact⟨by simp[mg,he,h2],0,by omega,p,rfl,he.symm,fun v'=>by simp[mp,he]⟩
  ·rename_i hne
   obtain⟨h1,m,h2,q,h3,h4,h5⟩:=AY h
   exact⟨by simp[mg,hne,h1],m+1,by omega,q,by simpa using h3,h4,fun v'=>by simp[mp,hne,h5 v']⟩
end
structure kW(P:Program)(K:TypeId){κ:Type}[DecidableEq κ](kc:κ->Value):Prop where
 check:∀k w b,(Instr.checkKey b 10000 K (kc k)).run P w=.ok () w
 find:∀(k:κ) (es:List (κ×Value)) (l:List MapEntry) (w:World),l.map (fun e=>(e.key,e.val))=es.map (fun p=>(kc p.1,p.2))->(Instr.findKey K (kc k) l).run P w=.ok (fk k es 0) w
 bits:∀k,Instr.sameBits 10000 (kc k) (kc k)=true
theorem akk{P:Program}{K:TypeId}(hu:P.underlying K=some (.int .i64)):kW P K (Value.int .i64):=by
 have apS:∀(k:Int) (es:List (Int×Value)) (l:List MapEntry) (i:Nat),l.map (fun e=>(e.key,e.val))=es.map (fun p=>(Value.int .i64 p.1,p.2))->Instr.findNow (.int .i64) (.int .i64 k) l i=some (fk k es i):=by
  intro k es
  induction es with
  |nil=>intro l i h;rw[List.map_nil,List.map_eq_nil_iff]at h;subst h;rfl
  |cons p es ih=>
   intro l i h
   cases l with
   |nil=>cases h
   |cons e l=>
    simp only[List.map_cons,List.cons.injEq,Prod.mk.injEq]at h
    unfold Instr.findNow fk
    rw[h.1.1]
    simp only[Instr.sameNow,if_true]
    by_cases hk:k=p.1
    ·simp[hk,h.1.2]
    ·have e1:(k==p.1)=false:=by simpa using hk
     rw[e1,if_neg hk]
     exact ih l (i+1) h.2
 refine⟨fun k w b=>?_,fun k es l w h=>MapKept.run_findKey hu (apS k es l 0 h),fun k=>by simp[Instr.sameBits]⟩
 rw[show(10000:Nat)=9999+1 from rfl]
 unfold Instr.checkKey
 simp only[Sem.run_bind,run_underlying hu,Result.andThen]
 rfl
theorem JA {P : Program} {K : TypeId} {κ : Type} [DecidableEq κ] {f : κ → List Value} {pl : List (Nat × Bool)} (hT : uR P K pl) (he : ∀ x y, ∃ Q, sW (f x) (f y) pl Q ∧ (Q ↔ x = y)) (hb : ∀ k, Instr.sameBits 10000 (.agg (f k).toArray) (.agg (f k).toArray) = true) : kW P K (fun k => .agg (f k).toArray) := by
  have heq : ∀ (x y : κ) (w : World), (Op.equal K (.agg (f x).toArray) (.agg (f y).toArray)).run P w = .ok (decide (x = y)) w := by
    intro x y w
    obtain ⟨Q, h1, h2⟩ := he x y
    haveI : Decidable Q := decidable_of_iff _ h2.symm
    have := aag (P := P) (w := w) hT h1
    rw [show decide (x = y) = decide Q from decide_eq_decide.2 h2.symm]
    exact this
  have ass : ∀ (k : κ) (es : List (κ × Value)) (l : List MapEntry) (i : Nat) (w : World), l.map (fun e => (e.key, e.val)) = es.map (fun p => (Value.agg (f p.1).toArray, p.2)) → (Instr.findAsking K (.agg (f k).toArray) l i).run P w = .ok (fk k es i) w := by
    intro k es
    induction es with
    | nil => intro l i w h; rw [List.map_nil, List.map_eq_nil_iff] at h; subst h; rfl
    | cons p es ih =>
      intro l i w h
      cases l with
      | nil => cases h
      | cons e l =>
        simp only [List.map_cons, List.cons.injEq, Prod.mk.injEq] at h
        unfold Instr.findAsking fk
        rw [h.1.1]
        simp only [Sem.run_bind, heq, Result.andThen]
        by_cases hk : k = p.1
        · simp [hk, h.1.2]
        · simp only [hk, decide_false, Bool.false_eq_true, if_false]
          exact ih l (i + 1) w h.2
  obtain ⟨fs, hu, ha, hs, _⟩ := hT
  refine ⟨fun k w b => ?_, fun k es l w h => ?_, hb⟩
  · have rz : ∀ (fs : List Field) (pl : List (Nat × Bool)) (Q : Prop), Ah (FE P) fs pl → sW (f k) (f k) pl Q → ((forIn fs PUnit.unit fun (tF : Field) (_ : PUnit) => if tF.name ≠ "_" then (do
        let x ← part tF.type (f k).toArray tF.offset
        Instr.checkKey b 9999 tF.type x
        pure (ForInStep.yield PUnit.unit) : Sem (ForInStep PUnit)) else pure (ForInStep.yield PUnit.unit)) : Sem PUnit).run P w = .ok () w := by
      intro fs
      induction fs with
      | nil => intro pl Q _ _; rfl
      | cons tF fs ih =>
        intro pl Q ha h
        cases pl with
        | nil => exact False.elim ha
        | cons p pl =>
          obtain ⟨o, bb⟩ := p
          obtain ⟨⟨hn, ho, hu'⟩, ha⟩ := ha
          obtain ⟨Q1, Q2, h1, h2, _⟩ := acV h
          have hne : tF.name ≠ "_" := by simpa using hn
          simp only at ho
          have key : ∃ u, (part tF.type (f k).toArray tF.offset).run P w = .ok u w ∧ (Instr.checkKey b 9999 tF.type u).run P w = .ok () w := by
            cases bb with
            | false =>
              obtain ⟨q, x, y, g1, _, _⟩ := h1
              obtain ⟨k', hu'⟩ := hu'
              refine ⟨_, wJ hu' rfl (by rw [ho]; exact g1), ?_⟩
              rw [show (9999 : Nat) = 9998 + 1 from rfl]
              unfold Instr.checkKey
              simp only [Sem.run_bind, run_underlying hu', Result.andThen]
              rfl
            | true =>
              obtain ⟨x, y, g1, _, _⟩ := h1
              refine ⟨_, wJ hu' rfl (by rw [ho]; exact g1), ?_⟩
              rw [show (9999 : Nat) = 9998 + 1 from rfl]
              unfold Instr.checkKey
              simp only [Sem.run_bind, run_underlying hu', Result.andThen]
              rfl
          obtain ⟨u, k1, k2⟩ := key
          have := ih pl Q2 ha h2
          rw [List.forIn_cons]
          simp only [if_pos hne, Sem.run_bind, k1, k2, Result.andThen, Sem.run_pure]
          exact this
    obtain ⟨Q, h1, _⟩ := he k k
    have := rz fs pl Q ha h1
    rw [show (10000 : Nat) = 9999 + 1 from rfl]
    unfold Instr.checkKey
    simp only [Sem.run_bind, run_underlying hu, Result.andThen]
    rw [← Array.forIn_toList, List.toList_toArray]
    rw [this]
    rfl
  · unfold Instr.findKey
    simp only [Sem.run_bind, run_underlying hu, Result.andThen]
    cases l with
    | nil =>
      cases es with
      | nil => simp [Instr.findNow, fk]
      | cons p es => cases h
    | cons e l =>
      have hn : Instr.findNow (.struct fs.toArray) (.agg (f k).toArray) (e :: l) 0 = none := by
        unfold Instr.findNow
        simp [Instr.sameNow]
      rw [hn]
      exact ass k es (e :: l) 0 w h
def x4(arr:Array MapEntry)(clock:Nat):Prop:=(arr.toList.map (·.born)).Nodup/\∀e∈arr.toList,e.born<clock
def eF{κ ε:Type}(kc:κ->Value)(vc:ε->Value)(g:Nat)(es:List (κ×ε))(h:Hp):Prop:=
 ∃arr clock,h g=some (.map arr clock)/\arr.toList.map (fun e=>(e.key,e.val))=es.map (fun p=>(kc p.1,vc p.2))/\x4 arr clock
def Rs.mp{κ ε:Type}(kc:κ->Value)(vc:ε->Value)(g:Nat)(es:List (κ×ε)):Rs:=
 ⟨[g],eF kc vc g es,fun h h' hb hk=>by
  obtain⟨arr,clock,h1,h2⟩:=hk
  exact⟨arr,clock,by rw[hb g (by simp)];exact h1,h2⟩⟩
section
variable {P : Program} {o : Oper} {L : List (Nat × Value)} {w w' : World} {x y z : Operand} {t T K E : TypeId} {v u : Value} {n d g i : Nat} {Kt : List (Nat × Value) → World → Prop} {M M' : Hp} {X : Fr} {H H' : List Rs}
variable {κ ε : Type} [DecidableEq κ] {kc : κ → Value} {vc : ε → Value} {es : List (κ × ε)}
theorem vP(κ ε:Type)(kc:κ->Value)(vc:ε->Value)(hop:o.op=.makeMap T none)(hd:o.dst=some d)(hn:Nat.blt d n=true)(S:SH w M X H)
  (h:∀g w',SH w' M X (Rs.mp kc vc g ([]:List (κ×ε))::H)->Kt ((d,.map (some g))::L) w'):WO P n o L w Kt:=by
 refine U8 (v:=.map (some w.heap.size)) (w':=w.alloc (.map #[] 0)) hd hn ?_ (h _ _ ?_)
 ·intro n c he
  unfold execOp
  simp only[hop,Option.map_none,run_makeMap,Sem.run_bind,Result.andThen_ok,Sem.run_pure]
 ·exact S.cons (vO w _) (vN w _) ⟨#[],0,heap_alloc_new w _,rfl,by simp[x4]⟩ (fun b hb=>by simp[Rs.mp]at hb;subst hb;rw[qz];omega)
omit [DecidableEq κ] in
theorem ED{arr:Array MapEntry}(h:arr.toList.map (fun e=>(e.key,e.val))=es.map (fun p=>(kc p.1,vc p.2))):arr.toList.map (fun e=>(e.key,e.val))=(es.map (fun p=>(p.1,vc p.2))).map (fun p=>(kc p.1,p.2)):=by
 rw[h,List.map_map];rfl
theorem BB(k:κ):∀(es:List (κ×ε)) (i:Nat),fk k (es.map (fun p=>(p.1,vc p.2))) i=(fk k es i).map (fun q=>(q.1,vc q.2))
 |[],_=>rfl
 |p::r,i=>by
  simp only[List.map_cons,fk]
  split
  ·rfl
  ·exact BB k r (i+1)
theorem SH.look{k:κ}{zv:ε}(S:SH w M X H)(hi:nth H i=some (Rs.mp kc vc g es))(hu:P.underlying T=some (.map K E))(hK:kW P K kc)(hz:(P.info? E).map (·.zero)=some (some (vc zv))):(Instr.lookup T (.map (some g)) (kc k) false).run P w=.ok (vc ((mg k es).getD zv)) w/\(Instr.lookup T (.map (some g)) (kc k) true).run P w=.ok (.tuple #[vc ((mg k es).getD zv),.bool (mg k es).isSome]) w:=by
 obtain⟨arr,clock,hg,ha,jv⟩:=(S.get hi:eF kc vc g es (hp w))
 have hf:=hK.find k _ arr.toList w (ED ha)
 rw[BB]at hf
 have hg':w.heap[g]? =some (.map arr clock):=hg
 have hgo:=MapKept.run_getObj_map (P:=P) hg'
 have hc:=fun b=>hK.check k w b
 cases gT:fk k es 0 with
 |none=>
  rw[gT]at hf
  have hm:=(AZ gT).1
  constructor
  ·simp only[Instr.lookup,Sem.run_bind,run_underlying hu,hgo,hc,hf,Result.andThen_ok,Sem.run_pure,Aw hz,Option.map_none,hm,Option.getD_none]
   rfl
  ·simp only[Instr.lookup,Sem.run_bind,run_underlying hu,hgo,hc,hf,Result.andThen_ok,Sem.run_pure,Aw hz,Option.map_none,hm,Option.getD_none]
   rfl
 |some q=>
  obtain⟨j,v⟩:=q
  rw[gT]at hf
  have hm:=(AY gT).1
  constructor
  ·simp only[Instr.lookup,Sem.run_bind,run_underlying hu,hgo,hc,hf,Result.andThen_ok,Sem.run_pure,Option.map_some,hm,Option.getD_some]
   rfl
  ·simp only[Instr.lookup,Sem.run_bind,run_underlying hu,hgo,hc,hf,Result.andThen_ok,Sem.run_pure,Option.map_some,hm,Option.getD_some]
   rfl
theorem qD{k:κ}{zv:ε}(hop:o.op=.lookup T x y false)(hx:oev L x=some (.map (some g)))(hy:oev L y=some (kc k))(hu:P.underlying T=some (.map K E))(hK:kW P K kc)(hz:(P.info? E).map (·.zero)=some (some (vc zv)))(S:SH w M X H)(hi:nth H i=some (Rs.mp kc vc g es)):Run P o L w (vc ((mg k es).getD zv)) w:=by
 intro n c he
 unfold execOp
 simp only[hop,he.eval hx,he.eval hy,(S.look hi hu hK hz).1,Sem.run_bind,Result.andThen_ok,Sem.run_pure]
theorem ail{k:κ}{zv:ε}(hop:o.op=.lookup T x y true)(hx:oev L x=some (.map (some g)))(hy:oev L y=some (kc k))(hu:P.underlying T=some (.map K E))(hK:kW P K kc)(hz:(P.info? E).map (·.zero)=some (some (vc zv)))(S:SH w M X H)(hi:nth H i=some (Rs.mp kc vc g es)):Run P o L w (.tuple #[vc ((mg k es).getD zv),.bool (mg k es).isSome]) w:=by
 intro n c he
 unfold execOp
 simp only[hop,he.eval hx,he.eval hy,(S.look hi hu hK hz).2,Sem.run_bind,Result.andThen_ok,Sem.run_pure]
theorem EF(w:World)(g:Nat)(ob:Obj):gB w {w with heap:=w.heap.setIfInBounds g ob}:=⟨rfl,rfl,rfl,by simp⟩
theorem tT{k:κ}{e:ε}(hop:o.op=.mapUpdate T x y z\/o.op=.insert T x y z)(hd:o.dst=none)(S:SH w M X H)(hi:nth H i=some (Rs.mp kc vc g es))(hx:oev L x=some (.map (some g)))(hy:oev L y=some (kc k))(hz:oev L z=some (vc e))(hu:P.underlying T=some (.map K E))(hK:kW P K kc)
  (hH:H.set i (Rs.mp kc vc g (Go.Proofs.YthppkofceancjaaGreat.mp k e es))=H')(h:∀w',SH w' M X H'->Kt L w'):WO P n o L w Kt:=by
 obtain⟨arr,clock,hg,ha,jv⟩:=(S.get hi:eF kc vc g es (hp w))
 have hf:=hK.find k _ arr.toList w (ED ha)
 rw[BB]at hf
 have hg':w.heap[g]? =some (.map arr clock):=hg
 have hgo:=MapKept.run_getObj_map (P:=P) hg'
 have hc:=fun b=>hK.check k w b
 have key:∃jh clock',(Instr.mapUpdate T (.map (some g)) (kc k) (vc e)).run P w=.ok () {w with heap:=w.heap.setIfInBounds g (.map jh clock')}/\jh.toList.map (fun e=>(e.key,e.val))=(Go.Proofs.YthppkofceancjaaGreat.mp k e es).map (fun p=>(kc p.1,vc p.2))/\x4 jh clock':=by
  cases gT:fk k es 0 with
  |none=>
   rw[gT]at hf
   refine⟨arr.push {key:=kc k,val:=vc e,born:=clock},clock+1,?_,?_,?_⟩
   ·simp only[Instr.mapUpdate,Sem.run_bind,run_underlying hu,hgo,hc,hf,Result.andThen_ok,Option.map_none,MapKept.run_setObj_map _ hg']
   ·rw[(AZ gT).2 e,Array.toList_push,List.map_append,List.map_append,ha];rfl
   ·refine⟨?_,fun x hx=>?_⟩
    ·rw[Array.toList_push,List.map_append]
     refine List.nodup_append.2 ⟨jv.1,by simp,fun a ha' b hb'=>?_⟩
     obtain⟨x,hx,rfl⟩:=List.mem_map.1 ha'
     simp at hb'
     have:=jv.2 x hx
     omega
    ·rw[Array.toList_push]at hx
     rcases List.mem_append.1 hx with h1|h1
     ·have:=jv.2 x h1;omega
     ·simp at h1;subst h1;exact Nat.lt_succ_self _
  |some q=>
   obtain⟨j,v⟩:=q
   rw[gT]at hf
   obtain⟨_,m,hj,p,hp1,hp2,mK⟩:=AY gT
   obtain rfl:j=m:=by omega
   have hlen:arr.toList.length=es.length:=by have:=congrArg List.length ha;simpa using this
   have hjl:j<es.length:=(List.getElem?_eq_some_iff.1 hp1).1
   have hja:j<arr.size:=by rw[<-Array.length_toList,hlen];exact hjl
   have hkey:(arr[j]?).map (·.key)=some (kc k):=by
    have h1:=congrArg (fun l=>l[j]?) ha
    simp only[List.getElem?_map,hp1,Option.map_some]at h1
    rw[Array.getElem?_toList,Array.getElem?_eq_getElem hja]at h1
    rw[Array.getElem?_eq_getElem hja]
    simp only[Option.map_some,Option.some.injEq,Prod.mk.injEq]at h1 ⊢
    rw[h1.1,hp2]
   refine⟨arr.modify j fun e'=>{e' with key:=kc k,val:=vc e},clock,?_,?_,?_⟩
   ·have hst:(Instr.keyThatStays (kc k) (kc k)).run P w=.ok (kc k) w:=by
     unfold Instr.keyThatStays
     rw[if_pos (hK.bits k)];rfl
    simp only[Instr.mapUpdate,Sem.run_bind,run_underlying hu,hgo,hc,hf,Result.andThen_ok,Option.map_some,hkey,Option.getD_some,hst,MapKept.run_setObj_map _ hg']
   ·rw[mK e]
    apply List.ext_getElem?
    intro q
    have h1:=congrArg (fun l=>l[q]?) ha
    simp only[List.getElem?_map]at h1 ⊢
    rw[Array.getElem?_toList,Array.getElem?_modify,List.getElem?_set]
    rw[Array.getElem?_toList]at h1
    by_cases hq:j=q
    ·subst hq
     rw[if_pos rfl,if_pos rfl,if_pos hjl,Array.getElem?_eq_getElem hja]
     rfl
    ·rw[if_neg hq,if_neg hq]
     exact h1
   ·have hb:(arr.modify j fun e'=>{e' with key:=kc k,val:=vc e}).toList.map (·.born)=arr.toList.map (·.born):=by
     apply List.ext_getElem?
     intro q
     simp only[List.getElem?_map]
     rw[Array.getElem?_toList,Array.getElem?_modify,Array.getElem?_toList]
     by_cases hq:j=q
     ·subst hq;rw[if_pos rfl,Array.getElem?_eq_getElem hja];rfl
     ·rw[if_neg hq]
    refine⟨by rw[hb];exact jv.1,fun x hx=>?_⟩
    have h2:x.born∈arr.toList.map (·.born):=by rw[<-hb];exact List.mem_map.2 ⟨x,hx,rfl⟩
    obtain⟨y,hy,e2⟩:=List.mem_map.1 h2
    rw[<-e2];exact jv.2 y hy
 obtain⟨jh,clock',hrun,Bu,BS⟩:=key
 have hlt:=fU hg
 refine AJ hd (w':={w with heap:=w.heap.setIfInBounds g (.map jh clock')}) ?_ (h _ ?_)
 ·intro n c he
  unfold execOp
  rcases hop with hop|hop<;>simp only[hop,he.eval hx,he.eval hy,he.eval hz,hrun,Sem.run_bind,Result.andThen_ok,Sem.run_pure]
 ·refine S.step hi hH (EF w g _) (fun b _ hb=>?_) ⟨jh,clock',?_,Bu,BS⟩ (fun b hb=>⟨.inl hb,?_⟩)
  ·have hne:b≠g:=by simpa[Rs.mp]using hb
   show(w.heap.setIfInBounds g _)[b]? =w.heap[b]?
   rw[Array.getElem?_setIfInBounds_ne (Ne.symm hne)]
  ·show(w.heap.setIfInBounds g _)[g]? =_
   simp[hlt]
  ·simp[Rs.mp]at hb
   subst hb
   show _<(w.heap.setIfInBounds _ _).size
   simpa using hlt
end
end Go.Proofs.YthppkofceancjaaGreat
namespace Go.Proofs.YthppkofceancjaaGreat
open Go.ChangeShapes Go.WideShapes Go.ChangeAt Go.RowKit
def Rs.bP(H:List Rs):Rs:=
 ⟨H.flatMap (·.bl),fun h=>(∀r∈H,r.ok h)/\∀(i j:Nat) r s,i≠j->H[i]? =some r->H[j]? =some s->∀b∈r.bl,b∉s.bl,fun h h' hb hk=>
  ⟨fun r hr=>r.loc h h' (fun b hbr=>hb b (List.mem_flatMap.2 ⟨r,hr,hbr⟩)) (hk.1 r hr),hk.2⟩⟩
section
variable {w w' : World} {M M' : Hp} {X : Fr} {H H' : List Rs} {r r' : Rs} {i : Nat}
theorem SH.bP(S:SH w M X H):SH w M X [Rs.bP H]:=by
 refine⟨S.m,S.x,S.mx,fun s hs=>?_,fun s hs b hb=>?_,fun i j r s hij hi hj b hb=>?_,S.like⟩
 ·rw[List.mem_singleton]at hs;subst hs;exact⟨S.ok,S.ap⟩
 ·rw[List.mem_singleton]at hs;subst hs
  obtain⟨r,hr,hbr⟩:=List.mem_flatMap.1 hb
  exact S.bl r hr b hbr
 ·have h1:=(List.getElem?_eq_some_iff.1 hi).1
  have h2:=(List.getElem?_eq_some_iff.1 hj).1
  simp at h1 h2;omega
theorem SH.yQ(S:SH w M X [Rs.bP H]):SH w M X H:=by
 obtain⟨h1,h2⟩:=S.ok (Rs.bP H) (by simp)
 exact⟨S.m,S.x,S.mx,h1,fun r hr b hb=>S.bl (Rs.bP H) (by simp) b (List.mem_flatMap.2 ⟨r,hr,hb⟩),h2,S.like⟩
end
def Rs.lr(l D:Nat)(rc:Loop):Rs:=
 ⟨[l,D],fun h=>h l=some (.loop rc)/\h D=some (.deferred (some [])),fun h h' hb hk=>⟨by rw[hb l (by simp)];exact hk.1,by rw[hb D (by simp)];exact hk.2⟩⟩
namespace InF
structure Ctx where
 Q:Exit->Act->World->Prop
 r:Option Nat
def Ctx.F(C:Ctx):Fence:=match C.r with
 |none=>Fence.wide
 |some l=>Fence.wide.inRound l
theorem Ctx.Hg(C:Ctx)(f:FuncId):C.F.fn f:=by
 unfold Ctx.F;split<;>trivial
theorem Ctx.amG(C:Ctx):C.F.depth=none:=by
 unfold Ctx.F;split<;>rfl
theorem Ctx.Jl(C:Ctx){p:Prop}:C.F.depth.isSome=true->p:=by rw[C.amG];intro h;cases h
theorem aot(C:Ctx){m:Nat}{P:Program}{f:FuncId}{args:Array Value}{w:World}{R:Ending->World->Prop}(h:Calls P f args w R):CallsIn C.F m P f args w R:=by
 unfold Ctx.F
 split
 ·exact callsIn_wide.2 h
 ·exact(callsIn_wide.2 h).inRound _
theorem ao1(C:Ctx){m:Nat}{P:Program}{row:String}{args:Array Value}{w:World}{R:Value->World->Prop}(h:Rows P row args w R):RowsIn C.F m P row args w R:=by
 unfold Ctx.F
 split
 ·exact fun c cs _=>let⟨v,w',r,s⟩:=h c cs;⟨v,w',r,stepsIn_wide.2 s⟩
 ·exact fun c cs _=>let⟨v,w',r,s⟩:=h c cs;⟨v,w',r,stepsIn_wide.2 s⟩
theorem alq(C:Ctx){P:Program}{o:Oper}{a:Act}{w:World}{next:Act->World->Prop}{Q:Exit->Act->World->Prop}(hnd:∀c,o.op≠.defer c)(h:o.wp P a w next Q):o.wpIn C.F 0 P a w next Q:=by
 refine⟨fun f _=>C.Hg f,?_⟩
 rw[Oper.semAt_eq _ _ _ hnd]
 unfold Oper.wp at h
 generalize (execOp a.eval o).run P w=r at h
 cases r with
 |ok nx w'=>
  cases nx with
  |value v=>exact h
  |skip=>exact h
  |defer d=>exact h
  |enter f args=>exact⟨C.Jl,aot C h⟩
  |row row args=>exact⟨C.Jl,ao1 C h⟩
  |_=>exact h.elim
 |halt x w'=>
  cases x with
  |panic v=>exact h
  |_=>exact h.elim
def post(P:Program)(C:Ctx):List K->Exit->Act->World->Prop
 |[]=>C.Q
 |.thn c::s=>Exit.then (c.wpIn C.F 0 P (post P C s)) (post P C s)
 |.blk id::s=>Exit.inBlock id (post P C s)
 |.lp I::s=>Exit.then I (post P C s)
 |.jmp _ _::s=>post P C s
def WS(P:Program)(n:Nat)(C:Ctx)(c:Code)(s:List K)(L:List (Nat×Value))(w:World):Prop:=∀a,Env n L a->c.wpIn C.F 0 P (post P C s) a w
def NM(P:Program)(n:Nat)(C:Ctx)(s:List K)(L:List (Nat×Value))(w:World):Prop:=∀a,Env n L a->post P C s .normal a w
def WL(P:Program)(n:Nat)(C:Ctx)(c:Code)(k:Nat)(s:List K)(L:List (Nat×Value))(w:World):Prop:=∀a,Env n L a->wpListIn C.F 0 P (rg c) (post P C s) ((rg c).toList.drop k) a w
section
variable {P : Program} {n : Nat} {C : Ctx} {c : Code} {s : List K} {L : List (Nat × Value)} {w : World}
theorem bu(L2:List (Nat×Value))(hs:Sub L L2)(h:WS P n C c s L2 w):WS P n C c s L w:=fun a ha=>h a (ha.sub hs)
theorem Uw(L2:List (Nat×Value))(hs:Sub L L2)(h:NM P n C s L2 w):NM P n C s L w:=fun a ha=>h a (ha.sub hs)
theorem U1(a b:Code)(hk:kind c=1)(ha:cL c=a)(hb:cR c=b)(h:WS P n C a (.thn b::s) L w):WS P n C c s L w:=by
 subst ha;subst hb
 intro a ha
 rw[abQ hk]
 exact wpIn_seq (h a ha)
theorem U7(a:Code)(i:Nat)(hk:kind c=3)(ha:cL c=a)(hi:tJ c=i)(h:WS P n C a (.blk i::s) L w):WS P n C c s L w:=by
 subst ha;subst hi
 intro a ha
 rw[aav hk]
 exact wpIn_block (h a ha)
theorem Ub(hk:kind c=9)(h:NM P n C s L w):WS P n C c s L w:=by
 intro a ha
 rw[aa1 hk]
 exact wpIn_skip (h a ha)
theorem U2(h:WS P n C c s L w):NM P n C (.thn c::s) L w:=fun a ha=>h a ha
theorem Ul{id:Nat}(h:NM P n C s L w):NM P n C (.blk id::s) L w:=fun a ha=>h a ha
theorem Ut{I:Act->World->Prop}(h:∀a,Env n L a->I a w):NM P n C (.lp I::s) L w:=fun a ha=>h a ha
theorem qC{id:Nat}:∀{s s':List K},popTo id s=some s'->∀a w,post P C s' .normal a w->post P C s (.exit id) a w
 |[],s',h,a,w,hq=>by cases h
 |.thn c::s,s',h,a,w,hq=>qC (s:=s) h a w hq
 |.lp I::s,s',h,a,w,hq=>qC (s:=s) h a w hq
 |.jmp _ _::s,s',h,a,w,hq=>qC (s:=s) h a w hq
 |.blk i::s,s',h,a,w,hq=>by
  simp only[popTo]at h
  simp only[post,Exit.inBlock]
  by_cases hi:i=id
  ·subst hi
   simp only[Nat.beq_refl,Option.some.injEq]at h
   subst h
   rw[if_pos rfl]
   exact hq
  ·have h2:Nat.beq i id=false:=by
    cases hb:Nat.beq i id with
    |false=>rfl
    |true=>exact absurd (Nat.eq_of_beq_eq_true hb) hi
   simp only[h2]at h
   rw[if_neg (fun e=>hi e.symm)]
   exact qC (s:=s) h a w hq
theorem Uk{s':List K}(hk:kind c=5)(hp:popTo (tJ c) s=some s')(h:NM P n C s' L w):WS P n C c s L w:=by
 intro a ha
 rw[aa3 hk]
 exact wpIn_exit (qC hp a w (h a ha))
theorem dH(x y:Code){b:Bool}(hk:kind c=2)(hb:oev L (cX c)=some (.bool b))(hx:cL c=x)(hy:cR c=y)(ht:b=true->WS P n C x s L w)(hf:b=false->WS P n C y s L w):WS P n C c s L w:=by
 subst hx;subst hy
 intro a ha
 rw[aa4 hk]
 exact wpIn_cond_split (ha.eval hb) (fun h=>ht h a ha) (fun h=>hf h a ha)
theorem rM(x:Code)(hk:kind c=2)(hb:oev L (cX c)=some (.bool true))(hx:cL c=x)(ht:WS P n C x s L w):WS P n C c s L w:=dH x (cR c) hk hb hx rfl (fun _=>ht) (fun e=>by cases e)
theorem jq(y:Code)(hk:kind c=2)(hb:oev L (cX c)=some (.bool false))(hy:cR c=y)(hf:WS P n C y s L w):WS P n C c s L w:=dH (cL c) y hk hb rfl hy (fun e=>by cases e) (fun _=>hf)
theorem aW{a:Act}{c':Code}(ha:Env n L a)(hc:c'=c)(h:WS P n C c s L w):c'.wpIn C.F 0 P (post P C s) a w:=by subst hc;exact h a ha
theorem Ui(I:Nat->Act->World->Prop)(hk:kind c=4)(h0:∀a,Env n L a->∃k,I k a w)
  (round:∀k a w,I k a w->(cL c).wpIn C.F 0 P (post P C (.lp (fun a' w'=>∃k',k'<k/\I k' a' w')::s)) a w):WS P n C c s L w:=by
 intro a ha
 rw[aa2 hk]
 have key:∀m k,k<m->∀a w,I k a w->Code.roundsIn C.F 0 P (cL c) (post P C s) m a w:=by
  intro m
  induction m with
  |zero=>intro k hk;omega
  |succ m ih=>
   intro k hk a w hi
   rw[roundsIn_succ]
   refine wpIn_mono (round k a w hi) (fun e a w q=>?_)
   cases e with
   |normal=>
    obtain⟨k',hlt,hi'⟩:=q
    exact ih k' (by omega) a w hi'
   |_=>exact q
 obtain⟨k0,h1⟩:=h0 a ha
 exact wpIn_loop_rounds (k0+1) (key (k0+1) k0 (by omega) a w h1)
theorem U0(hk:kind c=7)(h:WL P n C c 0 s L w):WS P n C c s L w:=by
 intro a ha
 rw[aaj hk]
 exact wpIn_region_list (h a ha)
theorem U3{k:Nat}(hk:op c k=none)(h:NM P n C s L w):WL P n C c k s L w:=by
 intro a ha
 have:((rg c).toList.drop k)=[]:=by
  unfold op at hk
  rw[dc]at hk
  exact List.drop_eq_nil_of_le (by simpa using hk)
 rw[this]
 exact wpListIn_nil (h a ha)
def LP(o:Oper):Bool:=match o.op with
 |.defer _=>false
 |_=>true
theorem ajb{o:Oper}(h:LP o=true):∀c,o.op≠.defer c:=fun c e=>by unfold LP at h;rw[e]at h;cases h
theorem Uj{k k':Nat}{o:Oper}(ho:op c k=some o)(hk:k'=k.succ)(hg:o.guard=none)(h:WO P n o L w (fun L' w'=>WL P n C c k' s L' w'))(hnd:LP o=true:=by rfl):WL P n C c k s L w:=by
 intro a ha
 rw[Bb ho]
 subst hk
 refine wpListIn_plain hg fun K hK=>?_
 exact alq C (ajb hnd) (h a ha K _ fun L' a' w' he hw=>hK _ _ (hw a' he))
theorem IZ{k k' d l:Nat}{o:Oper}{vs:List Value}{ca:Call}{fo:Operand}{xs:List Operand}(ho:op c k=some o)(hk:k'=k.succ)(hg:o.guard=none)(hd:o.dst=some d)(hop:o.op=.call ca)(di:ca.callee=.value fo)(hfo:oev L fo=some (.func (.yield l) #[] #[]))
  (hxs:ca.args=xs.toArray)(hvs:oevs L xs=some vs)(hn:Nat.blt d n=true){R:Value->World->Prop}(hy:YieldAt C.F 0 P l vs.toArray w fun e w'=>∃v,e=.returned v/\R v w')(h:∀v w',R v w'->WL P n C c k' s ((d,v)::L) w'):WL P n C c k s L w:=by
 intro a ha
 rw[Bb ho]
 subst hk
 refine wpListIn_plain hg fun K hK=>?_
 obtain⟨fn,tmps,assign,body,hy1,hy2⟩:=hy
 have hr:(execOp a.eval o).run P w=.ok (.round l fn tmps assign body) w:=by
  unfold execOp
  simp only[hop,resolve,di,ha.eval hfo,hxs,List.map_toArray,ha.ny hvs,Deferred.ofValue,Sem.run_bind,Sem.run_pure,Result.andThen_ok,invoke,Array.empty_append]
  exact hy1
 refine⟨fun f _=>C.Hg f,?_⟩
 rw[Oper.semAt_eq _ _ _ (fun c e=>by rw[e]at hop;cases hop),hr,Oper.uponIn_round,hd]
 refine⟨C.Jl,hy2.mono ?_⟩
 rintro e w' ⟨v,rfl,hR⟩
 exact hK _ _ (h v w' hR _ (ha.put (by simpa using hn) v))
theorem Bk{fn:Func}{R:Ending->World->Prop}(hC:C.Q=bodyPost P fn R){rs:List ResultVar}(vs:List Value)(hr:fn.results=rs.toArray)(h:xf P L w rs vs)(hR:R (.returned (tup vs)) w):NM P n C [] L w:=by
 intro a ha
 show C.Q .normal a w
 rw[hC]
 exact⟨ha.df,tup vs,Iq ha hr h,hR⟩
theorem Up{f:FuncId}{fn:Func}{b:Code}{args:List Value}{w:World}{R:Ending->World->Prop}(hf:P.funcs[f]? =some fn)(hb:fn.body=some b){n:Nat}(hn:fn.ntmps=n)(hsz:Nat.ble args.length n=true)
  (h:∀C:Ctx,C.r=none->C.Q=bodyPost P fn R->WS P n C b [] (argL 0 args) w):CallsIn Fence.wide 0 P f args.toArray w R:=by
 have h1:=h ⟨bodyPost P fn R,none⟩ rfl rfl
 refine callsIn_of_wp hf hb trivial (h1 _ ⟨?_,rfl,fun t v hv=>?_⟩)
 ·simp[hn];have:args.length<=n:=by simpa using hsz
  omega
 ·have:=(E4 args 0 t v hv).2
  rw[Nat.sub_zero]at this
  have hlt:=(List.getElem?_eq_some_iff.1 this).1
  simp only[Array.getD_eq_getD_getElem?]
  rw[Array.getElem?_append_left (by simpa using hlt)]
  simp[this]
theorem Iz{f:FuncId}{fn:Func}{b:Code}{args:List Value}{w:World}{R:Ending->World->Prop}(hf:P.funcs[f]? =some fn)(hb:fn.body=some b){n:Nat}(hn:fn.ntmps=n)(hsz:Nat.ble args.length n=true)
  (h:∀C:Ctx,C.r=none->C.Q=bodyPostM Fence.wide 0 P fn R->WS P n C b [] (argL 0 args) w):Calls P f args.toArray w R:=by
 have h1:=h ⟨bodyPostM Fence.wide 0 P fn R,none⟩ rfl rfl
 refine callsIn_wide.1 (callsIn_of_wp_marks hf hb trivial (h1 _ ⟨?_,rfl,fun t v hv=>?_⟩))
 ·simp[hn];have:args.length<=n:=by simpa using hsz
  omega
 ·have:=(E4 args 0 t v hv).2
  rw[Nat.sub_zero]at this
  have hlt:=(List.getElem?_eq_some_iff.1 this).1
  simp only[Array.getD_eq_getD_getElem?]
  rw[Array.getElem?_append_left (by simpa using hlt)]
  simp[this]
end
section
variable {P : Program} {n : Nat} {C : Ctx} {c : Code} {s : List K} {L : List (Nat × Value)} {w : World} {M : Hp} {X : Fr} {H : List Rs}
def Iter(P:Program)(f:FuncId)(lb:List Value)(enc:Nat->Value)(N:Nat)(M:Hp)(X:Fr):Prop:=
 ∀(l:Nat) (J:Nat->Hp->Rs->Prop) (w:World) (M1:Hp) (B:Rs),M.le M1->
  (∀k M' B' w',k<N->M1.le M'->SH w' M' X [B']->J k M' B'->YieldAt Fence.wide 0 P l #[enc k] w' fun e w''=>∃v,e=.returned v/\v=.bool true/\∃iO Es,M'.le iO/\SH w'' iO X [Es]/\J (k+1) iO Es)->
  SH w M1 X [B]->J 0 M1 B->CallsIn Fence.wide 0 P f ((Value.func (.yield l) #[] #[])::lb).toArray w fun e w'=>(∃v,e=.returned v)/\∃M' B',M1.le M'/\SH w' M' X [B']/\J N M' B'
theorem yF{w:World}{l D:Nat}{rc uY:Loop}{Hs:List Rs}(S:SH w M X (Rs.lr l D rc::Hs)):SH (w.putObj l (.loop uY)) M X (Rs.lr l D uY::Hs):=by
 obtain⟨h1,h2⟩:=S.ok (Rs.lr l D rc) (by simp)
 have hne:D≠l:=fun e=>by subst e;rw[h1]at h2;cases h2
 have hlt:=fU h1
 have lV:=fU h2
 refine S.step (i:=0) (r:=Rs.lr l D rc) rfl rfl ⟨rfl,rfl,rfl,by simp[World.putObj]⟩ (fun b _ hb=>?_) ⟨World.putObj_heap_same hlt,(World.putObj_heap_other hne).trans h2⟩ (fun b hb=>⟨.inl hb,?_⟩)
 ·exact World.putObj_heap_other (fun e=>hb (by rw[e];simp[Rs.lr]))
 ·simp only[Rs.lr,List.mem_cons,List.not_mem_nil,or_false]at hb
  rcases hb with rfl|rfl<;>simp[World.putObj,hlt,lV]
theorem abd{a:Act}{p:Nat}{v:Value}(ha:Env n L a)(hp:p<n):Env n ((p,v)::L) {tmps:=a.tmps.setIfInBounds p v,defers:=[]}:=by
 have:=(ha.put hp v)
 exact⟨by simpa[Act.put]using this.sz,rfl,fun t u hu=>by have:=this.at_ t u hu;simpa[Act.put]using this⟩
theorem aik{p:Nat}{g:Operand}{asg bd:Code}{f:FuncId}{lb:List Value}{enc:Nat->Value}{N:Nat}(hr:C.r=none)(hc:c=.rangeFunc g #[p] asg bd)(hp':Nat.blt p n=true)(hg:oev L g=some (.func (.func f) #[] lb.toArray))(hen:∀args w,(callFunc f args).run P w=.ok (.enter f args) w)
  (S:SH w M X H)(I:Nat->Hp->List Rs->Prop)(I1:Nat->Act->Hp->List Rs->Prop)(h0:I 0 M H)(hit:Iter P f lb enc N M X)
  (hassign:∀(k:Nat) (M':Hp) (H':List Rs) (w':World) (C':Ctx) (R0:Rs),k<N->M.le M'->SH w' M' X (R0::H')->I k M' H'->WS P n C' asg [.lp (fun a w''=>∃iO qH,M'.le iO/\SH w'' iO X (R0::qH)/\I1 k a iO qH)] ((p,enc k)::L) w')
  (hbody:∀(k:Nat) (M':Hp) (H':List Rs) (w':World) (C':Ctx) (R0:Rs) (a:Act),k<N->M.le M'->SH w' M' X (R0::H')->I1 k a M' H'->bd.wpIn C'.F 0 P (post P C' [.lp (fun _ w''=>∃iO qH,M'.le iO/\SH w'' iO X (R0::qH)/\I (k+1) iO qH)]) a w')
  (hdone:∀(a:Act) (M':Hp) (H':List Rs) (w':World) (D l:Nat) (rc:Loop),Env n L a->M.le M'->SH w' M' X (Rs.lr l D rc::H')->I N M' H'->post P C s .normal {a with defers:=[{target:=.collected D,args:=#[]}]} w'):WS P n C c s L w:=by
 have hF:C.F=Fence.wide:=by unfold Ctx.F;rw[hr]
 intro a ha
 subst hc
 rw[hF]
 refine wpIn_rangeFunc ?_
 intro fn _
 rw[show Fence.wide.round=none from rfl]
 obtain⟨rec,hrec⟩:∃rec:LoopState->Loop,rec=fun st=>{state:=st,pending:=none,fn,tmps:=a.tmps,params:=#[p],assign:=asg,body:=bd,defers:=w.heap.size}:=⟨_,rfl⟩
 obtain⟨W1,hW1⟩:∃W1,(w.alloc (.deferred (some []))).alloc (.loop (rec .ready))=W1:=⟨_,rfl⟩
 have Vy:W1.heap[w.heap.size+1]? =some (.loop (rec .ready)):=by
  rw[<-hW1];have:=World.alloc_heap_new (w.alloc (.deferred (some []))) (.loop (rec .ready));rwa [World.size_alloc]at this
 have Vz:W1.heap[w.heap.size]? =some (.deferred (some [])):=by
  rw[<-hW1];exact(Below.heap_alloc _ _ _ (by simp)).trans (World.alloc_heap_new w _)
 have hkeep:∀b,b<w.heap.size->hp W1 b=hp w b:=fun b hb=>by
  rw[<-hW1]
  exact(vN (w.alloc (.deferred (some []))) _ b (by rw[qz];omega)).trans (vN w _ b hb)
 have S1:SH W1 M X (Rs.lr (w.heap.size+1) w.heap.size (rec .ready)::H):=by
  have hl:gB w W1:=by rw[<-hW1];exact(vO w _).trans (vO _ _)
  refine S.cons hl hkeep ⟨Vy,Vz⟩ (fun b hb=>?_)
  have hsz:W1.heap.size=w.heap.size+2:=by rw[<-hW1,qz,qz]
  simp only[Rs.lr,List.mem_cons,List.not_mem_nil,or_false]at hb
  omega
 have Vp:a.defers=[]:=ha.df
 refine⟨w.heap.size+1,[{target:=.collected w.heap.size,args:=#[]}],W1,{target:=.fn (.func f) lb.toArray,args:=#[.func (.yield (w.heap.size+1)) #[] #[]]},W1,f,
  #[.func (.yield (w.heap.size+1)) #[] #[]]++lb.toArray,W1,?_,?_,fun _ _=>trivial,?_,fun h=>(by cases h),?_⟩
 ·rw[<-hW1,hrec];exact run_enterLoop_outer _ _ _ _ _
 ·simp only[resolve,ha.eval hg]
  simp[go_sem]
 ·simp[invoke,go_sem,hen]
 ·rw[show(#[.func (.yield (w.heap.size+1)) #[] #[]]++lb.toArray:Array Value)=((Value.func (.yield (w.heap.size+1)) #[] #[])::lb).toArray from by simp]
  refine(hit (w.heap.size+1) (fun k M' B=>∃H',B=Rs.bP (Rs.lr (w.heap.size+1) w.heap.size (rec .ready)::H')/\I k M' H') W1 M _ (Hp.le_refl _) ?_ S1.bP ⟨H,rfl,h0⟩).mono ?_
  ·rintro k M' B' w' hk hle SB ⟨H',rfl,hI⟩
   have S':=SB.yQ
   obtain⟨hl,hD⟩:=S'.ok (Rs.lr (w.heap.size+1) w.heap.size (rec .ready)) (by simp)
   have hy:=run_yield (P:=P) (args:=#[enc k]) hl (by rw[hrec];rfl)
   rw[hrec]at hy
   refine⟨fn,_,asg,bd,hy,roundIn_of_wpIn trivial ?_⟩
   have hC':(Ctx.mk (fun _ _ _=>False) (some (w.heap.size+1))).F=Fence.wide.inRound (w.heap.size+1):=rfl
   have e1:((#[p]:Array Tmp).zip #[enc k]).foldl (fun tmps (t,a)=>tmps.setIfInBounds t a) a.tmps=a.tmps.setIfInBounds p (enc k):=by simp
   rw[<-hC']
   have hA:=hassign k M' H' w' (Ctx.mk (fun _ _ _=>False) (some (w.heap.size+1))) (Rs.lr (w.heap.size+1) w.heap.size (rec .ready)) hk hle S' hI _ (abd ha (by simpa using hp'))
   rw[e1]
   refine wpIn_mono hA ?_
   rintro e a2 w2 hq
   cases e with
   |normal=>
    obtain⟨M2,H2,hle2,S2,nT⟩:=hq
    obtain⟨hl2,_⟩:=S2.ok (Rs.lr (w.heap.size+1) w.heap.size (rec .ready)) (by simp)
    refine⟨_,run_beginRound hl2 (by rw[hrec]),?_⟩
    have S3:=yF (uY:={rec .ready with state:=.busy}) S2
    refine wpIn_mono (hbody k M2 H2 _ (Ctx.mk (fun _ _ _=>False) (some (w.heap.size+1))) _ a2 hk (hle.trans hle2) S3 nT) ?_
    rintro e a3 w3 xO
    cases e with
    |normal=>
     obtain⟨M4,H4,bt,S4,VA⟩:=xO
     obtain⟨hl4,_⟩:=S4.ok (Rs.lr (w.heap.size+1) w.heap.size {rec .ready with state:=.busy}) (by simp)
     have he:=run_endRound (P:=P) none hl4
     have S5:=yF (uY:=rec .ready) S4
     refine⟨_,_,he,_,rfl,rfl,M4,Rs.bP (Rs.lr (w.heap.size+1) w.heap.size (rec .ready)::H4),hle2.trans bt,?_,H4,rfl,VA⟩
     have e2:({({rec .ready with state:=.busy}:Loop)with state:=(if(none:Option Code).isNone=true then LoopState.ready else LoopState.done),pending:=none}:Loop)=rec .ready:=by rw[hrec];rfl
     rw[e2]
     exact S5.bP
    |_=>exact xO.elim
   |_=>exact hq.elim
  ·rintro e w2 ⟨⟨v,rfl⟩,M',B',hle,SB,H',rfl,hI⟩
   have S':=SB.yQ
   obtain⟨hl,hD⟩:=S'.ok (Rs.lr (w.heap.size+1) w.heap.size (rec .ready)) (by simp)
   have he:=run_endLoop (P:=P) hl (by rw[hrec];simp)
   refine⟨none,w2.putObj (w.heap.size+1) (.loop {rec .ready with state:=.exhausted}),by rw[he,hrec],?_⟩
   have:=hdone a M' H' _ w.heap.size (w.heap.size+1) _ ha hle (yF (uY:={rec .ready with state:=.exhausted}) S') hI
   rw[Vp]
   exact this
theorem alP{l D:Nat}{rc:Loop}{Hs:List Rs}(S:SH w M X (Rs.lr l D rc::Hs)):SH (w.putObj D (.deferred none)) M X Hs:=by
 obtain⟨h1,h2⟩:=S.ok (Rs.lr l D rc) (by simp)
 have S2:SH (w.putObj D (.deferred none)) M X (Rs.emp::Hs):=S.step (i:=0) (r:=Rs.lr l D rc) rfl rfl ⟨rfl,rfl,rfl,by simp[World.putObj]⟩ (fun b _ hb=>World.putObj_heap_other (fun e=>hb (by rw[e];simp[Rs.lr]))) trivial (fun b hb=>by cases hb)
 exact S2.suf (N:=[Rs.emp])
theorem Jr{fn:Func}{R:Ending->World->Prop}(hC:C.Q=bodyPostM Fence.wide 0 P fn R){i:Nat}{o1 o2:Oper}(hc:c=.seq (.region i #[o1,o2] false) .ret){x:Operand}{T d1 d2 l D:Nat}{p:Addr}{v:Value}{dd:TypeDesc}{rc:Loop}{Hs:List Rs}{a:Act}
  (h1:o1.op=.load T x)(g1:o1.guard=none)(e1:o1.dst=some d1)(h2:o2.op=.assign (.tmp d1))(g2:o2.guard=none)(e2:o2.dst=some d2)(ha:Env n L a)(hx:oev L x=some (.pointer (some p)))(hu:P.underlying T=some dd)(hd:wX dd=true)(Dw:Nat.blt d1 n=true)(zK:Nat.blt d2 n=true)
  (hres:fn.results=#[.tmp d2])(S:SH w M X (Rs.lr l D rc::Hs))(hcell:w.cell? p=some v)(hR:∀w',SH w' M X Hs->R (.returned v) w'):c.wpIn C.F 0 P C.Q {a with defers:=[{target:=.collected D,args:=#[]}]} w:=by
 subst hc
 obtain⟨_,hD⟩:=S.ok (Rs.lr l D rc) (by simp)
 have r1:(execOp a.eval o1).run P w=.ok (.value v) w:=U5 h1 hx hu hd hcell n a ha
 have ha1:=ha.put (d:=d1) (by simpa using Dw) v
 have r2:(execOp (a.put (some d1) v).eval o2).run P w=.ok (.value v) w:=run_assign h2 (by simp[oev,lk]) n _ ha1
 have ha2:=ha1.put (d:=d2) (by simpa using zK) v
 refine wpIn_seq ?_
 refine wpIn_region_list ?_
 show wpListIn C.F 0 P #[o1,o2] _ [o1,o2] _ w
 refine wpListIn_plain g1 fun K hK=>?_
 refine⟨fun f _=>C.Hg f,?_⟩
 rw[Oper.semAt_eq _ _ _ (fun c e=>by rw[e]at h1;cases h1),show(execOp ({a with defers:=[{target:=.collected D,args:=#[]}]}:Act).eval o1).run P w=.ok (.value v) w from r1,Oper.uponIn_value,e1]
 refine hK _ _ ?_
 refine wpListIn_plain g2 fun K2 hK2=>?_
 refine⟨fun f _=>C.Hg f,?_⟩
 rw[Oper.semAt_eq _ _ _ (fun c e=>by rw[e]at h2;cases h2),show(execOp (({a with defers:=[{target:=.collected D,args:=#[]}]}:Act).put (some d1) v).eval o2).run P w=.ok (.value v) w from r2,Oper.uponIn_value,e2]
 refine hK2 _ _ ?_
 refine wpListIn_nil ?_
 refine wpIn_ret ?_
 rw[hC]
 refine⟨by simp,.inl ⟨D,_,rfl,run_takeDeferred hD,?_⟩⟩
 refine⟨v,?_,hR _ (alP S)⟩
 have hz:=ha.sz
 have hd2:d2<n:=by simpa using zK
 simp only[Act.put]
 simp[results,hres]
 intro h
 omega
end
end InF
end Go.Proofs.YthppkofceancjaaGreat
namespace Go.Proofs.YthppkofceancjaaGreat
open Go.ChangeShapes Go.WideShapes Go.ChangeAt Go.RowKit
theorem dw:(Tryz.prog.info? 3).map (·.size)=some 1:=by kernel_rfl
theorem aL:Nat.blt 0 (Tryz.prog.cellsOf 3)=true:=by kernel_rfl
theorem aJ:∃i,Tryz.prog.info? 3=some i:=Option.isSome_iff_exists.1 (by kernel_rfl)
theorem nN:(Tryz.prog.info? 3).map (·.zero)=some (some (.int .i64 0)):=by kernel_rfl
theorem xH:(Tryz.prog.info? 4).map (·.size)=some 1:=by kernel_rfl
theorem rF:Nat.blt 0 (Tryz.prog.cellsOf 4)=true:=by kernel_rfl
theorem rh:∃i,Tryz.prog.info? 4=some i:=Option.isSome_iff_exists.1 (by kernel_rfl)
theorem Hi:(Tryz.prog.info? 4).map (·.zero)=some (some (.bool false)):=by kernel_rfl
theorem aq4:(Tryz.prog.info? 22).map (·.size)=some 1:=by kernel_rfl
theorem dV:Nat.blt 0 (Tryz.prog.cellsOf 22)=true:=by kernel_rfl
theorem dS:∃i,Tryz.prog.info? 22=some i:=Option.isSome_iff_exists.1 (by kernel_rfl)
theorem dM:(Tryz.prog.info? 24).map (·.size)=some 2:=by kernel_rfl
theorem lY:Nat.blt 0 (Tryz.prog.cellsOf 24)=true:=by kernel_rfl
theorem lN:∃i,Tryz.prog.info? 24=some i:=Option.isSome_iff_exists.1 (by kernel_rfl)
theorem aqF:(Tryz.prog.info? 24).map (·.zero)=some (some (.agg [.slice none 0 0,.int .i64 0].toArray)):=by kernel_rfl
theorem iz:(Tryz.prog.info? 26).map (·.size)=some 2:=by kernel_rfl
theorem y7:(Tryz.prog.info? 26).map (·.zero)=some (some (.agg [.int .i64 0,.bool false].toArray)):=by kernel_rfl
theorem Gd:p8 Tryz.prog 26 [(0,1),(1,1)] [.int .i64 0,.bool false]:=⟨_,gw,by kernel_rfl,⟨⟨rfl,by kernel_rfl⟩,⟨rfl,by kernel_rfl⟩,trivial⟩⟩
theorem LO:(Tryz.prog.info? 53).map (·.size)=some 1:=by kernel_rfl
theorem oO:Nat.blt 0 (Tryz.prog.cellsOf 53)=true:=by kernel_rfl
theorem oK:∃i,Tryz.prog.info? 53=some i:=Option.isSome_iff_exists.1 (by kernel_rfl)
theorem aqE:(Tryz.prog.info? 53).map (·.zero)=some (some (.slice none 0 0)):=by kernel_rfl
theorem xy:Nat.blt 0 (Tryz.prog.cellsOf 64)=true:=by kernel_rfl
theorem xk:∃i,Tryz.prog.info? 64=some i:=Option.isSome_iff_exists.1 (by kernel_rfl)
theorem aq3:(Tryz.prog.info? 65).map (·.size)=some 1:=by kernel_rfl
theorem aqD:(Tryz.prog.info? 65).map (·.zero)=some (some (.slice none 0 0)):=by kernel_rfl
theorem Gz:Nat.blt 0 (Tryz.prog.cellsOf 68)=true:=by kernel_rfl
theorem Gh:∃i,Tryz.prog.info? 68=some i:=Option.isSome_iff_exists.1 (by kernel_rfl)
theorem kT:(Tryz.prog.info? 77).map (·.size)=some 5:=by kernel_rfl
theorem y5:(Tryz.prog.info? 77).map (·.zero)=some (some (.agg [.int .i64 0,.int .i64 0,.int .i64 0,.int .i64 0,.bool false].toArray)):=by kernel_rfl
theorem za:(Tryz.prog.info? 97).map (·.size)=some 3:=by kernel_rfl
theorem ae4:(Tryz.prog.info? 97).map (·.zero)=some (some (.agg [.int .i64 0,.int .i64 0,.int .i64 0].toArray)):=by kernel_rfl
theorem zb:p8 Tryz.prog 97 [(0,1),(1,1),(2,1)] [.int .i64 0,.int .i64 0,.int .i64 0]:=⟨_,gH,by kernel_rfl,⟨⟨rfl,by kernel_rfl⟩,⟨rfl,by kernel_rfl⟩,⟨rfl,by kernel_rfl⟩,trivial⟩⟩
theorem aer:(Tryz.prog.info? 108).map (·.size)=some 2:=by kernel_rfl
theorem FR:p8 Tryz.prog 108 [(0,1),(1,1)] [.int .i64 0,.int .i64 0]:=⟨_,ux,by kernel_rfl,⟨⟨rfl,by kernel_rfl⟩,⟨rfl,by kernel_rfl⟩,trivial⟩⟩
theorem BM:(Tryz.prog.info? 116).map (·.size)=some 2:=by kernel_rfl
theorem KQ:(Tryz.prog.info? 116).map (·.zero)=some (some (.agg [.int .i64 0,.int .i64 0].toArray)):=by kernel_rfl
theorem aeu:p8 Tryz.prog 116 [(0,1),(1,1)] [.int .i64 0,.int .i64 0]:=⟨_,uw,by kernel_rfl,⟨⟨rfl,by kernel_rfl⟩,⟨rfl,by kernel_rfl⟩,trivial⟩⟩
theorem oC:(Tryz.prog.info? 120).map (·.size)=some 2:=by kernel_rfl
theorem FJ:(Tryz.prog.info? 120).map (·.zero)=some (some (.agg [.int .i64 0,.int .i64 0].toArray)):=by kernel_rfl
theorem KW:p8 Tryz.prog 120 [(0,1),(1,1)] [.int .i64 0,.int .i64 0]:=⟨_,iP,by kernel_rfl,⟨⟨rfl,by kernel_rfl⟩,⟨rfl,by kernel_rfl⟩,trivial⟩⟩
theorem aoU:(Tryz.prog.info? 127).map (·.size)=some 2:=by kernel_rfl
theorem FQ:p8 Tryz.prog 127 [(0,1),(1,1)] [.int .i64 0,.int .i64 0]:=⟨_,mC,by kernel_rfl,⟨⟨rfl,by kernel_rfl⟩,⟨rfl,by kernel_rfl⟩,trivial⟩⟩
theorem BL:(Tryz.prog.info? 128).map (·.size)=some 2:=by kernel_rfl
theorem BH:(Tryz.prog.info? 128).map (·.zero)=some (some (.agg [.int .i64 0,.int .i64 0].toArray)):=by kernel_rfl
theorem aoT:(Tryz.prog.info? 166).map (·.size)=some 1:=by kernel_rfl
theorem xe:Nat.blt 0 (Tryz.prog.cellsOf 166)=true:=by kernel_rfl
theorem wK:∃i,Tryz.prog.info? 166=some i:=Option.isSome_iff_exists.1 (by kernel_rfl)
theorem aoW:p8 Tryz.prog 168 [(0,1),(1,1)] [.pointer none,.slice none 0 0]:=⟨_,lG,by kernel_rfl,⟨⟨rfl,by kernel_rfl⟩,⟨rfl,by kernel_rfl⟩,trivial⟩⟩
theorem qI:(Tryz.prog.info? 170).map (·.size)=some 2:=by kernel_rfl
theorem yP:(Tryz.prog.info? 170).map (·.zero)=some (some (.agg [.slice none 0 0,.slice none 0 0].toArray)):=by kernel_rfl
theorem aoV:p8 Tryz.prog 170 [(0,1),(1,1)] [.slice none 0 0,.slice none 0 0]:=⟨_,ko,by kernel_rfl,⟨⟨rfl,by kernel_rfl⟩,⟨rfl,by kernel_rfl⟩,trivial⟩⟩
theorem gY:(Tryz.prog.info? 176).map (·.size)=some 2:=by kernel_rfl
theorem yO:(Tryz.prog.info? 176).map (·.zero)=some (some (.agg [.int .i64 0,.int .i64 0].toArray)):=by kernel_rfl
theorem aet:p8 Tryz.prog 176 [(0,1),(1,1)] [.int .i64 0,.int .i64 0]:=⟨_,dZ,by kernel_rfl,⟨⟨rfl,by kernel_rfl⟩,⟨rfl,by kernel_rfl⟩,trivial⟩⟩
theorem ad9:(Tryz.prog.info? 177).map (·.zero)=some (some (.slice none 0 0)):=by kernel_rfl
theorem aoK:(Tryz.prog.info? 180).map (·.zero)=some (some (.map none)):=by kernel_rfl
theorem kQ:(Tryz.prog.info? 190).map (·.size)=some 2:=by kernel_rfl
theorem FI:(Tryz.prog.info? 190).map (·.zero)=some (some (.agg [.int .i64 0,.int .i64 0].toArray)):=by kernel_rfl
theorem aes:p8 Tryz.prog 190 [(0,1),(1,1)] [.int .i64 0,.int .i64 0]:=⟨_,iZ,by kernel_rfl,⟨⟨rfl,by kernel_rfl⟩,⟨rfl,by kernel_rfl⟩,trivial⟩⟩
theorem aoS:(Tryz.prog.info? 192).map (·.size)=some 1:=by kernel_rfl
theorem aoJ:(Tryz.prog.info? 192).map (·.zero)=some (some (.map none)):=by kernel_rfl
theorem aoI:(Tryz.prog.info? 208).map (·.zero)=some (some (.agg [.int .i64 0,.int .i64 0,.int .i64 0,.int .i64 0].toArray)):=by kernel_rfl
theorem aoH:(Tryz.prog.info? 249).map (·.zero)=some (some (.agg [.bool false,.bool false].toArray)):=by kernel_rfl
theorem VN:∀args w,(callFunc 9 args).run Tryz.prog w=.ok (.enter 9 args) w:=Um (c:=Tryz.f9.body.getD .skip) Tryz.func9 (by decide) rfl
theorem afX:∀args w,(callFunc 18 args).run Tryz.prog w=.ok (.enter 18 args) w:=Um (c:=Tryz.f18.body.getD .skip) Tryz.func18 (by decide) rfl
theorem asT:∀args w,(callFunc 19 args).run Tryz.prog w=.ok (.enter 19 args) w:=Um (c:=Tryz.f19.body.getD .skip) Tryz.func19 (by decide) rfl
theorem asS:∀args w,(callFunc 21 args).run Tryz.prog w=.ok (.enter 21 args) w:=Um (c:=Tryz.f21.body.getD .skip) Tryz.func21 (by decide) rfl
theorem afW:∀args w,(callFunc 23 args).run Tryz.prog w=.ok (.enter 23 args) w:=Um (c:=Tryz.f23.body.getD .skip) Tryz.func23 (by decide) rfl
theorem afV:∀args w,(callFunc 24 args).run Tryz.prog w=.ok (.enter 24 args) w:=Um (c:=Tryz.f24.body.getD .skip) Tryz.func24 (by decide) rfl
theorem afU:∀args w,(callFunc 25 args).run Tryz.prog w=.ok (.enter 25 args) w:=Um (c:=Tryz.f25.body.getD .skip) Tryz.func25 (by decide) rfl
theorem afT:∀args w,(callFunc 26 args).run Tryz.prog w=.ok (.enter 26 args) w:=Um (c:=Tryz.f26.body.getD .skip) Tryz.func26 (by decide) rfl
theorem asR:∀args w,(callFunc 27 args).run Tryz.prog w=.ok (.enter 27 args) w:=Um (c:=Tryz.f27.body.getD .skip) Tryz.func27 (by decide) rfl
theorem asQ:∀args w,(callFunc 31 args).run Tryz.prog w=.ok (.enter 31 args) w:=Um (c:=Tryz.f31.body.getD .skip) Tryz.func31 (by decide) rfl
theorem asP:∀args w,(callFunc 32 args).run Tryz.prog w=.ok (.enter 32 args) w:=Um (c:=Tryz.f32.body.getD .skip) Tryz.func32 (by decide) rfl
theorem asO:∀args w,(callFunc 48 args).run Tryz.prog w=.ok (.enter 48 args) w:=Um (c:=Tryz.f48.body.getD .skip) Tryz.func48 (by decide) rfl
theorem asN:∀args w,(callFunc 49 args).run Tryz.prog w=.ok (.enter 49 args) w:=Um (c:=Tryz.f49.body.getD .skip) Tryz.func49 (by decide) rfl
theorem My:∀args w,(callFunc 52 args).run Tryz.prog w=.ok (.enter 52 args) w:=Um (c:=Tryz.f52.body.getD .skip) Tryz.func52 (by decide) rfl
theorem afS:∀args w,(callFunc 55 args).run Tryz.prog w=.ok (.enter 55 args) w:=Um (c:=Tryz.f55.body.getD .skip) Tryz.func55 (by decide) rfl
theorem asM:∀args w,(callFunc 56 args).run Tryz.prog w=.ok (.enter 56 args) w:=Um (c:=Tryz.f56.body.getD .skip) Tryz.func56 (by decide) rfl
theorem asL:∀args w,(callFunc 57 args).run Tryz.prog w=.ok (.enter 57 args) w:=Um (c:=Tryz.f57.body.getD .skip) Tryz.func57 (by decide) rfl
theorem asK:∀args w,(callFunc 58 args).run Tryz.prog w=.ok (.enter 58 args) w:=Um (c:=Tryz.f58.body.getD .skip) Tryz.func58 (by decide) rfl
theorem Gy:∀args w,(callFunc 60 args).run Tryz.prog w=.ok (.enter 60 args) w:=Um (c:=Tryz.f60.body.getD .skip) Tryz.func60 (by decide) rfl
theorem asJ:∀args w,(callFunc 61 args).run Tryz.prog w=.ok (.enter 61 args) w:=Um (c:=Tryz.f61.body.getD .skip) Tryz.func61 (by decide) rfl
theorem asI:∀args w,(callFunc 62 args).run Tryz.prog w=.ok (.enter 62 args) w:=Um (c:=Tryz.f62.body.getD .skip) Tryz.func62 (by decide) rfl
theorem asH:∀args w,(callFunc 63 args).run Tryz.prog w=.ok (.enter 63 args) w:=Um (c:=Tryz.f63.body.getD .skip) Tryz.func63 (by decide) rfl
theorem asG:∀args w,(callFunc 64 args).run Tryz.prog w=.ok (.enter 64 args) w:=Um (c:=Tryz.f64.body.getD .skip) Tryz.func64 (by decide) rfl
theorem asF:∀args w,(callFunc 65 args).run Tryz.prog w=.ok (.enter 65 args) w:=Um (c:=Tryz.f65.body.getD .skip) Tryz.func65 (by decide) rfl
theorem asE:∀args w,(callFunc 66 args).run Tryz.prog w=.ok (.enter 66 args) w:=Um (c:=Tryz.f66.body.getD .skip) Tryz.func66 (by decide) rfl
theorem afR:∀args w,(callFunc 72 args).run Tryz.prog w=.ok (.enter 72 args) w:=Um (c:=Tryz.f72.body.getD .skip) Tryz.func72 (by decide) rfl
theorem afQ:∀args w,(callFunc 73 args).run Tryz.prog w=.ok (.enter 73 args) w:=Um (c:=Tryz.f73.body.getD .skip) Tryz.func73 (by decide) rfl
theorem asD:∀args w,(callFunc 74 args).run Tryz.prog w=.ok (.enter 74 args) w:=Um (c:=Tryz.f74.body.getD .skip) Tryz.func74 (by decide) rfl
theorem asC:∀args w,(callFunc 82 args).run Tryz.prog w=.ok (.enter 82 args) w:=Um (c:=Tryz.f82.body.getD .skip) Tryz.func82 (by decide) rfl
theorem asB:∀args w,(callFunc 93 args).run Tryz.prog w=.ok (.enter 93 args) w:=Um (c:=Tryz.f93.body.getD .skip) Tryz.func93 (by decide) rfl
theorem asA:∀args w,(callFunc 94 args).run Tryz.prog w=.ok (.enter 94 args) w:=Um (c:=Tryz.f94.body.getD .skip) Tryz.func94 (by decide) rfl
theorem asz:∀args w,(callFunc 96 args).run Tryz.prog w=.ok (.enter 96 args) w:=Um (c:=Tryz.f96.body.getD .skip) Tryz.func96 (by decide) rfl
theorem afP:∀args w,(callFunc 97 args).run Tryz.prog w=.ok (.enter 97 args) w:=Um (c:=Tryz.f97.body.getD .skip) Tryz.func97 (by decide) rfl
theorem Gx:∀args w,(callFunc 98 args).run Tryz.prog w=.ok (.enter 98 args) w:=Um (c:=Tryz.f98.body.getD .skip) Tryz.func98 (by decide) rfl
theorem asy:∀args w,(callFunc 99 args).run Tryz.prog w=.ok (.enter 99 args) w:=Um (c:=Tryz.f99.body.getD .skip) Tryz.func99 (by decide) rfl
theorem aqs:∀args w,(callFunc 100 args).run Tryz.prog w=.ok (.enter 100 args) w:=Um (c:=Tryz.f100.body.getD .skip) Tryz.func100 (by decide) rfl
theorem LA:∀args w,(callFunc 103 args).run Tryz.prog w=.ok (.enter 103 args) w:=Um (c:=Tryz.f103.body.getD .skip) Tryz.func103 (by decide) rfl
theorem Lz:∀args w,(callFunc 104 args).run Tryz.prog w=.ok (.enter 104 args) w:=Um (c:=Tryz.f104.body.getD .skip) Tryz.func104 (by decide) rfl
theorem aqr:∀args w,(callFunc 105 args).run Tryz.prog w=.ok (.enter 105 args) w:=Um (c:=Tryz.f105.body.getD .skip) Tryz.func105 (by decide) rfl
theorem aeY:∀args w,(callFunc 106 args).run Tryz.prog w=.ok (.enter 106 args) w:=Um (c:=Tryz.f106.body.getD .skip) Tryz.func106 (by decide) rfl
theorem aqq:∀args w,(callFunc 107 args).run Tryz.prog w=.ok (.enter 107 args) w:=Um (c:=Tryz.f107.body.getD .skip) Tryz.func107 (by decide) rfl
theorem aqp:∀args w,(callFunc 108 args).run Tryz.prog w=.ok (.enter 108 args) w:=Um (c:=Tryz.f108.body.getD .skip) Tryz.func108 (by decide) rfl
theorem aeX:∀args w,(callFunc 111 args).run Tryz.prog w=.ok (.enter 111 args) w:=Um (c:=Tryz.f111.body.getD .skip) Tryz.func111 (by decide) rfl
theorem aqo:∀args w,(callFunc 115 args).run Tryz.prog w=.ok (.enter 115 args) w:=Um (c:=Tryz.f115.body.getD .skip) Tryz.func115 (by decide) rfl
theorem aeW:∀args w,(callFunc 129 args).run Tryz.prog w=.ok (.enter 129 args) w:=Um (c:=Tryz.f129.body.getD .skip) Tryz.func129 (by decide) rfl
theorem aeV:∀args w,(callFunc 130 args).run Tryz.prog w=.ok (.enter 130 args) w:=Um (c:=Tryz.f130.body.getD .skip) Tryz.func130 (by decide) rfl
theorem aqn:∀args w,(callFunc 131 args).run Tryz.prog w=.ok (.enter 131 args) w:=Um (c:=Tryz.f131.body.getD .skip) Tryz.func131 (by decide) rfl
theorem aeU:∀args w,(callFunc 133 args).run Tryz.prog w=.ok (.enter 133 args) w:=Um (c:=Tryz.f133.body.getD .skip) Tryz.func133 (by decide) rfl
theorem aeT:∀args w,(callFunc 142 args).run Tryz.prog w=.ok (.enter 142 args) w:=Um (c:=Tryz.f142.body.getD .skip) Tryz.func142 (by decide) rfl
theorem aeS:∀args w,(callFunc 143 args).run Tryz.prog w=.ok (.enter 143 args) w:=Um (c:=Tryz.f143.body.getD .skip) Tryz.func143 (by decide) rfl
theorem aqm:∀args w,(callFunc 144 args).run Tryz.prog w=.ok (.enter 144 args) w:=Um (c:=Tryz.f144.body.getD .skip) Tryz.func144 (by decide) rfl
theorem F7:∀args w,(callFunc 145 args).run Tryz.prog w=.ok (.enter 145 args) w:=Um (c:=Tryz.f145.body.getD .skip) Tryz.func145 (by decide) rfl
theorem aeR:∀args w,(callFunc 146 args).run Tryz.prog w=.ok (.enter 146 args) w:=Um (c:=Tryz.f146.body.getD .skip) Tryz.func146 (by decide) rfl
theorem F6:∀args w,(callFunc 147 args).run Tryz.prog w=.ok (.enter 147 args) w:=Um (c:=Tryz.f147.body.getD .skip) Tryz.func147 (by decide) rfl
theorem uG:∀args w,(callFunc 148 args).run Tryz.prog w=.ok (.enter 148 args) w:=Um (c:=Tryz.f148.body.getD .skip) Tryz.func148 (by decide) rfl
theorem aeQ:∀args w,(callFunc 149 args).run Tryz.prog w=.ok (.enter 149 args) w:=Um (c:=Tryz.f149.body.getD .skip) Tryz.func149 (by decide) rfl
theorem aql:∀args w,(callFunc 150 args).run Tryz.prog w=.ok (.enter 150 args) w:=Um (c:=Tryz.f150.body.getD .skip) Tryz.func150 (by decide) rfl
theorem aqk:∀args w,(callFunc 151 args).run Tryz.prog w=.ok (.enter 151 args) w:=Um (c:=Tryz.f151.body.getD .skip) Tryz.func151 (by decide) rfl
theorem F5:∀args w,(callFunc 162 args).run Tryz.prog w=.ok (.enter 162 args) w:=Um (c:=Tryz.f162.body.getD .skip) Tryz.func162 (by decide) rfl
theorem aqj:∀args w,(callFunc 163 args).run Tryz.prog w=.ok (.enter 163 args) w:=Um (c:=Tryz.f163.body.getD .skip) Tryz.func163 (by decide) rfl
theorem aqi:∀args w,(callFunc 164 args).run Tryz.prog w=.ok (.enter 164 args) w:=Um (c:=Tryz.f164.body.getD .skip) Tryz.func164 (by decide) rfl
theorem aqh:∀args w,(callFunc 170 args).run Tryz.prog w=.ok (.enter 170 args) w:=Um (c:=Tryz.f170.body.getD .skip) Tryz.func170 (by decide) rfl
theorem aeP:∀args w,(callFunc 182 args).run Tryz.prog w=.ok (.enter 182 args) w:=Um (c:=Tryz.f182.body.getD .skip) Tryz.func182 (by decide) rfl
theorem aqg:∀args w,(callFunc 185 args).run Tryz.prog w=.ok (.enter 185 args) w:=Um (c:=Tryz.f185.body.getD .skip) Tryz.func185 (by decide) rfl
theorem aqf:∀args w,(callFunc 186 args).run Tryz.prog w=.ok (.enter 186 args) w:=Um (c:=Tryz.f186.body.getD .skip) Tryz.func186 (by decide) rfl
end Go.Proofs.YthppkofceancjaaGreat
namespace Go.Proofs.YthppkofceancjaaGreat
open Go.ChangeShapes Go.WideShapes Go.ChangeAt Go.RowKit
theorem mS:kW Tryz.prog 3 (Value.int .i64):=akk aw
theorem ara:uR Tryz.prog 26 [(0,false),(1,true)]:=⟨[_,_],gw,⟨⟨by kernel_rfl,rfl,⟨_,aw⟩⟩,⟨by kernel_rfl,rfl,gD⟩,trivial⟩,by kernel_rfl,by kernel_rfl⟩
theorem aq9:uR Tryz.prog 97 [(0,false),(1,false),(2,false)]:=⟨[_,_,_],gH,⟨⟨by kernel_rfl,rfl,⟨_,aw⟩⟩,⟨by kernel_rfl,rfl,⟨_,aw⟩⟩,⟨by kernel_rfl,rfl,⟨_,aw⟩⟩,trivial⟩,by kernel_rfl,by kernel_rfl⟩
theorem ao0:uR Tryz.prog 108 [(0,false),(1,false)]:=⟨[_,_],ux,⟨⟨by kernel_rfl,rfl,⟨_,aw⟩⟩,⟨by kernel_rfl,rfl,⟨_,aw⟩⟩,trivial⟩,by kernel_rfl,by kernel_rfl⟩
theorem aoZ:uR Tryz.prog 116 [(0,false),(1,false)]:=⟨[_,_],uw,⟨⟨by kernel_rfl,rfl,⟨_,aw⟩⟩,⟨by kernel_rfl,rfl,⟨_,aw⟩⟩,trivial⟩,by kernel_rfl,by kernel_rfl⟩
theorem ae0:UD Tryz.prog 128:=⟨_,_,ja,aw,rfl,by kernel_rfl,by kernel_rfl⟩
theorem aoY:uR Tryz.prog 176 [(0,false),(1,false)]:=⟨[_,_],dZ,⟨⟨by kernel_rfl,rfl,⟨_,aw⟩⟩,⟨by kernel_rfl,rfl,⟨_,aw⟩⟩,trivial⟩,by kernel_rfl,by kernel_rfl⟩
theorem aS:fN Tryz.prog 53 Uh:=⟨.int .i64 0,cI,by kernel_rfl,rfl,by decide,by decide⟩
theorem xh:fN Tryz.prog 65 (ck 141):=⟨.slice none 0 0,Cf,by kernel_rfl,rfl,by decide,by decide⟩
theorem FU:fN Tryz.prog 103 (ck 53):=⟨.slice none 0 0,FP,by kernel_rfl,rfl,by decide,by decide⟩
theorem pT:fN Tryz.prog 129 (ck 130):=⟨.slice none 0 0,aoP,by kernel_rfl,rfl,by decide,by decide⟩
theorem jK:fN Tryz.prog 130 cS:=⟨.bool false,uv,by kernel_rfl,rfl,by decide,by decide⟩
end Go.Proofs.YthppkofceancjaaGreat
namespace Go.Proofs.YthppkofceancjaaGreat
open Go.ChangeShapes Go.WideShapes Go.ChangeAt Go.RowKit
def md(x:Int):Int:=x%18446744073709551616
theorem FK{x y:Int}:wr x=wr y<->md x=md y:=by unfold wr md;rw[IntKind.wrap_i64,IntKind.wrap_i64];omega
theorem BQ(x:Int):md (wr x)=md x:=by unfold wr md;rw[IntKind.wrap_i64];omega
theorem AH(x:Int):wr (wr x)=wr x:=FK.2 (BQ x)
theorem Bl{a b c d:Int}(h:md a=md b)(k:md c=md d):md (a+c)=md (b+d):=by
 unfold md at*;omega
theorem anq{a b:Int}(h:md a=md b):md (-a)=md (-b):=by
 unfold md at*;omega
theorem adN{a b c d:Int}(h:md a=md b)(k:md c=md d):md (a*c)=md (b*d):=by
 unfold md at*
 rw[Int.mul_emod,h,k,<-Int.mul_emod]
theorem akh{x:Int}(h:wr x=x)(k:md x=0):x=0:=by
 have h1:wr x=wr 0:=FK.2 (by rw[k];rfl)
 rw[h]at h1
 rw[h1]
 exact pP (by omega)
theorem ace(x y:Int):wr (x+wr y)=wr (x+y):=FK.2 (Bl rfl (BQ y))
abbrev fc:=List (Int×Int)
def ev:fc->(Int->Int)->Int
 |[],_=>0
 |p::r,φ=>p.2*φ (wr p.1)+ev r φ
theorem xX(P Q:fc)(φ:Int->Int):ev (P++Q) φ=ev P φ+ev Q φ:=by
 induction P with
 |nil=>simp[ev]
 |cons p P ih=>simp only[List.cons_append,ev,ih];omega
theorem adV(P:fc)(φ ψ:Int->Int):ev P (fun x=>φ x+ψ x)=ev P φ+ev P ψ:=by
 induction P with
 |nil=>rfl
 |cons p P ih=>simp only[ev,ih,Int.mul_add];omega
theorem al7(P:fc):ev P (fun _=>0)=0:=by
 induction P with
 |nil=>rfl
 |cons p P ih=>simp only[ev,ih];omega
theorem adT(P:fc)(c:Int)(φ:Int->Int):ev P (fun x=>c*φ x)=c*ev P φ:=by
 induction P with
 |nil=>simp[ev]
 |cons p P ih=>simp only[ev,ih,Int.mul_add,Int.mul_left_comm]
theorem al8(P Q:fc)(ψ:Int->Int->Int):ev P (fun x=>ev Q (ψ x))=ev Q (fun y=>ev P (fun x=>ψ x y)):=by
 induction P with
 |nil=>simp only[ev];rw[al7]
 |cons p P ih=>simp only[ev];rw[ih,adV,adT]
theorem al9(P:fc){φ ψ:Int->Int}(h:∀x,md (φ x)=md (ψ x)):md (ev P φ)=md (ev P ψ):=by
 induction P with
 |nil=>rfl
 |cons p P ih=>exact Bl (adN rfl (h _)) ih
theorem adU(P:fc)(f:Int×Int->Int×Int)(c:Int)(g:Int->Int)(hf:∀p,(f p).2=p.2*c)(hg:∀p:Int×Int,wr (f p).1=g (wr p.1))(φ:Int->Int):ev (P.map f) φ=c*ev P (fun x=>φ (g x)):=by
 induction P with
 |nil=>simp[ev]
 |cons p P ih=>simp only[List.map_cons,ev,ih,hf,hg,Int.mul_add];rw[Int.mul_comm p.2 c,Int.mul_assoc]
def cf(P:fc)(k:Int):Int:=ev P (fun x=>if x=k then 1 else 0)
theorem ac4(p:Int×Int)(P:fc)(k:Int):cf (p::P) k=(if wr p.1=k then p.2 else 0)+cf P k:=by
 unfold cf;simp only[ev];split<;>simp
def eqv(P Q:fc):Prop:=∀φ,md (ev P φ)=md (ev Q φ)
theorem eqv.refl(P:fc):eqv P P:=fun _=>rfl
theorem eqv.symm{P Q:fc}(h:eqv P Q):eqv Q P:=fun φ=>(h φ).symm
theorem eqv.trans{P Q R:fc}(h:eqv P Q)(k:eqv Q R):eqv P R:=fun φ=>(h φ).trans (k φ)
def ze(P:fc):fc:=P.map fun p=>(p.1,-p.2)
theorem E9(P:fc)(φ:Int->Int):ev (ze P) φ=-ev P φ:=by
 have:=adU P (fun p=>(p.1,-p.2)) (-1) id (fun p=>by simp only;omega) (fun p=>rfl) φ
 unfold ze
 rw[this]
 show -1*ev P φ=_
 omega
def BO(P Q:fc):fc:=P.flatMap fun p=>Q.map fun q=>(p.1+q.1,p.2*q.2)
theorem tM(P Q:fc)(φ:Int->Int):ev (BO P Q) φ=ev P (fun x=>ev Q (fun y=>φ (wr (x+y)))):=by
 induction P with
 |nil=>rfl
 |cons p P ih=>
  have e:∀Q:fc,ev (Q.map fun q=>(p.1+q.1,p.2*q.2)) φ=p.2*ev Q (fun y=>φ (wr (wr p.1+y))):=fun Q=>by
   have:=adU Q (fun q=>(p.1+q.1,p.2*q.2)) p.2 (fun y=>wr (wr p.1+y)) (fun q=>Int.mul_comm _ _) (fun q=>by simp only;rw[ace,aea]) φ
   exact this
  show ev ((Q.map fun q=>(p.1+q.1,p.2*q.2))++BO P Q) φ=_
  rw[xX,ih,e]
  rfl
theorem aiO{P P' Q Q':fc}(h:eqv P P')(k:eqv Q Q'):eqv (P++Q) (P'++Q'):=fun φ=>by
 rw[xX,xX];exact Bl (h φ) (k φ)
theorem akz{P P' Q Q':fc}(h:eqv P P')(k:eqv Q Q'):eqv (BO P Q) (BO P' Q'):=fun φ=>by
 rw[tM,tM]
 exact(h _).trans (al9 _ fun x=>k _)
theorem amc{P P':fc}(h:eqv P P'):eqv (ze P) (ze P'):=fun φ=>by
 rw[E9,E9];exact anq (h φ)
def qQ:Setoid fc:=⟨eqv,eqv.refl,eqv.symm,eqv.trans⟩
def aC:=Quotient qQ
def mk(P:fc):aC:=Quotient.mk qQ P
theorem mk_eq{P Q:fc}(h:eqv P Q):mk P=mk Q:=Quotient.sound (s:=qQ) h
theorem ani{P Q:fc}(h:mk P=mk Q):eqv P Q:=Quotient.exact (s:=qQ) h
theorem aC.ind{p:aC->Prop}(h:∀P,p (mk P))(x:aC):p x:=Quotient.ind (s:=qQ) h x
def aC.add(x y:aC):aC:=Quotient.liftOn₂ (s₁:=qQ) (s₂:=qQ) x y (fun P Q=>mk (P++Q)) fun _ _ _ _ h k=>mk_eq (aiO h k)
def aC.mul(x y:aC):aC:=Quotient.liftOn₂ (s₁:=qQ) (s₂:=qQ) x y (fun P Q=>mk (BO P Q)) fun _ _ _ _ h k=>mk_eq (akz h k)
def aC.neg(x:aC):aC:=Quotient.liftOn (s:=qQ) x (fun P=>mk (ze P)) fun _ _ h=>mk_eq (amc h)
instance :Add aC:=⟨aC.add⟩
instance :Mul aC:=⟨aC.mul⟩
instance :Neg aC:=⟨aC.neg⟩
def aC.o:aC:=mk []
def aC.i:aC:=mk [(0,1)]
def mono(e c:Int):aC:=mk [(e,c)]
theorem ue(p:Int×Int)(P:fc):mk (p::P)=mono p.1 p.2+mk P:=rfl
theorem aC.add_comm(x y:aC):x+y=y+x:=by
 induction x using aC.ind with|_ P=>
 induction y using aC.ind with|_ Q=>
 exact mk_eq fun φ=>by rw[xX,xX,Int.add_comm]
theorem aC.add_assoc(x y z:aC):x+y+z=x+(y+z):=by
 induction x using aC.ind with|_ P=>
 induction y using aC.ind with|_ Q=>
 induction z using aC.ind with|_ R=>
 exact mk_eq fun φ=>by simp only[xX,Int.add_assoc]
theorem aC.add_zero(x:aC):x+aC.o=x:=by
 induction x using aC.ind with|_ P=>
 exact mk_eq fun φ=>by rw[List.append_nil]
theorem aC.zero_add(x:aC):aC.o+x=x:=by rw[aC.add_comm,aC.add_zero]
theorem aC.mul_comm(x y:aC):x*y=y*x:=by
 induction x using aC.ind with|_ P=>
 induction y using aC.ind with|_ Q=>
 exact mk_eq fun φ=>by rw[tM,tM,al8];simp only[Int.add_comm]
theorem aC.mul_assoc(x y z:aC):x*y*z=x*(y*z):=by
 induction x using aC.ind with|_ P=>
 induction y using aC.ind with|_ Q=>
 induction z using aC.ind with|_ R=>
 exact mk_eq fun φ=>by simp only[tM,aea,ace,Int.add_assoc]
theorem aC.mul_add(x y z:aC):x*(y+z)=x*y+x*z:=by
 induction x using aC.ind with|_ P=>
 induction y using aC.ind with|_ Q=>
 induction z using aC.ind with|_ R=>
 exact mk_eq fun φ=>by simp only[tM,xX,adV]
theorem aC.add_mul(x y z:aC):(x+y)*z=x*z+y*z:=by rw[aC.mul_comm,aC.mul_add,aC.mul_comm z x,aC.mul_comm z y]
theorem aC.mul_neg(x y:aC):x*-y=-(x*y):=by
 induction x using aC.ind with|_ P=>
 induction y using aC.ind with|_ Q=>
 refine mk_eq fun φ=>?_
 rw[E9,tM,tM]
 have e:(fun x=>ev (ze Q) (fun y=>φ (wr (x+y))))=fun x=>-1*ev Q (fun y=>φ (wr (x+y))):=by funext x;rw[E9];omega
 rw[e,adT];congr 1;omega
theorem aC.mul_one(x:aC):x*aC.i=x:=by
 induction x using aC.ind with|_ P=>
 refine mk_eq fun φ=>?_
 rw[tM]
 have e:∀Q:fc,ev Q (fun x=>ev [(0,1)] (fun y=>φ (wr (x+y))))=ev Q φ:=by
  intro Q
  induction Q with
  |nil=>rfl
  |cons q Q ih=>
   have h0:wr 0=0:=pP (by omega)
   show q.2*(1*φ (wr (wr q.1+wr 0))+0)+_=q.2*φ (wr q.1)+_
   rw[h0,show wr (wr q.1+0)=wr q.1 from by rw[Int.add_zero,AH],ih,Int.one_mul,Int.add_zero]
 rw[e]
theorem aC.one_mul(x:aC):aC.i*x=x:=by rw[aC.mul_comm,aC.mul_one]
instance :Std.Associative (α:=aC) (·+·):=⟨aC.add_assoc⟩
instance :Std.Commutative (α:=aC) (·+·):=⟨aC.add_comm⟩
instance :Std.Associative (α:=aC) (·*·):=⟨aC.mul_assoc⟩
instance :Std.Commutative (α:=aC) (·*·):=⟨aC.mul_comm⟩
theorem Ew{e e' c c':Int}(he:wr e=wr e')(hc:md c=md c'):mono e c=mono e' c':=mk_eq fun φ=>by
 show md (c*φ (wr e)+0)=md (c'*φ (wr e')+0)
 rw[he]
 exact Bl (adN hc rfl) rfl
theorem Aj(e:Int):mono e 0=aC.o:=mk_eq fun φ=>by simp[ev]
theorem Ja(e c d:Int):mono e (c+d)=mono e c+mono e d:=mk_eq fun φ=>by
 show md ((c+d)*φ (wr e)+0)=md (c*φ (wr e)+(d*φ (wr e)+0))
 rw[Int.add_mul];congr 1;omega
theorem alH{P Q:fc}(h:P.Perm Q):mk P=mk Q:=by
 induction h with
 |nil=>rfl
 |cons x _ ih=>rw[ue,ue,ih]
 |swap x y l=>simp only[ue];rw[<-aC.add_assoc,<-aC.add_assoc,aC.add_comm (mono y.1 y.2)]
 |trans _ _ h1 h2=>exact h1.trans h2
structure Tm where
 e:Int
 c:Int
instance :Inhabited Tm:=⟨⟨0,0⟩⟩
def pr(l:List Tm):fc:=l.map fun t=>(t.e,t.c)
def Can(l:List Tm):Prop:=l.Pairwise (fun s t=>s.e<t.e)/\∀t∈l,t.c≠0/\wr t.c=t.c/\wr t.e=t.e
theorem Can.bN:Can []:=⟨List.Pairwise.nil,by simp⟩
theorem Can.tail{t:Tm}{l:List Tm}(h:Can (t::l)):Can l:=⟨(List.pairwise_cons.1 h.1).2,fun s hs=>h.2 s (by simp[hs])⟩
theorem aaB{l:List Tm}(h:∀t∈l,wr t.e=t.e){k:Int}(hk:∀t∈l,t.e≠k):cf (pr l) k=0:=by
 induction l with
 |nil=>rfl
 |cons t l ih=>
  rw[show pr (t::l)=(t.e,t.c)::pr l from rfl,ac4,ih (fun s hs=>h s (by simp[hs])) (fun s hs=>hk s (by simp[hs]))]
  simp only[h t (by simp)]
  rw[if_neg (hk t (by simp))];rfl
theorem ad3{l:List Tm}(h:Can l){t:Tm}(ht:t∈l):cf (pr l) t.e=t.c:=by
 induction l with
 |nil=>simp at ht
 |cons s l ih=>
  rw[show pr (s::l)=(s.e,s.c)::pr l from rfl,ac4]
  simp only[(h.2 s (by simp)).2.2]
  have hs:=(List.pairwise_cons.1 h.1).1
  rcases List.mem_cons.1 ht with rfl|ht
  ·rw[if_pos rfl,aaB (fun u hu=>(h.2 u (by simp[hu])).2.2) (fun u hu e=>by have:=hs u hu;omega)];omega
  ·rw[if_neg (fun e=>by have:=hs t ht;omega),ih h.tail ht];omega
theorem amr{l:List Tm}(h:Can l){k:Int}(hk:cf (pr l) k≠0):(⟨k,cf (pr l) k⟩:Tm)∈l:=by
 by_cases he:∃t∈l,t.e=k
 ·obtain⟨t,ht,rfl⟩:=he
  rw[ad3 h ht];exact ht
 ·exact absurd (aaB (fun u hu=>(h.2 u hu).2.2) (fun t ht e=>he ⟨t,ht,e⟩)) hk
theorem ac5{a b:List Tm}(ha:Can a)(hb:Can b)(h:mk (pr a)=mk (pr b)){t:Tm}(ht:t∈a):t∈b:=by
 have h1:=ad3 ha ht
 have h2:md (cf (pr a) t.e)=md (cf (pr b) t.e):=ani h _
 obtain⟨c1,c2,c3⟩:=ha.2 t ht
 rw[h1]at h2
 have hne:cf (pr b) t.e≠0:=fun e0=>c1 (akh c2 (by rw[h2,e0];rfl))
 have hm:=amr hb hne
 have h3:cf (pr b) t.e=t.c:=by
  have:=(hb.2 _ hm).2.1
  have h4:wr (cf (pr b) t.e)=wr t.c:=FK.2 h2.symm
  exact this.symm.trans (h4.trans c2)
 rw[h3]at hm
 exact hm
theorem aam:∀{a b:List Tm},a.Pairwise (fun s t=>s.e<t.e)->b.Pairwise (fun s t=>s.e<t.e)->(∀t,t∈a<->t∈b)->a=b
 |[],[],_,_,_=>rfl
 |[],t::b,_,_,h=>by have:=(h t).2 (by simp);simp at this
 |t::a,[],_,_,h=>by have:=(h t).1 (by simp);simp at this
 |s::a,t::b,ha,hb,h=>by
  obtain⟨a1,a2⟩:=List.pairwise_cons.1 ha
  obtain⟨b1,b2⟩:=List.pairwise_cons.1 hb
  have hst:s=t:=by
   have h1:=(h s).1 (by simp)
   have h2:=(h t).2 (by simp)
   rcases List.mem_cons.1 h1 with e|h1
   ·exact e
   ·rcases List.mem_cons.1 h2 with e|h2
    ·exact e.symm
    ·have:=a1 t h2;have:=b1 s h1;omega
  subst hst
  refine congrArg _ (aam a2 b2 fun u=>⟨fun hu=>?_,fun hu=>?_⟩)
  ·rcases List.mem_cons.1 ((h u).1 (by simp[hu]))with e|h1
   ·subst e;have:=a1 u hu;omega
   ·exact h1
  ·rcases List.mem_cons.1 ((h u).2 (by simp[hu]))with e|h1
   ·subst e;have:=b1 u hu;omega
   ·exact h1
theorem ac6{a b:List Tm}(ha:Can a)(hb:Can b)(h:mk (pr a)=mk (pr b)):a=b:=
 aam ha.1 hb.1 fun _=>⟨ac5 ha hb h,ac5 hb ha h.symm⟩
def put:List Tm->Int->Int->List Tm
 |[],e,c=>if c=0 then[]else[⟨e,c⟩]
 |t::l,e,c=>if c=0 then t::l else if t.e<e then t::put l e c else if t.e=e then(if wr (t.c+c)=0 then l else⟨e,wr (t.c+c)⟩::l)else⟨e,c⟩::t::l
theorem aj4(l:List Tm)(e:Int):put l e 0=l:=by cases l<;>simp[put]
theorem J6(l:List Tm)(e c:Int):mk (pr (put l e c))=mk (pr l)+mono e c:=by
 induction l with
 |nil=>
  unfold put
  split
  ·rename_i h;subst h;rw[Aj,aC.add_zero]
  ·show mono e c+aC.o=aC.o+mono e c
   rw[aC.add_comm]
 |cons t l ih=>
  unfold put
  split
  ·rename_i h;subst h;rw[Aj,aC.add_zero]
  ·split
   ·show mono t.e t.c+mk (pr (put l e c))=mono t.e t.c+mk (pr l)+mono e c
    rw[ih,aC.add_assoc]
   ·split
    ·rename_i he
     subst he
     have h1:mono t.e (wr (t.c+c))=mono t.e t.c+mono t.e c:=by rw[<-Ja];exact Ew rfl (BQ _)
     split
     ·rename_i h0
      show mk (pr l)=mono t.e t.c+mk (pr l)+mono t.e c
      rw[h0,Aj]at h1
      rw[aC.add_assoc,aC.add_comm (mk (pr l)),<-aC.add_assoc,<-h1,aC.zero_add]
     ·show mono t.e (wr (t.c+c))+mk (pr l)=mono t.e t.c+mk (pr l)+mono t.e c
      rw[h1,aC.add_assoc,aC.add_assoc,aC.add_comm (mono t.e c)]
    ·show mono e c+(mono t.e t.c+mk (pr l))=mono t.e t.c+mk (pr l)+mono e c
     rw[aC.add_comm]
theorem acs{l:List Tm}{e c:Int}{u:Tm}(hu:u∈put l e c):u.e=e\/u∈l:=by
 induction l with
 |nil=>
  unfold put at hu
  split at hu
  ·simp at hu
  ·simp at hu;subst hu;exact .inl rfl
 |cons t l ih=>
  unfold put at hu
  split at hu
  ·exact .inr hu
  ·split at hu
   ·rcases List.mem_cons.1 hu with h|h
    ·subst h;exact .inr (by simp)
    ·rcases ih h with h|h
     ·exact .inl h
     ·exact .inr (by simp[h])
   ·split at hu
    ·split at hu
     ·exact .inr (by simp[hu])
     ·rcases List.mem_cons.1 hu with h|h
      ·subst h;exact .inl rfl
      ·exact .inr (by simp[h])
    ·rcases List.mem_cons.1 hu with h|h
     ·subst h;exact .inl rfl
     ·exact .inr h
theorem Jv{l:List Tm}(h:Can l){e c:Int}(he:wr e=e)(hc:wr c=c):Can (put l e c):=by
 induction l with
 |nil=>
  unfold put
  split
  ·exact Can.bN
  ·rename_i h0
   exact⟨List.pairwise_singleton _ _,fun t ht=>by simp at ht;subst ht;exact⟨h0,hc,he⟩⟩
 |cons t l ih=>
  obtain⟨h1,h2⟩:=List.pairwise_cons.1 h.1
  have ih:=ih h.tail
  unfold put
  split
  ·exact h
  ·rename_i h0
   split
   ·rename_i hlt
    refine⟨List.pairwise_cons.2 ⟨fun u hu=>?_,ih.1⟩,fun u hu=>?_⟩
    ·rcases acs hu with e'|h'
     ·omega
     ·exact h1 u h'
    ·rcases List.mem_cons.1 hu with e'|h'
     ·subst e';exact h.2 _ (by simp)
     ·exact ih.2 u h'
   ·split
    ·rename_i hle heq
     split
     ·exact h.tail
     ·rename_i hn
      refine⟨List.pairwise_cons.2 ⟨fun u hu=>?_,h2⟩,fun u hu=>?_⟩
      ·have:=h1 u hu;show e<u.e;omega
      ·rcases List.mem_cons.1 hu with e'|h'
       ·subst e';exact⟨hn,AH _,he⟩
       ·exact h.2 u (by simp[h'])
    ·rename_i hle hne
     refine⟨List.pairwise_cons.2 ⟨fun u hu=>?_,h.1⟩,fun u hu=>?_⟩
     ·show e<u.e
      rcases List.mem_cons.1 hu with e'|h'
      ·subst e';omega
      ·have:=h1 u h';omega
     ·rcases List.mem_cons.1 hu with e'|h'
      ·subst e';exact⟨h0,hc,he⟩
      ·exact h.2 u h'
end Go.Proofs.YthppkofceancjaaGreat
namespace Go.Proofs.YthppkofceancjaaGreat
def bl(S:Nat->Bool):Nat->Nat
 |0=>0
 |c+1=>bl S c+if S c=true then 1 else 0
section
variable (m : Nat → Nat → aC) (N : Nat)
variable {m N}
end
instance :Inhabited aC:=⟨aC.o⟩
end Go.Proofs.YthppkofceancjaaGreat
namespace Go.Proofs.YthppkofceancjaaGreat
open Go.ChangeShapes Go.WideShapes Go.ChangeAt Go.RowKit Go.Sort
def cC(xs:List Int):List Int:=xs.mergeSort fun x y=>decide (x<=y)
theorem Au(xs:List Int):(cC xs).Perm xs:=List.mergeSort_perm _ _
theorem AP(xs:List Int):(cC xs).length=xs.length:=(Au xs).length_eq
theorem n9{xs:List Int}{x:Int}:x∈cC xs<->x∈xs:=(Au xs).mem_iff
theorem abW(xs:List Int):xs.flatMap Uh.f=xs.map (Value.int .i64):=by
 induction xs with
 |nil=>rfl
 |cons x xs ih=>simp only[List.flatMap_cons,ih,List.map_cons];rfl
theorem SH.sorted{w:World}{M:Hp}{X:Fr}{g cap n:Nat}{xs ys:List Int}{os:Array Obj}(S:SH w M X [Rs.row Uh (.slice (some ⟨g,0,none⟩) xs.length cap) xs])(hl:ys.length=xs.length):
  SH (Go.Sort.grow (putRow (Value.int .i64) (Go.Sort.ahead w n) g 0 ys.toArray) os) M X [Rs.row Uh (.slice (some ⟨g,0,none⟩) xs.length cap) ys]:=by
 have hok:eW Uh (.slice (some ⟨g,0,none⟩) xs.length cap) xs (hp w):=S.get (i:=0) rfl
 rcases hok with⟨h1,_⟩|⟨g',cap',cur,h1,h2,h3,h4,h5,h6⟩
 ·cases h1
 cases h1
 have gb:=grownBy_sortedI (w:=w) (g:=g) (n:=n) (os:=os) ys.toArray
 have h5':cur.size=cap:=h5.trans (Nat.mul_one _)
 refine S.step (i:=0) (H':=[Rs.row Uh (.slice (some ⟨g,0,none⟩) xs.length cap) ys]) rfl rfl ⟨gb.os,gb.tape,gb.output,gb.size⟩ (fun b hb hn=>?_) ?_ (fun b hb=>⟨.inl hb,?_⟩)
 ·exact gb.block b hb (fun e=>hn (by injection e with e;subst e;simp[Rs.row,Value.ownBlock]))
 ·refine .inr ⟨g,cap,_,by rw[hl],heap_sortedI _ h2,by rw[hl];exact h3,h4,by simp[putCells,h5'];exact(Nat.mul_one _).symm,?_⟩
  rw[abW,show ys.length*Uh.k=ys.length from Nat.mul_one _]
  exact take_putCellsI cur ys (by omega)
 ·have hg:g<w.heap.size:=fU h2
  have e:b=g:=by simpa[Rs.row,Value.ownBlock]using hb
  subst e
  exact Nat.lt_of_lt_of_le hg gb.size
theorem SH.anX{w:World}{M:Hp}{X:Fr}{g cap:Nat}{xs:List Int}(S:SH w M X [Rs.row Uh (.slice (some ⟨g,0,none⟩) xs.length cap) xs]):Holds (Value.int .i64) w g 0 xs.toArray/\g<w.heap.size:=by
 have hok:eW Uh (.slice (some ⟨g,0,none⟩) xs.length cap) xs (hp w):=S.get (i:=0) rfl
 rcases hok with⟨h1,_⟩|⟨g',cap',cur,h1,h2,h3,h4,h5,h6⟩
 ·cases h1
 cases h1
 refine⟨holds_of_blockI h2 ?_,fU h2⟩
 rw[abW,show xs.length*Uh.k=xs.length from Nat.mul_one _]at h6
 exact h6
theorem ams{P:Program}{ρ:Go.Shelf.Ren}(L:Lays.n189 P ρ){w:World}{M:Hp}{X:Fr}{v:Value}{xs:List Int}(hsz:xs.length<4611686018427387904)(S:SH w M X [Rs.row Uh v xs]):
  C1 P (ρ.f 189) [v] w M X fun u M' r'=>u=.tuple #[]/\M'=M/\r'=Rs.row Uh v (cC xs):=by
 have hok:eW Uh v xs (hp w):=S.get (i:=0) rfl
 rcases hok with⟨h1,h2⟩|⟨g,cap,cur,h1,_⟩
 ·subst h1;subst h2
  refine(Any.slices_Sort_int_none L none 0 w).mono ?_
  rintro e w' ⟨rfl,rfl⟩
  exact⟨_,rfl,M,_,Hp.le_refl _,S,rfl,rfl,by simp[cC]⟩
 ·subst h1
  obtain⟨hH,hb⟩:=S.anX
  refine(Any.slices_Sort_int L g 0 cap xs w hH hb hsz).mono ?_
  rintro e w' ⟨rfl,n,os,rfl⟩
  exact⟨_,rfl,M,_,Hp.le_refl _,S.sorted (AP xs),rfl,rfl,rfl⟩
end Go.Proofs.YthppkofceancjaaGreat
namespace Go.Proofs.YthppkofceancjaaGreat
open Go.ChangeShapes Go.WideShapes Go.ChangeAt Go.RowKit
open Go.ChangeMaps (setBlock)
theorem eF.mono{κ ε:Type}{kc:κ->Value}{vc:ε->Value}{g:Nat}{es:List (κ×ε)}{N N':Hp}(h:eF kc vc g es N)(k:N.le N'):eF kc vc g es N':=by
 obtain⟨arr,clock,h1,h2,h3⟩:=h
 exact⟨arr,clock,k _ _ h1,h2,h3⟩
def Rs.iV(g clock r:Nat)(seen:Array Nat):Rs:=⟨[r],fun h=>h r=some (.mapIter (some g) clock seen clock),fun h h' hb hk=>by rw[hb r (by simp)];exact hk⟩
section
variable {κ ε : Type}
def sV(kc:κ->Value)(vc:ε->Value)(N:Hp)(g:Nat)(arr:Array MapEntry)(clock:Nat)(es:List (κ×ε)):Prop:=N g=some (.map arr clock)/\arr.toList.map (fun e=>(e.key,e.val))=es.map (fun p=>(kc p.1,vc p.2))/\x4 arr clock
def pI(kc:κ->Value)(vc:ε->Value)(arr:Array MapEntry)(seen:Array Nat)(lf:List (κ×ε)):Prop:=(leftOf arr seen).toList.map (fun e=>(e.key,e.val))=lf.map (fun p=>(kc p.1,vc p.2))
def Lst(kc:κ->Value)(vc:ε->Value)(arr:Array MapEntry)(seen:Array Nat)(k:κ)(v:ε):Prop:=∃(e:MapEntry) (s0:Array Nat),seen=s0.push e.born/\e∈arr.toList/\e.key=kc k/\e.val=vc v
variable {kc : κ → Value} {vc : ε → Value} {N : Hp} {arr : Array MapEntry} {clock g : Nat} {es lf : List (κ × ε)} {seen : Array Nat}
theorem sV.mono{N':Hp}(h:sV kc vc N g arr clock es)(k:N.le N'):sV kc vc N' g arr clock es:=⟨k _ _ h.1,h.2⟩
theorem eF.uQ(h:eF kc vc g es N):∃arr clock,sV kc vc N g arr clock es:=by
 obtain⟨arr,clock,h⟩:=h
 exact⟨arr,clock,h⟩
theorem aiJ(arr:Array MapEntry):leftOf arr #[]=arr:=by unfold leftOf;simp
theorem sV.Dp(h:sV kc vc N g arr clock es):pI kc vc arr #[] es:=by unfold pI;rw[aiJ];exact h.2.1
theorem ajc(arr:Array MapEntry)(seen:Array Nat)(b:Nat):(leftOf arr (seen.push b)).toList=(leftOf arr seen).toList.filter fun e=>!decide (e.born=b):=by
 unfold leftOf
 rw[Array.toList_filter,Array.toList_filter,List.filter_filter]
 refine List.filter_congr fun x _=>?_
 have e:(seen.push b).contains x.born=(seen.contains x.born||decide (x.born=b)):=by
  rw[Bool.eq_iff_iff]
  simp[Array.mem_push]
 rw[e,Bool.not_or,Bool.and_comm]
theorem filter_one{l:List MapEntry}(hn:(l.map (·.born)).Nodup){e:MapEntry}(he:e∈l):∃a b,l=a++e::b/\(l.filter fun x=>!decide (x.born=e.born))=a++b:=by
 obtain⟨a,b,rfl⟩:=List.append_of_mem he
 refine⟨a,b,rfl,?_⟩
 rw[List.map_append,List.map_cons]at hn
 obtain⟨n1,n2,n3⟩:=List.nodup_append.1 hn
 rw[List.filter_append,List.filter_cons_of_neg (by simp)]
 have h1:(a.filter fun x=>!decide (x.born=e.born))=a:=List.filter_eq_self.2 fun x hx=>by
  have:=n3 x.born (List.mem_map.2 ⟨x,hx,rfl⟩) e.born (by simp)
  simp[this]
 have h2:(b.filter fun x=>!decide (x.born=e.born))=b:=List.filter_eq_self.2 fun x hx=>by
  have:=(List.nodup_cons.1 n2).1
  have hne:x.born≠e.born:=fun e'=>this (by rw[<-e'];exact List.mem_map.2 ⟨x,hx,rfl⟩)
  simp[hne]
 rw[h1,h2]
theorem aaM:∀{a:List MapEntry}{e:MapEntry}{b:List MapEntry}{lf:List (κ×ε)},(a++e::b).map (fun e=>(e.key,e.val))=lf.map (fun p=>(kc p.1,vc p.2))->∃l1 p l2,lf=l1++p::l2/\e.key=kc p.1/\e.val=vc p.2/\(a++b).map (fun e=>(e.key,e.val))=(l1++l2).map (fun p=>(kc p.1,vc p.2))
 |[],e,b,[],h=>by simp at h
 |[],e,b,p::lf,h=>by
  simp only[List.nil_append,List.map_cons,List.cons.injEq,Prod.mk.injEq]at h
  exact⟨[],p,lf,rfl,h.1.1,h.1.2,h.2⟩
 |x::a,e,b,[],h=>by simp at h
 |x::a,e,b,q::lf,h=>by
  simp only[List.cons_append,List.map_cons,List.cons.injEq]at h
  obtain⟨l1,p,l2,rfl,h1,h2,h3⟩:=aaM h.2
  exact⟨q::l1,p,l2,rfl,h1,h2,by simp only[List.cons_append,List.map_cons,h.1,h3]⟩
section
variable {P : Program} {o : Oper} {L : List (Nat × Value)} {w : World} {x : Operand} {T K E : TypeId} {n d r i : Nat} {Kt : List (Nat × Value) → World → Prop} {M : Hp} {X : Fr} {H : List Rs}
theorem Am(hop:o.op=.range T x)(hd:o.dst=some d)(hn:Nat.blt d n=true)(hx:oev L x=some (.map (some g)))(hu:P.underlying T=some (.map K E))(S:SH w M X H)(hg:sV kc vc N g arr clock es)(hN:N.le (hp w))
  (h:∀r w',SH w' M X (Rs.iV g clock r #[]::H)->Kt ((d,.pointer (some ⟨r,0,none⟩))::L) w'):WO P n o L w Kt:=by
 have hg':w.heap[g]? =some (.map arr clock):=hN _ _ hg.1
 refine U8 (v:=.pointer (some ⟨w.heap.size,0,none⟩)) (w':=w.alloc (.mapIter (some g) clock #[] clock)) hd hn ?_ (h _ _ ?_)
 ·intro n c he
  unfold execOp
  simp only[hop,he.eval hx,run_range_map w T K E g arr clock hu hg',Sem.run_bind,Result.andThen_ok,Sem.run_pure]
 ·exact S.cons (vO w _) (vN w _) (heap_alloc_new w _) (fun b hb=>by simp[Rs.iV]at hb;subst hb;rw[qz];omega)
theorem AK(hop:o.op=.next x false)(hd:o.dst=some d)(hn:Nat.blt d n=true)(hx:oev L x=some (.pointer (some ⟨r,0,none⟩)))(S:SH w M X H)(hi:nth H i=some (Rs.iV g clock r seen))(hg:sV kc vc N g arr clock es)(hN:N.le (hp w))(hl:pI kc vc arr seen lf)
  (h0:lf=[]->Kt ((d,.tuple [.bool false].toArray)::L) w)
  (h1:∀k v l1 l2 seen' w',lf=l1++(k,v)::l2->pI kc vc arr seen' (l1++l2)->Lst kc vc arr seen' k v->SH w' M X (H.set i (Rs.iV g clock r seen'))->Kt ((d,.tuple [.bool true,kc k,vc v].toArray)::L) w'):WO P n o L w Kt:=by
 have hg':w.heap[g]? =some (.map arr clock):=hN _ _ hg.1
 have hr:w.heap[r]? =some (.mapIter (some g) clock seen clock):=S.get hi
 rcases run_next_at (P:=P) w o.type r g clock clock seen arr clock hr hg' hg.2.2.2 (Nat.le_refl _)with⟨e0,hrun⟩|⟨e,he,w1,hal,hrun⟩
 ·refine U8 (v:=.tuple #[.bool false]) (w':=w) hd hn ?_ (h0 ?_)
  ·intro n c he
   unfold execOp
   simp only[hop,he.eval hx,hrun,Sem.run_bind,Result.andThen_ok,Sem.run_pure]
  ·have:leftOf arr seen=#[]:=Array.eq_empty_of_size_eq_zero e0
   unfold pI at hl
   rw[this]at hl
   cases lf with
   |nil=>rfl
   |cons p l=>simp at hl
 ·obtain⟨hem,_⟩:=mem_left he
  have hsub:((leftOf arr seen).toList.map (·.born)).Nodup:=by
   unfold leftOf;rw[Array.toList_filter]
   exact List.Nodup.sublist (List.Sublist.map _ List.filter_sublist) hg.2.2.1
  obtain⟨a,b,hab,hf⟩:=filter_one hsub he
  unfold pI at hl
  rw[hab]at hl
  obtain⟨l1,p,l2,hlf,hk,hv,hl'⟩:=aaM hl
  have hrun':(Instr.next (.pointer (some ⟨r,0,none⟩)) false o.type).run P w=.ok (.tuple [.bool true,kc p.1,vc p.2].toArray) (setBlock w1 r (.mapIter (some g) clock (seen.push e.born) clock)):=by rw[hrun,hk,hv]
  have hr1:w1.heap[r]? =some (.mapIter (some g) clock seen clock):=by rcases hal with rfl|rfl<;>exact hr
  have mK:=Go.MapKept.heap_set (o':=.mapIter (some g) clock (seen.push e.born) clock) hr1
  have apO:gB w w1:=by rcases hal with rfl|rfl<;>exact⟨rfl,rfl,rfl,Nat.le_refl _⟩
  have hheap:w1.heap=w.heap:=by rcases hal with rfl|rfl<;>rfl
  have hsz:(setBlock w1 r (.mapIter (some g) clock (seen.push e.born) clock)).heap.size=w1.heap.size:=by simp[setBlock]
  refine U8 (v:=.tuple [.bool true,kc p.1,vc p.2].toArray) (w':=setBlock w1 r (.mapIter (some g) clock (seen.push e.born) clock)) hd hn ?_ (h1 p.1 p.2 l1 l2 (seen.push e.born) _ hlf ?_ ⟨e,seen,rfl,hem,hk,hv⟩ ?_)
  ·intro n c he
   unfold execOp
   simp only[hop,he.eval hx,hrun',Sem.run_bind,Result.andThen_ok,Sem.run_pure]
  ·unfold pI
   rw[ajc,hf]
   exact hl'
  ·refine S.step hi rfl (apO.trans ⟨rfl,rfl,rfl,by rw[hsz];exact Nat.le_refl _⟩) (fun b _ hb=>?_) mK.1 (fun b hb=>⟨.inl hb,?_⟩)
   ·have hne:b≠r:=by simpa[Rs.iV]using hb
    show(setBlock w1 r _).heap[b]? =w.heap[b]?
    exact(mK.2 b hne).trans (by rw[hheap])
   ·simp[Rs.iV]at hb
    subst hb
    rw[hsz,hheap]
    exact fU hr
theorem Ai(hop:o.op=.entry x)(hx:oev L x=some (.pointer (some ⟨r,0,none⟩)))(S:SH w M X H)(hi:nth H i=some (Rs.iV g clock r seen))(hg:sV kc vc N g arr clock es)(hN:N.le (hp w)){k:κ}{v:ε}(hl:Lst kc vc arr seen k v):Run P o L w (.tuple [kc k,vc v].toArray) w:=by
 have hg':w.heap[g]? =some (.map arr clock):=hN _ _ hg.1
 obtain⟨e,s0,rfl,he,hk,hv⟩:=hl
 have hr:w.heap[r]? =some (.mapIter (some g) clock (s0.push e.born) clock):=S.get hi
 have hrun:=run_entry_at (P:=P) w r g clock s0 arr clock e hr hg' he hg.2.2.1
 rw[hk,hv]at hrun
 intro n c he
 unfold execOp
 simp only[hop,he.eval hx,hrun,Sem.run_bind,Result.andThen_ok,Sem.run_pure]
theorem am7(hm:eF kc vc g es (hp w)):SH w (fun _=>none) ⟨fun _=>none,w⟩ [Rs.mp kc vc g es]:=by
 refine⟨fun _ _ h=>by simp at h,fun _ _ h=>by simp at h,fun _ _ h=>by simp at h,fun r hr=>?_,fun r hr b hb=>?_,fun i j r s hij h1 h2=>?_,gB.refl w⟩
 ·rw[List.mem_singleton]at hr;subst hr;exact hm
 ·rw[List.mem_singleton]at hr;subst hr
  obtain⟨arr,clock,h1,_⟩:=hm
  simp[Rs.mp]at hb;subst hb
  exact⟨fU h1,rfl,rfl⟩
 ·have h1:=(List.getElem?_eq_some_iff.1 h1).1
  have h2:=(List.getElem?_eq_some_iff.1 h2).1
  simp at h1 h2;omega
theorem apf [DecidableEq κ]{k:κ}{zv:ε}(hm:eF kc vc g es (hp w))(hu:P.underlying T=some (.map K E))(hK:kW P K kc)(hz:(P.info? E).map (·.zero)=some (some (vc zv))):(Instr.lookup T (.map (some g)) (kc k) false).run P w=.ok (vc ((mg k es).getD zv)) w:=
 (SH.look (i:=0) (H:=[Rs.mp kc vc g es]) (M:=fun _=>none) (X:=⟨fun _=>none,w⟩) (am7 hm) rfl hu hK hz).1
theorem Ir [DecidableEq κ]{y:Operand}{k:κ}{zv:ε}(hop:o.op=.lookup T x y false)(hx:oev L x=some (.map (some g)))(hy:oev L y=some (kc k))(hu:P.underlying T=some (.map K E))(hK:kW P K kc)(hz:(P.info? E).map (·.zero)=some (some (vc zv)))(hm:eF kc vc g es N)(hN:N.le (hp w)):Run P o L w (vc ((mg k es).getD zv)) w:=by
 intro n c he
 unfold execOp
 simp only[hop,he.eval hx,he.eval hy,apf (hm.mono hN) hu hK hz,Sem.run_bind,Result.andThen_ok,Sem.run_pure]
theorem SH.Bi{H':List Rs}(S:SH w M X H)(hi:nth H i=some (Rs.mp kc vc g es))(hH:H.set i Rs.emp=H'):∃M',M.le M'/\SH w M' X H'/\eF kc vc g es M':=by
 obtain⟨h1,h2,h3⟩:=S.uZ hi hH
 have h4:eF kc vc g es (hp w):=S.get hi
 obtain⟨arr,clock,e,h5⟩:=h4
 exact⟨_,h1,h2,arr,clock,(h3 g (by simp[Rs.mp])).trans e,h5⟩
end
end
section
variable {P : Program} {o : Oper} {L : List (Nat × Value)} {w : World} {x y : Operand} {t t' : TypeId} {a b : Int}
theorem abE(ho:o.op=.binOp .mul t x y t')(hx:oev L x=some (.int .i64 a))(hy:oev L y=some (.int .i64 b)):Run P o L w (.int .i64 (wr (a*b))) w:=
 mq ho hx hy fun w=>by simp[binOp,Op.intArith,wr]
theorem ajT(ho:o.op=.unOp .neg t x)(hx:oev L x=some (.int .i64 a)):Run P o L w (.int .i64 (wr (-a))) w:=by
 intro n c hc;unfold execOp;simp[ho,hc.eval hx,Op.unary,Op.intArith,wr]
end
end Go.Proofs.YthppkofceancjaaGreat
